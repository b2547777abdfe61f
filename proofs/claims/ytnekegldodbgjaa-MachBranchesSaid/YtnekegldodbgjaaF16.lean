import Derived.Test.YtnekegldodbgjaaF15
import Derived.Test.YtnekegldodbgjaaProg
import Derived.KernelRfl
set_option linter.all false
set_option linter.unusedVariables false
set_option linter.unusedSimpArgs false
namespace Go.X
open Go Go.Proofs



def x4_0 : List XOper := [⟨(some 4), .op (.mv (.const (.bool false))), none⟩]
def x4_1 : List XOper := [⟨(some 16), .callF 16 [], none⟩,
  ⟨(some 17), .op (.un .not (.tmp 16)), none⟩,
  ⟨(some 18), .op (.mv (.tmp 17)), none⟩,
  ⟨(some 19), .op (.mv (.tmp 0)), (some (18, false))⟩,
  ⟨(some 20), .op (.lenS (.tmp 19)), (some (18, false))⟩,
  ⟨(some 21), .op (.bin .gtr (.tmp 20) (.const (.int .i64 300))), (some (18, false))⟩,
  ⟨(some 22), .pick (.tmp 18) (.const (.bool true)) (.tmp 21), none⟩]
def x4_2 : List XOper := [⟨(some 23), .callF 16 [], none⟩,
  ⟨(some 4), .op (.mv (.tmp 23)), none⟩]
def x4_3 : XCode := .seq (.region x4_2) .ret
def x4_4 : XCode := .cnd (.tmp 22) x4_3 .skip
def x4_5 : XCode := .seq (.region x4_1) x4_4
def x4_6 : List XOper := [⟨(some 24), .op (.mv (.tmp 1)), none⟩,
  ⟨(some 25), .op (.conv .u64 (.tmp 24)), none⟩,
  ⟨(some 26), .op (.bin .rem (.tmp 25) (.const (.int .u64 1000000))), none⟩,
  ⟨(some 27), .op (.conv .i64 (.tmp 26)), none⟩,
  ⟨(some 28), .op (.bin .mul (.const (.int .i64 4)) (.tmp 27)), none⟩,
  ⟨(some 1), .op (.mv (.tmp 28)), none⟩]
def x4_7 : List XOper := [⟨(some 5), .op (.mv (.const (.slice none 0 0))), none⟩]
def x4_8 : List XOper := [⟨(some 6), .op (.mv (.const (.slice none 0 0))), none⟩]
def x4_9 : List XOper := [⟨(some 7), .op (.mv (.const (.bool true))), none⟩]
def x4_10 : List XOper := [⟨(some 29), .op (.mv (.tmp 0)), none⟩,
  ⟨(some 30), .op (.lenS (.tmp 29)), none⟩,
  ⟨(some 31), .op (.mv (.const (.int .i64 0))), none⟩]
def x4_11 : List XOper := [⟨(some 32), .op (.bin .lss (.tmp 31) (.tmp 30)), none⟩]
def x4_12 : XCode := .cnd (.tmp 32) .skip (.exit 0)
def x4_13 : List XOper := [⟨(some 33), .op (.iaddrS 5 (.tmp 29) (.tmp 31)), none⟩,
  ⟨(some 34), .op (.load .agg 5 (.tmp 33)), none⟩,
  ⟨(some 9), .op (.new [(.int .i64 0), (.int .i64 0), (.int .i64 0), (.int .i64 0), (.int .i64 0)]), none⟩,
  ⟨none, .op (.store 5 (.tmp 9) (.tmp 34)), none⟩]
def x4_14 : List XOper := [⟨(some 36), .op (.load .agg 5 (.tmp 9)), none⟩,
  ⟨(some 37), .callF 18 [(.tmp 36)], none⟩,
  ⟨(some 35), .op (.mv (.tmp 37)), none⟩,
  ⟨(some 38), .op (.ext (.tmp 35) 0), none⟩,
  ⟨(some 39), .op (.ext (.tmp 35) 1), none⟩,
  ⟨(some 10), .op (.mv (.tmp 38)), none⟩,
  ⟨(some 11), .op (.mv (.tmp 39)), none⟩]
def x4_15 : List XOper := [⟨(some 40), .op (.mv (.tmp 7)), none⟩,
  ⟨(some 41), .op (.mv (.tmp 40)), none⟩,
  ⟨(some 42), .op (.mv (.tmp 11)), (some (41, true))⟩,
  ⟨(some 43), .op (.bin .eql (.tmp 42) (.const (.int .i64 0))), (some (41, true))⟩,
  ⟨(some 44), .pick (.tmp 41) (.tmp 43) (.const (.bool false)), none⟩,
  ⟨(some 7), .op (.mv (.tmp 44)), none⟩]
def x4_16 : List XOper := [⟨(some 45), .op (.mv (.tmp 5)), none⟩,
  ⟨(some 46), .op (.load .agg 5 (.tmp 9)), none⟩,
  ⟨(some 47), .op (.build [(.string ⟨#[]⟩), (.int .i64 0), (.int .i64 0), (.int .i64 0), (.int .i64 0), (.int .i64 0), (.string ⟨#[]⟩), (.int .i64 0)] [(1, 5, (.tmp 46))]), none⟩,
  ⟨(some 48), .op (.mkslice [(.string ⟨#[]⟩), (.int .i64 0), (.int .i64 0), (.int .i64 0), (.int .i64 0), (.int .i64 0), (.string ⟨#[]⟩), (.int .i64 0)] 1 [(0, (.tmp 47))]), none⟩,
  ⟨(some 49), .op (.app 8 80 (.tmp 45) (.tmp 48)), none⟩,
  ⟨(some 50), .op (.mv (.tmp 6)), none⟩,
  ⟨(some 51), .op (.mv (.tmp 10)), none⟩,
  ⟨(some 52), .op (.mkslice [(.int .u32 0)] 1 [(0, (.tmp 51))]), none⟩,
  ⟨(some 53), .op (.app 1 4 (.tmp 50) (.tmp 52)), none⟩,
  ⟨(some 5), .op (.mv (.tmp 49)), none⟩,
  ⟨(some 6), .op (.mv (.tmp 53)), none⟩]
def x4_17 : XCode := .seq (.region x4_15) (.region x4_16)
def x4_18 : XCode := .seq (.region x4_14) x4_17
def x4_19 : XCode := .seq (.region x4_13) x4_18
def x4_20 : XCode := .block 1 x4_19
def x4_21 : List XOper := [⟨(some 54), .op (.bin .add (.tmp 31) (.const (.int .i64 1))), none⟩,
  ⟨(some 31), .op (.mv (.tmp 54)), none⟩]
def x4_22 : XCode := .seq x4_20 (.region x4_21)
def x4_23 : XCode := .seq x4_12 x4_22
def x4_24 : XCode := .seq (.region x4_11) x4_23
def x4_25 : XCode := .loop x4_24
def x4_26 : XCode := .block 0 x4_25
def x4_27 : XCode := .seq (.region x4_10) x4_26
def x4_28 : List XOper := [⟨(some 56), .op (.mv (.tmp 5)), none⟩,
  ⟨(some 57), .op (.mv (.tmp 1)), none⟩,
  ⟨(some 58), .callF 17 [(.tmp 56), (.tmp 57)], none⟩,
  ⟨(some 55), .op (.mv (.tmp 58)), none⟩,
  ⟨(some 59), .op (.ext (.tmp 55) 0), none⟩,
  ⟨(some 60), .op (.ext (.tmp 55) 1), none⟩,
  ⟨(some 61), .op (.ext (.tmp 55) 2), none⟩,
  ⟨(some 12), .op (.mv (.tmp 59)), none⟩,
  ⟨(some 13), .op (.mv (.tmp 60)), none⟩,
  ⟨(some 14), .op (.mv (.tmp 61)), none⟩]
def x4_29 : List XOper := [⟨(some 62), .op (.mv (.tmp 7)), none⟩,
  ⟨(some 63), .op (.un .not (.tmp 62)), none⟩]
def x4_30 : List XOper := [⟨(some 64), .op (.mv (.tmp 14)), none⟩,
  ⟨(some 65), .op (.bin .eql (.tmp 64) (.const (.int .i64 2))), none⟩,
  ⟨(some 66), .op (.mv (.tmp 65)), none⟩,
  ⟨(some 67), .op (.mv (.tmp 12)), (some (66, true))⟩,
  ⟨(some 68), .op (.lenS (.tmp 67)), (some (66, true))⟩,
  ⟨(some 69), .op (.mv (.tmp 13)), (some (66, true))⟩,
  ⟨(some 70), .op (.lenM (.tmp 69)), (some (66, true))⟩,
  ⟨(some 71), .op (.bin .add (.tmp 68) (.tmp 70)), (some (66, true))⟩,
  ⟨(some 72), .op (.bin .eql (.tmp 71) (.const (.int .i64 0))), (some (66, true))⟩,
  ⟨(some 73), .pick (.tmp 66) (.tmp 72) (.const (.bool false)), none⟩,
  ⟨(some 4), .op (.mv (.tmp 73)), none⟩]
def x4_31 : XCode := .seq (.region x4_30) .ret
def x4_32 : XCode := .cnd (.tmp 63) x4_31 .skip
def x4_33 : XCode := .seq (.region x4_29) x4_32
def x4_34 : List XOper := [⟨(some 74), .op (.mv (.tmp 14)), none⟩,
  ⟨(some 75), .op (.bin .neq (.tmp 74) (.const (.int .i64 0))), none⟩,
  ⟨(some 76), .op (.mv (.tmp 75)), none⟩,
  ⟨(some 77), .op (.mv (.tmp 12)), (some (76, false))⟩,
  ⟨(some 78), .op (.lenS (.tmp 77)), (some (76, false))⟩,
  ⟨(some 79), .op (.mv (.tmp 6)), (some (76, false))⟩,
  ⟨(some 80), .op (.lenS (.tmp 79)), (some (76, false))⟩,
  ⟨(some 81), .op (.bin .neq (.tmp 78) (.tmp 80)), (some (76, false))⟩,
  ⟨(some 82), .pick (.tmp 76) (.const (.bool true)) (.tmp 81), none⟩,
  ⟨(some 83), .op (.mv (.tmp 82)), none⟩,
  ⟨(some 84), .op (.mv (.tmp 13)), (some (83, false))⟩,
  ⟨(some 85), .op (.lenM (.tmp 84)), (some (83, false))⟩,
  ⟨(some 86), .op (.bin .neq (.tmp 85) (.const (.int .i64 0))), (some (83, false))⟩,
  ⟨(some 87), .pick (.tmp 83) (.const (.bool true)) (.tmp 86), none⟩]
def x4_35 : List XOper := [⟨(some 4), .op (.mv (.const (.bool false))), none⟩]
def x4_36 : XCode := .seq (.region x4_35) .ret
def x4_37 : XCode := .cnd (.tmp 87) x4_36 .skip
def x4_38 : XCode := .seq (.region x4_34) x4_37
def x4_39 : List XOper := [⟨(some 88), .op (.mv (.tmp 12)), none⟩,
  ⟨(some 89), .op (.lenS (.tmp 88)), none⟩,
  ⟨(some 90), .op (.mv (.const (.int .i64 0))), none⟩]
def x4_40 : List XOper := [⟨(some 91), .op (.bin .lss (.tmp 90) (.tmp 89)), none⟩]
def x4_41 : XCode := .cnd (.tmp 91) .skip (.exit 2)
def x4_42 : List XOper := [⟨(some 92), .op (.mv (.tmp 90)), none⟩,
  ⟨(some 15), .op (.mv (.tmp 92)), none⟩]
def x4_43 : List XOper := [⟨(some 93), .op (.mv (.tmp 12)), none⟩,
  ⟨(some 94), .op (.mv (.tmp 15)), none⟩,
  ⟨(some 95), .op (.iaddrS 1 (.tmp 93) (.tmp 94)), none⟩,
  ⟨(some 96), .op (.load (.int .u32) 1 (.tmp 95)), none⟩,
  ⟨(some 97), .op (.mv (.tmp 6)), none⟩,
  ⟨(some 98), .op (.mv (.tmp 15)), none⟩,
  ⟨(some 99), .op (.iaddrS 1 (.tmp 97) (.tmp 98)), none⟩,
  ⟨(some 100), .op (.load (.int .u32) 1 (.tmp 99)), none⟩,
  ⟨(some 101), .op (.bin .neq (.tmp 96) (.tmp 100)), none⟩]
def x4_44 : List XOper := [⟨(some 4), .op (.mv (.const (.bool false))), none⟩]
def x4_45 : XCode := .seq (.region x4_44) .ret
def x4_46 : XCode := .cnd (.tmp 101) x4_45 .skip
def x4_47 : XCode := .seq (.draw x4_43 [[], [], [0, 1], [0, 1, 2], [], [], [4, 5], [4, 5, 6], [0, 1, 2, 3, 4, 5, 6, 7]]) x4_46
def x4_48 : XCode := .seq (.region x4_42) x4_47
def x4_49 : XCode := .block 3 x4_48
def x4_50 : List XOper := [⟨(some 102), .op (.bin .add (.tmp 90) (.const (.int .i64 1))), none⟩,
  ⟨(some 90), .op (.mv (.tmp 102)), none⟩]
def x4_51 : XCode := .seq x4_49 (.region x4_50)
def x4_52 : XCode := .seq x4_41 x4_51
def x4_53 : XCode := .seq (.region x4_40) x4_52
def x4_54 : XCode := .loop x4_53
def x4_55 : XCode := .block 2 x4_54
def x4_56 : XCode := .seq (.region x4_39) x4_55
def x4_57 : List XOper := [⟨(some 4), .op (.mv (.const (.bool true))), none⟩]
def x4_58 : XCode := .seq (.region x4_57) .ret
def x4_59 : XCode := .seq x4_56 x4_58
def x4_60 : XCode := .seq x4_38 x4_59
def x4_61 : XCode := .seq x4_33 x4_60
def x4_62 : XCode := .seq (.region x4_28) x4_61
def x4_63 : XCode := .seq x4_27 x4_62
def x4_64 : XCode := .seq (.region x4_9) x4_63
def x4_65 : XCode := .seq (.region x4_8) x4_64
def x4_66 : XCode := .seq (.region x4_7) x4_65
def x4_67 : XCode := .seq (.region x4_6) x4_66
def x4_68 : XCode := .seq x4_5 x4_67
def x4_69 : XCode := .seq (.region x4_0) x4_68
def x4 : XCode := x4_69
theorem fx4 : fnx Try.prog 4 = some (103, [(4, none)], x4) := by kernel_rfl
def x9_0 : List XOper := [⟨(some 6), .op (.mv (.const (.bool false))), none⟩]
def x9_1 : List XOper := [⟨(some 11), .callF 21 [], none⟩,
  ⟨(some 12), .op (.un .not (.tmp 11)), none⟩]
def x9_2 : List XOper := [⟨(some 6), .op (.mv (.const (.bool false))), none⟩]
def x9_3 : XCode := .seq (.region x9_2) .ret
def x9_4 : XCode := .cnd (.tmp 12) x9_3 .skip
def x9_5 : XCode := .seq (.region x9_1) x9_4
def x9_6 : List XOper := [⟨(some 13), .op (.mv (.tmp 0)), none⟩,
  ⟨(some 14), .op (.conv .i64 (.tmp 13)), none⟩,
  ⟨(some 15), .op (.bin .rem (.tmp 14) (.const (.int .i64 6))), none⟩,
  ⟨(some 16), .op (.bin .add (.tmp 15) (.const (.int .i64 45))), none⟩,
  ⟨(some 7), .op (.mv (.tmp 16)), none⟩]
def x9_7 : List XOper := [⟨(some 18), .op (.mv (.tmp 7)), none⟩,
  ⟨(some 19), .op (.build [(.int .i64 0), (.int .i64 0), (.int .i64 0), (.int .i64 0), (.int .i64 0)] [(0, 1, (.tmp 18)), (2, 1, (.const (.int .i64 5))), (3, 1, (.const (.int .i64 6))), (4, 1, (.const (.int .i64 12)))]), none⟩,
  ⟨(some 20), .op (.build [(.int .i64 0), (.int .i64 0), (.int .i64 0), (.int .i64 0), (.int .i64 0)] [(0, 1, (.const (.int .i64 53))), (1, 1, (.const (.int .i64 1))), (4, 1, (.const (.int .i64 12)))]), none⟩,
  ⟨(some 21), .op (.build [(.int .i64 0), (.int .i64 0), (.int .i64 0), (.int .i64 0), (.int .i64 0)] []), none⟩,
  ⟨(some 22), .op (.build [(.int .i64 0), (.int .i64 0), (.int .i64 0), (.int .i64 0), (.int .i64 0)] [(0, 1, (.const (.int .i64 54))), (1, 1, (.const (.int .i64 2))), (2, 1, (.const (.int .i64 7))), (4, 1, (.const (.int .i64 5)))]), none⟩,
  ⟨(some 23), .op (.mkslice [(.int .i64 0), (.int .i64 0), (.int .i64 0), (.int .i64 0), (.int .i64 0)] 4 [(0, (.tmp 19)), (1, (.tmp 20)), (2, (.tmp 21)), (3, (.tmp 22))]), none⟩,
  ⟨(some 24), .callF 23 [(.tmp 23)], none⟩,
  ⟨(some 25), .callF 22 [(.tmp 24), (.const (.int .i64 64))], none⟩,
  ⟨(some 17), .op (.mv (.tmp 25)), none⟩,
  ⟨(some 26), .op (.ext (.tmp 17) 0), none⟩,
  ⟨(some 27), .op (.ext (.tmp 17) 1), none⟩,
  ⟨(some 8), .op (.mv (.tmp 26)), none⟩,
  ⟨(some 9), .op (.mv (.tmp 27)), none⟩]
def x9_8 : List XOper := [⟨(some 28), .op (.mv (.tmp 9)), none⟩,
  ⟨(some 29), .op (.bin .neq (.tmp 28) (.const (.int .i64 0))), none⟩,
  ⟨(some 30), .op (.mv (.tmp 29)), none⟩,
  ⟨(some 31), .op (.mv (.tmp 8)), (some (30, false))⟩,
  ⟨(some 32), .op (.eqnil 0 false (.tmp 31) (.const (.pointer none))), (some (30, false))⟩,
  ⟨(some 33), .pick (.tmp 30) (.const (.bool true)) (.tmp 32), none⟩]
def x9_9 : List XOper := [⟨(some 6), .op (.mv (.const (.bool false))), none⟩]
def x9_10 : XCode := .seq (.region x9_9) .ret
def x9_11 : XCode := .cnd (.tmp 33) x9_10 .skip
def x9_12 : XCode := .seq (.region x9_8) x9_11
def x9_13 : List XOper := [⟨(some 34), .op (.mv (.tmp 8)), none⟩,
  ⟨(some 35), .op (.mv (.tmp 1)), none⟩,
  ⟨(some 36), .callF 26 [(.tmp 34), (.const (.int .i64 5)), (.tmp 35)], none⟩]
def x9_14 : List XOper := [⟨(some 37), .op (.mv (.tmp 8)), none⟩,
  ⟨(some 38), .op (.mv (.tmp 2)), none⟩,
  ⟨(some 39), .callF 26 [(.tmp 37), (.const (.int .i64 6)), (.tmp 38)], none⟩]
def x9_15 : List XOper := [⟨(some 40), .op (.mv (.tmp 8)), none⟩,
  ⟨(some 41), .callF 26 [(.tmp 40), (.const (.int .i64 7)), (.const (.int .u64 16))], none⟩]
def x9_16 : List XOper := [⟨(some 42), .op (.mv (.tmp 1)), none⟩,
  ⟨(some 43), .op (.mv (.tmp 2)), none⟩,
  ⟨(some 44), .op (.bin .eql (.tmp 42) (.tmp 43)), none⟩,
  ⟨(some 45), .op (.mv (.tmp 1)), none⟩,
  ⟨(some 46), .op (.mv (.tmp 2)), none⟩,
  ⟨(some 47), .op (.bin .neq (.tmp 45) (.tmp 46)), none⟩,
  ⟨(some 48), .op (.mv (.tmp 1)), none⟩,
  ⟨(some 49), .op (.conv .i64 (.tmp 48)), none⟩,
  ⟨(some 50), .op (.mv (.tmp 2)), none⟩,
  ⟨(some 51), .op (.conv .i64 (.tmp 50)), none⟩,
  ⟨(some 52), .op (.bin .lss (.tmp 49) (.tmp 51)), none⟩,
  ⟨(some 53), .op (.mv (.tmp 1)), none⟩,
  ⟨(some 54), .op (.conv .i64 (.tmp 53)), none⟩,
  ⟨(some 55), .op (.mv (.tmp 2)), none⟩,
  ⟨(some 56), .op (.conv .i64 (.tmp 55)), none⟩,
  ⟨(some 57), .op (.bin .geq (.tmp 54) (.tmp 56)), none⟩,
  ⟨(some 58), .op (.mv (.tmp 1)), none⟩,
  ⟨(some 59), .op (.mv (.tmp 2)), none⟩,
  ⟨(some 60), .op (.bin .lss (.tmp 58) (.tmp 59)), none⟩,
  ⟨(some 61), .op (.mv (.tmp 1)), none⟩,
  ⟨(some 62), .op (.mv (.tmp 2)), none⟩,
  ⟨(some 63), .op (.bin .geq (.tmp 61) (.tmp 62)), none⟩,
  ⟨(some 64), .op (.build [(.bool false), (.bool false), (.bool false), (.bool false), (.bool false), (.bool false)] [(0, 1, (.tmp 44)), (1, 1, (.tmp 47)), (2, 1, (.tmp 52)), (3, 1, (.tmp 57)), (4, 1, (.tmp 60)), (5, 1, (.tmp 63))]), none⟩,
  ⟨(some 65), .op (.mv (.tmp 7)), none⟩,
  ⟨(some 66), .op (.bin .sub (.tmp 65) (.const (.int .i64 45))), none⟩,
  ⟨(some 67), .op (.idxA 6 1 .bool (.tmp 64) (.tmp 66)), none⟩,
  ⟨(some 10), .op (.mv (.tmp 67)), none⟩]
def x9_17 : List XOper := [⟨(some 68), .op (.mv (.tmp 8)), none⟩,
  ⟨(some 69), .callF 24 [(.tmp 68), (.const (.slice none 0 0)), (.const (.int .i64 1))], none⟩]
def x9_18 : List XOper := [⟨(some 70), .op (.mv (.tmp 10)), none⟩]
def x9_19 : List XOper := [⟨(some 71), .op (.mv (.tmp 8)), none⟩,
  ⟨(some 72), .callF 30 [(.tmp 71)], none⟩,
  ⟨(some 73), .op (.bin .eql (.tmp 72) (.const (.int .u64 12))), none⟩,
  ⟨(some 6), .op (.mv (.tmp 73)), none⟩]
def x9_20 : XCode := .seq (.region x9_19) .ret
def x9_21 : XCode := .cnd (.tmp 70) x9_20 .skip
def x9_22 : XCode := .seq (.region x9_18) x9_21
def x9_23 : List XOper := [⟨(some 74), .op (.mv (.tmp 8)), none⟩,
  ⟨(some 75), .callF 30 [(.tmp 74)], none⟩,
  ⟨(some 76), .op (.bin .neq (.tmp 75) (.const (.int .u64 4))), none⟩]
def x9_24 : List XOper := [⟨(some 6), .op (.mv (.const (.bool false))), none⟩]
def x9_25 : XCode := .seq (.region x9_24) .ret
def x9_26 : XCode := .cnd (.tmp 76) x9_25 .skip
def x9_27 : XCode := .seq (.region x9_23) x9_26
def x9_28 : List XOper := [⟨(some 77), .op (.mv (.tmp 8)), none⟩,
  ⟨(some 78), .callF 24 [(.tmp 77), (.const (.slice none 0 0)), (.const (.int .i64 1))], none⟩]
def x9_29 : List XOper := [⟨(some 79), .op (.mv (.tmp 8)), none⟩,
  ⟨(some 80), .callF 30 [(.tmp 79)], none⟩,
  ⟨(some 81), .op (.bin .neq (.tmp 80) (.const (.int .u64 16))), none⟩,
  ⟨(some 82), .op (.mv (.tmp 81)), none⟩,
  ⟨(some 83), .op (.mv (.tmp 8)), (some (82, false))⟩,
  ⟨(some 84), .callF 25 [(.tmp 83), (.const (.int .i64 1))], (some (82, false))⟩,
  ⟨(some 85), .op (.bin .neq (.tmp 84) (.const (.int .u64 8))), (some (82, false))⟩,
  ⟨(some 86), .pick (.tmp 82) (.const (.bool true)) (.tmp 85), none⟩]
def x9_30 : List XOper := [⟨(some 6), .op (.mv (.const (.bool false))), none⟩]
def x9_31 : XCode := .seq (.region x9_30) .ret
def x9_32 : XCode := .cnd (.tmp 86) x9_31 .skip
def x9_33 : XCode := .seq (.region x9_29) x9_32
def x9_34 : List XOper := [⟨(some 87), .op (.mv (.tmp 8)), none⟩,
  ⟨(some 88), .callF 31 [(.tmp 87), (.const (.int .u64 8))], none⟩]
def x9_35 : List XOper := [⟨(some 89), .op (.mv (.tmp 8)), none⟩,
  ⟨(some 90), .callF 24 [(.tmp 89), (.const (.slice none 0 0)), (.const (.int .i64 1))], none⟩]
def x9_36 : List XOper := [⟨(some 91), .op (.mv (.tmp 8)), none⟩,
  ⟨(some 92), .callF 30 [(.tmp 91)], none⟩,
  ⟨(some 93), .op (.bin .eql (.tmp 92) (.const (.int .u64 20))), none⟩,
  ⟨(some 94), .op (.mv (.tmp 93)), none⟩,
  ⟨(some 95), .op (.mv (.tmp 8)), (some (94, true))⟩,
  ⟨(some 96), .callF 25 [(.tmp 95), (.const (.int .i64 2))], (some (94, true))⟩,
  ⟨(some 97), .op (.bin .eql (.tmp 96) (.const (.int .u64 12))), (some (94, true))⟩,
  ⟨(some 98), .pick (.tmp 94) (.tmp 97) (.const (.bool false)), none⟩,
  ⟨(some 6), .op (.mv (.tmp 98)), none⟩]
def x9_37 : XCode := .seq (.region x9_36) .ret
def x9_38 : XCode := .seq (.region x9_35) x9_37
def x9_39 : XCode := .seq (.region x9_34) x9_38
def x9_40 : XCode := .seq x9_33 x9_39
def x9_41 : XCode := .seq (.region x9_28) x9_40
def x9_42 : XCode := .seq x9_27 x9_41
def x9_43 : XCode := .seq x9_22 x9_42
def x9_44 : XCode := .seq (.region x9_17) x9_43
def x9_45 : XCode := .seq (.region x9_16) x9_44
def x9_46 : XCode := .seq (.region x9_15) x9_45
def x9_47 : XCode := .seq (.region x9_14) x9_46
def x9_48 : XCode := .seq (.region x9_13) x9_47
def x9_49 : XCode := .seq x9_12 x9_48
def x9_50 : XCode := .seq (.region x9_7) x9_49
def x9_51 : XCode := .seq (.region x9_6) x9_50
def x9_52 : XCode := .seq x9_5 x9_51
def x9_53 : XCode := .seq (.region x9_0) x9_52
def x9 : XCode := x9_53
theorem fx9 : fnx Try.prog 9 = some (99, [(6, none)], x9) := by kernel_rfl
def x16_0 : List XOper := [⟨(some 0), .op (.mv (.const (.bool false))), none⟩]
def x16_1 : List XOper := [⟨(some 5), .op (.build [(.string ⟨#[]⟩), (.int .i64 0), (.int .i64 0), (.int .i64 0), (.int .i64 0), (.int .i64 0), (.string ⟨#[]⟩), (.int .i64 0)] [(0, 1, (.const (.string ⟨#[120]⟩)))]), none⟩,
  ⟨(some 6), .op (.build [(.int .i64 0), (.int .i64 0), (.int .i64 0), (.int .i64 0), (.int .i64 0)] [(0, 1, (.const (.int .i64 53)))]), none⟩,
  ⟨(some 7), .op (.build [(.string ⟨#[]⟩), (.int .i64 0), (.int .i64 0), (.int .i64 0), (.int .i64 0), (.int .i64 0), (.string ⟨#[]⟩), (.int .i64 0)] [(1, 5, (.tmp 6)), (6, 1, (.const (.string ⟨#[120]⟩)))]), none⟩,
  ⟨(some 8), .op (.mkslice [(.string ⟨#[]⟩), (.int .i64 0), (.int .i64 0), (.int .i64 0), (.int .i64 0), (.int .i64 0), (.string ⟨#[]⟩), (.int .i64 0)] 2 [(0, (.tmp 5)), (1, (.tmp 7))]), none⟩,
  ⟨(some 9), .callF 17 [(.tmp 8), (.const (.int .i64 8))], none⟩,
  ⟨(some 4), .op (.mv (.tmp 9)), none⟩,
  ⟨(some 10), .op (.ext (.tmp 4) 0), none⟩,
  ⟨(some 11), .op (.ext (.tmp 4) 1), none⟩,
  ⟨(some 12), .op (.ext (.tmp 4) 2), none⟩,
  ⟨(some 1), .op (.mv (.tmp 10)), none⟩,
  ⟨(some 2), .op (.mv (.tmp 11)), none⟩,
  ⟨(some 3), .op (.mv (.tmp 12)), none⟩]
def x16_2 : List XOper := [⟨(some 13), .op (.mv (.tmp 3)), none⟩,
  ⟨(some 14), .op (.bin .eql (.tmp 13) (.const (.int .i64 0))), none⟩,
  ⟨(some 15), .op (.mv (.tmp 14)), none⟩,
  ⟨(some 16), .op (.mv (.tmp 1)), (some (15, true))⟩,
  ⟨(some 17), .op (.lenS (.tmp 16)), (some (15, true))⟩,
  ⟨(some 18), .op (.bin .eql (.tmp 17) (.const (.int .i64 1))), (some (15, true))⟩,
  ⟨(some 19), .pick (.tmp 15) (.tmp 18) (.const (.bool false)), none⟩,
  ⟨(some 20), .op (.mv (.tmp 19)), none⟩,
  ⟨(some 21), .op (.mv (.tmp 1)), (some (20, true))⟩,
  ⟨(some 22), .op (.iaddrS 1 (.tmp 21) (.const (.int .i64 0))), (some (20, true))⟩,
  ⟨(some 23), .op (.load (.int .u32) 1 (.tmp 22)), (some (20, true))⟩,
  ⟨(some 24), .op (.bin .eql (.tmp 23) (.const (.int .u32 111))), (some (20, true))⟩,
  ⟨(some 25), .pick (.tmp 20) (.tmp 24) (.const (.bool false)), none⟩,
  ⟨(some 26), .op (.mv (.tmp 25)), none⟩,
  ⟨(some 27), .op (.mv (.tmp 2)), (some (26, true))⟩,
  ⟨(some 28), .op (.lookup 9 3 .string (.int .i64 0) false (.tmp 27) (.const (.string ⟨#[120]⟩))), (some (26, true))⟩,
  ⟨(some 29), .op (.bin .eql (.tmp 28) (.const (.int .i64 8))), (some (26, true))⟩,
  ⟨(some 30), .pick (.tmp 26) (.tmp 29) (.const (.bool false)), none⟩,
  ⟨(some 0), .op (.mv (.tmp 30)), none⟩]
def x16_3 : XCode := .seq (.region x16_2) .ret
def x16_4 : XCode := .seq (.region x16_1) x16_3
def x16_5 : XCode := .seq (.region x16_0) x16_4
def x16 : XCode := x16_5
theorem fx16 : fnx Try.prog 16 = some (31, [(0, none)], x16) := by kernel_rfl
def x17_0 : List XOper := [⟨(some 4), .op (.mv (.const (.slice none 0 0))), none⟩,
  ⟨(some 5), .op (.mv (.const (.map none))), none⟩,
  ⟨(some 6), .op (.mv (.const (.int .i64 0))), none⟩]
def x17_1 : List XOper := [⟨(some 16), .op (.mv (.tmp 0)), none⟩,
  ⟨(some 17), .op (.mv (.tmp 0)), none⟩,
  ⟨(some 18), .op (.lenS (.tmp 17)), none⟩,
  ⟨(some 19), .op (.mks [(.bool false)] 1 (.tmp 18) (.tmp 18)), none⟩,
  ⟨(some 20), .op (.mv (.tmp 1)), none⟩,
  ⟨(some 21), .op (.mkmap 9 3 (.int .i64 0)), none⟩,
  ⟨(some 22), .op (.mv (.tmp 0)), none⟩,
  ⟨(some 23), .op (.lenS (.tmp 22)), none⟩,
  ⟨(some 24), .op (.mks [(.int .i64 0)] 8 (.tmp 23) (.tmp 23)), none⟩,
  ⟨(some 25), .op (.build [(.slice none 0 0), (.slice none 0 0), (.int .i64 0), (.map none), (.slice none 0 0)] [(0, 1, (.tmp 16)), (1, 1, (.tmp 19)), (2, 1, (.tmp 20)), (3, 1, (.tmp 21)), (4, 1, (.tmp 24))]), none⟩,
  ⟨(some 26), .op (.box (.tmp 25)), none⟩,
  ⟨(some 7), .op (.mv (.tmp 26)), none⟩]
def x17_2 : List XOper := [⟨(some 27), .op (.mv (.tmp 7)), none⟩,
  ⟨(some 28), .callF 39 [(.tmp 27)], none⟩,
  ⟨(some 8), .op (.mv (.tmp 28)), none⟩]
def x17_3 : List XOper := [⟨(some 29), .op (.mv (.tmp 8)), none⟩,
  ⟨(some 30), .op (.bin .neq (.tmp 29) (.const (.int .i64 0))), none⟩]
def x17_4 : List XOper := [⟨(some 31), .op (.mv (.tmp 8)), none⟩,
  ⟨(some 4), .op (.mv (.const (.slice none 0 0))), none⟩,
  ⟨(some 5), .op (.mv (.const (.map none))), none⟩,
  ⟨(some 6), .op (.mv (.tmp 31)), none⟩]
def x17_5 : XCode := .seq (.region x17_4) .ret
def x17_6 : XCode := .cnd (.tmp 30) x17_5 .skip
def x17_7 : XCode := .seq (.region x17_3) x17_6
def x17_8 : XCode := .seq (.region x17_2) x17_7
def x17_9 : List XOper := [⟨(some 32), .op (.mv (.tmp 7)), none⟩,
  ⟨(some 33), .callF 40 [(.tmp 32)], none⟩]
def x17_10 : List XOper := [⟨(some 34), .op (.mv (.tmp 7)), none⟩,
  ⟨(some 35), .callF 41 [(.tmp 34)], none⟩]
def x17_11 : XCode := .cnd (.tmp 35) .skip (.exit 0)
def x17_12 : XCode := .seq (.region x17_10) x17_11
def x17_13 : List XOper := [⟨(some 36), .op (.mv (.tmp 7)), none⟩,
  ⟨(some 37), .callF 40 [(.tmp 36)], none⟩]
def x17_14 : XCode := .block 1 (.region x17_13)
def x17_15 : XCode := .seq x17_12 x17_14
def x17_16 : XCode := .loop x17_15
def x17_17 : XCode := .block 0 x17_16
def x17_18 : List XOper := [⟨(some 9), .op (.mv (.const (.slice none 0 0))), none⟩]
def x17_19 : List XOper := [⟨(some 38), .op (.mv (.tmp 0)), none⟩,
  ⟨(some 39), .op (.lenS (.tmp 38)), none⟩,
  ⟨(some 40), .op (.mv (.const (.int .i64 0))), none⟩]
def x17_20 : List XOper := [⟨(some 41), .op (.bin .lss (.tmp 40) (.tmp 39)), none⟩]
def x17_21 : XCode := .cnd (.tmp 41) .skip (.exit 2)
def x17_22 : List XOper := [⟨(some 42), .op (.mv (.tmp 40)), none⟩,
  ⟨(some 43), .op (.iaddrS 8 (.tmp 38) (.tmp 40)), none⟩,
  ⟨(some 44), .op (.load .agg 8 (.tmp 43)), none⟩,
  ⟨(some 11), .op (.new [(.string ⟨#[]⟩), (.int .i64 0), (.int .i64 0), (.int .i64 0), (.int .i64 0), (.int .i64 0), (.string ⟨#[]⟩), (.int .i64 0)]), none⟩,
  ⟨(some 10), .op (.mv (.tmp 42)), none⟩,
  ⟨none, .op (.store 8 (.tmp 11) (.tmp 44)), none⟩]
def x17_23 : List XOper := [⟨(some 45), .op (.faddr 0 (.tmp 11)), none⟩,
  ⟨(some 46), .op (.load .str 1 (.tmp 45)), none⟩,
  ⟨(some 47), .op (.bin .neq (.tmp 46) (.const (.string ⟨#[]⟩))), none⟩]
def x17_24 : XCode := .cnd (.tmp 47) (.exit 3) .skip
def x17_25 : XCode := .seq (.region x17_23) x17_24
def x17_26 : List XOper := [⟨(some 48), .op (.mv (.tmp 7)), none⟩,
  ⟨(some 49), .op (.mv (.tmp 10)), none⟩,
  ⟨(some 50), .callF 42 [(.tmp 48), (.tmp 49)], none⟩,
  ⟨(some 51), .op (.lenS (.tmp 50)), none⟩,
  ⟨(some 52), .op (.mv (.const (.int .i64 0))), none⟩]
def x17_27 : List XOper := [⟨(some 53), .op (.bin .lss (.tmp 52) (.tmp 51)), none⟩]
def x17_28 : XCode := .cnd (.tmp 53) .skip (.exit 4)
def x17_29 : List XOper := [⟨(some 54), .op (.iaddrS 5 (.tmp 50) (.tmp 52)), none⟩,
  ⟨(some 55), .op (.load .agg 5 (.tmp 54)), none⟩,
  ⟨(some 13), .op (.new [(.int .i64 0), (.int .i64 0), (.int .i64 0), (.int .i64 0), (.int .i64 0)]), none⟩,
  ⟨none, .op (.store 5 (.tmp 13) (.tmp 55)), none⟩]
def x17_30 : List XOper := [⟨(some 57), .op (.load .agg 5 (.tmp 13)), none⟩,
  ⟨(some 58), .callF 18 [(.tmp 57)], none⟩,
  ⟨(some 56), .op (.mv (.tmp 58)), none⟩,
  ⟨(some 59), .op (.ext (.tmp 56) 0), none⟩,
  ⟨(some 60), .op (.ext (.tmp 56) 1), none⟩,
  ⟨(some 14), .op (.mv (.tmp 59)), none⟩,
  ⟨(some 15), .op (.mv (.tmp 60)), none⟩]
def x17_31 : List XOper := [⟨(some 61), .op (.mv (.tmp 15)), none⟩,
  ⟨(some 62), .op (.bin .neq (.tmp 61) (.const (.int .i64 0))), none⟩]
def x17_32 : List XOper := [⟨(some 4), .op (.mv (.const (.slice none 0 0))), none⟩,
  ⟨(some 5), .op (.mv (.const (.map none))), none⟩,
  ⟨(some 6), .op (.mv (.const (.int .i64 16))), none⟩]
def x17_33 : XCode := .seq (.region x17_32) .ret
def x17_34 : XCode := .cnd (.tmp 62) x17_33 .skip
def x17_35 : XCode := .seq (.region x17_31) x17_34
def x17_36 : List XOper := [⟨(some 63), .op (.mv (.tmp 9)), none⟩,
  ⟨(some 64), .op (.mv (.tmp 14)), none⟩,
  ⟨(some 65), .op (.mkslice [(.int .u32 0)] 1 [(0, (.tmp 64))]), none⟩,
  ⟨(some 66), .op (.app 1 4 (.tmp 63) (.tmp 65)), none⟩,
  ⟨(some 9), .op (.mv (.tmp 66)), none⟩]
def x17_37 : XCode := .seq x17_35 (.region x17_36)
def x17_38 : XCode := .seq (.region x17_30) x17_37
def x17_39 : XCode := .seq (.region x17_29) x17_38
def x17_40 : XCode := .block 5 x17_39
def x17_41 : List XOper := [⟨(some 67), .op (.bin .add (.tmp 52) (.const (.int .i64 1))), none⟩,
  ⟨(some 52), .op (.mv (.tmp 67)), none⟩]
def x17_42 : XCode := .seq x17_40 (.region x17_41)
def x17_43 : XCode := .seq x17_28 x17_42
def x17_44 : XCode := .seq (.region x17_27) x17_43
def x17_45 : XCode := .loop x17_44
def x17_46 : XCode := .block 4 x17_45
def x17_47 : XCode := .seq (.region x17_26) x17_46
def x17_48 : XCode := .seq x17_25 x17_47
def x17_49 : XCode := .seq (.region x17_22) x17_48
def x17_50 : XCode := .block 3 x17_49
def x17_51 : List XOper := [⟨(some 68), .op (.bin .add (.tmp 40) (.const (.int .i64 1))), none⟩,
  ⟨(some 40), .op (.mv (.tmp 68)), none⟩]
def x17_52 : XCode := .seq x17_50 (.region x17_51)
def x17_53 : XCode := .seq x17_21 x17_52
def x17_54 : XCode := .seq (.region x17_20) x17_53
def x17_55 : XCode := .loop x17_54
def x17_56 : XCode := .block 2 x17_55
def x17_57 : XCode := .seq (.region x17_19) x17_56
def x17_58 : List XOper := [⟨(some 69), .op (.mv (.tmp 9)), none⟩,
  ⟨(some 70), .op (.lenS (.tmp 69)), none⟩,
  ⟨(some 71), .op (.bin .gtr (.tmp 70) (.const (.int .i64 65536))), none⟩]
def x17_59 : List XOper := [⟨(some 4), .op (.mv (.const (.slice none 0 0))), none⟩,
  ⟨(some 5), .op (.mv (.const (.map none))), none⟩,
  ⟨(some 6), .op (.mv (.const (.int .i64 3))), none⟩]
def x17_60 : XCode := .seq (.region x17_59) .ret
def x17_61 : XCode := .cnd (.tmp 71) x17_60 .skip
def x17_62 : XCode := .seq (.region x17_58) x17_61
def x17_63 : List XOper := [⟨(some 72), .op (.mv (.tmp 9)), none⟩,
  ⟨(some 73), .op (.mv (.tmp 7)), none⟩,
  ⟨(some 74), .op (.nilck (.tmp 73)), none⟩,
  ⟨(some 75), .op (.faddr 3 (.tmp 74)), none⟩,
  ⟨(some 76), .op (.load .one 1 (.tmp 75)), none⟩,
  ⟨(some 4), .op (.mv (.tmp 72)), none⟩,
  ⟨(some 5), .op (.mv (.tmp 76)), none⟩,
  ⟨(some 6), .op (.mv (.const (.int .i64 0))), none⟩]
def x17_64 : XCode := .seq (.draw x17_63 [[], [], [1], [1, 2], [1, 2, 3], [0], [0, 1, 2, 3, 4, 5], [0, 1, 2, 3, 4, 5, 6]]) .ret
def x17_65 : XCode := .seq x17_62 x17_64
def x17_66 : XCode := .seq x17_57 x17_65
def x17_67 : XCode := .seq (.region x17_18) x17_66
def x17_68 : XCode := .seq x17_17 x17_67
def x17_69 : XCode := .seq (.region x17_9) x17_68
def x17_70 : XCode := .seq x17_8 x17_69
def x17_71 : XCode := .seq (.draw x17_1 [[], [], [1], [1, 2], [], [], [], [6], [6, 7], [0, 1, 2, 3, 4, 5, 6, 7, 8], [0, 1, 2, 3, 4, 5, 6, 7, 8, 9], [0, 1, 2, 3, 4, 5, 6, 7, 8, 9, 10]]) x17_70
def x17_72 : XCode := .seq (.region x17_0) x17_71
def x17 : XCode := x17_72
theorem fx17 : fnx Try.prog 17 = some (77, [(4, none), (5, none), (6, none)], x17) := by kernel_rfl
def x18_0 : List XOper := [⟨(some 1), .op (.box (.tmp 0)), none⟩,
  ⟨(some 2), .op (.mv (.const (.int .u32 0))), none⟩,
  ⟨(some 3), .op (.mv (.const (.int .i64 0))), none⟩]
def x18_1 : List XOper := [⟨(some 18), .callF 43 [], none⟩,
  ⟨(some 19), .op (.faddr 0 (.tmp 1)), none⟩,
  ⟨(some 20), .op (.load (.int .i64) 1 (.tmp 19)), none⟩,
  ⟨(some 21), .op (.lookup 3 104 (.int .i64) (.agg #[(.int .u8 0), (.int .u32 0), (.int .u32 0), (.int .u32 0)]) true (.tmp 18) (.tmp 20)), none⟩,
  ⟨(some 17), .op (.mv (.tmp 21)), none⟩,
  ⟨(some 22), .op (.ext (.tmp 17) 0), none⟩,
  ⟨(some 23), .op (.ext (.tmp 17) 1), none⟩,
  ⟨(some 4), .op (.new [(.int .u8 0), (.int .u32 0), (.int .u32 0), (.int .u32 0)]), none⟩,
  ⟨none, .op (.store 4 (.tmp 4) (.tmp 22)), none⟩,
  ⟨(some 5), .op (.mv (.tmp 23)), none⟩]
def x18_2 : List XOper := [⟨(some 25), .op (.faddr 0 (.tmp 4)), none⟩,
  ⟨(some 26), .op (.load (.int .u8) 1 (.tmp 25)), none⟩,
  ⟨(some 27), .callF 44 [(.tmp 26)], none⟩,
  ⟨(some 24), .op (.mv (.tmp 27)), none⟩,
  ⟨(some 28), .op (.ext (.tmp 24) 0), none⟩,
  ⟨(some 29), .op (.ext (.tmp 24) 1), none⟩,
  ⟨(some 6), .op (.mv (.tmp 28)), none⟩,
  ⟨(some 7), .op (.mv (.tmp 29)), none⟩]
def x18_3 : List XOper := [⟨(some 30), .op (.faddr 1 (.tmp 1)), none⟩,
  ⟨(some 31), .op (.load (.int .i64) 1 (.tmp 30)), none⟩,
  ⟨(some 32), .op (.faddr 2 (.tmp 1)), none⟩,
  ⟨(some 33), .op (.load (.int .i64) 1 (.tmp 32)), none⟩,
  ⟨(some 34), .op (.faddr 3 (.tmp 1)), none⟩,
  ⟨(some 35), .op (.load (.int .i64) 1 (.tmp 34)), none⟩,
  ⟨(some 36), .op (.build [(.int .i64 0), (.int .i64 0), (.int .i64 0)] [(0, 1, (.tmp 31)), (1, 1, (.tmp 33)), (2, 1, (.tmp 35))]), none⟩,
  ⟨(some 8), .op (.new [(.int .i64 0), (.int .i64 0), (.int .i64 0)]), none⟩,
  ⟨none, .op (.store 3 (.tmp 8) (.tmp 36)), none⟩]
def x18_4 : List XOper := [⟨(some 37), .op (.faddr 0 (.tmp 4)), none⟩,
  ⟨(some 38), .op (.load (.int .u8) 1 (.tmp 37)), none⟩,
  ⟨(some 39), .callF 45 [(.tmp 38)], none⟩,
  ⟨(some 40), .op (.mv (.const (.int .i64 0))), none⟩]
def x18_5 : List XOper := [⟨(some 41), .op (.bin .lss (.tmp 40) (.const (.int .i64 3))), none⟩]
def x18_6 : XCode := .cnd (.tmp 41) .skip (.exit 0)
def x18_7 : List XOper := [⟨(some 42), .op (.mv (.tmp 40)), none⟩,
  ⟨(some 43), .op (.idxA 3 1 .bool (.tmp 39) (.tmp 40)), none⟩,
  ⟨(some 9), .op (.mv (.tmp 42)), none⟩,
  ⟨(some 10), .op (.mv (.tmp 43)), none⟩]
def x18_8 : List XOper := [⟨(some 44), .op (.mv (.tmp 5)), none⟩,
  ⟨(some 45), .op (.mv (.tmp 44)), none⟩,
  ⟨(some 46), .op (.mv (.tmp 10)), (some (45, true))⟩,
  ⟨(some 47), .op (.mv (.tmp 46)), (some (45, true))⟩,
  ⟨(some 48), .op (.mv (.tmp 9)), (some (47, false))⟩,
  ⟨(some 49), .op (.iaddrA true 3 1 (.tmp 8) (.tmp 48)), (some (47, false))⟩,
  ⟨(some 50), .op (.load (.int .i64) 1 (.tmp 49)), (some (47, false))⟩,
  ⟨(some 51), .op (.bin .eql (.tmp 50) (.const (.int .i64 0))), (some (47, false))⟩,
  ⟨(some 52), .pick (.tmp 47) (.const (.bool true)) (.tmp 51), (some (45, true))⟩,
  ⟨(some 53), .pick (.tmp 45) (.tmp 52) (.const (.bool false)), none⟩,
  ⟨(some 5), .op (.mv (.tmp 53)), none⟩]
def x18_9 : XCode := .seq (.region x18_7) (.region x18_8)
def x18_10 : XCode := .block 1 x18_9
def x18_11 : List XOper := [⟨(some 54), .op (.bin .add (.tmp 40) (.const (.int .i64 1))), none⟩,
  ⟨(some 40), .op (.mv (.tmp 54)), none⟩]
def x18_12 : XCode := .seq x18_10 (.region x18_11)
def x18_13 : XCode := .seq x18_6 x18_12
def x18_14 : XCode := .seq (.region x18_5) x18_13
def x18_15 : XCode := .loop x18_14
def x18_16 : XCode := .block 0 x18_15
def x18_17 : XCode := .seq (.region x18_4) x18_16
def x18_18 : List XOper := [⟨(some 55), .op (.mv (.tmp 5)), none⟩,
  ⟨(some 56), .op (.un .not (.tmp 55)), none⟩,
  ⟨(some 57), .op (.mv (.tmp 56)), none⟩,
  ⟨(some 58), .op (.mv (.tmp 6)), (some (57, false))⟩,
  ⟨(some 59), .op (.mv (.tmp 7)), (some (57, false))⟩,
  ⟨(some 60), .op (.bin .gtr (.tmp 58) (.tmp 59)), (some (57, false))⟩,
  ⟨(some 61), .op (.mv (.tmp 60)), (some (57, false))⟩,
  ⟨(some 62), .op (.faddr 4 (.tmp 1)), (some (61, true))⟩,
  ⟨(some 63), .op (.load (.int .i64) 1 (.tmp 62)), (some (61, true))⟩,
  ⟨(some 64), .op (.bin .neq (.tmp 63) (.const (.int .i64 0))), (some (61, true))⟩,
  ⟨(some 65), .pick (.tmp 61) (.tmp 64) (.const (.bool false)), (some (57, false))⟩,
  ⟨(some 66), .pick (.tmp 57) (.const (.bool true)) (.tmp 65), none⟩]
def x18_19 : List XOper := [⟨(some 2), .op (.mv (.const (.int .u32 0))), none⟩,
  ⟨(some 3), .op (.mv (.const (.int .i64 2))), none⟩]
def x18_20 : XCode := .seq (.region x18_19) .ret
def x18_21 : XCode := .cnd (.tmp 66) x18_20 .skip
def x18_22 : XCode := .seq (.region x18_18) x18_21
def x18_23 : List XOper := [⟨(some 67), .op (.faddr 1 (.tmp 4)), none⟩,
  ⟨(some 68), .op (.faddr 0 (.tmp 67)), none⟩,
  ⟨(some 69), .op (.load (.int .u32) 1 (.tmp 68)), none⟩,
  ⟨(some 70), .op (.faddr 1 (.tmp 4)), none⟩,
  ⟨(some 71), .op (.faddr 1 (.tmp 70)), none⟩,
  ⟨(some 72), .op (.load (.int .u32) 1 (.tmp 71)), none⟩,
  ⟨(some 73), .op (.bin .shl (.tmp 72) (.const (.int .u64 12))), none⟩,
  ⟨(some 74), .op (.bin .or (.tmp 69) (.tmp 73)), none⟩,
  ⟨(some 75), .op (.faddr 1 (.tmp 4)), none⟩,
  ⟨(some 76), .op (.faddr 2 (.tmp 75)), none⟩,
  ⟨(some 77), .op (.load (.int .u32) 1 (.tmp 76)), none⟩,
  ⟨(some 78), .op (.bin .shl (.tmp 77) (.const (.int .u64 25))), none⟩,
  ⟨(some 79), .op (.bin .or (.tmp 74) (.tmp 78)), none⟩,
  ⟨(some 11), .op (.mv (.tmp 79)), none⟩]
def x18_24 : List XOper := [⟨(some 80), .op (.load .agg 3 (.tmp 8)), none⟩,
  ⟨(some 81), .op (.mv (.const (.int .i64 0))), none⟩]
def x18_25 : List XOper := [⟨(some 82), .op (.bin .lss (.tmp 81) (.const (.int .i64 3))), none⟩]
def x18_26 : XCode := .cnd (.tmp 82) .skip (.exit 2)
def x18_27 : List XOper := [⟨(some 83), .op (.mv (.tmp 81)), none⟩,
  ⟨(some 84), .op (.idxA 3 1 (.int .i64) (.tmp 80) (.tmp 81)), none⟩,
  ⟨(some 12), .op (.mv (.tmp 83)), none⟩,
  ⟨(some 13), .op (.mv (.tmp 84)), none⟩]
def x18_28 : List XOper := [⟨(some 85), .op (.mv (.tmp 13)), none⟩,
  ⟨(some 86), .op (.bin .lss (.tmp 85) (.const (.int .i64 0))), none⟩,
  ⟨(some 87), .op (.mv (.tmp 86)), none⟩,
  ⟨(some 88), .op (.mv (.tmp 13)), (some (87, false))⟩,
  ⟨(some 89), .op (.bin .gtr (.tmp 88) (.const (.int .i64 31))), (some (87, false))⟩,
  ⟨(some 90), .pick (.tmp 87) (.const (.bool true)) (.tmp 89), none⟩]
def x18_29 : List XOper := [⟨(some 2), .op (.mv (.const (.int .u32 0))), none⟩,
  ⟨(some 3), .op (.mv (.const (.int .i64 1))), none⟩]
def x18_30 : XCode := .seq (.region x18_29) .ret
def x18_31 : XCode := .cnd (.tmp 90) x18_30 .skip
def x18_32 : XCode := .seq (.region x18_28) x18_31
def x18_33 : List XOper := [⟨(some 91), .op (.mv (.tmp 11)), none⟩,
  ⟨(some 92), .op (.mv (.tmp 13)), none⟩,
  ⟨(some 93), .op (.conv .u32 (.tmp 92)), none⟩,
  ⟨(some 94), .op (.build [(.int .u64 0), (.int .u64 0), (.int .u64 0)] [(0, 1, (.const (.int .u64 7))), (1, 1, (.const (.int .u64 15))), (2, 1, (.const (.int .u64 20)))]), none⟩,
  ⟨(some 95), .op (.mv (.tmp 12)), none⟩,
  ⟨(some 96), .op (.idxA 3 1 (.int .u64) (.tmp 94) (.tmp 95)), none⟩,
  ⟨(some 97), .op (.bin .shl (.tmp 93) (.tmp 96)), none⟩,
  ⟨(some 98), .op (.bin .or (.tmp 91) (.tmp 97)), none⟩,
  ⟨(some 11), .op (.mv (.tmp 98)), none⟩]
def x18_34 : XCode := .seq x18_32 (.region x18_33)
def x18_35 : XCode := .seq (.region x18_27) x18_34
def x18_36 : XCode := .block 3 x18_35
def x18_37 : List XOper := [⟨(some 99), .op (.bin .add (.tmp 81) (.const (.int .i64 1))), none⟩,
  ⟨(some 81), .op (.mv (.tmp 99)), none⟩]
def x18_38 : XCode := .seq x18_36 (.region x18_37)
def x18_39 : XCode := .seq x18_26 x18_38
def x18_40 : XCode := .seq (.region x18_25) x18_39
def x18_41 : XCode := .loop x18_40
def x18_42 : XCode := .block 2 x18_41
def x18_43 : XCode := .seq (.region x18_24) x18_42
def x18_44 : List XOper := [⟨(some 100), .op (.faddr 0 (.tmp 4)), none⟩,
  ⟨(some 101), .op (.load (.int .u8) 1 (.tmp 100)), none⟩,
  ⟨(some 102), .op (.bin .eql (.tmp 101) (.const (.int .u8 66))), none⟩,
  ⟨(some 103), .op (.mv (.tmp 102)), none⟩,
  ⟨(some 104), .op (.faddr 0 (.tmp 4)), (some (103, false))⟩,
  ⟨(some 105), .op (.load (.int .u8) 1 (.tmp 104)), (some (103, false))⟩,
  ⟨(some 106), .op (.bin .eql (.tmp 105) (.const (.int .u8 74))), (some (103, false))⟩,
  ⟨(some 107), .pick (.tmp 103) (.const (.bool true)) (.tmp 106), none⟩,
  ⟨(some 108), .op (.mv (.tmp 107)), none⟩,
  ⟨(some 109), .op (.faddr 4 (.tmp 1)), (some (108, true))⟩,
  ⟨(some 110), .op (.load (.int .i64) 1 (.tmp 109)), (some (108, true))⟩,
  ⟨(some 111), .op (.bin .and (.tmp 110) (.const (.int .i64 1))), (some (108, true))⟩,
  ⟨(some 112), .op (.bin .eql (.tmp 111) (.const (.int .i64 1))), (some (108, true))⟩,
  ⟨(some 113), .pick (.tmp 108) (.tmp 112) (.const (.bool false)), none⟩,
  ⟨(some 14), .op (.mv (.tmp 113)), none⟩]
def x18_45 : List XOper := [⟨(some 114), .op (.mv (.tmp 6)), none⟩,
  ⟨(some 115), .op (.mv (.tmp 7)), none⟩,
  ⟨(some 116), .op (.bin .leq (.tmp 114) (.tmp 115)), none⟩,
  ⟨(some 117), .op (.mv (.tmp 116)), none⟩,
  ⟨(some 118), .op (.faddr 4 (.tmp 1)), (some (117, true))⟩,
  ⟨(some 119), .op (.load (.int .i64) 1 (.tmp 118)), (some (117, true))⟩,
  ⟨(some 120), .op (.mv (.tmp 6)), (some (117, true))⟩,
  ⟨(some 121), .op (.bin .lss (.tmp 119) (.tmp 120)), (some (117, true))⟩,
  ⟨(some 122), .op (.mv (.tmp 121)), (some (117, true))⟩,
  ⟨(some 123), .op (.faddr 4 (.tmp 1)), (some (122, false))⟩,
  ⟨(some 124), .op (.load (.int .i64) 1 (.tmp 123)), (some (122, false))⟩,
  ⟨(some 125), .op (.mv (.tmp 7)), (some (122, false))⟩,
  ⟨(some 126), .op (.bin .gtr (.tmp 124) (.tmp 125)), (some (122, false))⟩,
  ⟨(some 127), .pick (.tmp 122) (.const (.bool true)) (.tmp 126), (some (117, true))⟩,
  ⟨(some 128), .op (.mv (.tmp 127)), (some (117, true))⟩,
  ⟨(some 129), .op (.mv (.tmp 14)), (some (128, false))⟩,
  ⟨(some 130), .pick (.tmp 128) (.const (.bool true)) (.tmp 129), (some (117, true))⟩,
  ⟨(some 131), .pick (.tmp 117) (.tmp 130) (.const (.bool false)), none⟩]
def x18_46 : List XOper := [⟨(some 2), .op (.mv (.const (.int .u32 0))), none⟩,
  ⟨(some 3), .op (.mv (.const (.int .i64 1))), none⟩]
def x18_47 : XCode := .seq (.region x18_46) .ret
def x18_48 : XCode := .cnd (.tmp 131) x18_47 .skip
def x18_49 : XCode := .seq (.region x18_45) x18_48
def x18_50 : List XOper := [⟨(some 132), .op (.faddr 0 (.tmp 4)), none⟩,
  ⟨(some 133), .op (.load (.int .u8) 1 (.tmp 132)), none⟩,
  ⟨(some 134), .callF 46 [(.tmp 133)], none⟩,
  ⟨(some 135), .op (.lenS (.tmp 134)), none⟩,
  ⟨(some 136), .op (.mv (.const (.int .i64 0))), none⟩]
def x18_51 : List XOper := [⟨(some 137), .op (.bin .lss (.tmp 136) (.tmp 135)), none⟩]
def x18_52 : XCode := .cnd (.tmp 137) .skip (.exit 4)
def x18_53 : List XOper := [⟨(some 138), .op (.iaddrS 3 (.tmp 134) (.tmp 136)), none⟩,
  ⟨(some 139), .op (.load .agg 3 (.tmp 138)), none⟩,
  ⟨(some 16), .op (.new [(.int .u64 0), (.int .u64 0), (.int .u64 0)]), none⟩,
  ⟨none, .op (.store 3 (.tmp 16) (.tmp 139)), none⟩]
def x18_54 : List XOper := [⟨(some 140), .op (.mv (.tmp 11)), none⟩,
  ⟨(some 141), .op (.faddr 4 (.tmp 1)), none⟩,
  ⟨(some 142), .op (.load (.int .i64) 1 (.tmp 141)), none⟩,
  ⟨(some 143), .op (.conv .u32 (.tmp 142)), none⟩,
  ⟨(some 144), .op (.faddr 0 (.tmp 16)), none⟩,
  ⟨(some 145), .op (.load (.int .u64) 1 (.tmp 144)), none⟩,
  ⟨(some 146), .op (.bin .shr (.tmp 143) (.tmp 145)), none⟩,
  ⟨(some 147), .op (.faddr 1 (.tmp 16)), none⟩,
  ⟨(some 148), .op (.load (.int .u64) 1 (.tmp 147)), none⟩,
  ⟨(some 149), .op (.bin .shl (.const (.int .u32 1)) (.tmp 148)), none⟩,
  ⟨(some 150), .op (.bin .sub (.tmp 149) (.const (.int .u32 1))), none⟩,
  ⟨(some 151), .op (.bin .and (.tmp 146) (.tmp 150)), none⟩,
  ⟨(some 152), .op (.faddr 2 (.tmp 16)), none⟩,
  ⟨(some 153), .op (.load (.int .u64) 1 (.tmp 152)), none⟩,
  ⟨(some 154), .op (.bin .shl (.tmp 151) (.tmp 153)), none⟩,
  ⟨(some 155), .op (.bin .or (.tmp 140) (.tmp 154)), none⟩,
  ⟨(some 11), .op (.mv (.tmp 155)), none⟩]
def x18_55 : XCode := .seq (.region x18_53) (.region x18_54)
def x18_56 : XCode := .block 5 x18_55
def x18_57 : List XOper := [⟨(some 156), .op (.bin .add (.tmp 136) (.const (.int .i64 1))), none⟩,
  ⟨(some 136), .op (.mv (.tmp 156)), none⟩]
def x18_58 : XCode := .seq x18_56 (.region x18_57)
def x18_59 : XCode := .seq x18_52 x18_58
def x18_60 : XCode := .seq (.region x18_51) x18_59
def x18_61 : XCode := .loop x18_60
def x18_62 : XCode := .block 4 x18_61
def x18_63 : XCode := .seq (.region x18_50) x18_62
def x18_64 : List XOper := [⟨(some 157), .op (.mv (.tmp 11)), none⟩,
  ⟨(some 2), .op (.mv (.tmp 157)), none⟩,
  ⟨(some 3), .op (.mv (.const (.int .i64 0))), none⟩]
def x18_65 : XCode := .seq (.region x18_64) .ret
def x18_66 : XCode := .seq x18_63 x18_65
def x18_67 : XCode := .seq x18_49 x18_66
def x18_68 : XCode := .seq (.region x18_44) x18_67
def x18_69 : XCode := .seq x18_43 x18_68
def x18_70 : XCode := .seq (.region x18_23) x18_69
def x18_71 : XCode := .seq x18_22 x18_70
def x18_72 : XCode := .seq x18_17 x18_71
def x18_73 : XCode := .seq (.region x18_3) x18_72
def x18_74 : XCode := .seq (.region x18_2) x18_73
def x18_75 : XCode := .seq (.draw x18_1 [[], [], [1], [0, 1, 2], [0, 1, 2, 3], [0, 1, 2, 3, 4], [0, 1, 2, 3, 4], [], [0, 1, 2, 3, 4, 5, 7], [0, 1, 2, 3, 4, 5, 6, 7, 8]]) x18_74
def x18_76 : XCode := .seq (.region x18_0) x18_75
def x18 : XCode := x18_76
theorem fx18 : fnx Try.prog 18 = some (158, [(2, none), (3, none)], x18) := by kernel_rfl
def x21_0 : List XOper := [⟨(some 0), .op (.mv (.const (.bool false))), none⟩]
def x21_1 : List XOper := [⟨(some 5), .op (.build [(.int .i64 0), (.int .i64 0), (.int .i64 0), (.int .i64 0), (.int .i64 0)] [(0, 1, (.const (.int .i64 28))), (1, 1, (.const (.int .i64 17))), (4, 1, (.const (.int .i64 3)))]), none⟩,
  ⟨(some 6), .op (.build [(.int .i64 0), (.int .i64 0), (.int .i64 0), (.int .i64 0), (.int .i64 0)] [(0, 1, (.const (.int .i64 55)))]), none⟩,
  ⟨(some 7), .op (.mkslice [(.int .i64 0), (.int .i64 0), (.int .i64 0), (.int .i64 0), (.int .i64 0)] 2 [(0, (.tmp 5)), (1, (.tmp 6))]), none⟩,
  ⟨(some 8), .callF 23 [(.tmp 7)], none⟩,
  ⟨(some 9), .callF 22 [(.tmp 8), (.const (.int .i64 64))], none⟩,
  ⟨(some 4), .op (.mv (.tmp 9)), none⟩,
  ⟨(some 10), .op (.ext (.tmp 4) 0), none⟩,
  ⟨(some 11), .op (.ext (.tmp 4) 1), none⟩,
  ⟨(some 1), .op (.mv (.tmp 10)), none⟩,
  ⟨(some 2), .op (.mv (.tmp 11)), none⟩]
def x21_2 : List XOper := [⟨(some 12), .op (.mv (.tmp 2)), none⟩,
  ⟨(some 13), .op (.bin .neq (.tmp 12) (.const (.int .i64 0))), none⟩,
  ⟨(some 14), .op (.mv (.tmp 13)), none⟩,
  ⟨(some 15), .op (.mv (.tmp 1)), (some (14, false))⟩,
  ⟨(some 16), .op (.eqnil 0 false (.tmp 15) (.const (.pointer none))), (some (14, false))⟩,
  ⟨(some 17), .pick (.tmp 14) (.const (.bool true)) (.tmp 16), none⟩]
def x21_3 : List XOper := [⟨(some 0), .op (.mv (.const (.bool false))), none⟩]
def x21_4 : XCode := .seq (.region x21_3) .ret
def x21_5 : XCode := .cnd (.tmp 17) x21_4 .skip
def x21_6 : XCode := .seq (.region x21_2) x21_5
def x21_7 : List XOper := [⟨(some 18), .op (.mv (.tmp 1)), none⟩,
  ⟨(some 19), .callF 24 [(.tmp 18), (.const (.slice none 0 0)), (.const (.int .i64 9))], none⟩,
  ⟨(some 3), .op (.new [(.int .i64 0), (.int .u8 0), (.int .i64 0), (.slice none 0 0), (.int .i64 0), (.int .i64 0)]), none⟩,
  ⟨none, .op (.store 6 (.tmp 3) (.tmp 19)), none⟩]
def x21_8 : List XOper := [⟨(some 20), .op (.faddr 0 (.tmp 3)), none⟩,
  ⟨(some 21), .op (.load (.int .i64) 1 (.tmp 20)), none⟩,
  ⟨(some 22), .op (.bin .eql (.tmp 21) (.const (.int .i64 1))), none⟩,
  ⟨(some 23), .op (.mv (.tmp 22)), none⟩,
  ⟨(some 24), .op (.faddr 1 (.tmp 3)), (some (23, true))⟩,
  ⟨(some 25), .op (.load (.int .u8) 1 (.tmp 24)), (some (23, true))⟩,
  ⟨(some 26), .op (.bin .eql (.tmp 25) (.const (.int .u8 0))), (some (23, true))⟩,
  ⟨(some 27), .pick (.tmp 23) (.tmp 26) (.const (.bool false)), none⟩,
  ⟨(some 28), .op (.mv (.tmp 27)), none⟩,
  ⟨(some 29), .op (.faddr 4 (.tmp 3)), (some (28, true))⟩,
  ⟨(some 30), .op (.load (.int .i64) 1 (.tmp 29)), (some (28, true))⟩,
  ⟨(some 31), .op (.bin .eql (.tmp 30) (.const (.int .i64 2))), (some (28, true))⟩,
  ⟨(some 32), .pick (.tmp 28) (.tmp 31) (.const (.bool false)), none⟩,
  ⟨(some 0), .op (.mv (.tmp 32)), none⟩]
def x21_9 : XCode := .seq (.region x21_8) .ret
def x21_10 : XCode := .seq (.region x21_7) x21_9
def x21_11 : XCode := .seq x21_6 x21_10
def x21_12 : XCode := .seq (.region x21_1) x21_11
def x21_13 : XCode := .seq (.region x21_0) x21_12
def x21 : XCode := x21_13
theorem fx21 : fnx Try.prog 21 = some (33, [(0, none)], x21) := by kernel_rfl
def x22_0 : List XOper := [⟨(some 4), .op (.mv (.const (.pointer none))), none⟩,
  ⟨(some 5), .op (.mv (.const (.int .i64 0))), none⟩]
def x22_1 : List XOper := [⟨(some 7), .op (.mv (.tmp 1)), none⟩,
  ⟨(some 8), .op (.mv (.tmp 0)), none⟩,
  ⟨(some 9), .op (.lenS (.tmp 8)), none⟩,
  ⟨(some 10), .op (.bin .lss (.tmp 7) (.tmp 9)), none⟩,
  ⟨(some 11), .op (.mv (.tmp 10)), none⟩,
  ⟨(some 12), .op (.mv (.tmp 1)), (some (11, false))⟩,
  ⟨(some 13), .op (.bin .gtr (.tmp 12) (.const (.int .i64 4194304))), (some (11, false))⟩,
  ⟨(some 14), .pick (.tmp 11) (.const (.bool true)) (.tmp 13), none⟩]
def x22_2 : List XOper := [⟨(some 4), .op (.mv (.const (.pointer none))), none⟩,
  ⟨(some 5), .op (.mv (.const (.int .i64 1))), none⟩]
def x22_3 : XCode := .seq (.region x22_2) .ret
def x22_4 : XCode := .cnd (.tmp 14) x22_3 .skip
def x22_5 : XCode := .seq (.region x22_1) x22_4
def x22_6 : List XOper := [⟨(some 15), .op (.mv (.tmp 1)), none⟩,
  ⟨(some 16), .op (.mks [(.int .u8 0)] 1 (.tmp 15) (.tmp 15)), none⟩,
  ⟨(some 17), .op (.mkmap 35 26 (.agg #[(.int .i64 0), (.int .i64 0), (.int .i64 0), (.int .i64 0), (.int .i64 0)])), none⟩,
  ⟨(some 18), .op (.build [(.slice none 0 0), (.int .u64 0), (.int .u64 0), (.int .u64 0), (.int .u64 0), (.int .u64 0), (.int .u64 0), (.int .u64 0), (.int .u64 0), (.int .u64 0), (.int .u64 0), (.int .u64 0), (.int .u64 0), (.int .u64 0), (.int .u64 0), (.int .u64 0), (.int .u64 0), (.int .u64 0), (.int .u64 0), (.int .u64 0), (.int .u64 0), (.int .u64 0), (.int .u64 0), (.int .u64 0), (.int .u64 0), (.int .u64 0), (.int .u64 0), (.int .u64 0), (.int .u64 0), (.int .u64 0), (.int .u64 0), (.int .u64 0), (.int .u64 0), (.int .u64 0), (.int .i64 0), (.int .u8 0), (.map none)] [(0, 1, (.tmp 16)), (36, 1, (.tmp 17))]), none⟩,
  ⟨(some 19), .op (.box (.tmp 18)), none⟩,
  ⟨(some 6), .op (.mv (.tmp 19)), none⟩]
def x22_7 : List XOper := [⟨(some 20), .op (.mv (.tmp 6)), none⟩,
  ⟨(some 21), .op (.nilck (.tmp 20)), none⟩,
  ⟨(some 22), .op (.faddr 0 (.tmp 21)), none⟩,
  ⟨(some 23), .op (.load .one 1 (.tmp 22)), none⟩,
  ⟨(some 24), .op (.mv (.tmp 0)), none⟩,
  ⟨(some 25), .op (.cpy 1 (.tmp 23) (.tmp 24)), none⟩]
def x22_8 : List XOper := [⟨(some 26), .op (.mv (.tmp 6)), none⟩,
  ⟨(some 4), .op (.mv (.tmp 26)), none⟩,
  ⟨(some 5), .op (.mv (.const (.int .i64 0))), none⟩]
def x22_9 : XCode := .seq (.region x22_8) .ret
def x22_10 : XCode := .seq (.region x22_7) x22_9
def x22_11 : XCode := .seq (.region x22_6) x22_10
def x22_12 : XCode := .seq x22_5 x22_11
def x22_13 : XCode := .seq (.region x22_0) x22_12
def x22 : XCode := x22_13
theorem fx22 : fnx Try.prog 22 = some (27, [(4, none), (5, none)], x22) := by kernel_rfl
def x23_0 : List XOper := [⟨(some 2), .op (.mv (.const (.slice none 0 0))), none⟩]
def x23_1 : List XOper := [⟨(some 3), .op (.mv (.const (.slice none 0 0))), none⟩]
def x23_2 : List XOper := [⟨(some 8), .op (.mv (.tmp 0)), none⟩,
  ⟨(some 9), .op (.lenS (.tmp 8)), none⟩,
  ⟨(some 10), .op (.mv (.const (.int .i64 0))), none⟩]
def x23_3 : List XOper := [⟨(some 11), .op (.bin .lss (.tmp 10) (.tmp 9)), none⟩]
def x23_4 : XCode := .cnd (.tmp 11) .skip (.exit 0)
def x23_5 : List XOper := [⟨(some 12), .op (.iaddrS 5 (.tmp 8) (.tmp 10)), none⟩,
  ⟨(some 13), .op (.load .agg 5 (.tmp 12)), none⟩,
  ⟨(some 5), .op (.new [(.int .i64 0), (.int .i64 0), (.int .i64 0), (.int .i64 0), (.int .i64 0)]), none⟩,
  ⟨none, .op (.store 5 (.tmp 5) (.tmp 13)), none⟩]
def x23_6 : List XOper := [⟨(some 15), .op (.load .agg 5 (.tmp 5)), none⟩,
  ⟨(some 16), .callF 47 [(.tmp 15)], none⟩,
  ⟨(some 14), .op (.mv (.tmp 16)), none⟩,
  ⟨(some 17), .op (.ext (.tmp 14) 0), none⟩,
  ⟨(some 18), .op (.ext (.tmp 14) 1), none⟩,
  ⟨(some 6), .op (.mv (.tmp 17)), none⟩,
  ⟨(some 7), .op (.mv (.tmp 18)), none⟩]
def x23_7 : List XOper := [⟨(some 19), .op (.mv (.tmp 7)), none⟩,
  ⟨(some 20), .op (.bin .eql (.tmp 19) (.const (.int .i64 0))), none⟩]
def x23_8 : List XOper := [⟨(some 21), .op (.mv (.tmp 3)), none⟩,
  ⟨(some 22), .op (.mv (.tmp 6)), none⟩,
  ⟨(some 23), .op (.conv .u8 (.tmp 22)), none⟩,
  ⟨(some 24), .op (.mv (.tmp 6)), none⟩,
  ⟨(some 25), .op (.bin .shr (.tmp 24) (.const (.int .u64 8))), none⟩,
  ⟨(some 26), .op (.conv .u8 (.tmp 25)), none⟩,
  ⟨(some 27), .op (.mv (.tmp 6)), none⟩,
  ⟨(some 28), .op (.bin .shr (.tmp 27) (.const (.int .u64 16))), none⟩,
  ⟨(some 29), .op (.conv .u8 (.tmp 28)), none⟩,
  ⟨(some 30), .op (.mv (.tmp 6)), none⟩,
  ⟨(some 31), .op (.bin .shr (.tmp 30) (.const (.int .u64 24))), none⟩,
  ⟨(some 32), .op (.conv .u8 (.tmp 31)), none⟩,
  ⟨(some 33), .op (.mkslice [(.int .u8 0)] 4 [(0, (.tmp 23)), (1, (.tmp 26)), (2, (.tmp 29)), (3, (.tmp 32))]), none⟩,
  ⟨(some 34), .op (.app 1 1 (.tmp 21) (.tmp 33)), none⟩,
  ⟨(some 3), .op (.mv (.tmp 34)), none⟩]
def x23_9 : XCode := .cnd (.tmp 20) (.region x23_8) .skip
def x23_10 : XCode := .seq (.region x23_7) x23_9
def x23_11 : XCode := .seq (.region x23_6) x23_10
def x23_12 : XCode := .seq (.region x23_5) x23_11
def x23_13 : XCode := .block 1 x23_12
def x23_14 : List XOper := [⟨(some 35), .op (.bin .add (.tmp 10) (.const (.int .i64 1))), none⟩,
  ⟨(some 10), .op (.mv (.tmp 35)), none⟩]
def x23_15 : XCode := .seq x23_13 (.region x23_14)
def x23_16 : XCode := .seq x23_4 x23_15
def x23_17 : XCode := .seq (.region x23_3) x23_16
def x23_18 : XCode := .loop x23_17
def x23_19 : XCode := .block 0 x23_18
def x23_20 : XCode := .seq (.region x23_2) x23_19
def x23_21 : List XOper := [⟨(some 36), .op (.mv (.tmp 3)), none⟩,
  ⟨(some 2), .op (.mv (.tmp 36)), none⟩]
def x23_22 : XCode := .seq (.region x23_21) .ret
def x23_23 : XCode := .seq x23_20 x23_22
def x23_24 : XCode := .seq (.region x23_1) x23_23
def x23_25 : XCode := .seq (.region x23_0) x23_24
def x23 : XCode := x23_25
theorem fx23 : fnx Try.prog 23 = some (37, [(2, none)], x23) := by kernel_rfl
def x24_0 : List XOper := [⟨(some 6), .op (.new [(.int .i64 0), (.int .u8 0), (.int .i64 0), (.slice none 0 0), (.int .i64 0), (.int .i64 0)]), none⟩]
def x24_1 : List XOper := [⟨(some 10), .op (.mv (.tmp 0)), none⟩,
  ⟨(some 11), .op (.mv (.tmp 1)), none⟩,
  ⟨(some 12), .op (.mv (.tmp 2)), none⟩,
  ⟨(some 13), .callF 48 [(.tmp 10), (.tmp 11), (.tmp 12), (.const (.bool false))], none⟩,
  ⟨(some 9), .op (.mv (.tmp 13)), none⟩,
  ⟨(some 14), .op (.ext (.tmp 9) 0), none⟩,
  ⟨(some 15), .op (.ext (.tmp 9) 1), none⟩,
  ⟨(some 7), .op (.new [(.int .i64 0), (.int .u8 0), (.int .i64 0), (.slice none 0 0), (.int .i64 0), (.int .i64 0)]), none⟩,
  ⟨none, .op (.store 6 (.tmp 7) (.tmp 14)), none⟩,
  ⟨(some 8), .op (.mv (.tmp 15)), none⟩]
def x24_2 : List XOper := [⟨(some 16), .op (.load .agg 6 (.tmp 7)), none⟩,
  ⟨none, .op (.store 6 (.tmp 6) (.tmp 16)), none⟩]
def x24_3 : XCode := .seq (.region x24_2) .ret
def x24_4 : XCode := .seq (.region x24_1) x24_3
def x24_5 : XCode := .seq (.region x24_0) x24_4
def x24 : XCode := x24_5
theorem fx24 : fnx Try.prog 24 = some (17, [(6, (some (.agg, 6)))], x24) := by kernel_rfl
def x25_0 : List XOper := [⟨(some 4), .op (.mv (.const (.int .u64 0))), none⟩]
def x25_1 : List XOper := [⟨(some 5), .op (.mv (.tmp 1)), none⟩,
  ⟨(some 6), .op (.bin .lss (.tmp 5) (.const (.int .i64 0))), none⟩,
  ⟨(some 7), .op (.mv (.tmp 6)), none⟩,
  ⟨(some 8), .op (.mv (.tmp 1)), (some (7, false))⟩,
  ⟨(some 9), .op (.bin .gtr (.tmp 8) (.const (.int .i64 31))), (some (7, false))⟩,
  ⟨(some 10), .pick (.tmp 7) (.const (.bool true)) (.tmp 9), none⟩]
def x25_2 : List XOper := [⟨(some 4), .op (.mv (.const (.int .u64 0))), none⟩]
def x25_3 : XCode := .seq (.region x25_2) .ret
def x25_4 : XCode := .cnd (.tmp 10) x25_3 .skip
def x25_5 : XCode := .seq (.region x25_1) x25_4
def x25_6 : List XOper := [⟨(some 11), .op (.mv (.tmp 0)), none⟩,
  ⟨(some 12), .op (.mv (.tmp 1)), none⟩,
  ⟨(some 13), .op (.nilck (.tmp 11)), none⟩,
  ⟨(some 14), .op (.faddr 1 (.tmp 13)), none⟩,
  ⟨(some 15), .op (.iaddrA true 32 1 (.tmp 14) (.tmp 12)), none⟩,
  ⟨(some 16), .op (.load (.int .u64) 1 (.tmp 15)), none⟩,
  ⟨(some 4), .op (.mv (.tmp 16)), none⟩]
def x25_7 : XCode := .seq (.region x25_6) .ret
def x25_8 : XCode := .seq x25_5 x25_7
def x25_9 : XCode := .seq (.region x25_0) x25_8
def x25 : XCode := x25_9
theorem fx25 : fnx Try.prog 25 = some (17, [(4, none)], x25) := by kernel_rfl
def x26_0 : List XOper := [⟨(some 6), .op (.mv (.tmp 1)), none⟩,
  ⟨(some 7), .op (.bin .gtr (.tmp 6) (.const (.int .i64 0))), none⟩,
  ⟨(some 8), .op (.mv (.tmp 7)), none⟩,
  ⟨(some 9), .op (.mv (.tmp 1)), (some (8, true))⟩,
  ⟨(some 10), .op (.bin .lss (.tmp 9) (.const (.int .i64 32))), (some (8, true))⟩,
  ⟨(some 11), .pick (.tmp 8) (.tmp 10) (.const (.bool false)), none⟩]
def x26_1 : List XOper := [⟨(some 12), .op (.mv (.tmp 0)), none⟩,
  ⟨(some 13), .op (.mv (.tmp 1)), none⟩,
  ⟨(some 14), .op (.mv (.tmp 2)), none⟩,
  ⟨(some 15), .op (.nilck (.tmp 12)), none⟩,
  ⟨(some 16), .op (.faddr 1 (.tmp 15)), none⟩,
  ⟨(some 17), .op (.iaddrA true 32 1 (.tmp 16) (.tmp 13)), none⟩,
  ⟨none, .op (.store 1 (.tmp 17) (.tmp 14)), none⟩]
def x26_2 : XCode := .cnd (.tmp 11) (.region x26_1) .skip
def x26_3 : XCode := .seq (.region x26_0) x26_2
def x26 : XCode := x26_3
theorem fx26 : fnx Try.prog 26 = some (18, [], x26) := by kernel_rfl
def x30_0 : List XOper := [⟨(some 2), .op (.mv (.const (.int .u64 0))), none⟩]
def x30_1 : List XOper := [⟨(some 3), .op (.mv (.tmp 0)), none⟩,
  ⟨(some 4), .op (.nilck (.tmp 3)), none⟩,
  ⟨(some 5), .op (.faddr 33 (.tmp 4)), none⟩,
  ⟨(some 6), .op (.load (.int .u64) 1 (.tmp 5)), none⟩,
  ⟨(some 2), .op (.mv (.tmp 6)), none⟩]
def x30_2 : XCode := .seq (.region x30_1) .ret
def x30_3 : XCode := .seq (.region x30_0) x30_2
def x30 : XCode := x30_3
theorem fx30 : fnx Try.prog 30 = some (7, [(2, none)], x30) := by kernel_rfl
def x31_0 : List XOper := [⟨(some 4), .op (.mv (.tmp 0)), none⟩,
  ⟨(some 5), .op (.mv (.tmp 1)), none⟩,
  ⟨(some 6), .op (.nilck (.tmp 4)), none⟩,
  ⟨(some 7), .op (.faddr 33 (.tmp 6)), none⟩,
  ⟨none, .op (.store 1 (.tmp 7) (.tmp 5)), none⟩]
def x31 : XCode := (.region x31_0)
theorem fx31 : fnx Try.prog 31 = some (8, [], x31) := by kernel_rfl
def x36_0 : List XOper := [⟨(some 6), .op (.mv (.const (.int .u64 0))), none⟩,
  ⟨(some 7), .op (.mv (.const (.int .i64 0))), none⟩]
def x36_1 : List XOper := [⟨(some 9), .op (.mv (.tmp 1)), none⟩,
  ⟨(some 10), .op (.bin .lss (.tmp 9) (.const (.int .i64 1))), none⟩,
  ⟨(some 11), .op (.mv (.tmp 10)), none⟩,
  ⟨(some 12), .op (.mv (.tmp 1)), (some (11, false))⟩,
  ⟨(some 13), .op (.bin .gtr (.tmp 12) (.const (.int .i64 64))), (some (11, false))⟩,
  ⟨(some 14), .pick (.tmp 11) (.const (.bool true)) (.tmp 13), none⟩]
def x36_2 : List XOper := [⟨(some 6), .op (.mv (.const (.int .u64 0))), none⟩,
  ⟨(some 7), .op (.mv (.const (.int .i64 1))), none⟩]
def x36_3 : XCode := .seq (.region x36_2) .ret
def x36_4 : XCode := .cnd (.tmp 14) x36_3 .skip
def x36_5 : XCode := .seq (.region x36_1) x36_4
def x36_6 : List XOper := [⟨(some 15), .op (.mv (.tmp 1)), none⟩,
  ⟨(some 16), .op (.bin .sub (.const (.int .i64 64)) (.tmp 15)), none⟩,
  ⟨(some 8), .op (.mv (.tmp 16)), none⟩]
def x36_7 : List XOper := [⟨(some 17), .op (.mv (.tmp 2)), none⟩]
def x36_8 : List XOper := [⟨(some 18), .op (.mv (.tmp 0)), none⟩,
  ⟨(some 19), .op (.mv (.tmp 8)), none⟩,
  ⟨(some 20), .op (.bin .shl (.tmp 18) (.tmp 19)), none⟩,
  ⟨(some 21), .op (.conv .i64 (.tmp 20)), none⟩,
  ⟨(some 22), .op (.mv (.tmp 8)), none⟩,
  ⟨(some 23), .op (.bin .shr (.tmp 21) (.tmp 22)), none⟩,
  ⟨(some 24), .op (.conv .u64 (.tmp 23)), none⟩,
  ⟨(some 6), .op (.mv (.tmp 24)), none⟩,
  ⟨(some 7), .op (.mv (.const (.int .i64 0))), none⟩]
def x36_9 : XCode := .seq (.region x36_8) .ret
def x36_10 : XCode := .cnd (.tmp 17) x36_9 .skip
def x36_11 : XCode := .seq (.region x36_7) x36_10
def x36_12 : List XOper := [⟨(some 25), .op (.mv (.tmp 0)), none⟩,
  ⟨(some 26), .op (.mv (.tmp 8)), none⟩,
  ⟨(some 27), .op (.bin .shl (.tmp 25) (.tmp 26)), none⟩,
  ⟨(some 28), .op (.mv (.tmp 8)), none⟩,
  ⟨(some 29), .op (.bin .shr (.tmp 27) (.tmp 28)), none⟩,
  ⟨(some 6), .op (.mv (.tmp 29)), none⟩,
  ⟨(some 7), .op (.mv (.const (.int .i64 0))), none⟩]
def x36_13 : XCode := .seq (.region x36_12) .ret
def x36_14 : XCode := .seq x36_11 x36_13
def x36_15 : XCode := .seq (.region x36_6) x36_14
def x36_16 : XCode := .seq x36_5 x36_15
def x36_17 : XCode := .seq (.region x36_0) x36_16
def x36 : XCode := x36_17
theorem fx36 : fnx Try.prog 36 = some (30, [(6, none), (7, none)], x36) := by kernel_rfl
def x39_0 : List XOper := [⟨(some 2), .op (.mv (.const (.int .i64 0))), none⟩]
def x39_1 : List XOper := [⟨(some 13), .op (.mv (.tmp 0)), none⟩,
  ⟨(some 14), .op (.nilck (.tmp 13)), none⟩,
  ⟨(some 15), .op (.faddr 2 (.tmp 14)), none⟩,
  ⟨(some 16), .op (.load (.int .i64) 1 (.tmp 15)), none⟩,
  ⟨(some 17), .op (.bin .rem (.tmp 16) (.const (.int .i64 4))), none⟩,
  ⟨(some 18), .op (.bin .neq (.tmp 17) (.const (.int .i64 0))), none⟩,
  ⟨(some 19), .op (.mv (.tmp 18)), none⟩,
  ⟨(some 20), .op (.mv (.tmp 0)), (some (19, false))⟩,
  ⟨(some 21), .op (.nilck (.tmp 20)), (some (19, false))⟩,
  ⟨(some 22), .op (.faddr 2 (.tmp 21)), (some (19, false))⟩,
  ⟨(some 23), .op (.load (.int .i64) 1 (.tmp 22)), (some (19, false))⟩,
  ⟨(some 24), .op (.bin .lss (.tmp 23) (.const (.int .i64 0))), (some (19, false))⟩,
  ⟨(some 25), .pick (.tmp 19) (.const (.bool true)) (.tmp 24), none⟩,
  ⟨(some 26), .op (.mv (.tmp 25)), none⟩,
  ⟨(some 27), .op (.mv (.tmp 0)), (some (26, false))⟩,
  ⟨(some 28), .op (.nilck (.tmp 27)), (some (26, false))⟩,
  ⟨(some 29), .op (.faddr 2 (.tmp 28)), (some (26, false))⟩,
  ⟨(some 30), .op (.load (.int .i64) 1 (.tmp 29)), (some (26, false))⟩,
  ⟨(some 31), .op (.bin .gtr (.tmp 30) (.const (.int .i64 4194304))), (some (26, false))⟩,
  ⟨(some 32), .pick (.tmp 26) (.const (.bool true)) (.tmp 31), none⟩]
def x39_2 : List XOper := [⟨(some 2), .op (.mv (.const (.int .i64 1))), none⟩]
def x39_3 : XCode := .seq (.region x39_2) .ret
def x39_4 : XCode := .cnd (.tmp 32) x39_3 .skip
def x39_5 : XCode := .seq (.region x39_1) x39_4
def x39_6 : List XOper := [⟨(some 33), .op (.mv (.tmp 0)), none⟩,
  ⟨(some 34), .op (.nilck (.tmp 33)), none⟩,
  ⟨(some 35), .op (.faddr 0 (.tmp 34)), none⟩,
  ⟨(some 36), .op (.load .one 1 (.tmp 35)), none⟩,
  ⟨(some 37), .op (.lenS (.tmp 36)), none⟩,
  ⟨(some 38), .op (.bin .gtr (.tmp 37) (.const (.int .i64 65536))), none⟩]
def x39_7 : List XOper := [⟨(some 2), .op (.mv (.const (.int .i64 3))), none⟩]
def x39_8 : XCode := .seq (.region x39_7) .ret
def x39_9 : XCode := .cnd (.tmp 38) x39_8 .skip
def x39_10 : XCode := .seq (.region x39_6) x39_9
def x39_11 : List XOper := [⟨(some 39), .op (.mv (.tmp 0)), none⟩,
  ⟨(some 40), .op (.nilck (.tmp 39)), none⟩,
  ⟨(some 41), .op (.faddr 0 (.tmp 40)), none⟩,
  ⟨(some 42), .op (.load .one 1 (.tmp 41)), none⟩,
  ⟨(some 43), .op (.lenS (.tmp 42)), none⟩,
  ⟨(some 44), .op (.mv (.const (.int .i64 0))), none⟩]
def x39_12 : List XOper := [⟨(some 45), .op (.bin .lss (.tmp 44) (.tmp 43)), none⟩]
def x39_13 : XCode := .cnd (.tmp 45) .skip (.exit 0)
def x39_14 : List XOper := [⟨(some 46), .op (.iaddrS 8 (.tmp 42) (.tmp 44)), none⟩,
  ⟨(some 47), .op (.load .agg 8 (.tmp 46)), none⟩,
  ⟨(some 4), .op (.new [(.string ⟨#[]⟩), (.int .i64 0), (.int .i64 0), (.int .i64 0), (.int .i64 0), (.int .i64 0), (.string ⟨#[]⟩), (.int .i64 0)]), none⟩,
  ⟨none, .op (.store 8 (.tmp 4) (.tmp 47)), none⟩]
def x39_15 : List XOper := [⟨(some 48), .op (.load .agg 8 (.tmp 4)), none⟩,
  ⟨(some 49), .callF 51 [(.tmp 48)], none⟩,
  ⟨(some 50), .op (.un .not (.tmp 49)), none⟩]
def x39_16 : List XOper := [⟨(some 2), .op (.mv (.const (.int .i64 2))), none⟩]
def x39_17 : XCode := .seq (.region x39_16) .ret
def x39_18 : XCode := .cnd (.tmp 50) x39_17 .skip
def x39_19 : XCode := .seq (.region x39_15) x39_18
def x39_20 : XCode := .seq (.region x39_14) x39_19
def x39_21 : XCode := .block 1 x39_20
def x39_22 : List XOper := [⟨(some 51), .op (.bin .add (.tmp 44) (.const (.int .i64 1))), none⟩,
  ⟨(some 44), .op (.mv (.tmp 51)), none⟩]
def x39_23 : XCode := .seq x39_21 (.region x39_22)
def x39_24 : XCode := .seq x39_13 x39_23
def x39_25 : XCode := .seq (.region x39_12) x39_24
def x39_26 : XCode := .loop x39_25
def x39_27 : XCode := .block 0 x39_26
def x39_28 : XCode := .seq (.region x39_11) x39_27
def x39_29 : List XOper := [⟨(some 52), .op (.mv (.tmp 0)), none⟩,
  ⟨(some 53), .op (.nilck (.tmp 52)), none⟩,
  ⟨(some 54), .op (.faddr 0 (.tmp 53)), none⟩,
  ⟨(some 55), .op (.load .one 1 (.tmp 54)), none⟩,
  ⟨(some 56), .op (.lenS (.tmp 55)), none⟩,
  ⟨(some 57), .op (.mv (.const (.int .i64 0))), none⟩]
def x39_30 : List XOper := [⟨(some 58), .op (.bin .lss (.tmp 57) (.tmp 56)), none⟩]
def x39_31 : XCode := .cnd (.tmp 58) .skip (.exit 2)
def x39_32 : List XOper := [⟨(some 59), .op (.iaddrS 8 (.tmp 55) (.tmp 57)), none⟩,
  ⟨(some 60), .op (.load .agg 8 (.tmp 59)), none⟩,
  ⟨(some 6), .op (.new [(.string ⟨#[]⟩), (.int .i64 0), (.int .i64 0), (.int .i64 0), (.int .i64 0), (.int .i64 0), (.string ⟨#[]⟩), (.int .i64 0)]), none⟩,
  ⟨none, .op (.store 8 (.tmp 6) (.tmp 60)), none⟩]
def x39_33 : List XOper := [⟨(some 62), .op (.mv (.tmp 0)), none⟩,
  ⟨(some 63), .op (.nilck (.tmp 62)), none⟩,
  ⟨(some 64), .op (.faddr 3 (.tmp 63)), none⟩,
  ⟨(some 65), .op (.load .one 1 (.tmp 64)), none⟩,
  ⟨(some 66), .op (.faddr 0 (.tmp 6)), none⟩,
  ⟨(some 67), .op (.load .str 1 (.tmp 66)), none⟩,
  ⟨(some 68), .op (.lookup 9 3 .string (.int .i64 0) true (.tmp 65) (.tmp 67)), none⟩,
  ⟨(some 61), .op (.mv (.tmp 68)), none⟩,
  ⟨(some 69), .op (.ext (.tmp 61) 0), none⟩,
  ⟨(some 70), .op (.ext (.tmp 61) 1), none⟩,
  ⟨(some 7), .op (.mv (.tmp 69)), none⟩,
  ⟨(some 8), .op (.mv (.tmp 70)), none⟩]
def x39_34 : List XOper := [⟨(some 71), .op (.mv (.tmp 8)), none⟩]
def x39_35 : List XOper := [⟨(some 2), .op (.mv (.const (.int .i64 18))), none⟩]
def x39_36 : XCode := .seq (.region x39_35) .ret
def x39_37 : XCode := .cnd (.tmp 71) x39_36 .skip
def x39_38 : XCode := .seq (.region x39_34) x39_37
def x39_39 : XCode := .seq (.draw x39_33 [[], [0], [0, 1], [0, 1, 2], [], [4], [0, 1, 2, 3, 4, 5], [0, 1, 2, 3, 4, 5, 6], [0, 1, 2, 3, 4, 5, 6, 7], [0, 1, 2, 3, 4, 5, 6, 7], [0, 1, 2, 3, 4, 5, 6, 7, 8], [0, 1, 2, 3, 4, 5, 6, 7, 8, 9, 10]]) x39_38
def x39_40 : List XOper := [⟨(some 72), .op (.faddr 0 (.tmp 6)), none⟩,
  ⟨(some 73), .op (.load .str 1 (.tmp 72)), none⟩,
  ⟨(some 74), .op (.bin .neq (.tmp 73) (.const (.string ⟨#[]⟩))), none⟩]
def x39_41 : List XOper := [⟨(some 75), .op (.mv (.tmp 0)), none⟩,
  ⟨(some 76), .op (.nilck (.tmp 75)), none⟩,
  ⟨(some 77), .op (.faddr 3 (.tmp 76)), none⟩,
  ⟨(some 78), .op (.load .one 1 (.tmp 77)), none⟩,
  ⟨(some 79), .op (.faddr 0 (.tmp 6)), none⟩,
  ⟨(some 80), .op (.load .str 1 (.tmp 79)), none⟩,
  ⟨none, .op (.mapupd 9 3 .string (.tmp 78) (.tmp 80) (.const (.int .i64 0))), none⟩]
def x39_42 : XCode := .cnd (.tmp 74) (.draw x39_41 [[], [0], [0, 1], [0, 1, 2], [], [4], [0, 1, 2, 3, 4, 5]]) .skip
def x39_43 : XCode := .seq (.region x39_40) x39_42
def x39_44 : XCode := .seq x39_39 x39_43
def x39_45 : XCode := .seq (.region x39_32) x39_44
def x39_46 : XCode := .block 3 x39_45
def x39_47 : List XOper := [⟨(some 81), .op (.bin .add (.tmp 57) (.const (.int .i64 1))), none⟩,
  ⟨(some 57), .op (.mv (.tmp 81)), none⟩]
def x39_48 : XCode := .seq x39_46 (.region x39_47)
def x39_49 : XCode := .seq x39_31 x39_48
def x39_50 : XCode := .seq (.region x39_30) x39_49
def x39_51 : XCode := .loop x39_50
def x39_52 : XCode := .block 2 x39_51
def x39_53 : XCode := .seq (.region x39_29) x39_52
def x39_54 : List XOper := [⟨(some 82), .op (.mv (.tmp 0)), none⟩,
  ⟨(some 83), .op (.nilck (.tmp 82)), none⟩,
  ⟨(some 84), .op (.faddr 0 (.tmp 83)), none⟩,
  ⟨(some 85), .op (.load .one 1 (.tmp 84)), none⟩,
  ⟨(some 86), .op (.lenS (.tmp 85)), none⟩,
  ⟨(some 87), .op (.mv (.const (.int .i64 0))), none⟩]
def x39_55 : List XOper := [⟨(some 88), .op (.bin .lss (.tmp 87) (.tmp 86)), none⟩]
def x39_56 : XCode := .cnd (.tmp 88) .skip (.exit 4)
def x39_57 : List XOper := [⟨(some 89), .op (.iaddrS 8 (.tmp 85) (.tmp 87)), none⟩,
  ⟨(some 90), .op (.load .agg 8 (.tmp 89)), none⟩,
  ⟨(some 10), .op (.new [(.string ⟨#[]⟩), (.int .i64 0), (.int .i64 0), (.int .i64 0), (.int .i64 0), (.int .i64 0), (.string ⟨#[]⟩), (.int .i64 0)]), none⟩,
  ⟨none, .op (.store 8 (.tmp 10) (.tmp 90)), none⟩]
def x39_58 : List XOper := [⟨(some 92), .op (.mv (.tmp 0)), none⟩,
  ⟨(some 93), .op (.nilck (.tmp 92)), none⟩,
  ⟨(some 94), .op (.faddr 3 (.tmp 93)), none⟩,
  ⟨(some 95), .op (.load .one 1 (.tmp 94)), none⟩,
  ⟨(some 96), .op (.faddr 6 (.tmp 10)), none⟩,
  ⟨(some 97), .op (.load .str 1 (.tmp 96)), none⟩,
  ⟨(some 98), .op (.lookup 9 3 .string (.int .i64 0) true (.tmp 95) (.tmp 97)), none⟩,
  ⟨(some 91), .op (.mv (.tmp 98)), none⟩,
  ⟨(some 99), .op (.ext (.tmp 91) 0), none⟩,
  ⟨(some 100), .op (.ext (.tmp 91) 1), none⟩,
  ⟨(some 11), .op (.mv (.tmp 99)), none⟩,
  ⟨(some 12), .op (.mv (.tmp 100)), none⟩]
def x39_59 : List XOper := [⟨(some 101), .op (.faddr 6 (.tmp 10)), none⟩,
  ⟨(some 102), .op (.load .str 1 (.tmp 101)), none⟩,
  ⟨(some 103), .op (.bin .neq (.tmp 102) (.const (.string ⟨#[]⟩))), none⟩,
  ⟨(some 104), .op (.mv (.tmp 103)), none⟩,
  ⟨(some 105), .op (.mv (.tmp 12)), (some (104, true))⟩,
  ⟨(some 106), .op (.un .not (.tmp 105)), (some (104, true))⟩,
  ⟨(some 107), .pick (.tmp 104) (.tmp 106) (.const (.bool false)), none⟩]
def x39_60 : List XOper := [⟨(some 2), .op (.mv (.const (.int .i64 17))), none⟩]
def x39_61 : XCode := .seq (.region x39_60) .ret
def x39_62 : XCode := .cnd (.tmp 107) x39_61 .skip
def x39_63 : XCode := .seq (.region x39_59) x39_62
def x39_64 : XCode := .seq (.draw x39_58 [[], [0], [0, 1], [0, 1, 2], [], [4], [0, 1, 2, 3, 4, 5], [0, 1, 2, 3, 4, 5, 6], [0, 1, 2, 3, 4, 5, 6, 7], [0, 1, 2, 3, 4, 5, 6, 7], [0, 1, 2, 3, 4, 5, 6, 7, 8], [0, 1, 2, 3, 4, 5, 6, 7, 8, 9, 10]]) x39_63
def x39_65 : XCode := .seq (.region x39_57) x39_64
def x39_66 : XCode := .block 5 x39_65
def x39_67 : List XOper := [⟨(some 108), .op (.bin .add (.tmp 87) (.const (.int .i64 1))), none⟩,
  ⟨(some 87), .op (.mv (.tmp 108)), none⟩]
def x39_68 : XCode := .seq x39_66 (.region x39_67)
def x39_69 : XCode := .seq x39_56 x39_68
def x39_70 : XCode := .seq (.region x39_55) x39_69
def x39_71 : XCode := .loop x39_70
def x39_72 : XCode := .block 4 x39_71
def x39_73 : XCode := .seq (.region x39_54) x39_72
def x39_74 : List XOper := [⟨(some 2), .op (.mv (.const (.int .i64 0))), none⟩]
def x39_75 : XCode := .seq (.region x39_74) .ret
def x39_76 : XCode := .seq x39_73 x39_75
def x39_77 : XCode := .seq x39_53 x39_76
def x39_78 : XCode := .seq x39_28 x39_77
def x39_79 : XCode := .seq x39_10 x39_78
def x39_80 : XCode := .seq x39_5 x39_79
def x39_81 : XCode := .seq (.region x39_0) x39_80
def x39 : XCode := x39_81
theorem fx39 : fnx Try.prog 39 = some (109, [(2, none)], x39) := by kernel_rfl
def x40_0 : List XOper := [⟨(some 5), .op (.mv (.tmp 0)), none⟩,
  ⟨(some 6), .op (.nilck (.tmp 5)), none⟩,
  ⟨(some 7), .op (.faddr 2 (.tmp 6)), none⟩,
  ⟨(some 8), .op (.load (.int .i64) 1 (.tmp 7)), none⟩,
  ⟨(some 2), .op (.mv (.tmp 8)), none⟩]
def x40_1 : List XOper := [⟨(some 9), .op (.mv (.tmp 0)), none⟩,
  ⟨(some 10), .op (.nilck (.tmp 9)), none⟩,
  ⟨(some 11), .op (.faddr 0 (.tmp 10)), none⟩,
  ⟨(some 12), .op (.load .one 1 (.tmp 11)), none⟩,
  ⟨(some 13), .op (.lenS (.tmp 12)), none⟩,
  ⟨(some 14), .op (.mv (.const (.int .i64 0))), none⟩]
def x40_2 : List XOper := [⟨(some 15), .op (.bin .lss (.tmp 14) (.tmp 13)), none⟩]
def x40_3 : XCode := .cnd (.tmp 15) .skip (.exit 0)
def x40_4 : List XOper := [⟨(some 16), .op (.mv (.tmp 14)), none⟩,
  ⟨(some 17), .op (.iaddrS 8 (.tmp 12) (.tmp 14)), none⟩,
  ⟨(some 18), .op (.load .agg 8 (.tmp 17)), none⟩,
  ⟨(some 4), .op (.new [(.string ⟨#[]⟩), (.int .i64 0), (.int .i64 0), (.int .i64 0), (.int .i64 0), (.int .i64 0), (.string ⟨#[]⟩), (.int .i64 0)]), none⟩,
  ⟨(some 3), .op (.mv (.tmp 16)), none⟩,
  ⟨none, .op (.store 8 (.tmp 4) (.tmp 18)), none⟩]
def x40_5 : List XOper := [⟨(some 19), .op (.mv (.tmp 0)), none⟩,
  ⟨(some 20), .op (.nilck (.tmp 19)), none⟩,
  ⟨(some 21), .op (.faddr 4 (.tmp 20)), none⟩,
  ⟨(some 22), .op (.load .one 1 (.tmp 21)), none⟩,
  ⟨(some 23), .op (.mv (.tmp 3)), none⟩,
  ⟨(some 24), .op (.mv (.tmp 2)), none⟩,
  ⟨(some 25), .op (.iaddrS 1 (.tmp 22) (.tmp 23)), none⟩,
  ⟨none, .op (.store 1 (.tmp 25) (.tmp 24)), none⟩]
def x40_6 : List XOper := [⟨(some 29), .op (.faddr 0 (.tmp 4)), none⟩,
  ⟨(some 30), .op (.load .str 1 (.tmp 29)), none⟩,
  ⟨(some 31), .op (.bin .neq (.tmp 30) (.const (.string ⟨#[]⟩))), none⟩,
  ⟨(some 28), .op (.mv (.tmp 31)), none⟩]
def x40_7 : List XOper := [⟨(some 32), .op (.mv (.tmp 0)), none⟩,
  ⟨(some 33), .op (.nilck (.tmp 32)), none⟩,
  ⟨(some 34), .op (.faddr 3 (.tmp 33)), none⟩,
  ⟨(some 35), .op (.load .one 1 (.tmp 34)), none⟩,
  ⟨(some 36), .op (.faddr 0 (.tmp 4)), none⟩,
  ⟨(some 37), .op (.load .str 1 (.tmp 36)), none⟩,
  ⟨(some 38), .op (.mv (.tmp 2)), none⟩,
  ⟨none, .op (.mapupd 9 3 .string (.tmp 35) (.tmp 37) (.tmp 38)), none⟩]
def x40_8 : List XOper := [⟨(some 40), .op (.mv (.tmp 0)), none⟩,
  ⟨(some 41), .op (.nilck (.tmp 40)), none⟩,
  ⟨(some 42), .op (.faddr 1 (.tmp 41)), none⟩,
  ⟨(some 43), .op (.load .one 1 (.tmp 42)), none⟩,
  ⟨(some 44), .op (.mv (.tmp 3)), none⟩,
  ⟨(some 45), .op (.iaddrS 1 (.tmp 43) (.tmp 44)), none⟩,
  ⟨(some 46), .op (.load .bool 1 (.tmp 45)), none⟩,
  ⟨(some 39), .op (.mv (.tmp 46)), none⟩]
def x40_9 : List XOper := [⟨(some 47), .op (.mv (.tmp 2)), none⟩,
  ⟨(some 48), .op (.bin .add (.tmp 47) (.const (.int .i64 8))), none⟩,
  ⟨(some 2), .op (.mv (.tmp 48)), none⟩]
def x40_10 : List XOper := [⟨(some 26), .op (.mv (.tmp 2)), none⟩,
  ⟨(some 27), .op (.bin .add (.tmp 26) (.const (.int .i64 4))), none⟩,
  ⟨(some 2), .op (.mv (.tmp 27)), none⟩]
def x40_11 : XCode := .cnd (.tmp 39) (.region x40_9) (.region x40_10)
def x40_12 : XCode := .seq (.region x40_8) x40_11
def x40_13 : XCode := .cnd (.tmp 28) (.draw x40_7 [[], [0], [0, 1], [0, 1, 2], [], [4], [], [0, 1, 2, 3, 4, 5, 6]]) x40_12
def x40_14 : XCode := .seq (.region x40_6) x40_13
def x40_15 : XCode := .block 2 x40_14
def x40_16 : XCode := .seq (.region x40_5) x40_15
def x40_17 : XCode := .seq (.region x40_4) x40_16
def x40_18 : XCode := .block 1 x40_17
def x40_19 : List XOper := [⟨(some 49), .op (.bin .add (.tmp 14) (.const (.int .i64 1))), none⟩,
  ⟨(some 14), .op (.mv (.tmp 49)), none⟩]
def x40_20 : XCode := .seq x40_18 (.region x40_19)
def x40_21 : XCode := .seq x40_3 x40_20
def x40_22 : XCode := .seq (.region x40_2) x40_21
def x40_23 : XCode := .loop x40_22
def x40_24 : XCode := .block 0 x40_23
def x40_25 : XCode := .seq (.region x40_1) x40_24
def x40_26 : XCode := .seq (.region x40_0) x40_25
def x40 : XCode := x40_26
theorem fx40 : fnx Try.prog 40 = some (50, [], x40) := by kernel_rfl
def x41_0 : List XOper := [⟨(some 2), .op (.mv (.const (.bool false))), none⟩]
def x41_1 : List XOper := [⟨(some 3), .op (.mv (.const (.bool false))), none⟩]
def x41_2 : List XOper := [⟨(some 6), .op (.mv (.tmp 0)), none⟩,
  ⟨(some 7), .op (.nilck (.tmp 6)), none⟩,
  ⟨(some 8), .op (.faddr 0 (.tmp 7)), none⟩,
  ⟨(some 9), .op (.load .one 1 (.tmp 8)), none⟩,
  ⟨(some 10), .op (.lenS (.tmp 9)), none⟩,
  ⟨(some 11), .op (.mv (.const (.int .i64 0))), none⟩]
def x41_3 : List XOper := [⟨(some 12), .op (.bin .lss (.tmp 11) (.tmp 10)), none⟩]
def x41_4 : XCode := .cnd (.tmp 12) .skip (.exit 0)
def x41_5 : List XOper := [⟨(some 13), .op (.mv (.tmp 11)), none⟩,
  ⟨(some 14), .op (.iaddrS 8 (.tmp 9) (.tmp 11)), none⟩,
  ⟨(some 15), .op (.load .agg 8 (.tmp 14)), none⟩,
  ⟨(some 5), .op (.new [(.string ⟨#[]⟩), (.int .i64 0), (.int .i64 0), (.int .i64 0), (.int .i64 0), (.int .i64 0), (.string ⟨#[]⟩), (.int .i64 0)]), none⟩,
  ⟨(some 4), .op (.mv (.tmp 13)), none⟩,
  ⟨none, .op (.store 8 (.tmp 5) (.tmp 15)), none⟩]
def x41_6 : List XOper := [⟨(some 16), .op (.faddr 0 (.tmp 5)), none⟩,
  ⟨(some 17), .op (.load .str 1 (.tmp 16)), none⟩,
  ⟨(some 18), .op (.bin .eql (.tmp 17) (.const (.string ⟨#[]⟩))), none⟩,
  ⟨(some 19), .op (.mv (.tmp 18)), none⟩,
  ⟨(some 20), .op (.faddr 1 (.tmp 5)), (some (19, true))⟩,
  ⟨(some 21), .op (.faddr 0 (.tmp 20)), (some (19, true))⟩,
  ⟨(some 22), .op (.load (.int .i64) 1 (.tmp 21)), (some (19, true))⟩,
  ⟨(some 23), .callF 52 [(.tmp 22)], (some (19, true))⟩,
  ⟨(some 24), .pick (.tmp 19) (.tmp 23) (.const (.bool false)), none⟩,
  ⟨(some 25), .op (.mv (.tmp 24)), none⟩,
  ⟨(some 26), .op (.faddr 6 (.tmp 5)), (some (25, true))⟩,
  ⟨(some 27), .op (.load .str 1 (.tmp 26)), (some (25, true))⟩,
  ⟨(some 28), .op (.bin .neq (.tmp 27) (.const (.string ⟨#[]⟩))), (some (25, true))⟩,
  ⟨(some 29), .pick (.tmp 25) (.tmp 28) (.const (.bool false)), none⟩,
  ⟨(some 30), .op (.mv (.tmp 29)), none⟩,
  ⟨(some 31), .op (.mv (.tmp 0)), (some (30, true))⟩,
  ⟨(some 32), .op (.nilck (.tmp 31)), (some (30, true))⟩,
  ⟨(some 33), .op (.faddr 1 (.tmp 32)), (some (30, true))⟩,
  ⟨(some 34), .op (.load .one 1 (.tmp 33)), (some (30, true))⟩,
  ⟨(some 35), .op (.mv (.tmp 4)), (some (30, true))⟩,
  ⟨(some 36), .op (.iaddrS 1 (.tmp 34) (.tmp 35)), (some (30, true))⟩,
  ⟨(some 37), .op (.load .bool 1 (.tmp 36)), (some (30, true))⟩,
  ⟨(some 38), .op (.un .not (.tmp 37)), (some (30, true))⟩,
  ⟨(some 39), .pick (.tmp 30) (.tmp 38) (.const (.bool false)), none⟩,
  ⟨(some 40), .op (.mv (.tmp 39)), none⟩,
  ⟨(some 41), .op (.faddr 1 (.tmp 5)), (some (40, true))⟩,
  ⟨(some 42), .op (.faddr 0 (.tmp 41)), (some (40, true))⟩,
  ⟨(some 43), .op (.load (.int .i64) 1 (.tmp 42)), (some (40, true))⟩,
  ⟨(some 44), .op (.mv (.tmp 0)), (some (40, true))⟩,
  ⟨(some 45), .op (.nilck (.tmp 44)), (some (40, true))⟩,
  ⟨(some 46), .op (.faddr 3 (.tmp 45)), (some (40, true))⟩,
  ⟨(some 47), .op (.load .one 1 (.tmp 46)), (some (40, true))⟩,
  ⟨(some 48), .op (.faddr 6 (.tmp 5)), (some (40, true))⟩,
  ⟨(some 49), .op (.load .str 1 (.tmp 48)), (some (40, true))⟩,
  ⟨(some 50), .op (.lookup 9 3 .string (.int .i64 0) false (.tmp 47) (.tmp 49)), (some (40, true))⟩,
  ⟨(some 51), .op (.mv (.tmp 0)), (some (40, true))⟩,
  ⟨(some 52), .op (.nilck (.tmp 51)), (some (40, true))⟩,
  ⟨(some 53), .op (.faddr 4 (.tmp 52)), (some (40, true))⟩,
  ⟨(some 54), .op (.load .one 1 (.tmp 53)), (some (40, true))⟩,
  ⟨(some 55), .op (.mv (.tmp 4)), (some (40, true))⟩,
  ⟨(some 56), .op (.iaddrS 1 (.tmp 54) (.tmp 55)), (some (40, true))⟩,
  ⟨(some 57), .op (.load (.int .i64) 1 (.tmp 56)), (some (40, true))⟩,
  ⟨(some 58), .op (.bin .sub (.tmp 50) (.tmp 57)), (some (40, true))⟩,
  ⟨(some 59), .callF 53 [(.tmp 43), (.tmp 58)], (some (40, true))⟩,
  ⟨(some 60), .op (.un .not (.tmp 59)), (some (40, true))⟩,
  ⟨(some 61), .pick (.tmp 40) (.tmp 60) (.const (.bool false)), none⟩]
def x41_7 : List XOper := [⟨(some 62), .op (.mv (.tmp 0)), none⟩,
  ⟨(some 63), .op (.nilck (.tmp 62)), none⟩,
  ⟨(some 64), .op (.faddr 1 (.tmp 63)), none⟩,
  ⟨(some 65), .op (.load .one 1 (.tmp 64)), none⟩,
  ⟨(some 66), .op (.mv (.tmp 4)), none⟩,
  ⟨(some 67), .op (.iaddrS 1 (.tmp 65) (.tmp 66)), none⟩,
  ⟨none, .op (.store 1 (.tmp 67) (.const (.bool true))), none⟩,
  ⟨(some 3), .op (.mv (.const (.bool true))), none⟩]
def x41_8 : XCode := .cnd (.tmp 61) (.region x41_7) .skip
def x41_9 : XCode := .seq (.draw x41_6 [[], [0], [0, 1], [0, 1, 2], [0, 1, 2, 3], [0, 1, 2, 3, 4], [0, 1, 2, 3, 4, 5], [0, 1, 2, 3, 4, 5, 6], [0, 1, 2, 3, 4, 5, 6, 7], [0, 1, 2, 3, 4, 5, 6, 7, 8], [0, 1, 2, 3, 4, 5, 6, 7, 8, 9], [0, 1, 2, 3, 4, 5, 6, 7, 8, 9, 10], [0, 1, 2, 3, 4, 5, 6, 7, 8, 9, 10, 11], [0, 1, 2, 3, 4, 5, 6, 7, 8, 9, 10, 11, 12], [0, 1, 2, 3, 4, 5, 6, 7, 8, 9, 10, 11, 12, 13], [0, 1, 2, 3, 4, 5, 6, 7, 8, 9, 10, 11, 12, 13, 14], [0, 1, 2, 3, 4, 5, 6, 7, 8, 9, 10, 11, 12, 13, 14, 15], [0, 1, 2, 3, 4, 5, 6, 7, 8, 9, 10, 11, 12, 13, 14, 15, 16], [0, 1, 2, 3, 4, 5, 6, 7, 8, 9, 10, 11, 12, 13, 14, 15, 16, 17], [0, 1, 2, 3, 4, 5, 6, 7, 8, 9, 10, 11, 12, 13, 14], [0, 1, 2, 3, 4, 5, 6, 7, 8, 9, 10, 11, 12, 13, 14, 15, 16, 17, 18, 19], [0, 1, 2, 3, 4, 5, 6, 7, 8, 9, 10, 11, 12, 13, 14, 15, 16, 17, 18, 19, 20], [0, 1, 2, 3, 4, 5, 6, 7, 8, 9, 10, 11, 12, 13, 14, 15, 16, 17, 18, 19, 20, 21], [0, 1, 2, 3, 4, 5, 6, 7, 8, 9, 10, 11, 12, 13, 14, 15, 16, 17, 18, 19, 20, 21, 22], [0, 1, 2, 3, 4, 5, 6, 7, 8, 9, 10, 11, 12, 13, 14, 15, 16, 17, 18, 19, 20, 21, 22, 23], [0, 1, 2, 3, 4, 5, 6, 7, 8, 9, 10, 11, 12, 13, 14, 15, 16, 17, 18, 19, 20, 21, 22, 23, 24], [0, 1, 2, 3, 4, 5, 6, 7, 8, 9, 10, 11, 12, 13, 14, 15, 16, 17, 18, 19, 20, 21, 22, 23, 24, 25], [0, 1, 2, 3, 4, 5, 6, 7, 8, 9, 10, 11, 12, 13, 14, 15, 16, 17, 18, 19, 20, 21, 22, 23, 24, 25, 26], [0, 1, 2, 3, 4, 5, 6, 7, 8, 9, 10, 11, 12, 13, 14, 15, 16, 17, 18, 19, 20, 21, 22, 23, 24], [0, 1, 2, 3, 4, 5, 6, 7, 8, 9, 10, 11, 12, 13, 14, 15, 16, 17, 18, 19, 20, 21, 22, 23, 24, 28], [0, 1, 2, 3, 4, 5, 6, 7, 8, 9, 10, 11, 12, 13, 14, 15, 16, 17, 18, 19, 20, 21, 22, 23, 24, 28, 29], [0, 1, 2, 3, 4, 5, 6, 7, 8, 9, 10, 11, 12, 13, 14, 15, 16, 17, 18, 19, 20, 21, 22, 23, 24, 28, 29, 30], [0, 1, 2, 3, 4, 5, 6, 7, 8, 9, 10, 11, 12, 13, 14, 15, 16, 17, 18, 19, 20, 21, 22, 23, 24], [0, 1, 2, 3, 4, 5, 6, 7, 8, 9, 10, 11, 12, 13, 14, 15, 16, 17, 18, 19, 20, 21, 22, 23, 24, 32], [0, 1, 2, 3, 4, 5, 6, 7, 8, 9, 10, 11, 12, 13, 14, 15, 16, 17, 18, 19, 20, 21, 22, 23, 24, 28, 29, 30, 31, 32, 33], [0, 1, 2, 3, 4, 5, 6, 7, 8, 9, 10, 11, 12, 13, 14, 15, 16, 17, 18, 19, 20, 21, 22, 23, 24], [0, 1, 2, 3, 4, 5, 6, 7, 8, 9, 10, 11, 12, 13, 14, 15, 16, 17, 18, 19, 20, 21, 22, 23, 24, 35], [0, 1, 2, 3, 4, 5, 6, 7, 8, 9, 10, 11, 12, 13, 14, 15, 16, 17, 18, 19, 20, 21, 22, 23, 24, 35, 36], [0, 1, 2, 3, 4, 5, 6, 7, 8, 9, 10, 11, 12, 13, 14, 15, 16, 17, 18, 19, 20, 21, 22, 23, 24, 35, 36, 37], [0, 1, 2, 3, 4, 5, 6, 7, 8, 9, 10, 11, 12, 13, 14, 15, 16, 17, 18, 19, 20, 21, 22, 23, 24], [0, 1, 2, 3, 4, 5, 6, 7, 8, 9, 10, 11, 12, 13, 14, 15, 16, 17, 18, 19, 20, 21, 22, 23, 24, 35, 36, 37, 38, 39], [0, 1, 2, 3, 4, 5, 6, 7, 8, 9, 10, 11, 12, 13, 14, 15, 16, 17, 18, 19, 20, 21, 22, 23, 24, 35, 36, 37, 38, 39, 40], [0, 1, 2, 3, 4, 5, 6, 7, 8, 9, 10, 11, 12, 13, 14, 15, 16, 17, 18, 19, 20, 21, 22, 23, 24, 28, 29, 30, 31, 32, 33, 34, 35, 36, 37, 38, 39, 40, 41], [0, 1, 2, 3, 4, 5, 6, 7, 8, 9, 10, 11, 12, 13, 14, 15, 16, 17, 18, 19, 20, 21, 22, 23, 24, 25, 26, 27, 28, 29, 30, 31, 32, 33, 34, 35, 36, 37, 38, 39, 40, 41, 42], [0, 1, 2, 3, 4, 5, 6, 7, 8, 9, 10, 11, 12, 13, 14, 15, 16, 17, 18, 19, 20, 21, 22, 23, 24, 25, 26, 27, 28, 29, 30, 31, 32, 33, 34, 35, 36, 37, 38, 39, 40, 41, 42, 43], [0, 1, 2, 3, 4, 5, 6, 7, 8, 9, 10, 11, 12, 13, 14, 15, 16, 17, 18, 19, 20, 21, 22, 23, 24, 25, 26, 27, 28, 29, 30, 31, 32, 33, 34, 35, 36, 37, 38, 39, 40, 41, 42, 43, 44]]) x41_8
def x41_10 : XCode := .seq (.region x41_5) x41_9
def x41_11 : XCode := .block 1 x41_10
def x41_12 : List XOper := [⟨(some 68), .op (.bin .add (.tmp 11) (.const (.int .i64 1))), none⟩,
  ⟨(some 11), .op (.mv (.tmp 68)), none⟩]
def x41_13 : XCode := .seq x41_11 (.region x41_12)
def x41_14 : XCode := .seq x41_4 x41_13
def x41_15 : XCode := .seq (.region x41_3) x41_14
def x41_16 : XCode := .loop x41_15
def x41_17 : XCode := .block 0 x41_16
def x41_18 : XCode := .seq (.region x41_2) x41_17
def x41_19 : List XOper := [⟨(some 69), .op (.mv (.tmp 3)), none⟩,
  ⟨(some 2), .op (.mv (.tmp 69)), none⟩]
def x41_20 : XCode := .seq (.region x41_19) .ret
def x41_21 : XCode := .seq x41_18 x41_20
def x41_22 : XCode := .seq (.region x41_1) x41_21
def x41_23 : XCode := .seq (.region x41_0) x41_22
def x41 : XCode := x41_23
theorem fx41 : fnx Try.prog 41 = some (70, [(2, none)], x41) := by kernel_rfl
def x42_0 : List XOper := [⟨(some 4), .op (.mv (.const (.slice none 0 0))), none⟩]
def x42_1 : List XOper := [⟨(some 8), .op (.mv (.tmp 0)), none⟩,
  ⟨(some 9), .op (.nilck (.tmp 8)), none⟩,
  ⟨(some 10), .op (.faddr 0 (.tmp 9)), none⟩,
  ⟨(some 11), .op (.load .one 1 (.tmp 10)), none⟩,
  ⟨(some 12), .op (.mv (.tmp 1)), none⟩,
  ⟨(some 13), .op (.iaddrS 8 (.tmp 11) (.tmp 12)), none⟩,
  ⟨(some 14), .op (.faddr 1 (.tmp 13)), none⟩,
  ⟨(some 15), .op (.load .agg 5 (.tmp 14)), none⟩,
  ⟨(some 5), .op (.new [(.int .i64 0), (.int .i64 0), (.int .i64 0), (.int .i64 0), (.int .i64 0)]), none⟩,
  ⟨none, .op (.store 5 (.tmp 5) (.tmp 15)), none⟩]
def x42_2 : List XOper := [⟨(some 16), .op (.mv (.tmp 0)), none⟩,
  ⟨(some 17), .op (.nilck (.tmp 16)), none⟩,
  ⟨(some 18), .op (.faddr 0 (.tmp 17)), none⟩,
  ⟨(some 19), .op (.load .one 1 (.tmp 18)), none⟩,
  ⟨(some 20), .op (.mv (.tmp 1)), none⟩,
  ⟨(some 21), .op (.iaddrS 8 (.tmp 19) (.tmp 20)), none⟩,
  ⟨(some 22), .op (.faddr 6 (.tmp 21)), none⟩,
  ⟨(some 23), .op (.load .str 1 (.tmp 22)), none⟩,
  ⟨(some 6), .op (.mv (.tmp 23)), none⟩]
def x42_3 : List XOper := [⟨(some 24), .op (.mv (.tmp 0)), none⟩,
  ⟨(some 25), .op (.nilck (.tmp 24)), none⟩,
  ⟨(some 26), .op (.faddr 3 (.tmp 25)), none⟩,
  ⟨(some 27), .op (.load .one 1 (.tmp 26)), none⟩,
  ⟨(some 28), .op (.mv (.tmp 6)), none⟩,
  ⟨(some 29), .op (.lookup 9 3 .string (.int .i64 0) false (.tmp 27) (.tmp 28)), none⟩,
  ⟨(some 30), .op (.mv (.tmp 0)), none⟩,
  ⟨(some 31), .op (.nilck (.tmp 30)), none⟩,
  ⟨(some 32), .op (.faddr 4 (.tmp 31)), none⟩,
  ⟨(some 33), .op (.load .one 1 (.tmp 32)), none⟩,
  ⟨(some 34), .op (.mv (.tmp 1)), none⟩,
  ⟨(some 35), .op (.iaddrS 1 (.tmp 33) (.tmp 34)), none⟩,
  ⟨(some 36), .op (.load (.int .i64) 1 (.tmp 35)), none⟩,
  ⟨(some 37), .op (.bin .sub (.tmp 29) (.tmp 36)), none⟩,
  ⟨(some 7), .op (.mv (.tmp 37)), none⟩]
def x42_4 : List XOper := [⟨(some 41), .op (.mv (.tmp 6)), none⟩,
  ⟨(some 42), .op (.bin .eql (.tmp 41) (.const (.string ⟨#[]⟩))), none⟩,
  ⟨(some 40), .op (.mv (.tmp 42)), none⟩]
def x42_5 : List XOper := [⟨(some 44), .op (.mv (.tmp 0)), none⟩,
  ⟨(some 45), .op (.nilck (.tmp 44)), none⟩,
  ⟨(some 46), .op (.faddr 0 (.tmp 45)), none⟩,
  ⟨(some 47), .op (.load .one 1 (.tmp 46)), none⟩,
  ⟨(some 48), .op (.mv (.tmp 1)), none⟩,
  ⟨(some 49), .op (.iaddrS 8 (.tmp 47) (.tmp 48)), none⟩,
  ⟨(some 50), .op (.faddr 7 (.tmp 49)), none⟩,
  ⟨(some 51), .op (.load (.int .i64) 1 (.tmp 50)), none⟩,
  ⟨(some 52), .op (.bin .eql (.tmp 51) (.const (.int .i64 1))), none⟩,
  ⟨(some 43), .op (.mv (.tmp 52)), none⟩]
def x42_6 : List XOper := [⟨(some 53), .op (.mv (.tmp 0)), none⟩,
  ⟨(some 54), .op (.nilck (.tmp 53)), none⟩,
  ⟨(some 55), .op (.faddr 3 (.tmp 54)), none⟩,
  ⟨(some 56), .op (.load .one 1 (.tmp 55)), none⟩,
  ⟨(some 57), .op (.mv (.tmp 6)), none⟩,
  ⟨(some 58), .op (.lookup 9 3 .string (.int .i64 0) false (.tmp 56) (.tmp 57)), none⟩,
  ⟨(some 59), .callF 54 [(.tmp 58)], none⟩,
  ⟨(some 60), .op (.faddr 4 (.tmp 5)), none⟩,
  ⟨none, .op (.store 1 (.tmp 60) (.tmp 59)), none⟩]
def x42_7 : List XOper := [⟨(some 62), .op (.mv (.tmp 0)), none⟩,
  ⟨(some 63), .op (.nilck (.tmp 62)), none⟩,
  ⟨(some 64), .op (.faddr 0 (.tmp 63)), none⟩,
  ⟨(some 65), .op (.load .one 1 (.tmp 64)), none⟩,
  ⟨(some 66), .op (.mv (.tmp 1)), none⟩,
  ⟨(some 67), .op (.iaddrS 8 (.tmp 65) (.tmp 66)), none⟩,
  ⟨(some 68), .op (.faddr 7 (.tmp 67)), none⟩,
  ⟨(some 69), .op (.load (.int .i64) 1 (.tmp 68)), none⟩,
  ⟨(some 70), .op (.bin .eql (.tmp 69) (.const (.int .i64 2))), none⟩,
  ⟨(some 61), .op (.mv (.tmp 70)), none⟩]
def x42_8 : List XOper := [⟨(some 71), .op (.mv (.tmp 0)), none⟩,
  ⟨(some 72), .op (.nilck (.tmp 71)), none⟩,
  ⟨(some 73), .op (.faddr 3 (.tmp 72)), none⟩,
  ⟨(some 74), .op (.load .one 1 (.tmp 73)), none⟩,
  ⟨(some 75), .op (.mv (.tmp 6)), none⟩,
  ⟨(some 76), .op (.lookup 9 3 .string (.int .i64 0) false (.tmp 74) (.tmp 75)), none⟩,
  ⟨(some 77), .callF 55 [(.tmp 76)], none⟩,
  ⟨(some 78), .op (.faddr 4 (.tmp 5)), none⟩,
  ⟨none, .op (.store 1 (.tmp 78) (.tmp 77)), none⟩]
def x42_9 : List XOper := [⟨(some 80), .op (.mv (.tmp 0)), none⟩,
  ⟨(some 81), .op (.nilck (.tmp 80)), none⟩,
  ⟨(some 82), .op (.faddr 1 (.tmp 81)), none⟩,
  ⟨(some 83), .op (.load .one 1 (.tmp 82)), none⟩,
  ⟨(some 84), .op (.mv (.tmp 1)), none⟩,
  ⟨(some 85), .op (.iaddrS 1 (.tmp 83) (.tmp 84)), none⟩,
  ⟨(some 86), .op (.load .bool 1 (.tmp 85)), none⟩,
  ⟨(some 79), .op (.mv (.tmp 86)), none⟩]
def x42_10 : List XOper := [⟨(some 87), .op (.faddr 0 (.tmp 5)), none⟩,
  ⟨(some 88), .op (.load (.int .i64) 1 (.tmp 87)), none⟩,
  ⟨(some 89), .callF 56 [(.tmp 88)], none⟩,
  ⟨(some 90), .op (.faddr 0 (.tmp 5)), none⟩,
  ⟨none, .op (.store 1 (.tmp 90) (.tmp 89)), none⟩,
  ⟨(some 91), .op (.faddr 4 (.tmp 5)), none⟩,
  ⟨none, .op (.store 1 (.tmp 91) (.const (.int .i64 8))), none⟩]
def x42_11 : List XOper := [⟨(some 92), .op (.load .agg 5 (.tmp 5)), none⟩,
  ⟨(some 93), .op (.mv (.tmp 7)), none⟩,
  ⟨(some 94), .op (.bin .sub (.tmp 93) (.const (.int .i64 4))), none⟩,
  ⟨(some 95), .op (.build [(.int .i64 0), (.int .i64 0), (.int .i64 0), (.int .i64 0), (.int .i64 0)] [(0, 1, (.const (.int .i64 53))), (4, 1, (.tmp 94))]), none⟩,
  ⟨(some 96), .op (.mkslice [(.int .i64 0), (.int .i64 0), (.int .i64 0), (.int .i64 0), (.int .i64 0)] 2 [(0, (.tmp 92)), (1, (.tmp 95))]), none⟩,
  ⟨(some 4), .op (.mv (.tmp 96)), none⟩]
def x42_12 : XCode := .seq (.region x42_11) .ret
def x42_13 : XCode := .seq (.region x42_10) x42_12
def x42_14 : List XOper := [⟨(some 38), .op (.mv (.tmp 7)), none⟩,
  ⟨(some 39), .op (.faddr 4 (.tmp 5)), none⟩,
  ⟨none, .op (.store 1 (.tmp 39) (.tmp 38)), none⟩]
def x42_15 : XCode := .cnd (.tmp 79) x42_13 (.region x42_14)
def x42_16 : XCode := .seq (.region x42_9) x42_15
def x42_17 : XCode := .cnd (.tmp 61) (.region x42_8) x42_16
def x42_18 : XCode := .seq (.region x42_7) x42_17
def x42_19 : XCode := .cnd (.tmp 43) (.region x42_6) x42_18
def x42_20 : XCode := .seq (.region x42_5) x42_19
def x42_21 : XCode := .cnd (.tmp 40) .skip x42_20
def x42_22 : XCode := .seq (.region x42_4) x42_21
def x42_23 : XCode := .block 0 x42_22
def x42_24 : List XOper := [⟨(some 97), .op (.load .agg 5 (.tmp 5)), none⟩,
  ⟨(some 98), .op (.mkslice [(.int .i64 0), (.int .i64 0), (.int .i64 0), (.int .i64 0), (.int .i64 0)] 1 [(0, (.tmp 97))]), none⟩,
  ⟨(some 4), .op (.mv (.tmp 98)), none⟩]
def x42_25 : XCode := .seq (.region x42_24) .ret
def x42_26 : XCode := .seq x42_23 x42_25
def x42_27 : XCode := .seq (.draw x42_3 [[], [0], [0, 1], [0, 1, 2], [], [0, 1, 2, 3, 4], [], [6], [6, 7], [6, 7, 8], [], [6, 7, 8, 9, 10], [6, 7, 8, 9, 10, 11], [0, 1, 2, 3, 4, 5, 6, 7, 8, 9, 10, 11, 12], [0, 1, 2, 3, 4, 5, 6, 7, 8, 9, 10, 11, 12, 13]]) x42_26
def x42_28 : XCode := .seq (.region x42_2) x42_27
def x42_29 : XCode := .seq (.region x42_1) x42_28
def x42_30 : XCode := .seq (.region x42_0) x42_29
def x42 : XCode := x42_30
theorem fx42 : fnx Try.prog 42 = some (99, [(4, none)], x42) := by kernel_rfl
def x43_0 : List XOper := [⟨(some 0), .op (.mv (.const (.map none))), none⟩]
def x43_1 : List XOper := [⟨(some 3), .op (.mkmap 3 104 (.agg #[(.int .u8 0), (.int .u32 0), (.int .u32 0), (.int .u32 0)])), none⟩,
  ⟨(some 1), .op (.new [(.map none)]), none⟩,
  ⟨none, .op (.store 1 (.tmp 1) (.tmp 3)), none⟩]
def x43_2 : List XOper := [⟨(some 4), .op (.mkfunc (.func 57) 0 [(.tmp 1)]), none⟩,
  ⟨(some 2), .op (.mv (.tmp 4)), none⟩]
def x43_3 : List XOper := [⟨(some 5), .op (.mv (.tmp 2)), none⟩,
  ⟨(some 6), .op (.build [(.int .u32 0), (.int .u32 0), (.int .u32 0)] [(0, 1, (.const (.int .u32 1)))]), none⟩,
  ⟨(some 7), .op (.build [(.int .u32 0), (.int .u32 0), (.int .u32 0)] [(0, 1, (.const (.int .u32 2))), (1, 1, (.const (.int .u32 0))), (2, 1, (.const (.int .u32 32)))]), none⟩,
  ⟨(some 8), .op (.build [(.int .u32 0), (.int .u32 0), (.int .u32 0)] [(0, 1, (.const (.int .u32 3))), (1, 1, (.const (.int .u32 1)))]), none⟩,
  ⟨(some 9), .op (.build [(.int .u32 0), (.int .u32 0), (.int .u32 0)] [(0, 1, (.const (.int .u32 4))), (1, 1, (.const (.int .u32 2)))]), none⟩,
  ⟨(some 10), .op (.build [(.int .u32 0), (.int .u32 0), (.int .u32 0)] [(0, 1, (.const (.int .u32 5))), (1, 1, (.const (.int .u32 3)))]), none⟩,
  ⟨(some 11), .op (.build [(.int .u32 0), (.int .u32 0), (.int .u32 0)] [(0, 1, (.const (.int .u32 6))), (1, 1, (.const (.int .u32 4)))]), none⟩,
  ⟨(some 12), .op (.build [(.int .u32 0), (.int .u32 0), (.int .u32 0)] [(0, 1, (.const (.int .u32 7))), (1, 1, (.const (.int .u32 5)))]), none⟩,
  ⟨(some 13), .op (.build [(.int .u32 0), (.int .u32 0), (.int .u32 0)] [(0, 1, (.const (.int .u32 8))), (1, 1, (.const (.int .u32 5))), (2, 1, (.const (.int .u32 32)))]), none⟩,
  ⟨(some 14), .op (.build [(.int .u32 0), (.int .u32 0), (.int .u32 0)] [(0, 1, (.const (.int .u32 9))), (1, 1, (.const (.int .u32 6)))]), none⟩,
  ⟨(some 15), .op (.build [(.int .u32 0), (.int .u32 0), (.int .u32 0)] [(0, 1, (.const (.int .u32 10))), (1, 1, (.const (.int .u32 7)))]), none⟩,
  ⟨(some 16), .op (.mkslice [(.int .u32 0), (.int .u32 0), (.int .u32 0)] 10 [(0, (.tmp 6)), (1, (.tmp 7)), (2, (.tmp 8)), (3, (.tmp 9)), (4, (.tmp 10)), (5, (.tmp 11)), (6, (.tmp 12)), (7, (.tmp 13)), (8, (.tmp 14)), (9, (.tmp 15))]), none⟩,
  ⟨(some 17), .callV (.tmp 5) [(.const (.int .u8 82)), (.const (.int .u32 51)), (.tmp 16)], none⟩]
def x43_4 : List XOper := [⟨(some 18), .op (.mv (.tmp 2)), none⟩,
  ⟨(some 19), .op (.build [(.int .u32 0), (.int .u32 0), (.int .u32 0)] [(0, 1, (.const (.int .u32 11))), (1, 1, (.const (.int .u32 0))), (2, 1, (.const (.int .u32 1)))]), none⟩,
  ⟨(some 20), .op (.build [(.int .u32 0), (.int .u32 0), (.int .u32 0)] [(0, 1, (.const (.int .u32 12))), (1, 1, (.const (.int .u32 1))), (2, 1, (.const (.int .u32 1)))]), none⟩,
  ⟨(some 21), .op (.build [(.int .u32 0), (.int .u32 0), (.int .u32 0)] [(0, 1, (.const (.int .u32 13))), (1, 1, (.const (.int .u32 3))), (2, 1, (.const (.int .u32 1)))]), none⟩,
  ⟨(some 22), .op (.build [(.int .u32 0), (.int .u32 0), (.int .u32 0)] [(0, 1, (.const (.int .u32 14))), (1, 1, (.const (.int .u32 4))), (2, 1, (.const (.int .u32 1)))]), none⟩,
  ⟨(some 23), .op (.build [(.int .u32 0), (.int .u32 0), (.int .u32 0)] [(0, 1, (.const (.int .u32 15))), (1, 1, (.const (.int .u32 5))), (2, 1, (.const (.int .u32 1)))]), none⟩,
  ⟨(some 24), .op (.build [(.int .u32 0), (.int .u32 0), (.int .u32 0)] [(0, 1, (.const (.int .u32 16))), (1, 1, (.const (.int .u32 6))), (2, 1, (.const (.int .u32 1)))]), none⟩,
  ⟨(some 25), .op (.build [(.int .u32 0), (.int .u32 0), (.int .u32 0)] [(0, 1, (.const (.int .u32 17))), (1, 1, (.const (.int .u32 7))), (2, 1, (.const (.int .u32 1)))]), none⟩,
  ⟨(some 26), .op (.mkslice [(.int .u32 0), (.int .u32 0), (.int .u32 0)] 7 [(0, (.tmp 19)), (1, (.tmp 20)), (2, (.tmp 21)), (3, (.tmp 22)), (4, (.tmp 23)), (5, (.tmp 24)), (6, (.tmp 25))]), none⟩,
  ⟨(some 27), .callV (.tmp 18) [(.const (.int .u8 82)), (.const (.int .u32 51)), (.tmp 26)], none⟩]
def x43_5 : List XOper := [⟨(some 28), .op (.mv (.tmp 2)), none⟩,
  ⟨(some 29), .op (.build [(.int .u32 0), (.int .u32 0), (.int .u32 0)] [(0, 1, (.const (.int .u32 18)))]), none⟩,
  ⟨(some 30), .op (.build [(.int .u32 0), (.int .u32 0), (.int .u32 0)] [(0, 1, (.const (.int .u32 19))), (1, 1, (.const (.int .u32 0))), (2, 1, (.const (.int .u32 32)))]), none⟩,
  ⟨(some 31), .op (.build [(.int .u32 0), (.int .u32 0), (.int .u32 0)] [(0, 1, (.const (.int .u32 20))), (1, 1, (.const (.int .u32 1)))]), none⟩,
  ⟨(some 32), .op (.build [(.int .u32 0), (.int .u32 0), (.int .u32 0)] [(0, 1, (.const (.int .u32 21))), (1, 1, (.const (.int .u32 5)))]), none⟩,
  ⟨(some 33), .op (.build [(.int .u32 0), (.int .u32 0), (.int .u32 0)] [(0, 1, (.const (.int .u32 22))), (1, 1, (.const (.int .u32 5))), (2, 1, (.const (.int .u32 32)))]), none⟩,
  ⟨(some 34), .op (.build [(.int .u32 0), (.int .u32 0), (.int .u32 0)] [(0, 1, (.const (.int .u32 23))), (1, 1, (.const (.int .u32 0))), (2, 1, (.const (.int .u32 1)))]), none⟩,
  ⟨(some 35), .op (.build [(.int .u32 0), (.int .u32 0), (.int .u32 0)] [(0, 1, (.const (.int .u32 24))), (1, 1, (.const (.int .u32 4))), (2, 1, (.const (.int .u32 1)))]), none⟩,
  ⟨(some 36), .op (.build [(.int .u32 0), (.int .u32 0), (.int .u32 0)] [(0, 1, (.const (.int .u32 25))), (1, 1, (.const (.int .u32 5))), (2, 1, (.const (.int .u32 1)))]), none⟩,
  ⟨(some 37), .op (.build [(.int .u32 0), (.int .u32 0), (.int .u32 0)] [(0, 1, (.const (.int .u32 26))), (1, 1, (.const (.int .u32 6))), (2, 1, (.const (.int .u32 1)))]), none⟩,
  ⟨(some 38), .op (.build [(.int .u32 0), (.int .u32 0), (.int .u32 0)] [(0, 1, (.const (.int .u32 27))), (1, 1, (.const (.int .u32 7))), (2, 1, (.const (.int .u32 1)))]), none⟩,
  ⟨(some 39), .op (.mkslice [(.int .u32 0), (.int .u32 0), (.int .u32 0)] 10 [(0, (.tmp 29)), (1, (.tmp 30)), (2, (.tmp 31)), (3, (.tmp 32)), (4, (.tmp 33)), (5, (.tmp 34)), (6, (.tmp 35)), (7, (.tmp 36)), (8, (.tmp 37)), (9, (.tmp 38))]), none⟩,
  ⟨(some 40), .callV (.tmp 28) [(.const (.int .u8 82)), (.const (.int .u32 59)), (.tmp 39)], none⟩]
def x43_6 : List XOper := [⟨(some 41), .op (.mv (.tmp 2)), none⟩,
  ⟨(some 42), .op (.build [(.int .u32 0), (.int .u32 0), (.int .u32 0)] [(0, 1, (.const (.int .u32 28)))]), none⟩,
  ⟨(some 43), .op (.build [(.int .u32 0), (.int .u32 0), (.int .u32 0)] [(0, 1, (.const (.int .u32 29))), (1, 1, (.const (.int .u32 2)))]), none⟩,
  ⟨(some 44), .op (.build [(.int .u32 0), (.int .u32 0), (.int .u32 0)] [(0, 1, (.const (.int .u32 30))), (1, 1, (.const (.int .u32 3)))]), none⟩,
  ⟨(some 45), .op (.build [(.int .u32 0), (.int .u32 0), (.int .u32 0)] [(0, 1, (.const (.int .u32 31))), (1, 1, (.const (.int .u32 4)))]), none⟩,
  ⟨(some 46), .op (.build [(.int .u32 0), (.int .u32 0), (.int .u32 0)] [(0, 1, (.const (.int .u32 32))), (1, 1, (.const (.int .u32 6)))]), none⟩,
  ⟨(some 47), .op (.build [(.int .u32 0), (.int .u32 0), (.int .u32 0)] [(0, 1, (.const (.int .u32 33))), (1, 1, (.const (.int .u32 7)))]), none⟩,
  ⟨(some 48), .op (.mkslice [(.int .u32 0), (.int .u32 0), (.int .u32 0)] 6 [(0, (.tmp 42)), (1, (.tmp 43)), (2, (.tmp 44)), (3, (.tmp 45)), (4, (.tmp 46)), (5, (.tmp 47))]), none⟩,
  ⟨(some 49), .callV (.tmp 41) [(.const (.int .u8 73)), (.const (.int .u32 19)), (.tmp 48)], none⟩]
def x43_7 : List XOper := [⟨(some 50), .op (.mv (.tmp 2)), none⟩,
  ⟨(some 51), .op (.build [(.int .u32 0), (.int .u32 0), (.int .u32 0)] [(0, 1, (.const (.int .u32 34))), (1, 1, (.const (.int .u32 1)))]), none⟩,
  ⟨(some 52), .op (.build [(.int .u32 0), (.int .u32 0), (.int .u32 0)] [(0, 1, (.const (.int .u32 35))), (1, 1, (.const (.int .u32 5)))]), none⟩,
  ⟨(some 53), .op (.build [(.int .u32 0), (.int .u32 0), (.int .u32 0)] [(0, 1, (.const (.int .u32 36))), (1, 1, (.const (.int .u32 5))), (2, 1, (.const (.int .u32 32)))]), none⟩,
  ⟨(some 54), .op (.mkslice [(.int .u32 0), (.int .u32 0), (.int .u32 0)] 3 [(0, (.tmp 51)), (1, (.tmp 52)), (2, (.tmp 53))]), none⟩,
  ⟨(some 55), .callV (.tmp 50) [(.const (.int .u8 84)), (.const (.int .u32 19)), (.tmp 54)], none⟩]
def x43_8 : List XOper := [⟨(some 56), .op (.mv (.tmp 2)), none⟩,
  ⟨(some 57), .op (.build [(.int .u32 0), (.int .u32 0), (.int .u32 0)] [(0, 1, (.const (.int .u32 37)))]), none⟩,
  ⟨(some 58), .op (.mkslice [(.int .u32 0), (.int .u32 0), (.int .u32 0)] 1 [(0, (.tmp 57))]), none⟩,
  ⟨(some 59), .callV (.tmp 56) [(.const (.int .u8 73)), (.const (.int .u32 27)), (.tmp 58)], none⟩]
def x43_9 : List XOper := [⟨(some 60), .op (.mv (.tmp 2)), none⟩,
  ⟨(some 61), .op (.build [(.int .u32 0), (.int .u32 0), (.int .u32 0)] [(0, 1, (.const (.int .u32 38)))]), none⟩,
  ⟨(some 62), .op (.build [(.int .u32 0), (.int .u32 0), (.int .u32 0)] [(0, 1, (.const (.int .u32 40))), (1, 1, (.const (.int .u32 2)))]), none⟩,
  ⟨(some 63), .op (.build [(.int .u32 0), (.int .u32 0), (.int .u32 0)] [(0, 1, (.const (.int .u32 41))), (1, 1, (.const (.int .u32 3)))]), none⟩,
  ⟨(some 64), .op (.build [(.int .u32 0), (.int .u32 0), (.int .u32 0)] [(0, 1, (.const (.int .u32 39))), (1, 1, (.const (.int .u32 4)))]), none⟩,
  ⟨(some 65), .op (.mkslice [(.int .u32 0), (.int .u32 0), (.int .u32 0)] 4 [(0, (.tmp 61)), (1, (.tmp 62)), (2, (.tmp 63)), (3, (.tmp 64))]), none⟩,
  ⟨(some 66), .callV (.tmp 60) [(.const (.int .u8 73)), (.const (.int .u32 3)), (.tmp 65)], none⟩]
def x43_10 : List XOper := [⟨(some 67), .op (.mv (.tmp 2)), none⟩,
  ⟨(some 68), .op (.build [(.int .u32 0), (.int .u32 0), (.int .u32 0)] [(0, 1, (.const (.int .u32 42)))]), none⟩,
  ⟨(some 69), .op (.build [(.int .u32 0), (.int .u32 0), (.int .u32 0)] [(0, 1, (.const (.int .u32 43))), (1, 1, (.const (.int .u32 2)))]), none⟩,
  ⟨(some 70), .op (.build [(.int .u32 0), (.int .u32 0), (.int .u32 0)] [(0, 1, (.const (.int .u32 44))), (1, 1, (.const (.int .u32 3)))]), none⟩,
  ⟨(some 71), .op (.mkslice [(.int .u32 0), (.int .u32 0), (.int .u32 0)] 3 [(0, (.tmp 68)), (1, (.tmp 69)), (2, (.tmp 70))]), none⟩,
  ⟨(some 72), .callV (.tmp 67) [(.const (.int .u8 83)), (.const (.int .u32 35)), (.tmp 71)], none⟩]
def x43_11 : List XOper := [⟨(some 73), .op (.mv (.tmp 2)), none⟩,
  ⟨(some 74), .op (.build [(.int .u32 0), (.int .u32 0), (.int .u32 0)] [(0, 1, (.const (.int .u32 45)))]), none⟩,
  ⟨(some 75), .op (.build [(.int .u32 0), (.int .u32 0), (.int .u32 0)] [(0, 1, (.const (.int .u32 46))), (1, 1, (.const (.int .u32 1)))]), none⟩,
  ⟨(some 76), .op (.build [(.int .u32 0), (.int .u32 0), (.int .u32 0)] [(0, 1, (.const (.int .u32 47))), (1, 1, (.const (.int .u32 4)))]), none⟩,
  ⟨(some 77), .op (.build [(.int .u32 0), (.int .u32 0), (.int .u32 0)] [(0, 1, (.const (.int .u32 48))), (1, 1, (.const (.int .u32 5)))]), none⟩,
  ⟨(some 78), .op (.build [(.int .u32 0), (.int .u32 0), (.int .u32 0)] [(0, 1, (.const (.int .u32 49))), (1, 1, (.const (.int .u32 6)))]), none⟩,
  ⟨(some 79), .op (.build [(.int .u32 0), (.int .u32 0), (.int .u32 0)] [(0, 1, (.const (.int .u32 50))), (1, 1, (.const (.int .u32 7)))]), none⟩,
  ⟨(some 80), .op (.mkslice [(.int .u32 0), (.int .u32 0), (.int .u32 0)] 6 [(0, (.tmp 74)), (1, (.tmp 75)), (2, (.tmp 76)), (3, (.tmp 77)), (4, (.tmp 78)), (5, (.tmp 79))]), none⟩,
  ⟨(some 81), .callV (.tmp 73) [(.const (.int .u8 66)), (.const (.int .u32 99)), (.tmp 80)], none⟩]
def x43_12 : List XOper := [⟨(some 82), .op (.mv (.tmp 2)), none⟩,
  ⟨(some 83), .op (.build [(.int .u32 0), (.int .u32 0), (.int .u32 0)] [(0, 1, (.const (.int .u32 51)))]), none⟩,
  ⟨(some 84), .op (.mkslice [(.int .u32 0), (.int .u32 0), (.int .u32 0)] 1 [(0, (.tmp 83))]), none⟩,
  ⟨(some 85), .callV (.tmp 82) [(.const (.int .u8 85)), (.const (.int .u32 55)), (.tmp 84)], none⟩]
def x43_13 : List XOper := [⟨(some 86), .op (.mv (.tmp 2)), none⟩,
  ⟨(some 87), .op (.build [(.int .u32 0), (.int .u32 0), (.int .u32 0)] [(0, 1, (.const (.int .u32 52)))]), none⟩,
  ⟨(some 88), .op (.mkslice [(.int .u32 0), (.int .u32 0), (.int .u32 0)] 1 [(0, (.tmp 87))]), none⟩,
  ⟨(some 89), .callV (.tmp 86) [(.const (.int .u8 85)), (.const (.int .u32 23)), (.tmp 88)], none⟩]
def x43_14 : List XOper := [⟨(some 90), .op (.mv (.tmp 2)), none⟩,
  ⟨(some 91), .op (.build [(.int .u32 0), (.int .u32 0), (.int .u32 0)] [(0, 1, (.const (.int .u32 53)))]), none⟩,
  ⟨(some 92), .op (.mkslice [(.int .u32 0), (.int .u32 0), (.int .u32 0)] 1 [(0, (.tmp 91))]), none⟩,
  ⟨(some 93), .callV (.tmp 90) [(.const (.int .u8 74)), (.const (.int .u32 111)), (.tmp 92)], none⟩]
def x43_15 : List XOper := [⟨(some 94), .op (.mv (.tmp 2)), none⟩,
  ⟨(some 95), .op (.build [(.int .u32 0), (.int .u32 0), (.int .u32 0)] [(0, 1, (.const (.int .u32 54)))]), none⟩,
  ⟨(some 96), .op (.mkslice [(.int .u32 0), (.int .u32 0), (.int .u32 0)] 1 [(0, (.tmp 95))]), none⟩,
  ⟨(some 97), .callV (.tmp 94) [(.const (.int .u8 73)), (.const (.int .u32 103)), (.tmp 96)], none⟩]
def x43_16 : List XOper := [⟨(some 98), .op (.mv (.tmp 2)), none⟩,
  ⟨(some 99), .op (.build [(.int .u32 0), (.int .u32 0), (.int .u32 0)] [(0, 1, (.const (.int .u32 55)))]), none⟩,
  ⟨(some 100), .op (.mkslice [(.int .u32 0), (.int .u32 0), (.int .u32 0)] 1 [(0, (.tmp 99))]), none⟩,
  ⟨(some 101), .callV (.tmp 98) [(.const (.int .u8 78)), (.const (.int .u32 115)), (.tmp 100)], none⟩]
def x43_17 : List XOper := [⟨(some 102), .op (.load .one 1 (.tmp 1)), none⟩,
  ⟨(some 0), .op (.mv (.tmp 102)), none⟩]
def x43_18 : XCode := .seq (.region x43_17) .ret
def x43_19 : XCode := .seq (.region x43_16) x43_18
def x43_20 : XCode := .seq (.region x43_15) x43_19
def x43_21 : XCode := .seq (.region x43_14) x43_20
def x43_22 : XCode := .seq (.region x43_13) x43_21
def x43_23 : XCode := .seq (.region x43_12) x43_22
def x43_24 : XCode := .seq (.region x43_11) x43_23
def x43_25 : XCode := .seq (.region x43_10) x43_24
def x43_26 : XCode := .seq (.region x43_9) x43_25
def x43_27 : XCode := .seq (.region x43_8) x43_26
def x43_28 : XCode := .seq (.region x43_7) x43_27
def x43_29 : XCode := .seq (.region x43_6) x43_28
def x43_30 : XCode := .seq (.region x43_5) x43_29
def x43_31 : XCode := .seq (.region x43_4) x43_30
def x43_32 : XCode := .seq (.region x43_3) x43_31
def x43_33 : XCode := .seq (.region x43_2) x43_32
def x43_34 : XCode := .seq (.region x43_1) x43_33
def x43_35 : XCode := .seq (.region x43_0) x43_34
def x43 : XCode := x43_35
theorem fx43 : fnx Try.prog 43 = some (103, [(0, none)], x43) := by kernel_rfl
def x44_0 : List XOper := [⟨(some 2), .op (.mv (.const (.int .i64 0))), none⟩,
  ⟨(some 3), .op (.mv (.const (.int .i64 0))), none⟩]
def x44_1 : List XOper := [⟨(some 4), .op (.mv (.tmp 0)), none⟩]
def x44_2 : List XOper := [⟨(some 6), .op (.bin .eql (.tmp 4) (.const (.int .u8 73))), none⟩,
  ⟨(some 5), .op (.mv (.tmp 6)), none⟩]
def x44_3 : List XOper := [⟨(some 7), .op (.bin .eql (.tmp 4) (.const (.int .u8 83))), none⟩,
  ⟨(some 5), .op (.mv (.tmp 7)), none⟩]
def x44_4 : XCode := .cnd (.tmp 5) .skip (.region x44_3)
def x44_5 : XCode := .seq (.region x44_2) x44_4
def x44_6 : List XOper := [⟨(some 2), .op (.mv (.const (.int .i64 (-2048)))), none⟩,
  ⟨(some 3), .op (.mv (.const (.int .i64 2047))), none⟩]
def x44_7 : XCode := .seq (.region x44_6) .ret
def x44_8 : List XOper := [⟨(some 9), .op (.bin .eql (.tmp 4) (.const (.int .u8 84))), none⟩,
  ⟨(some 8), .op (.mv (.tmp 9)), none⟩]
def x44_9 : List XOper := [⟨(some 2), .op (.mv (.const (.int .i64 0))), none⟩,
  ⟨(some 3), .op (.mv (.const (.int .i64 63))), none⟩]
def x44_10 : XCode := .seq (.region x44_9) .ret
def x44_11 : List XOper := [⟨(some 11), .op (.bin .eql (.tmp 4) (.const (.int .u8 66))), none⟩,
  ⟨(some 10), .op (.mv (.tmp 11)), none⟩]
def x44_12 : List XOper := [⟨(some 2), .op (.mv (.const (.int .i64 (-4096)))), none⟩,
  ⟨(some 3), .op (.mv (.const (.int .i64 4094))), none⟩]
def x44_13 : XCode := .seq (.region x44_12) .ret
def x44_14 : List XOper := [⟨(some 13), .op (.bin .eql (.tmp 4) (.const (.int .u8 85))), none⟩,
  ⟨(some 12), .op (.mv (.tmp 13)), none⟩]
def x44_15 : List XOper := [⟨(some 2), .op (.mv (.const (.int .i64 (-524288)))), none⟩,
  ⟨(some 3), .op (.mv (.const (.int .i64 524287))), none⟩]
def x44_16 : XCode := .seq (.region x44_15) .ret
def x44_17 : List XOper := [⟨(some 15), .op (.bin .eql (.tmp 4) (.const (.int .u8 74))), none⟩,
  ⟨(some 14), .op (.mv (.tmp 15)), none⟩]
def x44_18 : List XOper := [⟨(some 2), .op (.mv (.const (.int .i64 (-1048576)))), none⟩,
  ⟨(some 3), .op (.mv (.const (.int .i64 1048574))), none⟩]
def x44_19 : XCode := .seq (.region x44_18) .ret
def x44_20 : XCode := .cnd (.tmp 14) x44_19 .skip
def x44_21 : XCode := .seq (.region x44_17) x44_20
def x44_22 : XCode := .cnd (.tmp 12) x44_16 x44_21
def x44_23 : XCode := .seq (.region x44_14) x44_22
def x44_24 : XCode := .cnd (.tmp 10) x44_13 x44_23
def x44_25 : XCode := .seq (.region x44_11) x44_24
def x44_26 : XCode := .cnd (.tmp 8) x44_10 x44_25
def x44_27 : XCode := .seq (.region x44_8) x44_26
def x44_28 : XCode := .cnd (.tmp 5) x44_7 x44_27
def x44_29 : XCode := .seq x44_5 x44_28
def x44_30 : XCode := .block 0 x44_29
def x44_31 : XCode := .seq (.region x44_1) x44_30
def x44_32 : List XOper := [⟨(some 2), .op (.mv (.const (.int .i64 1))), none⟩,
  ⟨(some 3), .op (.mv (.const (.int .i64 0))), none⟩]
def x44_33 : XCode := .seq (.region x44_32) .ret
def x44_34 : XCode := .seq x44_31 x44_33
def x44_35 : XCode := .seq (.region x44_0) x44_34
def x44 : XCode := x44_35
theorem fx44 : fnx Try.prog 44 = some (16, [(2, none), (3, none)], x44) := by kernel_rfl
def x45_0 : List XOper := [⟨(some 2), .op (.new [(.bool false), (.bool false), (.bool false)]), none⟩]
def x45_1 : List XOper := [⟨(some 3), .op (.mv (.tmp 0)), none⟩]
def x45_2 : List XOper := [⟨(some 5), .op (.bin .eql (.tmp 3) (.const (.int .u8 82))), none⟩,
  ⟨(some 4), .op (.mv (.tmp 5)), none⟩]
def x45_3 : List XOper := [⟨(some 6), .op (.build [(.bool false), (.bool false), (.bool false)] [(0, 1, (.const (.bool true))), (1, 1, (.const (.bool true))), (2, 1, (.const (.bool true)))]), none⟩,
  ⟨none, .op (.store 3 (.tmp 2) (.tmp 6)), none⟩]
def x45_4 : XCode := .seq (.region x45_3) .ret
def x45_5 : List XOper := [⟨(some 8), .op (.bin .eql (.tmp 3) (.const (.int .u8 73))), none⟩,
  ⟨(some 7), .op (.mv (.tmp 8)), none⟩]
def x45_6 : List XOper := [⟨(some 9), .op (.bin .eql (.tmp 3) (.const (.int .u8 84))), none⟩,
  ⟨(some 7), .op (.mv (.tmp 9)), none⟩]
def x45_7 : XCode := .cnd (.tmp 7) .skip (.region x45_6)
def x45_8 : XCode := .seq (.region x45_5) x45_7
def x45_9 : List XOper := [⟨(some 10), .op (.build [(.bool false), (.bool false), (.bool false)] [(0, 1, (.const (.bool true))), (1, 1, (.const (.bool true))), (2, 1, (.const (.bool false)))]), none⟩,
  ⟨none, .op (.store 3 (.tmp 2) (.tmp 10)), none⟩]
def x45_10 : XCode := .seq (.region x45_9) .ret
def x45_11 : List XOper := [⟨(some 12), .op (.bin .eql (.tmp 3) (.const (.int .u8 83))), none⟩,
  ⟨(some 11), .op (.mv (.tmp 12)), none⟩]
def x45_12 : List XOper := [⟨(some 13), .op (.bin .eql (.tmp 3) (.const (.int .u8 66))), none⟩,
  ⟨(some 11), .op (.mv (.tmp 13)), none⟩]
def x45_13 : XCode := .cnd (.tmp 11) .skip (.region x45_12)
def x45_14 : XCode := .seq (.region x45_11) x45_13
def x45_15 : List XOper := [⟨(some 14), .op (.build [(.bool false), (.bool false), (.bool false)] [(0, 1, (.const (.bool false))), (1, 1, (.const (.bool true))), (2, 1, (.const (.bool true)))]), none⟩,
  ⟨none, .op (.store 3 (.tmp 2) (.tmp 14)), none⟩]
def x45_16 : XCode := .seq (.region x45_15) .ret
def x45_17 : List XOper := [⟨(some 16), .op (.bin .eql (.tmp 3) (.const (.int .u8 85))), none⟩,
  ⟨(some 15), .op (.mv (.tmp 16)), none⟩]
def x45_18 : List XOper := [⟨(some 17), .op (.bin .eql (.tmp 3) (.const (.int .u8 74))), none⟩,
  ⟨(some 15), .op (.mv (.tmp 17)), none⟩]
def x45_19 : XCode := .cnd (.tmp 15) .skip (.region x45_18)
def x45_20 : XCode := .seq (.region x45_17) x45_19
def x45_21 : List XOper := [⟨(some 18), .op (.build [(.bool false), (.bool false), (.bool false)] [(0, 1, (.const (.bool true))), (1, 1, (.const (.bool false))), (2, 1, (.const (.bool false)))]), none⟩,
  ⟨none, .op (.store 3 (.tmp 2) (.tmp 18)), none⟩]
def x45_22 : XCode := .seq (.region x45_21) .ret
def x45_23 : XCode := .cnd (.tmp 15) x45_22 .skip
def x45_24 : XCode := .seq x45_20 x45_23
def x45_25 : XCode := .cnd (.tmp 11) x45_16 x45_24
def x45_26 : XCode := .seq x45_14 x45_25
def x45_27 : XCode := .cnd (.tmp 7) x45_10 x45_26
def x45_28 : XCode := .seq x45_8 x45_27
def x45_29 : XCode := .cnd (.tmp 4) x45_4 x45_28
def x45_30 : XCode := .seq (.region x45_2) x45_29
def x45_31 : XCode := .block 0 x45_30
def x45_32 : XCode := .seq (.region x45_1) x45_31
def x45_33 : List XOper := [⟨(some 19), .op (.build [(.bool false), (.bool false), (.bool false)] []), none⟩,
  ⟨none, .op (.store 3 (.tmp 2) (.tmp 19)), none⟩]
def x45_34 : XCode := .seq (.region x45_33) .ret
def x45_35 : XCode := .seq x45_32 x45_34
def x45_36 : XCode := .seq (.region x45_0) x45_35
def x45 : XCode := x45_36
theorem fx45 : fnx Try.prog 45 = some (20, [(2, (some (.agg, 3)))], x45) := by kernel_rfl
def x46_0 : List XOper := [⟨(some 2), .op (.mv (.const (.slice none 0 0))), none⟩]
def x46_1 : List XOper := [⟨(some 3), .op (.mv (.tmp 0)), none⟩]
def x46_2 : List XOper := [⟨(some 5), .op (.bin .eql (.tmp 3) (.const (.int .u8 73))), none⟩,
  ⟨(some 4), .op (.mv (.tmp 5)), none⟩]
def x46_3 : List XOper := [⟨(some 6), .op (.build [(.int .u64 0), (.int .u64 0), (.int .u64 0)] [(0, 1, (.const (.int .u64 0))), (1, 1, (.const (.int .u64 12))), (2, 1, (.const (.int .u64 20)))]), none⟩,
  ⟨(some 7), .op (.mkslice [(.int .u64 0), (.int .u64 0), (.int .u64 0)] 1 [(0, (.tmp 6))]), none⟩,
  ⟨(some 2), .op (.mv (.tmp 7)), none⟩]
def x46_4 : XCode := .seq (.region x46_3) .ret
def x46_5 : List XOper := [⟨(some 9), .op (.bin .eql (.tmp 3) (.const (.int .u8 84))), none⟩,
  ⟨(some 8), .op (.mv (.tmp 9)), none⟩]
def x46_6 : List XOper := [⟨(some 10), .op (.build [(.int .u64 0), (.int .u64 0), (.int .u64 0)] [(0, 1, (.const (.int .u64 0))), (1, 1, (.const (.int .u64 6))), (2, 1, (.const (.int .u64 20)))]), none⟩,
  ⟨(some 11), .op (.mkslice [(.int .u64 0), (.int .u64 0), (.int .u64 0)] 1 [(0, (.tmp 10))]), none⟩,
  ⟨(some 2), .op (.mv (.tmp 11)), none⟩]
def x46_7 : XCode := .seq (.region x46_6) .ret
def x46_8 : List XOper := [⟨(some 13), .op (.bin .eql (.tmp 3) (.const (.int .u8 83))), none⟩,
  ⟨(some 12), .op (.mv (.tmp 13)), none⟩]
def x46_9 : List XOper := [⟨(some 14), .op (.build [(.int .u64 0), (.int .u64 0), (.int .u64 0)] [(0, 1, (.const (.int .u64 0))), (1, 1, (.const (.int .u64 5))), (2, 1, (.const (.int .u64 7)))]), none⟩,
  ⟨(some 15), .op (.build [(.int .u64 0), (.int .u64 0), (.int .u64 0)] [(0, 1, (.const (.int .u64 5))), (1, 1, (.const (.int .u64 7))), (2, 1, (.const (.int .u64 25)))]), none⟩,
  ⟨(some 16), .op (.mkslice [(.int .u64 0), (.int .u64 0), (.int .u64 0)] 2 [(0, (.tmp 14)), (1, (.tmp 15))]), none⟩,
  ⟨(some 2), .op (.mv (.tmp 16)), none⟩]
def x46_10 : XCode := .seq (.region x46_9) .ret
def x46_11 : List XOper := [⟨(some 18), .op (.bin .eql (.tmp 3) (.const (.int .u8 66))), none⟩,
  ⟨(some 17), .op (.mv (.tmp 18)), none⟩]
def x46_12 : List XOper := [⟨(some 19), .op (.build [(.int .u64 0), (.int .u64 0), (.int .u64 0)] [(0, 1, (.const (.int .u64 11))), (1, 1, (.const (.int .u64 1))), (2, 1, (.const (.int .u64 7)))]), none⟩,
  ⟨(some 20), .op (.build [(.int .u64 0), (.int .u64 0), (.int .u64 0)] [(0, 1, (.const (.int .u64 1))), (1, 1, (.const (.int .u64 4))), (2, 1, (.const (.int .u64 8)))]), none⟩,
  ⟨(some 21), .op (.build [(.int .u64 0), (.int .u64 0), (.int .u64 0)] [(0, 1, (.const (.int .u64 5))), (1, 1, (.const (.int .u64 6))), (2, 1, (.const (.int .u64 25)))]), none⟩,
  ⟨(some 22), .op (.build [(.int .u64 0), (.int .u64 0), (.int .u64 0)] [(0, 1, (.const (.int .u64 12))), (1, 1, (.const (.int .u64 1))), (2, 1, (.const (.int .u64 31)))]), none⟩,
  ⟨(some 23), .op (.mkslice [(.int .u64 0), (.int .u64 0), (.int .u64 0)] 4 [(0, (.tmp 19)), (1, (.tmp 20)), (2, (.tmp 21)), (3, (.tmp 22))]), none⟩,
  ⟨(some 2), .op (.mv (.tmp 23)), none⟩]
def x46_13 : XCode := .seq (.region x46_12) .ret
def x46_14 : List XOper := [⟨(some 25), .op (.bin .eql (.tmp 3) (.const (.int .u8 85))), none⟩,
  ⟨(some 24), .op (.mv (.tmp 25)), none⟩]
def x46_15 : List XOper := [⟨(some 26), .op (.build [(.int .u64 0), (.int .u64 0), (.int .u64 0)] [(0, 1, (.const (.int .u64 0))), (1, 1, (.const (.int .u64 20))), (2, 1, (.const (.int .u64 12)))]), none⟩,
  ⟨(some 27), .op (.mkslice [(.int .u64 0), (.int .u64 0), (.int .u64 0)] 1 [(0, (.tmp 26))]), none⟩,
  ⟨(some 2), .op (.mv (.tmp 27)), none⟩]
def x46_16 : XCode := .seq (.region x46_15) .ret
def x46_17 : List XOper := [⟨(some 29), .op (.bin .eql (.tmp 3) (.const (.int .u8 74))), none⟩,
  ⟨(some 28), .op (.mv (.tmp 29)), none⟩]
def x46_18 : List XOper := [⟨(some 30), .op (.build [(.int .u64 0), (.int .u64 0), (.int .u64 0)] [(0, 1, (.const (.int .u64 12))), (1, 1, (.const (.int .u64 8))), (2, 1, (.const (.int .u64 12)))]), none⟩,
  ⟨(some 31), .op (.build [(.int .u64 0), (.int .u64 0), (.int .u64 0)] [(0, 1, (.const (.int .u64 11))), (1, 1, (.const (.int .u64 1))), (2, 1, (.const (.int .u64 20)))]), none⟩,
  ⟨(some 32), .op (.build [(.int .u64 0), (.int .u64 0), (.int .u64 0)] [(0, 1, (.const (.int .u64 1))), (1, 1, (.const (.int .u64 10))), (2, 1, (.const (.int .u64 21)))]), none⟩,
  ⟨(some 33), .op (.build [(.int .u64 0), (.int .u64 0), (.int .u64 0)] [(0, 1, (.const (.int .u64 20))), (1, 1, (.const (.int .u64 1))), (2, 1, (.const (.int .u64 31)))]), none⟩,
  ⟨(some 34), .op (.mkslice [(.int .u64 0), (.int .u64 0), (.int .u64 0)] 4 [(0, (.tmp 30)), (1, (.tmp 31)), (2, (.tmp 32)), (3, (.tmp 33))]), none⟩,
  ⟨(some 2), .op (.mv (.tmp 34)), none⟩]
def x46_19 : XCode := .seq (.region x46_18) .ret
def x46_20 : XCode := .cnd (.tmp 28) x46_19 .skip
def x46_21 : XCode := .seq (.region x46_17) x46_20
def x46_22 : XCode := .cnd (.tmp 24) x46_16 x46_21
def x46_23 : XCode := .seq (.region x46_14) x46_22
def x46_24 : XCode := .cnd (.tmp 17) x46_13 x46_23
def x46_25 : XCode := .seq (.region x46_11) x46_24
def x46_26 : XCode := .cnd (.tmp 12) x46_10 x46_25
def x46_27 : XCode := .seq (.region x46_8) x46_26
def x46_28 : XCode := .cnd (.tmp 8) x46_7 x46_27
def x46_29 : XCode := .seq (.region x46_5) x46_28
def x46_30 : XCode := .cnd (.tmp 4) x46_4 x46_29
def x46_31 : XCode := .seq (.region x46_2) x46_30
def x46_32 : XCode := .block 0 x46_31
def x46_33 : XCode := .seq (.region x46_1) x46_32
def x46_34 : List XOper := [⟨(some 2), .op (.mv (.const (.slice none 0 0))), none⟩]
def x46_35 : XCode := .seq (.region x46_34) .ret
def x46_36 : XCode := .seq x46_33 x46_35
def x46_37 : XCode := .seq (.region x46_0) x46_36
def x46 : XCode := x46_37
theorem fx46 : fnx Try.prog 46 = some (35, [(2, none)], x46) := by kernel_rfl
def x47_0 : List XOper := [⟨(some 1), .op (.box (.tmp 0)), none⟩,
  ⟨(some 2), .op (.mv (.const (.int .u32 0))), none⟩,
  ⟨(some 3), .op (.mv (.const (.int .i64 0))), none⟩]
def x47_1 : List XOper := [⟨(some 14), .op (.faddr 0 (.tmp 1)), none⟩,
  ⟨(some 15), .op (.load (.int .i64) 1 (.tmp 14)), none⟩,
  ⟨(some 16), .callF 58 [(.tmp 15)], none⟩,
  ⟨(some 4), .op (.new [(.int .u8 0), (.int .i64 0), (.int .i64 0), (.int .i64 0)]), none⟩,
  ⟨none, .op (.store 4 (.tmp 4) (.tmp 16)), none⟩]
def x47_2 : List XOper := [⟨(some 17), .op (.faddr 0 (.tmp 4)), none⟩,
  ⟨(some 18), .op (.load (.int .u8) 1 (.tmp 17)), none⟩,
  ⟨(some 19), .op (.bin .neq (.tmp 18) (.const (.int .u8 83))), none⟩,
  ⟨(some 20), .op (.mv (.tmp 19)), none⟩,
  ⟨(some 21), .op (.faddr 0 (.tmp 4)), (some (20, true))⟩,
  ⟨(some 22), .op (.load (.int .u8) 1 (.tmp 21)), (some (20, true))⟩,
  ⟨(some 23), .op (.bin .neq (.tmp 22) (.const (.int .u8 66))), (some (20, true))⟩,
  ⟨(some 24), .pick (.tmp 20) (.tmp 23) (.const (.bool false)), none⟩,
  ⟨(some 25), .op (.faddr 0 (.tmp 4)), none⟩,
  ⟨(some 26), .op (.load (.int .u8) 1 (.tmp 25)), none⟩,
  ⟨(some 27), .op (.bin .neq (.tmp 26) (.const (.int .u8 85))), none⟩,
  ⟨(some 28), .op (.mv (.tmp 27)), none⟩,
  ⟨(some 29), .op (.faddr 0 (.tmp 4)), (some (28, true))⟩,
  ⟨(some 30), .op (.load (.int .u8) 1 (.tmp 29)), (some (28, true))⟩,
  ⟨(some 31), .op (.bin .neq (.tmp 30) (.const (.int .u8 74))), (some (28, true))⟩,
  ⟨(some 32), .pick (.tmp 28) (.tmp 31) (.const (.bool false)), none⟩,
  ⟨(some 33), .op (.faddr 0 (.tmp 4)), none⟩,
  ⟨(some 34), .op (.load (.int .u8) 1 (.tmp 33)), none⟩,
  ⟨(some 35), .op (.bin .eql (.tmp 34) (.const (.int .u8 82))), none⟩,
  ⟨(some 36), .op (.mv (.tmp 35)), none⟩,
  ⟨(some 37), .op (.faddr 0 (.tmp 4)), (some (36, false))⟩,
  ⟨(some 38), .op (.load (.int .u8) 1 (.tmp 37)), (some (36, false))⟩,
  ⟨(some 39), .op (.bin .eql (.tmp 38) (.const (.int .u8 83))), (some (36, false))⟩,
  ⟨(some 40), .pick (.tmp 36) (.const (.bool true)) (.tmp 39), none⟩,
  ⟨(some 41), .op (.mv (.tmp 40)), none⟩,
  ⟨(some 42), .op (.faddr 0 (.tmp 4)), (some (41, false))⟩,
  ⟨(some 43), .op (.load (.int .u8) 1 (.tmp 42)), (some (41, false))⟩,
  ⟨(some 44), .op (.bin .eql (.tmp 43) (.const (.int .u8 66))), (some (41, false))⟩,
  ⟨(some 45), .pick (.tmp 41) (.const (.bool true)) (.tmp 44), none⟩,
  ⟨(some 5), .op (.mv (.tmp 24)), none⟩,
  ⟨(some 6), .op (.mv (.tmp 32)), none⟩,
  ⟨(some 7), .op (.mv (.tmp 45)), none⟩]
def x47_3 : List XOper := [⟨(some 47), .op (.faddr 0 (.tmp 4)), none⟩,
  ⟨(some 48), .op (.load (.int .u8) 1 (.tmp 47)), none⟩,
  ⟨(some 49), .callF 59 [(.tmp 48)], none⟩,
  ⟨(some 46), .op (.mv (.tmp 49)), none⟩,
  ⟨(some 50), .op (.ext (.tmp 46) 0), none⟩,
  ⟨(some 51), .op (.ext (.tmp 46) 1), none⟩,
  ⟨(some 8), .op (.mv (.tmp 50)), none⟩,
  ⟨(some 9), .op (.mv (.tmp 51)), none⟩]
def x47_4 : List XOper := [⟨(some 52), .op (.faddr 0 (.tmp 4)), none⟩,
  ⟨(some 53), .op (.load (.int .u8) 1 (.tmp 52)), none⟩,
  ⟨(some 54), .op (.bin .eql (.tmp 53) (.const (.int .u8 0))), none⟩]
def x47_5 : List XOper := [⟨(some 2), .op (.mv (.const (.int .u32 0))), none⟩,
  ⟨(some 3), .op (.mv (.const (.int .i64 2))), none⟩]
def x47_6 : XCode := .seq (.region x47_5) .ret
def x47_7 : XCode := .cnd (.tmp 54) x47_6 .skip
def x47_8 : XCode := .seq (.region x47_4) x47_7
def x47_9 : List XOper := [⟨(some 55), .op (.faddr 0 (.tmp 4)), none⟩,
  ⟨(some 56), .op (.load (.int .u8) 1 (.tmp 55)), none⟩,
  ⟨(some 57), .op (.bin .eql (.tmp 56) (.const (.int .u8 78))), none⟩]
def x47_10 : List XOper := [⟨(some 5), .op (.mv (.const (.bool false))), none⟩]
def x47_11 : List XOper := [⟨(some 6), .op (.mv (.const (.bool false))), none⟩]
def x47_12 : XCode := .seq (.region x47_10) (.region x47_11)
def x47_13 : XCode := .cnd (.tmp 57) x47_12 .skip
def x47_14 : XCode := .seq (.region x47_9) x47_13
def x47_15 : List XOper := [⟨(some 58), .op (.mv (.tmp 5)), none⟩,
  ⟨(some 59), .op (.un .not (.tmp 58)), none⟩,
  ⟨(some 60), .op (.mv (.tmp 59)), none⟩,
  ⟨(some 61), .op (.faddr 1 (.tmp 1)), (some (60, true))⟩,
  ⟨(some 62), .op (.load (.int .i64) 1 (.tmp 61)), (some (60, true))⟩,
  ⟨(some 63), .op (.bin .neq (.tmp 62) (.const (.int .i64 0))), (some (60, true))⟩,
  ⟨(some 64), .pick (.tmp 60) (.tmp 63) (.const (.bool false)), none⟩,
  ⟨(some 65), .op (.mv (.tmp 64)), none⟩,
  ⟨(some 66), .op (.mv (.tmp 6)), (some (65, false))⟩,
  ⟨(some 67), .op (.un .not (.tmp 66)), (some (65, false))⟩,
  ⟨(some 68), .op (.mv (.tmp 67)), (some (65, false))⟩,
  ⟨(some 69), .op (.faddr 2 (.tmp 1)), (some (68, true))⟩,
  ⟨(some 70), .op (.load (.int .i64) 1 (.tmp 69)), (some (68, true))⟩,
  ⟨(some 71), .op (.bin .neq (.tmp 70) (.const (.int .i64 0))), (some (68, true))⟩,
  ⟨(some 72), .pick (.tmp 68) (.tmp 71) (.const (.bool false)), (some (65, false))⟩,
  ⟨(some 73), .pick (.tmp 65) (.const (.bool true)) (.tmp 72), none⟩,
  ⟨(some 74), .op (.mv (.tmp 73)), none⟩,
  ⟨(some 75), .op (.mv (.tmp 7)), (some (74, false))⟩,
  ⟨(some 76), .op (.un .not (.tmp 75)), (some (74, false))⟩,
  ⟨(some 77), .op (.mv (.tmp 76)), (some (74, false))⟩,
  ⟨(some 78), .op (.faddr 3 (.tmp 1)), (some (77, true))⟩,
  ⟨(some 79), .op (.load (.int .i64) 1 (.tmp 78)), (some (77, true))⟩,
  ⟨(some 80), .op (.bin .neq (.tmp 79) (.const (.int .i64 0))), (some (77, true))⟩,
  ⟨(some 81), .pick (.tmp 77) (.tmp 80) (.const (.bool false)), (some (74, false))⟩,
  ⟨(some 82), .pick (.tmp 74) (.const (.bool true)) (.tmp 81), none⟩,
  ⟨(some 83), .op (.mv (.tmp 82)), none⟩,
  ⟨(some 84), .op (.mv (.tmp 8)), (some (83, false))⟩,
  ⟨(some 85), .op (.mv (.tmp 9)), (some (83, false))⟩,
  ⟨(some 86), .op (.bin .gtr (.tmp 84) (.tmp 85)), (some (83, false))⟩,
  ⟨(some 87), .op (.mv (.tmp 86)), (some (83, false))⟩,
  ⟨(some 88), .op (.faddr 4 (.tmp 1)), (some (87, true))⟩,
  ⟨(some 89), .op (.load (.int .i64) 1 (.tmp 88)), (some (87, true))⟩,
  ⟨(some 90), .op (.bin .neq (.tmp 89) (.const (.int .i64 0))), (some (87, true))⟩,
  ⟨(some 91), .pick (.tmp 87) (.tmp 90) (.const (.bool false)), (some (83, false))⟩,
  ⟨(some 92), .pick (.tmp 83) (.const (.bool true)) (.tmp 91), none⟩]
def x47_16 : List XOper := [⟨(some 2), .op (.mv (.const (.int .u32 0))), none⟩,
  ⟨(some 3), .op (.mv (.const (.int .i64 2))), none⟩]
def x47_17 : XCode := .seq (.region x47_16) .ret
def x47_18 : XCode := .cnd (.tmp 92) x47_17 .skip
def x47_19 : XCode := .seq (.region x47_15) x47_18
def x47_20 : List XOper := [⟨(some 93), .op (.faddr 1 (.tmp 1)), none⟩,
  ⟨(some 94), .op (.load (.int .i64) 1 (.tmp 93)), none⟩,
  ⟨(some 95), .op (.bin .lss (.tmp 94) (.const (.int .i64 0))), none⟩,
  ⟨(some 96), .op (.mv (.tmp 95)), none⟩,
  ⟨(some 97), .op (.faddr 1 (.tmp 1)), (some (96, false))⟩,
  ⟨(some 98), .op (.load (.int .i64) 1 (.tmp 97)), (some (96, false))⟩,
  ⟨(some 99), .op (.bin .gtr (.tmp 98) (.const (.int .i64 31))), (some (96, false))⟩,
  ⟨(some 100), .pick (.tmp 96) (.const (.bool true)) (.tmp 99), none⟩,
  ⟨(some 101), .op (.mv (.tmp 100)), none⟩,
  ⟨(some 102), .op (.faddr 2 (.tmp 1)), (some (101, false))⟩,
  ⟨(some 103), .op (.load (.int .i64) 1 (.tmp 102)), (some (101, false))⟩,
  ⟨(some 104), .op (.bin .lss (.tmp 103) (.const (.int .i64 0))), (some (101, false))⟩,
  ⟨(some 105), .pick (.tmp 101) (.const (.bool true)) (.tmp 104), none⟩,
  ⟨(some 106), .op (.mv (.tmp 105)), none⟩,
  ⟨(some 107), .op (.faddr 2 (.tmp 1)), (some (106, false))⟩,
  ⟨(some 108), .op (.load (.int .i64) 1 (.tmp 107)), (some (106, false))⟩,
  ⟨(some 109), .op (.bin .gtr (.tmp 108) (.const (.int .i64 31))), (some (106, false))⟩,
  ⟨(some 110), .pick (.tmp 106) (.const (.bool true)) (.tmp 109), none⟩,
  ⟨(some 111), .op (.mv (.tmp 110)), none⟩,
  ⟨(some 112), .op (.faddr 3 (.tmp 1)), (some (111, false))⟩,
  ⟨(some 113), .op (.load (.int .i64) 1 (.tmp 112)), (some (111, false))⟩,
  ⟨(some 114), .op (.bin .lss (.tmp 113) (.const (.int .i64 0))), (some (111, false))⟩,
  ⟨(some 115), .pick (.tmp 111) (.const (.bool true)) (.tmp 114), none⟩,
  ⟨(some 116), .op (.mv (.tmp 115)), none⟩,
  ⟨(some 117), .op (.faddr 3 (.tmp 1)), (some (116, false))⟩,
  ⟨(some 118), .op (.load (.int .i64) 1 (.tmp 117)), (some (116, false))⟩,
  ⟨(some 119), .op (.bin .gtr (.tmp 118) (.const (.int .i64 31))), (some (116, false))⟩,
  ⟨(some 120), .pick (.tmp 116) (.const (.bool true)) (.tmp 119), none⟩]
def x47_21 : List XOper := [⟨(some 2), .op (.mv (.const (.int .u32 0))), none⟩,
  ⟨(some 3), .op (.mv (.const (.int .i64 1))), none⟩]
def x47_22 : XCode := .seq (.region x47_21) .ret
def x47_23 : XCode := .cnd (.tmp 120) x47_22 .skip
def x47_24 : XCode := .seq (.region x47_20) x47_23
def x47_25 : List XOper := [⟨(some 121), .op (.mv (.tmp 8)), none⟩,
  ⟨(some 122), .op (.mv (.tmp 9)), none⟩,
  ⟨(some 123), .op (.bin .leq (.tmp 121) (.tmp 122)), none⟩,
  ⟨(some 124), .op (.mv (.tmp 123)), none⟩,
  ⟨(some 125), .op (.faddr 4 (.tmp 1)), (some (124, true))⟩,
  ⟨(some 126), .op (.load (.int .i64) 1 (.tmp 125)), (some (124, true))⟩,
  ⟨(some 127), .op (.mv (.tmp 8)), (some (124, true))⟩,
  ⟨(some 128), .op (.bin .lss (.tmp 126) (.tmp 127)), (some (124, true))⟩,
  ⟨(some 129), .op (.mv (.tmp 128)), (some (124, true))⟩,
  ⟨(some 130), .op (.faddr 4 (.tmp 1)), (some (129, false))⟩,
  ⟨(some 131), .op (.load (.int .i64) 1 (.tmp 130)), (some (129, false))⟩,
  ⟨(some 132), .op (.mv (.tmp 9)), (some (129, false))⟩,
  ⟨(some 133), .op (.bin .gtr (.tmp 131) (.tmp 132)), (some (129, false))⟩,
  ⟨(some 134), .pick (.tmp 129) (.const (.bool true)) (.tmp 133), (some (124, true))⟩,
  ⟨(some 135), .op (.mv (.tmp 134)), (some (124, true))⟩,
  ⟨(some 136), .op (.faddr 0 (.tmp 4)), (some (135, false))⟩,
  ⟨(some 137), .op (.load (.int .u8) 1 (.tmp 136)), (some (135, false))⟩,
  ⟨(some 138), .op (.bin .eql (.tmp 137) (.const (.int .u8 66))), (some (135, false))⟩,
  ⟨(some 139), .op (.mv (.tmp 138)), (some (135, false))⟩,
  ⟨(some 140), .op (.faddr 0 (.tmp 4)), (some (139, false))⟩,
  ⟨(some 141), .op (.load (.int .u8) 1 (.tmp 140)), (some (139, false))⟩,
  ⟨(some 142), .op (.bin .eql (.tmp 141) (.const (.int .u8 74))), (some (139, false))⟩,
  ⟨(some 143), .pick (.tmp 139) (.const (.bool true)) (.tmp 142), (some (135, false))⟩,
  ⟨(some 144), .op (.mv (.tmp 143)), (some (135, false))⟩,
  ⟨(some 145), .op (.faddr 4 (.tmp 1)), (some (144, true))⟩,
  ⟨(some 146), .op (.load (.int .i64) 1 (.tmp 145)), (some (144, true))⟩,
  ⟨(some 147), .op (.bin .rem (.tmp 146) (.const (.int .i64 2))), (some (144, true))⟩,
  ⟨(some 148), .op (.bin .neq (.tmp 147) (.const (.int .i64 0))), (some (144, true))⟩,
  ⟨(some 149), .pick (.tmp 144) (.tmp 148) (.const (.bool false)), (some (135, false))⟩,
  ⟨(some 150), .pick (.tmp 135) (.const (.bool true)) (.tmp 149), (some (124, true))⟩,
  ⟨(some 151), .pick (.tmp 124) (.tmp 150) (.const (.bool false)), none⟩]
def x47_26 : List XOper := [⟨(some 2), .op (.mv (.const (.int .u32 0))), none⟩,
  ⟨(some 3), .op (.mv (.const (.int .i64 1))), none⟩]
def x47_27 : XCode := .seq (.region x47_26) .ret
def x47_28 : XCode := .cnd (.tmp 151) x47_27 .skip
def x47_29 : XCode := .seq (.region x47_25) x47_28
def x47_30 : List XOper := [⟨(some 152), .op (.faddr 4 (.tmp 1)), none⟩,
  ⟨(some 153), .op (.load (.int .i64) 1 (.tmp 152)), none⟩,
  ⟨(some 10), .op (.mv (.tmp 153)), none⟩]
def x47_31 : List XOper := [⟨(some 154), .op (.faddr 1 (.tmp 1)), none⟩,
  ⟨(some 155), .op (.load (.int .i64) 1 (.tmp 154)), none⟩,
  ⟨(some 156), .op (.faddr 3 (.tmp 4)), none⟩,
  ⟨(some 157), .op (.load (.int .i64) 1 (.tmp 156)), none⟩,
  ⟨(some 11), .op (.mv (.tmp 155)), none⟩,
  ⟨(some 12), .op (.mv (.tmp 157)), none⟩]
def x47_32 : List XOper := [⟨(some 158), .op (.faddr 3 (.tmp 1)), none⟩,
  ⟨(some 159), .op (.load (.int .i64) 1 (.tmp 158)), none⟩,
  ⟨(some 13), .op (.mv (.tmp 159)), none⟩]
def x47_33 : List XOper := [⟨(some 160), .op (.faddr 0 (.tmp 4)), none⟩,
  ⟨(some 161), .op (.load (.int .u8) 1 (.tmp 160)), none⟩]
def x47_34 : List XOper := [⟨(some 163), .op (.bin .eql (.tmp 161) (.const (.int .u8 73))), none⟩,
  ⟨(some 162), .op (.mv (.tmp 163)), none⟩]
def x47_35 : List XOper := [⟨(some 164), .op (.mv (.tmp 10)), none⟩,
  ⟨(some 165), .callF 60 [(.tmp 164), (.const (.int .i64 0)), (.const (.int .i64 5))], none⟩,
  ⟨(some 13), .op (.mv (.tmp 165)), none⟩]
def x47_36 : List XOper := [⟨(some 166), .op (.mv (.tmp 10)), none⟩,
  ⟨(some 167), .callF 60 [(.tmp 166), (.const (.int .i64 5)), (.const (.int .i64 7))], none⟩,
  ⟨(some 12), .op (.mv (.tmp 167)), none⟩]
def x47_37 : XCode := .seq (.region x47_35) (.region x47_36)
def x47_38 : List XOper := [⟨(some 169), .op (.bin .eql (.tmp 161) (.const (.int .u8 84))), none⟩,
  ⟨(some 168), .op (.mv (.tmp 169)), none⟩]
def x47_39 : List XOper := [⟨(some 170), .op (.mv (.tmp 10)), none⟩,
  ⟨(some 171), .op (.bin .rem (.tmp 170) (.const (.int .i64 32))), none⟩,
  ⟨(some 13), .op (.mv (.tmp 171)), none⟩]
def x47_40 : List XOper := [⟨(some 172), .op (.faddr 3 (.tmp 4)), none⟩,
  ⟨(some 173), .op (.load (.int .i64) 1 (.tmp 172)), none⟩,
  ⟨(some 174), .op (.mv (.tmp 10)), none⟩,
  ⟨(some 175), .op (.bin .quo (.tmp 174) (.const (.int .i64 32))), none⟩,
  ⟨(some 176), .op (.bin .add (.tmp 173) (.tmp 175)), none⟩,
  ⟨(some 12), .op (.mv (.tmp 176)), none⟩]
def x47_41 : XCode := .seq (.region x47_39) (.region x47_40)
def x47_42 : List XOper := [⟨(some 178), .op (.bin .eql (.tmp 161) (.const (.int .u8 83))), none⟩,
  ⟨(some 177), .op (.mv (.tmp 178)), none⟩]
def x47_43 : List XOper := [⟨(some 179), .op (.mv (.tmp 10)), none⟩,
  ⟨(some 180), .callF 60 [(.tmp 179), (.const (.int .i64 0)), (.const (.int .i64 5))], none⟩,
  ⟨(some 11), .op (.mv (.tmp 180)), none⟩]
def x47_44 : List XOper := [⟨(some 181), .op (.mv (.tmp 10)), none⟩,
  ⟨(some 182), .callF 60 [(.tmp 181), (.const (.int .i64 5)), (.const (.int .i64 7))], none⟩,
  ⟨(some 12), .op (.mv (.tmp 182)), none⟩]
def x47_45 : XCode := .seq (.region x47_43) (.region x47_44)
def x47_46 : List XOper := [⟨(some 184), .op (.bin .eql (.tmp 161) (.const (.int .u8 66))), none⟩,
  ⟨(some 183), .op (.mv (.tmp 184)), none⟩]
def x47_47 : List XOper := [⟨(some 185), .op (.mv (.tmp 10)), none⟩,
  ⟨(some 186), .callF 60 [(.tmp 185), (.const (.int .i64 11)), (.const (.int .i64 1))], none⟩,
  ⟨(some 187), .op (.mv (.tmp 10)), none⟩,
  ⟨(some 188), .callF 60 [(.tmp 187), (.const (.int .i64 1)), (.const (.int .i64 4))], none⟩,
  ⟨(some 189), .op (.bin .mul (.const (.int .i64 2)) (.tmp 188)), none⟩,
  ⟨(some 190), .op (.bin .add (.tmp 186) (.tmp 189)), none⟩,
  ⟨(some 11), .op (.mv (.tmp 190)), none⟩]
def x47_48 : List XOper := [⟨(some 191), .op (.mv (.tmp 10)), none⟩,
  ⟨(some 192), .callF 60 [(.tmp 191), (.const (.int .i64 5)), (.const (.int .i64 6))], none⟩,
  ⟨(some 193), .op (.mv (.tmp 10)), none⟩,
  ⟨(some 194), .callF 60 [(.tmp 193), (.const (.int .i64 12)), (.const (.int .i64 1))], none⟩,
  ⟨(some 195), .op (.bin .mul (.const (.int .i64 64)) (.tmp 194)), none⟩,
  ⟨(some 196), .op (.bin .add (.tmp 192) (.tmp 195)), none⟩,
  ⟨(some 12), .op (.mv (.tmp 196)), none⟩]
def x47_49 : XCode := .seq (.region x47_47) (.region x47_48)
def x47_50 : List XOper := [⟨(some 198), .op (.bin .eql (.tmp 161) (.const (.int .u8 85))), none⟩,
  ⟨(some 197), .op (.mv (.tmp 198)), none⟩]
def x47_51 : List XOper := [⟨(some 199), .op (.faddr 1 (.tmp 4)), none⟩,
  ⟨(some 200), .op (.load (.int .i64) 1 (.tmp 199)), none⟩,
  ⟨(some 201), .op (.faddr 1 (.tmp 1)), none⟩,
  ⟨(some 202), .op (.load (.int .i64) 1 (.tmp 201)), none⟩,
  ⟨(some 203), .op (.bin .mul (.const (.int .i64 128)) (.tmp 202)), none⟩,
  ⟨(some 204), .op (.bin .add (.tmp 200) (.tmp 203)), none⟩,
  ⟨(some 205), .op (.mv (.tmp 10)), none⟩,
  ⟨(some 206), .callF 60 [(.tmp 205), (.const (.int .i64 0)), (.const (.int .i64 20))], none⟩,
  ⟨(some 207), .op (.bin .mul (.const (.int .i64 4096)) (.tmp 206)), none⟩,
  ⟨(some 208), .op (.bin .add (.tmp 204) (.tmp 207)), none⟩,
  ⟨(some 209), .op (.conv .u32 (.tmp 208)), none⟩,
  ⟨(some 2), .op (.mv (.tmp 209)), none⟩,
  ⟨(some 3), .op (.mv (.const (.int .i64 0))), none⟩]
def x47_52 : XCode := .seq (.draw x47_51 [[], [0], [], [2], [2, 3], [0, 1, 2, 3, 4], [], [6], [6, 7], [0, 1, 2, 3, 4, 5, 6, 7, 8], [0, 1, 2, 3, 4, 5, 6, 7, 8, 9], [0, 1, 2, 3, 4, 5, 6, 7, 8, 9, 10], [0, 1, 2, 3, 4, 5, 6, 7, 8, 9, 10, 11]]) .ret
def x47_53 : List XOper := [⟨(some 211), .op (.bin .eql (.tmp 161) (.const (.int .u8 74))), none⟩,
  ⟨(some 210), .op (.mv (.tmp 211)), none⟩]
def x47_54 : List XOper := [⟨(some 212), .op (.faddr 1 (.tmp 4)), none⟩,
  ⟨(some 213), .op (.load (.int .i64) 1 (.tmp 212)), none⟩,
  ⟨(some 214), .op (.faddr 1 (.tmp 1)), none⟩,
  ⟨(some 215), .op (.load (.int .i64) 1 (.tmp 214)), none⟩,
  ⟨(some 216), .op (.bin .mul (.const (.int .i64 128)) (.tmp 215)), none⟩,
  ⟨(some 217), .op (.bin .add (.tmp 213) (.tmp 216)), none⟩,
  ⟨(some 218), .op (.mv (.tmp 10)), none⟩,
  ⟨(some 219), .callF 60 [(.tmp 218), (.const (.int .i64 12)), (.const (.int .i64 8))], none⟩,
  ⟨(some 220), .op (.bin .mul (.const (.int .i64 4096)) (.tmp 219)), none⟩,
  ⟨(some 221), .op (.bin .add (.tmp 217) (.tmp 220)), none⟩,
  ⟨(some 222), .op (.mv (.tmp 10)), none⟩,
  ⟨(some 223), .callF 60 [(.tmp 222), (.const (.int .i64 11)), (.const (.int .i64 1))], none⟩,
  ⟨(some 224), .op (.bin .mul (.const (.int .i64 1048576)) (.tmp 223)), none⟩,
  ⟨(some 225), .op (.bin .add (.tmp 221) (.tmp 224)), none⟩,
  ⟨(some 226), .op (.mv (.tmp 10)), none⟩,
  ⟨(some 227), .callF 60 [(.tmp 226), (.const (.int .i64 1)), (.const (.int .i64 10))], none⟩,
  ⟨(some 228), .op (.bin .mul (.const (.int .i64 2097152)) (.tmp 227)), none⟩,
  ⟨(some 229), .op (.bin .add (.tmp 225) (.tmp 228)), none⟩,
  ⟨(some 230), .op (.mv (.tmp 10)), none⟩,
  ⟨(some 231), .callF 60 [(.tmp 230), (.const (.int .i64 20)), (.const (.int .i64 1))], none⟩,
  ⟨(some 232), .op (.bin .mul (.const (.int .i64 2147483648)) (.tmp 231)), none⟩,
  ⟨(some 233), .op (.bin .add (.tmp 229) (.tmp 232)), none⟩,
  ⟨(some 234), .op (.conv .u32 (.tmp 233)), none⟩,
  ⟨(some 2), .op (.mv (.tmp 234)), none⟩,
  ⟨(some 3), .op (.mv (.const (.int .i64 0))), none⟩]
def x47_55 : XCode := .seq (.draw x47_54 [[], [0], [], [2], [2, 3], [0, 1, 2, 3, 4], [], [6], [6, 7], [0, 1, 2, 3, 4, 5, 6, 7, 8], [], [6, 7, 10], [6, 7, 10, 11], [0, 1, 2, 3, 4, 5, 6, 7, 8, 9, 10, 11, 12], [], [6, 7, 10, 11, 14], [6, 7, 10, 11, 14, 15], [0, 1, 2, 3, 4, 5, 6, 7, 8, 9, 10, 11, 12, 13, 14, 15, 16], [], [6, 7, 10, 11, 14, 15, 18], [6, 7, 10, 11, 14, 15, 18, 19], [0, 1, 2, 3, 4, 5, 6, 7, 8, 9, 10, 11, 12, 13, 14, 15, 16, 17, 18, 19, 20], [0, 1, 2, 3, 4, 5, 6, 7, 8, 9, 10, 11, 12, 13, 14, 15, 16, 17, 18, 19, 20, 21], [0, 1, 2, 3, 4, 5, 6, 7, 8, 9, 10, 11, 12, 13, 14, 15, 16, 17, 18, 19, 20, 21, 22], [0, 1, 2, 3, 4, 5, 6, 7, 8, 9, 10, 11, 12, 13, 14, 15, 16, 17, 18, 19, 20, 21, 22, 23]]) .ret
def x47_56 : XCode := .cnd (.tmp 210) x47_55 .skip
def x47_57 : XCode := .seq (.region x47_53) x47_56
def x47_58 : XCode := .cnd (.tmp 197) x47_52 x47_57
def x47_59 : XCode := .seq (.region x47_50) x47_58
def x47_60 : XCode := .cnd (.tmp 183) x47_49 x47_59
def x47_61 : XCode := .seq (.region x47_46) x47_60
def x47_62 : XCode := .cnd (.tmp 177) x47_45 x47_61
def x47_63 : XCode := .seq (.region x47_42) x47_62
def x47_64 : XCode := .cnd (.tmp 168) x47_41 x47_63
def x47_65 : XCode := .seq (.region x47_38) x47_64
def x47_66 : XCode := .cnd (.tmp 162) x47_37 x47_65
def x47_67 : XCode := .seq (.region x47_34) x47_66
def x47_68 : XCode := .block 0 x47_67
def x47_69 : XCode := .seq (.region x47_33) x47_68
def x47_70 : List XOper := [⟨(some 235), .op (.faddr 1 (.tmp 4)), none⟩,
  ⟨(some 236), .op (.load (.int .i64) 1 (.tmp 235)), none⟩,
  ⟨(some 237), .op (.mv (.tmp 11)), none⟩,
  ⟨(some 238), .op (.bin .mul (.const (.int .i64 128)) (.tmp 237)), none⟩,
  ⟨(some 239), .op (.bin .add (.tmp 236) (.tmp 238)), none⟩,
  ⟨(some 240), .op (.faddr 2 (.tmp 4)), none⟩,
  ⟨(some 241), .op (.load (.int .i64) 1 (.tmp 240)), none⟩,
  ⟨(some 242), .op (.bin .mul (.const (.int .i64 4096)) (.tmp 241)), none⟩,
  ⟨(some 243), .op (.bin .add (.tmp 239) (.tmp 242)), none⟩,
  ⟨(some 244), .op (.faddr 2 (.tmp 1)), none⟩,
  ⟨(some 245), .op (.load (.int .i64) 1 (.tmp 244)), none⟩,
  ⟨(some 246), .op (.bin .mul (.const (.int .i64 32768)) (.tmp 245)), none⟩,
  ⟨(some 247), .op (.bin .add (.tmp 243) (.tmp 246)), none⟩,
  ⟨(some 248), .op (.mv (.tmp 13)), none⟩,
  ⟨(some 249), .op (.bin .mul (.const (.int .i64 1048576)) (.tmp 248)), none⟩,
  ⟨(some 250), .op (.bin .add (.tmp 247) (.tmp 249)), none⟩,
  ⟨(some 251), .op (.mv (.tmp 12)), none⟩,
  ⟨(some 252), .op (.bin .mul (.const (.int .i64 33554432)) (.tmp 251)), none⟩,
  ⟨(some 253), .op (.bin .add (.tmp 250) (.tmp 252)), none⟩,
  ⟨(some 254), .op (.conv .u32 (.tmp 253)), none⟩,
  ⟨(some 2), .op (.mv (.tmp 254)), none⟩,
  ⟨(some 3), .op (.mv (.const (.int .i64 0))), none⟩]
def x47_71 : XCode := .seq (.region x47_70) .ret
def x47_72 : XCode := .seq x47_69 x47_71
def x47_73 : XCode := .seq (.region x47_32) x47_72
def x47_74 : XCode := .seq (.draw x47_31 [[], [0], [], [2], [0, 1], [0, 1, 2, 3, 4]]) x47_73
def x47_75 : XCode := .seq (.region x47_30) x47_74
def x47_76 : XCode := .seq x47_29 x47_75
def x47_77 : XCode := .seq x47_24 x47_76
def x47_78 : XCode := .seq x47_19 x47_77
def x47_79 : XCode := .seq x47_14 x47_78
def x47_80 : XCode := .seq x47_8 x47_79
def x47_81 : XCode := .seq (.region x47_3) x47_80
def x47_82 : XCode := .seq (.draw x47_2 [[], [0], [0, 1], [0, 1, 2], [0, 1, 2, 3], [0, 1, 2, 3, 4], [0, 1, 2, 3, 4, 5], [0, 1, 2, 3, 4, 5, 6], [], [8], [8, 9], [0, 1, 2, 3, 8, 9, 10], [0, 1, 2, 3, 8, 9, 10, 11], [0, 1, 2, 3, 8, 9, 10, 11, 12], [0, 1, 2, 3, 8, 9, 10, 11, 12, 13], [0, 1, 2, 3, 8, 9, 10, 11, 12, 13, 14], [], [16], [16, 17], [0, 1, 2, 3, 8, 9, 10, 11, 16, 17, 18], [0, 1, 2, 3, 8, 9, 10, 11, 16, 17, 18, 19], [0, 1, 2, 3, 8, 9, 10, 11, 16, 17, 18, 19, 20], [0, 1, 2, 3, 8, 9, 10, 11, 16, 17, 18, 19, 20, 21], [0, 1, 2, 3, 8, 9, 10, 11, 16, 17, 18, 19, 20, 21, 22], [0, 1, 2, 3, 8, 9, 10, 11, 16, 17, 18, 19, 20, 21, 22, 23], [0, 1, 2, 3, 8, 9, 10, 11, 16, 17, 18, 19, 20, 21, 22, 23, 24], [0, 1, 2, 3, 8, 9, 10, 11, 16, 17, 18, 19, 20, 21, 22, 23, 24, 25], [0, 1, 2, 3, 8, 9, 10, 11, 16, 17, 18, 19, 20, 21, 22, 23, 24, 25, 26], [0, 1, 2, 3, 8, 9, 10, 11, 16, 17, 18, 19, 20, 21, 22, 23, 24, 25, 26, 27], [0, 1, 2, 3, 4, 5, 6, 7, 8, 9, 10, 11, 16, 17, 18, 19, 20, 21, 22, 23, 24], [0, 1, 2, 3, 4, 5, 6, 7, 8, 9, 10, 11, 12, 13, 14, 15, 16, 17, 18, 19, 20, 21, 22, 23, 24, 29], [0, 1, 2, 3, 4, 5, 6, 7, 8, 9, 10, 11, 12, 13, 14, 15, 16, 17, 18, 19, 20, 21, 22, 23, 24, 25, 26, 27, 28, 29, 30]]) x47_81
def x47_83 : XCode := .seq (.region x47_1) x47_82
def x47_84 : XCode := .seq (.region x47_0) x47_83
def x47 : XCode := x47_84
theorem fx47 : fnx Try.prog 47 = some (255, [(2, none), (3, none)], x47) := by kernel_rfl
def x48_0 : List XOper := [⟨(some 8), .op (.new [(.int .i64 0), (.int .u8 0), (.int .i64 0), (.slice none 0 0), (.int .i64 0), (.int .i64 0)]), none⟩,
  ⟨(some 9), .op (.mv (.const (.slice none 0 0))), none⟩]
def x48_1 : List XOper := [⟨(some 12), .op (.mv (.tmp 0)), none⟩,
  ⟨(some 13), .op (.mv (.tmp 1)), none⟩,
  ⟨(some 14), .op (.mv (.tmp 3)), none⟩,
  ⟨(some 15), .op (.build [(.pointer none), (.slice none 0 0), (.slice none 0 0), (.int .i64 0), (.bool false), (.slice none 0 0)] [(0, 1, (.tmp 12)), (1, 1, (.tmp 13)), (4, 1, (.tmp 14))]), none⟩,
  ⟨(some 16), .op (.box (.tmp 15)), none⟩,
  ⟨(some 10), .op (.mv (.tmp 16)), none⟩]
def x48_2 : List XOper := [⟨(some 11), .op (.mv (.const (.int .i64 0))), none⟩]
def x48_3 : List XOper := [⟨(some 17), .op (.mv (.tmp 11)), none⟩,
  ⟨(some 18), .op (.mv (.tmp 2)), none⟩,
  ⟨(some 19), .op (.bin .lss (.tmp 17) (.tmp 18)), none⟩,
  ⟨(some 20), .op (.mv (.tmp 19)), none⟩,
  ⟨(some 21), .op (.mv (.tmp 0)), (some (20, true))⟩,
  ⟨(some 22), .op (.nilck (.tmp 21)), (some (20, true))⟩,
  ⟨(some 23), .op (.faddr 34 (.tmp 22)), (some (20, true))⟩,
  ⟨(some 24), .op (.load (.int .i64) 1 (.tmp 23)), (some (20, true))⟩,
  ⟨(some 25), .op (.bin .eql (.tmp 24) (.const (.int .i64 0))), (some (20, true))⟩,
  ⟨(some 26), .pick (.tmp 20) (.tmp 25) (.const (.bool false)), none⟩]
def x48_4 : XCode := .cnd (.tmp 26) .skip (.exit 0)
def x48_5 : XCode := .seq (.region x48_3) x48_4
def x48_6 : List XOper := [⟨(some 27), .op (.mv (.tmp 10)), none⟩,
  ⟨(some 28), .callF 61 [(.tmp 27)], none⟩,
  ⟨(some 29), .op (.un .not (.tmp 28)), none⟩]
def x48_7 : List XOper := [⟨(some 30), .op (.mv (.tmp 0)), none⟩,
  ⟨(some 31), .op (.nilck (.tmp 30)), none⟩,
  ⟨(some 32), .op (.faddr 34 (.tmp 31)), none⟩,
  ⟨none, .op (.store 1 (.tmp 32) (.const (.int .i64 4))), none⟩]
def x48_8 : XCode := .seq (.region x48_7) (.exit 0)
def x48_9 : XCode := .cnd (.tmp 29) x48_8 .skip
def x48_10 : XCode := .seq (.region x48_6) x48_9
def x48_11 : List XOper := [⟨(some 33), .op (.mv (.tmp 11)), none⟩,
  ⟨(some 34), .op (.bin .add (.tmp 33) (.const (.int .i64 1))), none⟩,
  ⟨(some 11), .op (.mv (.tmp 34)), none⟩]
def x48_12 : XCode := .seq x48_10 (.region x48_11)
def x48_13 : XCode := .block 1 x48_12
def x48_14 : XCode := .seq x48_5 x48_13
def x48_15 : XCode := .loop x48_14
def x48_16 : XCode := .block 0 x48_15
def x48_17 : List XOper := [⟨(some 35), .op (.mv (.tmp 0)), none⟩,
  ⟨(some 36), .op (.nilck (.tmp 35)), none⟩,
  ⟨(some 37), .op (.faddr 34 (.tmp 36)), none⟩,
  ⟨(some 38), .op (.load (.int .i64) 1 (.tmp 37)), none⟩,
  ⟨(some 39), .op (.mv (.tmp 0)), none⟩,
  ⟨(some 40), .op (.nilck (.tmp 39)), none⟩,
  ⟨(some 41), .op (.faddr 35 (.tmp 40)), none⟩,
  ⟨(some 42), .op (.load (.int .u8) 1 (.tmp 41)), none⟩,
  ⟨(some 43), .op (.mv (.tmp 10)), none⟩,
  ⟨(some 44), .op (.nilck (.tmp 43)), none⟩,
  ⟨(some 45), .op (.faddr 2 (.tmp 44)), none⟩,
  ⟨(some 46), .op (.load .one 1 (.tmp 45)), none⟩,
  ⟨(some 47), .op (.mv (.tmp 11)), none⟩,
  ⟨(some 48), .op (.mv (.tmp 10)), none⟩,
  ⟨(some 49), .op (.nilck (.tmp 48)), none⟩,
  ⟨(some 50), .op (.faddr 3 (.tmp 49)), none⟩,
  ⟨(some 51), .op (.load (.int .i64) 1 (.tmp 50)), none⟩,
  ⟨(some 52), .op (.build [(.int .i64 0), (.int .u8 0), (.int .i64 0), (.slice none 0 0), (.int .i64 0), (.int .i64 0)] [(0, 1, (.tmp 38)), (1, 1, (.tmp 42)), (3, 1, (.tmp 46)), (4, 1, (.tmp 47)), (5, 1, (.tmp 51))]), none⟩,
  ⟨(some 53), .op (.mv (.tmp 10)), none⟩,
  ⟨(some 54), .op (.nilck (.tmp 53)), none⟩,
  ⟨(some 55), .op (.faddr 5 (.tmp 54)), none⟩,
  ⟨(some 56), .op (.load .one 1 (.tmp 55)), none⟩,
  ⟨none, .op (.store 6 (.tmp 8) (.tmp 52)), none⟩,
  ⟨(some 9), .op (.mv (.tmp 56)), none⟩]
def x48_18 : XCode := .seq (.draw x48_17 [[], [0], [0, 1], [0, 1, 2], [], [4], [4, 5], [4, 5, 6], [], [8], [8, 9], [8, 9, 10], [], [], [13], [13, 14], [13, 14, 15], [0, 1, 2, 3, 4, 5, 6, 7, 8, 9, 10, 11, 12, 13, 14, 15, 16], [], [18], [18, 19], [18, 19, 20], [0, 1, 2, 3, 4, 5, 6, 7, 8, 9, 10, 11, 12, 13, 14, 15, 16, 17], [0, 1, 2, 3, 4, 5, 6, 7, 8, 9, 10, 11, 12, 13, 14, 15, 16, 17, 18, 19, 20, 21, 22]]) .ret
def x48_19 : XCode := .seq x48_16 x48_18
def x48_20 : XCode := .seq (.region x48_2) x48_19
def x48_21 : XCode := .seq (.region x48_1) x48_20
def x48_22 : XCode := .seq (.region x48_0) x48_21
def x48 : XCode := x48_22
theorem fx48 : fnx Try.prog 48 = some (57, [(8, (some (.agg, 6))), (9, none)], x48) := by kernel_rfl
def x51_0 : List XOper := [⟨(some 1), .op (.box (.tmp 0)), none⟩,
  ⟨(some 2), .op (.mv (.const (.bool false))), none⟩]
def x51_1 : List XOper := [⟨(some 5), .op (.faddr 0 (.tmp 1)), none⟩,
  ⟨(some 6), .op (.load .str 1 (.tmp 5)), none⟩,
  ⟨(some 7), .op (.bin .neq (.tmp 6) (.const (.string ⟨#[]⟩))), none⟩]
def x51_2 : List XOper := [⟨(some 8), .op (.faddr 1 (.tmp 1)), none⟩,
  ⟨(some 9), .op (.load .agg 5 (.tmp 8)), none⟩,
  ⟨(some 10), .op (.build [(.int .i64 0), (.int .i64 0), (.int .i64 0), (.int .i64 0), (.int .i64 0)] []), none⟩,
  ⟨(some 11), .op (.eqagg false [0, 0, 0, 0, 0] (.tmp 9) (.tmp 10)), none⟩,
  ⟨(some 12), .op (.mv (.tmp 11)), none⟩,
  ⟨(some 13), .op (.faddr 6 (.tmp 1)), (some (12, true))⟩,
  ⟨(some 14), .op (.load .str 1 (.tmp 13)), (some (12, true))⟩,
  ⟨(some 15), .op (.bin .eql (.tmp 14) (.const (.string ⟨#[]⟩))), (some (12, true))⟩,
  ⟨(some 16), .pick (.tmp 12) (.tmp 15) (.const (.bool false)), none⟩,
  ⟨(some 17), .op (.mv (.tmp 16)), none⟩,
  ⟨(some 18), .op (.faddr 7 (.tmp 1)), (some (17, true))⟩,
  ⟨(some 19), .op (.load (.int .i64) 1 (.tmp 18)), (some (17, true))⟩,
  ⟨(some 20), .op (.bin .eql (.tmp 19) (.const (.int .i64 0))), (some (17, true))⟩,
  ⟨(some 21), .pick (.tmp 17) (.tmp 20) (.const (.bool false)), none⟩,
  ⟨(some 2), .op (.mv (.tmp 21)), none⟩]
def x51_3 : XCode := .seq (.region x51_2) .ret
def x51_4 : XCode := .cnd (.tmp 7) x51_3 .skip
def x51_5 : XCode := .seq (.region x51_1) x51_4
def x51_6 : List XOper := [⟨(some 23), .op (.faddr 1 (.tmp 1)), none⟩,
  ⟨(some 24), .op (.load .agg 5 (.tmp 23)), none⟩,
  ⟨(some 25), .callF 18 [(.tmp 24)], none⟩,
  ⟨(some 22), .op (.mv (.tmp 25)), none⟩,
  ⟨(some 26), .op (.ext (.tmp 22) 0), none⟩,
  ⟨(some 27), .op (.ext (.tmp 22) 1), none⟩,
  ⟨(some 3), .op (.mv (.tmp 26)), none⟩,
  ⟨(some 4), .op (.mv (.tmp 27)), none⟩]
def x51_7 : List XOper := [⟨(some 28), .op (.mv (.tmp 4)), none⟩,
  ⟨(some 29), .op (.bin .neq (.tmp 28) (.const (.int .i64 0))), none⟩]
def x51_8 : List XOper := [⟨(some 2), .op (.mv (.const (.bool false))), none⟩]
def x51_9 : XCode := .seq (.region x51_8) .ret
def x51_10 : XCode := .cnd (.tmp 29) x51_9 .skip
def x51_11 : XCode := .seq (.region x51_7) x51_10
def x51_12 : XCode := .seq (.region x51_6) x51_11
def x51_13 : List XOper := [⟨(some 31), .op (.faddr 6 (.tmp 1)), none⟩,
  ⟨(some 32), .op (.load .str 1 (.tmp 31)), none⟩,
  ⟨(some 33), .op (.bin .eql (.tmp 32) (.const (.string ⟨#[]⟩))), none⟩,
  ⟨(some 30), .op (.mv (.tmp 33)), none⟩]
def x51_14 : List XOper := [⟨(some 34), .op (.faddr 7 (.tmp 1)), none⟩,
  ⟨(some 35), .op (.load (.int .i64) 1 (.tmp 34)), none⟩,
  ⟨(some 36), .op (.bin .eql (.tmp 35) (.const (.int .i64 0))), none⟩,
  ⟨(some 2), .op (.mv (.tmp 36)), none⟩]
def x51_15 : XCode := .seq (.region x51_14) .ret
def x51_16 : List XOper := [⟨(some 38), .op (.faddr 1 (.tmp 1)), none⟩,
  ⟨(some 39), .op (.faddr 0 (.tmp 38)), none⟩,
  ⟨(some 40), .op (.load (.int .i64) 1 (.tmp 39)), none⟩,
  ⟨(some 41), .callF 52 [(.tmp 40)], none⟩,
  ⟨(some 42), .op (.mv (.tmp 41)), none⟩,
  ⟨(some 43), .op (.faddr 1 (.tmp 1)), (some (42, false))⟩,
  ⟨(some 44), .op (.faddr 0 (.tmp 43)), (some (42, false))⟩,
  ⟨(some 45), .op (.load (.int .i64) 1 (.tmp 44)), (some (42, false))⟩,
  ⟨(some 46), .op (.bin .eql (.tmp 45) (.const (.int .i64 53))), (some (42, false))⟩,
  ⟨(some 47), .pick (.tmp 42) (.const (.bool true)) (.tmp 46), none⟩,
  ⟨(some 37), .op (.mv (.tmp 47)), none⟩]
def x51_17 : List XOper := [⟨(some 48), .op (.faddr 7 (.tmp 1)), none⟩,
  ⟨(some 49), .op (.load (.int .i64) 1 (.tmp 48)), none⟩,
  ⟨(some 50), .op (.bin .eql (.tmp 49) (.const (.int .i64 0))), none⟩,
  ⟨(some 51), .op (.mv (.tmp 50)), none⟩,
  ⟨(some 52), .op (.faddr 1 (.tmp 1)), (some (51, true))⟩,
  ⟨(some 53), .op (.faddr 4 (.tmp 52)), (some (51, true))⟩,
  ⟨(some 54), .op (.load (.int .i64) 1 (.tmp 53)), (some (51, true))⟩,
  ⟨(some 55), .op (.bin .eql (.tmp 54) (.const (.int .i64 0))), (some (51, true))⟩,
  ⟨(some 56), .pick (.tmp 51) (.tmp 55) (.const (.bool false)), none⟩,
  ⟨(some 2), .op (.mv (.tmp 56)), none⟩]
def x51_18 : XCode := .seq (.region x51_17) .ret
def x51_19 : List XOper := [⟨(some 58), .op (.faddr 1 (.tmp 1)), none⟩,
  ⟨(some 59), .op (.faddr 0 (.tmp 58)), none⟩,
  ⟨(some 60), .op (.load (.int .i64) 1 (.tmp 59)), none⟩,
  ⟨(some 61), .op (.bin .eql (.tmp 60) (.const (.int .i64 51))), none⟩,
  ⟨(some 57), .op (.mv (.tmp 61)), none⟩]
def x51_20 : List XOper := [⟨(some 62), .op (.faddr 7 (.tmp 1)), none⟩,
  ⟨(some 63), .op (.load (.int .i64) 1 (.tmp 62)), none⟩,
  ⟨(some 64), .op (.bin .eql (.tmp 63) (.const (.int .i64 1))), none⟩,
  ⟨(some 65), .op (.mv (.tmp 64)), none⟩,
  ⟨(some 66), .op (.faddr 1 (.tmp 1)), (some (65, true))⟩,
  ⟨(some 67), .op (.faddr 4 (.tmp 66)), (some (65, true))⟩,
  ⟨(some 68), .op (.load (.int .i64) 1 (.tmp 67)), (some (65, true))⟩,
  ⟨(some 69), .op (.bin .eql (.tmp 68) (.const (.int .i64 0))), (some (65, true))⟩,
  ⟨(some 70), .pick (.tmp 65) (.tmp 69) (.const (.bool false)), none⟩,
  ⟨(some 2), .op (.mv (.tmp 70)), none⟩]
def x51_21 : XCode := .seq (.region x51_20) .ret
def x51_22 : List XOper := [⟨(some 72), .op (.faddr 1 (.tmp 1)), none⟩,
  ⟨(some 73), .op (.faddr 0 (.tmp 72)), none⟩,
  ⟨(some 74), .op (.load (.int .i64) 1 (.tmp 73)), none⟩,
  ⟨(some 75), .op (.bin .eql (.tmp 74) (.const (.int .i64 28))), none⟩,
  ⟨(some 71), .op (.mv (.tmp 75)), none⟩]
def x51_23 : List XOper := [⟨(some 76), .op (.faddr 7 (.tmp 1)), none⟩,
  ⟨(some 77), .op (.load (.int .i64) 1 (.tmp 76)), none⟩,
  ⟨(some 78), .op (.bin .eql (.tmp 77) (.const (.int .i64 2))), none⟩,
  ⟨(some 79), .op (.mv (.tmp 78)), none⟩,
  ⟨(some 80), .op (.faddr 1 (.tmp 1)), (some (79, true))⟩,
  ⟨(some 81), .op (.faddr 4 (.tmp 80)), (some (79, true))⟩,
  ⟨(some 82), .op (.load (.int .i64) 1 (.tmp 81)), (some (79, true))⟩,
  ⟨(some 83), .op (.bin .eql (.tmp 82) (.const (.int .i64 0))), (some (79, true))⟩,
  ⟨(some 84), .pick (.tmp 79) (.tmp 83) (.const (.bool false)), none⟩,
  ⟨(some 2), .op (.mv (.tmp 84)), none⟩]
def x51_24 : XCode := .seq (.region x51_23) .ret
def x51_25 : XCode := .cnd (.tmp 71) x51_24 .skip
def x51_26 : XCode := .seq (.region x51_22) x51_25
def x51_27 : XCode := .cnd (.tmp 57) x51_21 x51_26
def x51_28 : XCode := .seq (.region x51_19) x51_27
def x51_29 : XCode := .cnd (.tmp 37) x51_18 x51_28
def x51_30 : XCode := .seq (.region x51_16) x51_29
def x51_31 : XCode := .cnd (.tmp 30) x51_15 x51_30
def x51_32 : XCode := .seq (.region x51_13) x51_31
def x51_33 : XCode := .block 0 x51_32
def x51_34 : List XOper := [⟨(some 2), .op (.mv (.const (.bool false))), none⟩]
def x51_35 : XCode := .seq (.region x51_34) .ret
def x51_36 : XCode := .seq x51_33 x51_35
def x51_37 : XCode := .seq x51_12 x51_36
def x51_38 : XCode := .seq x51_5 x51_37
def x51_39 : XCode := .seq (.region x51_0) x51_38
def x51 : XCode := x51_39
theorem fx51 : fnx Try.prog 51 = some (85, [(2, none)], x51) := by kernel_rfl
def x52_0 : List XOper := [⟨(some 2), .op (.mv (.const (.bool false))), none⟩]
def x52_1 : List XOper := [⟨(some 3), .op (.mv (.tmp 0)), none⟩,
  ⟨(some 4), .op (.bin .geq (.tmp 3) (.const (.int .i64 45))), none⟩,
  ⟨(some 5), .op (.mv (.tmp 4)), none⟩,
  ⟨(some 6), .op (.mv (.tmp 0)), (some (5, true))⟩,
  ⟨(some 7), .op (.bin .leq (.tmp 6) (.const (.int .i64 50))), (some (5, true))⟩,
  ⟨(some 8), .pick (.tmp 5) (.tmp 7) (.const (.bool false)), none⟩,
  ⟨(some 2), .op (.mv (.tmp 8)), none⟩]
def x52_2 : XCode := .seq (.region x52_1) .ret
def x52_3 : XCode := .seq (.region x52_0) x52_2
def x52 : XCode := x52_3
theorem fx52 : fnx Try.prog 52 = some (9, [(2, none)], x52) := by kernel_rfl
def x53_0 : List XOper := [⟨(some 4), .op (.mv (.const (.bool false))), none⟩]
def x53_1 : List XOper := [⟨(some 8), .op (.mv (.tmp 0)), none⟩,
  ⟨(some 9), .callF 71 [(.tmp 8)], none⟩,
  ⟨(some 7), .op (.mv (.tmp 9)), none⟩,
  ⟨(some 10), .op (.ext (.tmp 7) 0), none⟩,
  ⟨(some 11), .op (.ext (.tmp 7) 1), none⟩,
  ⟨(some 5), .op (.mv (.tmp 10)), none⟩,
  ⟨(some 6), .op (.mv (.tmp 11)), none⟩]
def x53_2 : List XOper := [⟨(some 12), .op (.mv (.tmp 1)), none⟩,
  ⟨(some 13), .op (.mv (.tmp 5)), none⟩,
  ⟨(some 14), .op (.bin .geq (.tmp 12) (.tmp 13)), none⟩,
  ⟨(some 15), .op (.mv (.tmp 14)), none⟩,
  ⟨(some 16), .op (.mv (.tmp 1)), (some (15, true))⟩,
  ⟨(some 17), .op (.mv (.tmp 6)), (some (15, true))⟩,
  ⟨(some 18), .op (.bin .leq (.tmp 16) (.tmp 17)), (some (15, true))⟩,
  ⟨(some 19), .pick (.tmp 15) (.tmp 18) (.const (.bool false)), none⟩,
  ⟨(some 4), .op (.mv (.tmp 19)), none⟩]
def x53_3 : XCode := .seq (.region x53_2) .ret
def x53_4 : XCode := .seq (.region x53_1) x53_3
def x53_5 : XCode := .seq (.region x53_0) x53_4
def x53 : XCode := x53_5
theorem fx53 : fnx Try.prog 53 = some (20, [(4, none)], x53) := by kernel_rfl
def x54_0 : List XOper := [⟨(some 2), .op (.mv (.const (.int .i64 0))), none⟩]
def x54_1 : List XOper := [⟨(some 3), .op (.mv (.tmp 0)), none⟩,
  ⟨(some 4), .op (.mv (.tmp 0)), none⟩,
  ⟨(some 5), .callF 55 [(.tmp 4)], none⟩,
  ⟨(some 6), .op (.bin .sub (.tmp 3) (.tmp 5)), none⟩,
  ⟨(some 7), .op (.bin .shr (.tmp 6) (.const (.int .u64 12))), none⟩,
  ⟨(some 2), .op (.mv (.tmp 7)), none⟩]
def x54_2 : XCode := .seq (.region x54_1) .ret
def x54_3 : XCode := .seq (.region x54_0) x54_2
def x54 : XCode := x54_3
theorem fx54 : fnx Try.prog 54 = some (8, [(2, none)], x54) := by kernel_rfl
def x55_0 : List XOper := [⟨(some 2), .op (.mv (.const (.int .i64 0))), none⟩]
def x55_1 : List XOper := [⟨(some 3), .op (.mv (.tmp 0)), none⟩,
  ⟨(some 4), .op (.bin .and (.tmp 3) (.const (.int .i64 4095))), none⟩,
  ⟨(some 5), .op (.bin .xor (.tmp 4) (.const (.int .i64 2048))), none⟩,
  ⟨(some 6), .op (.bin .sub (.tmp 5) (.const (.int .i64 2048))), none⟩,
  ⟨(some 2), .op (.mv (.tmp 6)), none⟩]
def x55_2 : XCode := .seq (.region x55_1) .ret
def x55_3 : XCode := .seq (.region x55_0) x55_2
def x55 : XCode := x55_3
theorem fx55 : fnx Try.prog 55 = some (7, [(2, none)], x55) := by kernel_rfl
def x56_0 : List XOper := [⟨(some 2), .op (.mv (.const (.int .i64 0))), none⟩]
def x56_1 : List XOper := [⟨(some 3), .op (.mv (.tmp 0)), none⟩,
  ⟨(some 4), .op (.bin .sub (.tmp 3) (.const (.int .i64 45))), none⟩,
  ⟨(some 5), .op (.bin .xor (.tmp 4) (.const (.int .i64 1))), none⟩,
  ⟨(some 6), .op (.bin .add (.tmp 5) (.const (.int .i64 45))), none⟩,
  ⟨(some 2), .op (.mv (.tmp 6)), none⟩]
def x56_2 : XCode := .seq (.region x56_1) .ret
def x56_3 : XCode := .seq (.region x56_0) x56_2
def x56 : XCode := x56_3
theorem fx56 : fnx Try.prog 56 = some (7, [(2, none)], x56) := by kernel_rfl
def x57_0 : List XOper := [⟨(some 9), .op (.mv (.tmp 2)), none⟩,
  ⟨(some 10), .op (.lenS (.tmp 9)), none⟩,
  ⟨(some 11), .op (.mv (.const (.int .i64 0))), none⟩]
def x57_1 : List XOper := [⟨(some 12), .op (.bin .lss (.tmp 11) (.tmp 10)), none⟩]
def x57_2 : XCode := .cnd (.tmp 12) .skip (.exit 0)
def x57_3 : List XOper := [⟨(some 13), .op (.iaddrS 3 (.tmp 9) (.tmp 11)), none⟩,
  ⟨(some 14), .op (.load .agg 3 (.tmp 13)), none⟩,
  ⟨(some 8), .op (.new [(.int .u32 0), (.int .u32 0), (.int .u32 0)]), none⟩,
  ⟨none, .op (.store 3 (.tmp 8) (.tmp 14)), none⟩]
def x57_4 : List XOper := [⟨(some 15), .op (.load .one 1 (.tmp 3)), none⟩,
  ⟨(some 16), .op (.iaddrA false 3 1 (.tmp 8) (.const (.int .i64 0))), none⟩,
  ⟨(some 17), .op (.load (.int .u32) 1 (.tmp 16)), none⟩,
  ⟨(some 18), .op (.conv .i64 (.tmp 17)), none⟩,
  ⟨(some 19), .op (.mv (.tmp 0)), none⟩,
  ⟨(some 20), .op (.mv (.tmp 1)), none⟩,
  ⟨(some 21), .op (.iaddrA false 3 1 (.tmp 8) (.const (.int .i64 1))), none⟩,
  ⟨(some 22), .op (.load (.int .u32) 1 (.tmp 21)), none⟩,
  ⟨(some 23), .op (.iaddrA false 3 1 (.tmp 8) (.const (.int .i64 2))), none⟩,
  ⟨(some 24), .op (.load (.int .u32) 1 (.tmp 23)), none⟩,
  ⟨(some 25), .op (.build [(.int .u32 0), (.int .u32 0), (.int .u32 0)] [(0, 1, (.tmp 20)), (1, 1, (.tmp 22)), (2, 1, (.tmp 24))]), none⟩,
  ⟨(some 26), .op (.build [(.int .u8 0), (.int .u32 0), (.int .u32 0), (.int .u32 0)] [(0, 1, (.tmp 19)), (1, 3, (.tmp 25))]), none⟩,
  ⟨none, .op (.mapupd 3 104 (.int .i64) (.tmp 15) (.tmp 18) (.tmp 26)), none⟩]
def x57_5 : XCode := .seq (.region x57_3) (.region x57_4)
def x57_6 : XCode := .block 1 x57_5
def x57_7 : List XOper := [⟨(some 27), .op (.bin .add (.tmp 11) (.const (.int .i64 1))), none⟩,
  ⟨(some 11), .op (.mv (.tmp 27)), none⟩]
def x57_8 : XCode := .seq x57_6 (.region x57_7)
def x57_9 : XCode := .seq x57_2 x57_8
def x57_10 : XCode := .seq (.region x57_1) x57_9
def x57_11 : XCode := .loop x57_10
def x57_12 : XCode := .block 0 x57_11
def x57_13 : XCode := .seq (.region x57_0) x57_12
def x57 : XCode := x57_13
theorem fx57 : fnx Try.prog 57 = some (28, [], x57) := by kernel_rfl
def x58_0 : List XOper := [⟨(some 2), .op (.new [(.int .u8 0), (.int .i64 0), (.int .i64 0), (.int .i64 0)]), none⟩]
def x58_1 : List XOper := [⟨(some 6), .op (.build [(.int .i64 0), (.int .i64 0)] []), none⟩,
  ⟨(some 7), .op (.build [(.int .i64 0), (.int .i64 0)] [(0, 1, (.const (.int .i64 0))), (1, 1, (.const (.int .i64 0)))]), none⟩,
  ⟨(some 8), .op (.build [(.int .i64 0), (.int .i64 0)] [(0, 1, (.const (.int .i64 0))), (1, 1, (.const (.int .i64 32)))]), none⟩,
  ⟨(some 9), .op (.build [(.int .i64 0), (.int .i64 0)] [(0, 1, (.const (.int .i64 1))), (1, 1, (.const (.int .i64 0)))]), none⟩,
  ⟨(some 10), .op (.build [(.int .i64 0), (.int .i64 0)] [(0, 1, (.const (.int .i64 2))), (1, 1, (.const (.int .i64 0)))]), none⟩,
  ⟨(some 11), .op (.build [(.int .i64 0), (.int .i64 0)] [(0, 1, (.const (.int .i64 3))), (1, 1, (.const (.int .i64 0)))]), none⟩,
  ⟨(some 12), .op (.build [(.int .i64 0), (.int .i64 0)] [(0, 1, (.const (.int .i64 4))), (1, 1, (.const (.int .i64 0)))]), none⟩,
  ⟨(some 13), .op (.build [(.int .i64 0), (.int .i64 0)] [(0, 1, (.const (.int .i64 5))), (1, 1, (.const (.int .i64 0)))]), none⟩,
  ⟨(some 14), .op (.build [(.int .i64 0), (.int .i64 0)] [(0, 1, (.const (.int .i64 5))), (1, 1, (.const (.int .i64 32)))]), none⟩,
  ⟨(some 15), .op (.build [(.int .i64 0), (.int .i64 0)] [(0, 1, (.const (.int .i64 6))), (1, 1, (.const (.int .i64 0)))]), none⟩,
  ⟨(some 16), .op (.build [(.int .i64 0), (.int .i64 0)] [(0, 1, (.const (.int .i64 7))), (1, 1, (.const (.int .i64 0)))]), none⟩,
  ⟨(some 17), .op (.build [(.int .i64 0), (.int .i64 0)] [(0, 1, (.const (.int .i64 0))), (1, 1, (.const (.int .i64 1)))]), none⟩,
  ⟨(some 18), .op (.build [(.int .i64 0), (.int .i64 0)] [(0, 1, (.const (.int .i64 1))), (1, 1, (.const (.int .i64 1)))]), none⟩,
  ⟨(some 19), .op (.build [(.int .i64 0), (.int .i64 0)] [(0, 1, (.const (.int .i64 3))), (1, 1, (.const (.int .i64 1)))]), none⟩,
  ⟨(some 20), .op (.build [(.int .i64 0), (.int .i64 0)] [(0, 1, (.const (.int .i64 4))), (1, 1, (.const (.int .i64 1)))]), none⟩,
  ⟨(some 21), .op (.build [(.int .i64 0), (.int .i64 0)] [(0, 1, (.const (.int .i64 5))), (1, 1, (.const (.int .i64 1)))]), none⟩,
  ⟨(some 22), .op (.build [(.int .i64 0), (.int .i64 0)] [(0, 1, (.const (.int .i64 6))), (1, 1, (.const (.int .i64 1)))]), none⟩,
  ⟨(some 23), .op (.build [(.int .i64 0), (.int .i64 0)] [(0, 1, (.const (.int .i64 7))), (1, 1, (.const (.int .i64 1)))]), none⟩,
  ⟨(some 24), .op (.build [(.int .i64 0), (.int .i64 0)] [(0, 1, (.const (.int .i64 0))), (1, 1, (.const (.int .i64 0)))]), none⟩,
  ⟨(some 25), .op (.build [(.int .i64 0), (.int .i64 0)] [(0, 1, (.const (.int .i64 0))), (1, 1, (.const (.int .i64 32)))]), none⟩,
  ⟨(some 26), .op (.build [(.int .i64 0), (.int .i64 0)] [(0, 1, (.const (.int .i64 1))), (1, 1, (.const (.int .i64 0)))]), none⟩,
  ⟨(some 27), .op (.build [(.int .i64 0), (.int .i64 0)] [(0, 1, (.const (.int .i64 5))), (1, 1, (.const (.int .i64 0)))]), none⟩,
  ⟨(some 28), .op (.build [(.int .i64 0), (.int .i64 0)] [(0, 1, (.const (.int .i64 5))), (1, 1, (.const (.int .i64 32)))]), none⟩,
  ⟨(some 29), .op (.build [(.int .i64 0), (.int .i64 0)] [(0, 1, (.const (.int .i64 0))), (1, 1, (.const (.int .i64 1)))]), none⟩,
  ⟨(some 30), .op (.build [(.int .i64 0), (.int .i64 0)] [(0, 1, (.const (.int .i64 4))), (1, 1, (.const (.int .i64 1)))]), none⟩,
  ⟨(some 31), .op (.build [(.int .i64 0), (.int .i64 0)] [(0, 1, (.const (.int .i64 5))), (1, 1, (.const (.int .i64 1)))]), none⟩,
  ⟨(some 32), .op (.build [(.int .i64 0), (.int .i64 0)] [(0, 1, (.const (.int .i64 6))), (1, 1, (.const (.int .i64 1)))]), none⟩,
  ⟨(some 33), .op (.build [(.int .i64 0), (.int .i64 0)] [(0, 1, (.const (.int .i64 7))), (1, 1, (.const (.int .i64 1)))]), none⟩,
  ⟨(some 34), .op (.build [(.int .i64 0), (.int .i64 0), (.int .i64 0), (.int .i64 0), (.int .i64 0), (.int .i64 0), (.int .i64 0), (.int .i64 0), (.int .i64 0), (.int .i64 0), (.int .i64 0), (.int .i64 0), (.int .i64 0), (.int .i64 0), (.int .i64 0), (.int .i64 0), (.int .i64 0), (.int .i64 0), (.int .i64 0), (.int .i64 0), (.int .i64 0), (.int .i64 0), (.int .i64 0), (.int .i64 0), (.int .i64 0), (.int .i64 0), (.int .i64 0), (.int .i64 0), (.int .i64 0), (.int .i64 0), (.int .i64 0), (.int .i64 0), (.int .i64 0), (.int .i64 0), (.int .i64 0), (.int .i64 0), (.int .i64 0), (.int .i64 0), (.int .i64 0), (.int .i64 0), (.int .i64 0), (.int .i64 0), (.int .i64 0), (.int .i64 0), (.int .i64 0), (.int .i64 0), (.int .i64 0), (.int .i64 0), (.int .i64 0), (.int .i64 0), (.int .i64 0), (.int .i64 0), (.int .i64 0), (.int .i64 0), (.int .i64 0), (.int .i64 0)] [(0, 2, (.tmp 6)), (2, 2, (.tmp 7)), (4, 2, (.tmp 8)), (6, 2, (.tmp 9)), (8, 2, (.tmp 10)), (10, 2, (.tmp 11)), (12, 2, (.tmp 12)), (14, 2, (.tmp 13)), (16, 2, (.tmp 14)), (18, 2, (.tmp 15)), (20, 2, (.tmp 16)), (22, 2, (.tmp 17)), (24, 2, (.tmp 18)), (26, 2, (.tmp 19)), (28, 2, (.tmp 20)), (30, 2, (.tmp 21)), (32, 2, (.tmp 22)), (34, 2, (.tmp 23)), (36, 2, (.tmp 24)), (38, 2, (.tmp 25)), (40, 2, (.tmp 26)), (42, 2, (.tmp 27)), (44, 2, (.tmp 28)), (46, 2, (.tmp 29)), (48, 2, (.tmp 30)), (50, 2, (.tmp 31)), (52, 2, (.tmp 32)), (54, 2, (.tmp 33))]), none⟩,
  ⟨(some 3), .op (.new [(.int .i64 0), (.int .i64 0), (.int .i64 0), (.int .i64 0), (.int .i64 0), (.int .i64 0), (.int .i64 0), (.int .i64 0), (.int .i64 0), (.int .i64 0), (.int .i64 0), (.int .i64 0), (.int .i64 0), (.int .i64 0), (.int .i64 0), (.int .i64 0), (.int .i64 0), (.int .i64 0), (.int .i64 0), (.int .i64 0), (.int .i64 0), (.int .i64 0), (.int .i64 0), (.int .i64 0), (.int .i64 0), (.int .i64 0), (.int .i64 0), (.int .i64 0), (.int .i64 0), (.int .i64 0), (.int .i64 0), (.int .i64 0), (.int .i64 0), (.int .i64 0), (.int .i64 0), (.int .i64 0), (.int .i64 0), (.int .i64 0), (.int .i64 0), (.int .i64 0), (.int .i64 0), (.int .i64 0), (.int .i64 0), (.int .i64 0), (.int .i64 0), (.int .i64 0), (.int .i64 0), (.int .i64 0), (.int .i64 0), (.int .i64 0), (.int .i64 0), (.int .i64 0), (.int .i64 0), (.int .i64 0), (.int .i64 0), (.int .i64 0)]), none⟩,
  ⟨none, .op (.store 56 (.tmp 3) (.tmp 34)), none⟩]
def x58_2 : List XOper := [⟨(some 35), .op (.mv (.tmp 0)), none⟩,
  ⟨(some 36), .op (.bin .geq (.tmp 35) (.const (.int .i64 1))), none⟩,
  ⟨(some 37), .op (.mv (.tmp 36)), none⟩,
  ⟨(some 38), .op (.mv (.tmp 0)), (some (37, true))⟩,
  ⟨(some 39), .op (.bin .leq (.tmp 38) (.const (.int .i64 17))), (some (37, true))⟩,
  ⟨(some 40), .pick (.tmp 37) (.tmp 39) (.const (.bool false)), none⟩]
def x58_3 : List XOper := [⟨(some 41), .op (.mv (.tmp 0)), none⟩,
  ⟨(some 42), .op (.iaddrA true 28 2 (.tmp 3) (.tmp 41)), none⟩,
  ⟨(some 43), .op (.iaddrA false 2 1 (.tmp 42) (.const (.int .i64 0))), none⟩,
  ⟨(some 44), .op (.load (.int .i64) 1 (.tmp 43)), none⟩,
  ⟨(some 45), .op (.mv (.tmp 0)), none⟩,
  ⟨(some 46), .op (.iaddrA true 28 2 (.tmp 3) (.tmp 45)), none⟩,
  ⟨(some 47), .op (.iaddrA false 2 1 (.tmp 46) (.const (.int .i64 1))), none⟩,
  ⟨(some 48), .op (.load (.int .i64) 1 (.tmp 47)), none⟩,
  ⟨(some 49), .op (.build [(.int .u8 0), (.int .i64 0), (.int .i64 0), (.int .i64 0)] [(0, 1, (.const (.int .u8 82))), (1, 1, (.const (.int .i64 51))), (2, 1, (.tmp 44)), (3, 1, (.tmp 48))]), none⟩,
  ⟨none, .op (.store 4 (.tmp 2) (.tmp 49)), none⟩]
def x58_4 : XCode := .seq (.draw x58_3 [[], [0], [0, 1], [0, 1, 2], [], [4], [4, 5], [4, 5, 6], [0, 1, 2, 3, 4, 5, 6, 7], [0, 1, 2, 3, 4, 5, 6, 7, 8]]) .ret
def x58_5 : XCode := .cnd (.tmp 40) x58_4 .skip
def x58_6 : XCode := .seq (.region x58_2) x58_5
def x58_7 : List XOper := [⟨(some 50), .op (.mv (.tmp 0)), none⟩,
  ⟨(some 51), .op (.bin .geq (.tmp 50) (.const (.int .i64 18))), none⟩,
  ⟨(some 52), .op (.mv (.tmp 51)), none⟩,
  ⟨(some 53), .op (.mv (.tmp 0)), (some (52, true))⟩,
  ⟨(some 54), .op (.bin .leq (.tmp 53) (.const (.int .i64 27))), (some (52, true))⟩,
  ⟨(some 55), .pick (.tmp 52) (.tmp 54) (.const (.bool false)), none⟩]
def x58_8 : List XOper := [⟨(some 56), .op (.mv (.tmp 0)), none⟩,
  ⟨(some 57), .op (.iaddrA true 28 2 (.tmp 3) (.tmp 56)), none⟩,
  ⟨(some 58), .op (.iaddrA false 2 1 (.tmp 57) (.const (.int .i64 0))), none⟩,
  ⟨(some 59), .op (.load (.int .i64) 1 (.tmp 58)), none⟩,
  ⟨(some 60), .op (.mv (.tmp 0)), none⟩,
  ⟨(some 61), .op (.iaddrA true 28 2 (.tmp 3) (.tmp 60)), none⟩,
  ⟨(some 62), .op (.iaddrA false 2 1 (.tmp 61) (.const (.int .i64 1))), none⟩,
  ⟨(some 63), .op (.load (.int .i64) 1 (.tmp 62)), none⟩,
  ⟨(some 64), .op (.build [(.int .u8 0), (.int .i64 0), (.int .i64 0), (.int .i64 0)] [(0, 1, (.const (.int .u8 82))), (1, 1, (.const (.int .i64 59))), (2, 1, (.tmp 59)), (3, 1, (.tmp 63))]), none⟩,
  ⟨none, .op (.store 4 (.tmp 2) (.tmp 64)), none⟩]
def x58_9 : XCode := .seq (.draw x58_8 [[], [0], [0, 1], [0, 1, 2], [], [4], [4, 5], [4, 5, 6], [0, 1, 2, 3, 4, 5, 6, 7], [0, 1, 2, 3, 4, 5, 6, 7, 8]]) .ret
def x58_10 : XCode := .cnd (.tmp 55) x58_9 .skip
def x58_11 : XCode := .seq (.region x58_7) x58_10
def x58_12 : List XOper := [⟨(some 65), .op (.build [(.int .i64 0), (.int .i64 0), (.int .i64 0), (.int .i64 0), (.int .i64 0), (.int .i64 0), (.int .i64 0), (.int .i64 0), (.int .i64 0), (.int .i64 0), (.int .i64 0), (.int .i64 0), (.int .i64 0), (.int .i64 0), (.int .i64 0), (.int .i64 0), (.int .i64 0), (.int .i64 0), (.int .i64 0), (.int .i64 0), (.int .i64 0), (.int .i64 0), (.int .i64 0), (.int .i64 0), (.int .i64 0), (.int .i64 0), (.int .i64 0), (.int .i64 0)] [(0, 1, (.const (.int .i64 0))), (1, 1, (.const (.int .i64 2))), (2, 1, (.const (.int .i64 3))), (3, 1, (.const (.int .i64 4))), (4, 1, (.const (.int .i64 6))), (5, 1, (.const (.int .i64 7))), (6, 1, (.const (.int .i64 1))), (7, 1, (.const (.int .i64 5))), (8, 1, (.const (.int .i64 5))), (9, 1, (.const (.int .i64 0))), (10, 1, (.const (.int .i64 0))), (11, 1, (.const (.int .i64 4))), (12, 1, (.const (.int .i64 2))), (13, 1, (.const (.int .i64 3))), (14, 1, (.const (.int .i64 0))), (15, 1, (.const (.int .i64 2))), (16, 1, (.const (.int .i64 3))), (17, 1, (.const (.int .i64 0))), (18, 1, (.const (.int .i64 1))), (19, 1, (.const (.int .i64 4))), (20, 1, (.const (.int .i64 5))), (21, 1, (.const (.int .i64 6))), (22, 1, (.const (.int .i64 7))), (23, 1, (.const (.int .i64 0))), (24, 1, (.const (.int .i64 0))), (25, 1, (.const (.int .i64 0))), (26, 1, (.const (.int .i64 0))), (27, 1, (.const (.int .i64 0)))]), none⟩,
  ⟨(some 4), .op (.new [(.int .i64 0), (.int .i64 0), (.int .i64 0), (.int .i64 0), (.int .i64 0), (.int .i64 0), (.int .i64 0), (.int .i64 0), (.int .i64 0), (.int .i64 0), (.int .i64 0), (.int .i64 0), (.int .i64 0), (.int .i64 0), (.int .i64 0), (.int .i64 0), (.int .i64 0), (.int .i64 0), (.int .i64 0), (.int .i64 0), (.int .i64 0), (.int .i64 0), (.int .i64 0), (.int .i64 0), (.int .i64 0), (.int .i64 0), (.int .i64 0), (.int .i64 0)]), none⟩,
  ⟨none, .op (.store 28 (.tmp 4) (.tmp 65)), none⟩]
def x58_13 : List XOper := [⟨(some 66), .op (.mv (.tmp 0)), none⟩,
  ⟨(some 67), .op (.bin .lss (.tmp 66) (.const (.int .i64 28))), none⟩,
  ⟨(some 68), .op (.mv (.tmp 67)), none⟩,
  ⟨(some 69), .op (.mv (.tmp 0)), (some (68, false))⟩,
  ⟨(some 70), .op (.bin .gtr (.tmp 69) (.const (.int .i64 55))), (some (68, false))⟩,
  ⟨(some 71), .pick (.tmp 68) (.const (.bool true)) (.tmp 70), none⟩]
def x58_14 : List XOper := [⟨(some 72), .op (.build [(.int .u8 0), (.int .i64 0), (.int .i64 0), (.int .i64 0)] []), none⟩,
  ⟨none, .op (.store 4 (.tmp 2) (.tmp 72)), none⟩]
def x58_15 : XCode := .seq (.region x58_14) .ret
def x58_16 : XCode := .cnd (.tmp 71) x58_15 .skip
def x58_17 : XCode := .seq (.region x58_13) x58_16
def x58_18 : List XOper := [⟨(some 73), .op (.mv (.tmp 0)), none⟩,
  ⟨(some 74), .op (.bin .sub (.tmp 73) (.const (.int .i64 28))), none⟩,
  ⟨(some 75), .op (.iaddrA true 28 1 (.tmp 4) (.tmp 74)), none⟩,
  ⟨(some 76), .op (.load (.int .i64) 1 (.tmp 75)), none⟩,
  ⟨(some 5), .op (.mv (.tmp 76)), none⟩]
def x58_19 : List XOper := [⟨(some 78), .op (.mv (.tmp 0)), none⟩,
  ⟨(some 79), .op (.bin .leq (.tmp 78) (.const (.int .i64 33))), none⟩,
  ⟨(some 77), .op (.mv (.tmp 79)), none⟩]
def x58_20 : List XOper := [⟨(some 80), .op (.mv (.tmp 5)), none⟩,
  ⟨(some 81), .op (.build [(.int .u8 0), (.int .i64 0), (.int .i64 0), (.int .i64 0)] [(0, 1, (.const (.int .u8 73))), (1, 1, (.const (.int .i64 19))), (2, 1, (.tmp 80)), (3, 1, (.const (.int .i64 0)))]), none⟩,
  ⟨none, .op (.store 4 (.tmp 2) (.tmp 81)), none⟩]
def x58_21 : XCode := .seq (.region x58_20) .ret
def x58_22 : List XOper := [⟨(some 83), .op (.mv (.tmp 0)), none⟩,
  ⟨(some 84), .op (.bin .eql (.tmp 83) (.const (.int .i64 36))), none⟩,
  ⟨(some 82), .op (.mv (.tmp 84)), none⟩]
def x58_23 : List XOper := [⟨(some 85), .op (.mv (.tmp 5)), none⟩,
  ⟨(some 86), .op (.build [(.int .u8 0), (.int .i64 0), (.int .i64 0), (.int .i64 0)] [(0, 1, (.const (.int .u8 84))), (1, 1, (.const (.int .i64 19))), (2, 1, (.tmp 85)), (3, 1, (.const (.int .i64 32)))]), none⟩,
  ⟨none, .op (.store 4 (.tmp 2) (.tmp 86)), none⟩]
def x58_24 : XCode := .seq (.region x58_23) .ret
def x58_25 : List XOper := [⟨(some 88), .op (.mv (.tmp 0)), none⟩,
  ⟨(some 89), .op (.bin .leq (.tmp 88) (.const (.int .i64 35))), none⟩,
  ⟨(some 87), .op (.mv (.tmp 89)), none⟩]
def x58_26 : List XOper := [⟨(some 90), .op (.mv (.tmp 5)), none⟩,
  ⟨(some 91), .op (.build [(.int .u8 0), (.int .i64 0), (.int .i64 0), (.int .i64 0)] [(0, 1, (.const (.int .u8 84))), (1, 1, (.const (.int .i64 19))), (2, 1, (.tmp 90)), (3, 1, (.const (.int .i64 0)))]), none⟩,
  ⟨none, .op (.store 4 (.tmp 2) (.tmp 91)), none⟩]
def x58_27 : XCode := .seq (.region x58_26) .ret
def x58_28 : List XOper := [⟨(some 93), .op (.mv (.tmp 0)), none⟩,
  ⟨(some 94), .op (.bin .eql (.tmp 93) (.const (.int .i64 37))), none⟩,
  ⟨(some 92), .op (.mv (.tmp 94)), none⟩]
def x58_29 : List XOper := [⟨(some 95), .op (.mv (.tmp 5)), none⟩,
  ⟨(some 96), .op (.build [(.int .u8 0), (.int .i64 0), (.int .i64 0), (.int .i64 0)] [(0, 1, (.const (.int .u8 73))), (1, 1, (.const (.int .i64 27))), (2, 1, (.tmp 95)), (3, 1, (.const (.int .i64 0)))]), none⟩,
  ⟨none, .op (.store 4 (.tmp 2) (.tmp 96)), none⟩]
def x58_30 : XCode := .seq (.region x58_29) .ret
def x58_31 : List XOper := [⟨(some 98), .op (.mv (.tmp 0)), none⟩,
  ⟨(some 99), .op (.bin .leq (.tmp 98) (.const (.int .i64 41))), none⟩,
  ⟨(some 97), .op (.mv (.tmp 99)), none⟩]
def x58_32 : List XOper := [⟨(some 100), .op (.mv (.tmp 5)), none⟩,
  ⟨(some 101), .op (.build [(.int .u8 0), (.int .i64 0), (.int .i64 0), (.int .i64 0)] [(0, 1, (.const (.int .u8 73))), (1, 1, (.const (.int .i64 3))), (2, 1, (.tmp 100)), (3, 1, (.const (.int .i64 0)))]), none⟩,
  ⟨none, .op (.store 4 (.tmp 2) (.tmp 101)), none⟩]
def x58_33 : XCode := .seq (.region x58_32) .ret
def x58_34 : List XOper := [⟨(some 103), .op (.mv (.tmp 0)), none⟩,
  ⟨(some 104), .op (.bin .leq (.tmp 103) (.const (.int .i64 44))), none⟩,
  ⟨(some 102), .op (.mv (.tmp 104)), none⟩]
def x58_35 : List XOper := [⟨(some 105), .op (.mv (.tmp 5)), none⟩,
  ⟨(some 106), .op (.build [(.int .u8 0), (.int .i64 0), (.int .i64 0), (.int .i64 0)] [(0, 1, (.const (.int .u8 83))), (1, 1, (.const (.int .i64 35))), (2, 1, (.tmp 105)), (3, 1, (.const (.int .i64 0)))]), none⟩,
  ⟨none, .op (.store 4 (.tmp 2) (.tmp 106)), none⟩]
def x58_36 : XCode := .seq (.region x58_35) .ret
def x58_37 : List XOper := [⟨(some 108), .op (.mv (.tmp 0)), none⟩,
  ⟨(some 109), .op (.bin .leq (.tmp 108) (.const (.int .i64 50))), none⟩,
  ⟨(some 107), .op (.mv (.tmp 109)), none⟩]
def x58_38 : List XOper := [⟨(some 110), .op (.mv (.tmp 5)), none⟩,
  ⟨(some 111), .op (.build [(.int .u8 0), (.int .i64 0), (.int .i64 0), (.int .i64 0)] [(0, 1, (.const (.int .u8 66))), (1, 1, (.const (.int .i64 99))), (2, 1, (.tmp 110)), (3, 1, (.const (.int .i64 0)))]), none⟩,
  ⟨none, .op (.store 4 (.tmp 2) (.tmp 111)), none⟩]
def x58_39 : XCode := .seq (.region x58_38) .ret
def x58_40 : List XOper := [⟨(some 113), .op (.mv (.tmp 0)), none⟩,
  ⟨(some 114), .op (.bin .eql (.tmp 113) (.const (.int .i64 51))), none⟩,
  ⟨(some 112), .op (.mv (.tmp 114)), none⟩]
def x58_41 : List XOper := [⟨(some 115), .op (.build [(.int .u8 0), (.int .i64 0), (.int .i64 0), (.int .i64 0)] [(0, 1, (.const (.int .u8 85))), (1, 1, (.const (.int .i64 55))), (2, 1, (.const (.int .i64 0))), (3, 1, (.const (.int .i64 0)))]), none⟩,
  ⟨none, .op (.store 4 (.tmp 2) (.tmp 115)), none⟩]
def x58_42 : XCode := .seq (.region x58_41) .ret
def x58_43 : List XOper := [⟨(some 117), .op (.mv (.tmp 0)), none⟩,
  ⟨(some 118), .op (.bin .eql (.tmp 117) (.const (.int .i64 52))), none⟩,
  ⟨(some 116), .op (.mv (.tmp 118)), none⟩]
def x58_44 : List XOper := [⟨(some 119), .op (.build [(.int .u8 0), (.int .i64 0), (.int .i64 0), (.int .i64 0)] [(0, 1, (.const (.int .u8 85))), (1, 1, (.const (.int .i64 23))), (2, 1, (.const (.int .i64 0))), (3, 1, (.const (.int .i64 0)))]), none⟩,
  ⟨none, .op (.store 4 (.tmp 2) (.tmp 119)), none⟩]
def x58_45 : XCode := .seq (.region x58_44) .ret
def x58_46 : List XOper := [⟨(some 121), .op (.mv (.tmp 0)), none⟩,
  ⟨(some 122), .op (.bin .eql (.tmp 121) (.const (.int .i64 53))), none⟩,
  ⟨(some 120), .op (.mv (.tmp 122)), none⟩]
def x58_47 : List XOper := [⟨(some 123), .op (.build [(.int .u8 0), (.int .i64 0), (.int .i64 0), (.int .i64 0)] [(0, 1, (.const (.int .u8 74))), (1, 1, (.const (.int .i64 111))), (2, 1, (.const (.int .i64 0))), (3, 1, (.const (.int .i64 0)))]), none⟩,
  ⟨none, .op (.store 4 (.tmp 2) (.tmp 123)), none⟩]
def x58_48 : XCode := .seq (.region x58_47) .ret
def x58_49 : List XOper := [⟨(some 125), .op (.mv (.tmp 0)), none⟩,
  ⟨(some 126), .op (.bin .eql (.tmp 125) (.const (.int .i64 54))), none⟩,
  ⟨(some 124), .op (.mv (.tmp 126)), none⟩]
def x58_50 : List XOper := [⟨(some 127), .op (.build [(.int .u8 0), (.int .i64 0), (.int .i64 0), (.int .i64 0)] [(0, 1, (.const (.int .u8 73))), (1, 1, (.const (.int .i64 103))), (2, 1, (.const (.int .i64 0))), (3, 1, (.const (.int .i64 0)))]), none⟩,
  ⟨none, .op (.store 4 (.tmp 2) (.tmp 127)), none⟩]
def x58_51 : XCode := .seq (.region x58_50) .ret
def x58_52 : XCode := .cnd (.tmp 124) x58_51 .skip
def x58_53 : XCode := .seq (.region x58_49) x58_52
def x58_54 : XCode := .cnd (.tmp 120) x58_48 x58_53
def x58_55 : XCode := .seq (.region x58_46) x58_54
def x58_56 : XCode := .cnd (.tmp 116) x58_45 x58_55
def x58_57 : XCode := .seq (.region x58_43) x58_56
def x58_58 : XCode := .cnd (.tmp 112) x58_42 x58_57
def x58_59 : XCode := .seq (.region x58_40) x58_58
def x58_60 : XCode := .cnd (.tmp 107) x58_39 x58_59
def x58_61 : XCode := .seq (.region x58_37) x58_60
def x58_62 : XCode := .cnd (.tmp 102) x58_36 x58_61
def x58_63 : XCode := .seq (.region x58_34) x58_62
def x58_64 : XCode := .cnd (.tmp 97) x58_33 x58_63
def x58_65 : XCode := .seq (.region x58_31) x58_64
def x58_66 : XCode := .cnd (.tmp 92) x58_30 x58_65
def x58_67 : XCode := .seq (.region x58_28) x58_66
def x58_68 : XCode := .cnd (.tmp 87) x58_27 x58_67
def x58_69 : XCode := .seq (.region x58_25) x58_68
def x58_70 : XCode := .cnd (.tmp 82) x58_24 x58_69
def x58_71 : XCode := .seq (.region x58_22) x58_70
def x58_72 : XCode := .cnd (.tmp 77) x58_21 x58_71
def x58_73 : XCode := .seq (.region x58_19) x58_72
def x58_74 : XCode := .block 0 x58_73
def x58_75 : List XOper := [⟨(some 128), .op (.build [(.int .u8 0), (.int .i64 0), (.int .i64 0), (.int .i64 0)] [(0, 1, (.const (.int .u8 78))), (1, 1, (.const (.int .i64 115))), (2, 1, (.const (.int .i64 0))), (3, 1, (.const (.int .i64 0)))]), none⟩,
  ⟨none, .op (.store 4 (.tmp 2) (.tmp 128)), none⟩]
def x58_76 : XCode := .seq (.region x58_75) .ret
def x58_77 : XCode := .seq x58_74 x58_76
def x58_78 : XCode := .seq (.region x58_18) x58_77
def x58_79 : XCode := .seq x58_17 x58_78
def x58_80 : XCode := .seq (.region x58_12) x58_79
def x58_81 : XCode := .seq x58_11 x58_80
def x58_82 : XCode := .seq x58_6 x58_81
def x58_83 : XCode := .seq (.region x58_1) x58_82
def x58_84 : XCode := .seq (.region x58_0) x58_83
def x58 : XCode := x58_84
theorem fx58 : fnx Try.prog 58 = some (129, [(2, (some (.agg, 4)))], x58) := by kernel_rfl
def x59_0 : List XOper := [⟨(some 2), .op (.mv (.const (.int .i64 0))), none⟩,
  ⟨(some 3), .op (.mv (.const (.int .i64 0))), none⟩]
def x59_1 : List XOper := [⟨(some 4), .op (.mv (.tmp 0)), none⟩]
def x59_2 : List XOper := [⟨(some 6), .op (.bin .eql (.tmp 4) (.const (.int .u8 73))), none⟩,
  ⟨(some 5), .op (.mv (.tmp 6)), none⟩]
def x59_3 : List XOper := [⟨(some 7), .op (.bin .eql (.tmp 4) (.const (.int .u8 83))), none⟩,
  ⟨(some 5), .op (.mv (.tmp 7)), none⟩]
def x59_4 : XCode := .cnd (.tmp 5) .skip (.region x59_3)
def x59_5 : XCode := .seq (.region x59_2) x59_4
def x59_6 : List XOper := [⟨(some 2), .op (.mv (.const (.int .i64 (-2048)))), none⟩,
  ⟨(some 3), .op (.mv (.const (.int .i64 2047))), none⟩]
def x59_7 : XCode := .seq (.region x59_6) .ret
def x59_8 : List XOper := [⟨(some 9), .op (.bin .eql (.tmp 4) (.const (.int .u8 84))), none⟩,
  ⟨(some 8), .op (.mv (.tmp 9)), none⟩]
def x59_9 : List XOper := [⟨(some 2), .op (.mv (.const (.int .i64 0))), none⟩,
  ⟨(some 3), .op (.mv (.const (.int .i64 63))), none⟩]
def x59_10 : XCode := .seq (.region x59_9) .ret
def x59_11 : List XOper := [⟨(some 11), .op (.bin .eql (.tmp 4) (.const (.int .u8 66))), none⟩,
  ⟨(some 10), .op (.mv (.tmp 11)), none⟩]
def x59_12 : List XOper := [⟨(some 2), .op (.mv (.const (.int .i64 (-4096)))), none⟩,
  ⟨(some 3), .op (.mv (.const (.int .i64 4094))), none⟩]
def x59_13 : XCode := .seq (.region x59_12) .ret
def x59_14 : List XOper := [⟨(some 13), .op (.bin .eql (.tmp 4) (.const (.int .u8 85))), none⟩,
  ⟨(some 12), .op (.mv (.tmp 13)), none⟩]
def x59_15 : List XOper := [⟨(some 2), .op (.mv (.const (.int .i64 (-524288)))), none⟩,
  ⟨(some 3), .op (.mv (.const (.int .i64 524287))), none⟩]
def x59_16 : XCode := .seq (.region x59_15) .ret
def x59_17 : List XOper := [⟨(some 15), .op (.bin .eql (.tmp 4) (.const (.int .u8 74))), none⟩,
  ⟨(some 14), .op (.mv (.tmp 15)), none⟩]
def x59_18 : List XOper := [⟨(some 2), .op (.mv (.const (.int .i64 (-1048576)))), none⟩,
  ⟨(some 3), .op (.mv (.const (.int .i64 1048574))), none⟩]
def x59_19 : XCode := .seq (.region x59_18) .ret
def x59_20 : XCode := .cnd (.tmp 14) x59_19 .skip
def x59_21 : XCode := .seq (.region x59_17) x59_20
def x59_22 : XCode := .cnd (.tmp 12) x59_16 x59_21
def x59_23 : XCode := .seq (.region x59_14) x59_22
def x59_24 : XCode := .cnd (.tmp 10) x59_13 x59_23
def x59_25 : XCode := .seq (.region x59_11) x59_24
def x59_26 : XCode := .cnd (.tmp 8) x59_10 x59_25
def x59_27 : XCode := .seq (.region x59_8) x59_26
def x59_28 : XCode := .cnd (.tmp 5) x59_7 x59_27
def x59_29 : XCode := .seq x59_5 x59_28
def x59_30 : XCode := .block 0 x59_29
def x59_31 : XCode := .seq (.region x59_1) x59_30
def x59_32 : List XOper := [⟨(some 2), .op (.mv (.const (.int .i64 1))), none⟩,
  ⟨(some 3), .op (.mv (.const (.int .i64 0))), none⟩]
def x59_33 : XCode := .seq (.region x59_32) .ret
def x59_34 : XCode := .seq x59_31 x59_33
def x59_35 : XCode := .seq (.region x59_0) x59_34
def x59 : XCode := x59_35
theorem fx59 : fnx Try.prog 59 = some (16, [(2, none), (3, none)], x59) := by kernel_rfl
def x60_0 : List XOper := [⟨(some 6), .op (.mv (.const (.int .i64 0))), none⟩]
def x60_1 : List XOper := [⟨(some 10), .op (.mv (.tmp 0)), none⟩,
  ⟨(some 11), .op (.bin .lss (.tmp 10) (.const (.int .i64 0))), none⟩]
def x60_2 : List XOper := [⟨(some 12), .op (.mv (.tmp 0)), none⟩,
  ⟨(some 13), .op (.bin .add (.tmp 12) (.const (.int .i64 2097152))), none⟩,
  ⟨(some 0), .op (.mv (.tmp 13)), none⟩]
def x60_3 : XCode := .cnd (.tmp 11) (.region x60_2) .skip
def x60_4 : XCode := .seq (.region x60_1) x60_3
def x60_5 : List XOper := [⟨(some 7), .op (.mv (.const (.int .i64 0))), none⟩]
def x60_6 : List XOper := [⟨(some 14), .op (.mv (.tmp 7)), none⟩,
  ⟨(some 15), .op (.mv (.tmp 1)), none⟩,
  ⟨(some 16), .op (.bin .lss (.tmp 14) (.tmp 15)), none⟩]
def x60_7 : XCode := .cnd (.tmp 16) .skip (.exit 0)
def x60_8 : XCode := .seq (.region x60_6) x60_7
def x60_9 : List XOper := [⟨(some 19), .op (.mv (.tmp 0)), none⟩,
  ⟨(some 20), .op (.bin .quo (.tmp 19) (.const (.int .i64 2))), none⟩,
  ⟨(some 0), .op (.mv (.tmp 20)), none⟩]
def x60_10 : XCode := .block 1 (.region x60_9)
def x60_11 : List XOper := [⟨(some 17), .op (.mv (.tmp 7)), none⟩,
  ⟨(some 18), .op (.bin .add (.tmp 17) (.const (.int .i64 1))), none⟩,
  ⟨(some 7), .op (.mv (.tmp 18)), none⟩]
def x60_12 : XCode := .seq x60_10 (.region x60_11)
def x60_13 : XCode := .seq x60_8 x60_12
def x60_14 : XCode := .loop x60_13
def x60_15 : XCode := .block 0 x60_14
def x60_16 : XCode := .seq (.region x60_5) x60_15
def x60_17 : List XOper := [⟨(some 8), .op (.mv (.const (.int .i64 1))), none⟩]
def x60_18 : List XOper := [⟨(some 9), .op (.mv (.const (.int .i64 0))), none⟩]
def x60_19 : List XOper := [⟨(some 21), .op (.mv (.tmp 9)), none⟩,
  ⟨(some 22), .op (.mv (.tmp 2)), none⟩,
  ⟨(some 23), .op (.bin .lss (.tmp 21) (.tmp 22)), none⟩]
def x60_20 : XCode := .cnd (.tmp 23) .skip (.exit 2)
def x60_21 : XCode := .seq (.region x60_19) x60_20
def x60_22 : List XOper := [⟨(some 26), .op (.mv (.tmp 8)), none⟩,
  ⟨(some 27), .op (.bin .mul (.tmp 26) (.const (.int .i64 2))), none⟩,
  ⟨(some 8), .op (.mv (.tmp 27)), none⟩]
def x60_23 : XCode := .block 3 (.region x60_22)
def x60_24 : List XOper := [⟨(some 24), .op (.mv (.tmp 9)), none⟩,
  ⟨(some 25), .op (.bin .add (.tmp 24) (.const (.int .i64 1))), none⟩,
  ⟨(some 9), .op (.mv (.tmp 25)), none⟩]
def x60_25 : XCode := .seq x60_23 (.region x60_24)
def x60_26 : XCode := .seq x60_21 x60_25
def x60_27 : XCode := .loop x60_26
def x60_28 : XCode := .block 2 x60_27
def x60_29 : XCode := .seq (.region x60_18) x60_28
def x60_30 : List XOper := [⟨(some 28), .op (.mv (.tmp 0)), none⟩,
  ⟨(some 29), .op (.mv (.tmp 8)), none⟩,
  ⟨(some 30), .op (.bin .rem (.tmp 28) (.tmp 29)), none⟩,
  ⟨(some 6), .op (.mv (.tmp 30)), none⟩]
def x60_31 : XCode := .seq (.region x60_30) .ret
def x60_32 : XCode := .seq x60_29 x60_31
def x60_33 : XCode := .seq (.region x60_17) x60_32
def x60_34 : XCode := .seq x60_16 x60_33
def x60_35 : XCode := .seq x60_4 x60_34
def x60_36 : XCode := .seq (.region x60_0) x60_35
def x60 : XCode := x60_36
theorem fx60 : fnx Try.prog 60 = some (31, [(6, none)], x60) := by kernel_rfl
def x61_0 : List XOper := [⟨(some 2), .op (.mv (.const (.bool false))), none⟩]
def x61_1 : List XOper := [⟨(some 10), .op (.mv (.tmp 0)), none⟩,
  ⟨(some 11), .op (.nilck (.tmp 10)), none⟩,
  ⟨(some 12), .op (.faddr 0 (.tmp 11)), none⟩,
  ⟨(some 13), .op (.load .one 1 (.tmp 12)), none⟩,
  ⟨(some 14), .callF 72 [(.tmp 13)], none⟩,
  ⟨(some 9), .op (.mv (.tmp 14)), none⟩,
  ⟨(some 15), .op (.ext (.tmp 9) 0), none⟩,
  ⟨(some 16), .op (.ext (.tmp 9) 1), none⟩,
  ⟨(some 3), .op (.new [(.int .i64 0), (.int .i64 0), (.int .i64 0), (.int .i64 0), (.int .i64 0)]), none⟩,
  ⟨none, .op (.store 5 (.tmp 3) (.tmp 15)), none⟩,
  ⟨(some 4), .op (.mv (.tmp 16)), none⟩]
def x61_2 : List XOper := [⟨(some 17), .op (.mv (.tmp 4)), none⟩,
  ⟨(some 18), .op (.un .not (.tmp 17)), none⟩]
def x61_3 : List XOper := [⟨(some 2), .op (.mv (.const (.bool false))), none⟩]
def x61_4 : XCode := .seq (.region x61_3) .ret
def x61_5 : XCode := .cnd (.tmp 18) x61_4 .skip
def x61_6 : XCode := .seq (.region x61_2) x61_5
def x61_7 : List XOper := [⟨(some 19), .op (.mv (.tmp 0)), none⟩,
  ⟨(some 20), .op (.nilck (.tmp 19)), none⟩,
  ⟨(some 21), .op (.faddr 0 (.tmp 20)), none⟩,
  ⟨(some 22), .op (.load .one 1 (.tmp 21)), none⟩,
  ⟨(some 23), .op (.faddr 2 (.tmp 3)), none⟩,
  ⟨(some 24), .op (.load (.int .i64) 1 (.tmp 23)), none⟩,
  ⟨(some 25), .op (.nilck (.tmp 22)), none⟩,
  ⟨(some 26), .op (.faddr 1 (.tmp 25)), none⟩,
  ⟨(some 27), .op (.iaddrA true 32 1 (.tmp 26) (.tmp 24)), none⟩,
  ⟨(some 28), .op (.load (.int .u64) 1 (.tmp 27)), none⟩,
  ⟨(some 29), .op (.faddr 4 (.tmp 3)), none⟩,
  ⟨(some 30), .op (.load (.int .i64) 1 (.tmp 29)), none⟩,
  ⟨(some 31), .callF 73 [(.tmp 30)], none⟩,
  ⟨(some 5), .op (.mv (.tmp 28)), none⟩,
  ⟨(some 6), .op (.mv (.tmp 31)), none⟩]
def x61_8 : List XOper := [⟨(some 32), .op (.mv (.tmp 0)), none⟩,
  ⟨(some 33), .op (.nilck (.tmp 32)), none⟩,
  ⟨(some 34), .op (.faddr 0 (.tmp 33)), none⟩,
  ⟨(some 35), .op (.load .one 1 (.tmp 34)), none⟩,
  ⟨(some 36), .op (.nilck (.tmp 35)), none⟩,
  ⟨(some 37), .op (.faddr 33 (.tmp 36)), none⟩,
  ⟨(some 38), .op (.load (.int .u64) 1 (.tmp 37)), none⟩,
  ⟨(some 39), .op (.bin .add (.tmp 38) (.const (.int .u64 4))), none⟩,
  ⟨(some 7), .op (.mv (.tmp 39)), none⟩]
def x61_9 : List XOper := [⟨(some 40), .op (.faddr 0 (.tmp 3)), none⟩,
  ⟨(some 41), .op (.load (.int .i64) 1 (.tmp 40)), none⟩,
  ⟨(some 8), .op (.mv (.tmp 41)), none⟩]
def x61_10 : List XOper := [⟨(some 45), .op (.mv (.tmp 8)), none⟩,
  ⟨(some 46), .op (.bin .leq (.tmp 45) (.const (.int .i64 27))), none⟩,
  ⟨(some 44), .op (.mv (.tmp 46)), none⟩]
def x61_11 : List XOper := [⟨(some 48), .op (.mv (.tmp 0)), none⟩,
  ⟨(some 49), .op (.nilck (.tmp 48)), none⟩,
  ⟨(some 50), .op (.faddr 0 (.tmp 49)), none⟩,
  ⟨(some 51), .op (.load .one 1 (.tmp 50)), none⟩,
  ⟨(some 52), .op (.faddr 1 (.tmp 3)), none⟩,
  ⟨(some 53), .op (.load (.int .i64) 1 (.tmp 52)), none⟩,
  ⟨(some 54), .op (.mv (.tmp 8)), none⟩,
  ⟨(some 55), .op (.mv (.tmp 5)), none⟩,
  ⟨(some 56), .op (.mv (.tmp 0)), none⟩,
  ⟨(some 57), .op (.nilck (.tmp 56)), none⟩,
  ⟨(some 58), .op (.faddr 0 (.tmp 57)), none⟩,
  ⟨(some 59), .op (.load .one 1 (.tmp 58)), none⟩,
  ⟨(some 60), .op (.faddr 3 (.tmp 3)), none⟩,
  ⟨(some 61), .op (.load (.int .i64) 1 (.tmp 60)), none⟩,
  ⟨(some 62), .op (.nilck (.tmp 59)), none⟩,
  ⟨(some 63), .op (.faddr 1 (.tmp 62)), none⟩,
  ⟨(some 64), .op (.iaddrA true 32 1 (.tmp 63) (.tmp 61)), none⟩,
  ⟨(some 65), .op (.load (.int .u64) 1 (.tmp 64)), none⟩,
  ⟨(some 66), .callF 74 [(.tmp 54), (.tmp 55), (.tmp 65)], none⟩,
  ⟨(some 47), .op (.mv (.tmp 66)), none⟩,
  ⟨(some 67), .op (.ext (.tmp 47) 0), none⟩,
  ⟨(some 68), .op (.ext (.tmp 47) 1), none⟩,
  ⟨(some 69), .op (.nilck (.tmp 51)), none⟩,
  ⟨(some 70), .op (.faddr 1 (.tmp 69)), none⟩,
  ⟨(some 71), .op (.iaddrA true 32 1 (.tmp 70) (.tmp 53)), none⟩,
  ⟨none, .op (.store 1 (.tmp 71) (.tmp 67)), none⟩]
def x61_12 : List XOper := [⟨(some 73), .op (.mv (.tmp 8)), none⟩,
  ⟨(some 74), .op (.bin .leq (.tmp 73) (.const (.int .i64 37))), none⟩,
  ⟨(some 72), .op (.mv (.tmp 74)), none⟩]
def x61_13 : List XOper := [⟨(some 75), .op (.load .agg 5 (.tmp 3)), none⟩,
  ⟨(some 76), .op (.build [(.int .i64 0), (.int .i64 0), (.int .i64 0), (.int .i64 0), (.int .i64 0)] [(0, 1, (.const (.int .i64 28))), (4, 1, (.const (.int .i64 1)))]), none⟩,
  ⟨(some 77), .op (.eqagg false [0, 0, 0, 0, 0] (.tmp 75) (.tmp 76)), none⟩]
def x61_14 : List XOper := [⟨(some 78), .op (.mv (.tmp 0)), none⟩,
  ⟨(some 79), .op (.nilck (.tmp 78)), none⟩,
  ⟨(some 80), .op (.faddr 3 (.tmp 79)), none⟩,
  ⟨(some 81), .op (.load (.int .i64) 1 (.tmp 80)), none⟩,
  ⟨(some 82), .op (.bin .add (.tmp 81) (.const (.int .i64 1))), none⟩,
  ⟨(some 83), .op (.nilck (.tmp 78)), none⟩,
  ⟨(some 84), .op (.faddr 3 (.tmp 83)), none⟩,
  ⟨none, .op (.store 1 (.tmp 84) (.tmp 82)), none⟩]
def x61_15 : XCode := .cnd (.tmp 77) (.region x61_14) .skip
def x61_16 : XCode := .seq (.region x61_13) x61_15
def x61_17 : List XOper := [⟨(some 86), .op (.mv (.tmp 0)), none⟩,
  ⟨(some 87), .op (.nilck (.tmp 86)), none⟩,
  ⟨(some 88), .op (.faddr 0 (.tmp 87)), none⟩,
  ⟨(some 89), .op (.load .one 1 (.tmp 88)), none⟩,
  ⟨(some 90), .op (.faddr 1 (.tmp 3)), none⟩,
  ⟨(some 91), .op (.load (.int .i64) 1 (.tmp 90)), none⟩,
  ⟨(some 92), .op (.mv (.tmp 8)), none⟩,
  ⟨(some 93), .callF 75 [(.tmp 92)], none⟩,
  ⟨(some 94), .op (.mv (.tmp 5)), none⟩,
  ⟨(some 95), .op (.mv (.tmp 6)), none⟩,
  ⟨(some 96), .callF 74 [(.tmp 93), (.tmp 94), (.tmp 95)], none⟩,
  ⟨(some 85), .op (.mv (.tmp 96)), none⟩,
  ⟨(some 97), .op (.ext (.tmp 85) 0), none⟩,
  ⟨(some 98), .op (.ext (.tmp 85) 1), none⟩,
  ⟨(some 99), .op (.nilck (.tmp 89)), none⟩,
  ⟨(some 100), .op (.faddr 1 (.tmp 99)), none⟩,
  ⟨(some 101), .op (.iaddrA true 32 1 (.tmp 100) (.tmp 91)), none⟩,
  ⟨none, .op (.store 1 (.tmp 101) (.tmp 97)), none⟩]
def x61_18 : XCode := .seq x61_16 (.draw x61_17 [[], [0], [0, 1], [0, 1, 2], [], [4], [], [6], [], [], [6, 7, 8, 9], [6, 7, 8, 9, 10], [6, 7, 8, 9, 10, 11], [6, 7, 8, 9, 10, 11], [0, 1, 2, 3], [0, 1, 2, 3, 14], [0, 1, 2, 3, 4, 5, 6, 7, 8, 9, 10, 11, 12, 14, 15], [0, 1, 2, 3, 4, 5, 6, 7, 8, 9, 10, 11, 12, 14, 15, 16]])
def x61_19 : List XOper := [⟨(some 103), .op (.mv (.tmp 8)), none⟩,
  ⟨(some 104), .op (.bin .leq (.tmp 103) (.const (.int .i64 44))), none⟩,
  ⟨(some 102), .op (.mv (.tmp 104)), none⟩]
def x61_20 : List XOper := [⟨(some 105), .op (.mv (.tmp 0)), none⟩,
  ⟨(some 106), .op (.load .agg 5 (.tmp 3)), none⟩,
  ⟨(some 107), .callF 76 [(.tmp 105), (.tmp 106)], none⟩,
  ⟨(some 4), .op (.mv (.tmp 107)), none⟩]
def x61_21 : List XOper := [⟨(some 109), .op (.mv (.tmp 8)), none⟩,
  ⟨(some 110), .op (.bin .leq (.tmp 109) (.const (.int .i64 50))), none⟩,
  ⟨(some 108), .op (.mv (.tmp 110)), none⟩]
def x61_22 : List XOper := [⟨(some 111), .op (.mv (.tmp 8)), none⟩,
  ⟨(some 112), .op (.mv (.tmp 5)), none⟩,
  ⟨(some 113), .op (.mv (.tmp 0)), none⟩,
  ⟨(some 114), .op (.nilck (.tmp 113)), none⟩,
  ⟨(some 115), .op (.faddr 0 (.tmp 114)), none⟩,
  ⟨(some 116), .op (.load .one 1 (.tmp 115)), none⟩,
  ⟨(some 117), .op (.faddr 3 (.tmp 3)), none⟩,
  ⟨(some 118), .op (.load (.int .i64) 1 (.tmp 117)), none⟩,
  ⟨(some 119), .op (.nilck (.tmp 116)), none⟩,
  ⟨(some 120), .op (.faddr 1 (.tmp 119)), none⟩,
  ⟨(some 121), .op (.iaddrA true 32 1 (.tmp 120) (.tmp 118)), none⟩,
  ⟨(some 122), .op (.load (.int .u64) 1 (.tmp 121)), none⟩,
  ⟨(some 123), .callF 77 [(.tmp 111), (.tmp 112), (.tmp 122)], none⟩]
def x61_23 : List XOper := [⟨(some 124), .op (.mv (.tmp 0)), none⟩,
  ⟨(some 125), .op (.nilck (.tmp 124)), none⟩,
  ⟨(some 126), .op (.faddr 0 (.tmp 125)), none⟩,
  ⟨(some 127), .op (.load .one 1 (.tmp 126)), none⟩,
  ⟨(some 128), .op (.nilck (.tmp 127)), none⟩,
  ⟨(some 129), .op (.faddr 33 (.tmp 128)), none⟩,
  ⟨(some 130), .op (.load (.int .u64) 1 (.tmp 129)), none⟩,
  ⟨(some 131), .op (.mv (.tmp 6)), none⟩,
  ⟨(some 132), .op (.bin .add (.tmp 130) (.tmp 131)), none⟩,
  ⟨(some 7), .op (.mv (.tmp 132)), none⟩]
def x61_24 : XCode := .cnd (.tmp 123) (.region x61_23) .skip
def x61_25 : XCode := .seq (.draw x61_22 [[], [], [], [2], [2, 3], [2, 3, 4], [], [6], [2, 3, 4, 5], [2, 3, 4, 5, 8], [2, 3, 4, 5, 6, 7, 8, 9], [2, 3, 4, 5, 6, 7, 8, 9, 10], [0, 1, 2, 3, 4, 5, 6, 7, 8, 9, 10, 11]]) x61_24
def x61_26 : List XOper := [⟨(some 134), .op (.mv (.tmp 8)), none⟩,
  ⟨(some 135), .op (.bin .eql (.tmp 134) (.const (.int .i64 51))), none⟩,
  ⟨(some 133), .op (.mv (.tmp 135)), none⟩]
def x61_27 : List XOper := [⟨(some 136), .op (.mv (.tmp 0)), none⟩,
  ⟨(some 137), .op (.nilck (.tmp 136)), none⟩,
  ⟨(some 138), .op (.faddr 0 (.tmp 137)), none⟩,
  ⟨(some 139), .op (.load .one 1 (.tmp 138)), none⟩,
  ⟨(some 140), .op (.faddr 1 (.tmp 3)), none⟩,
  ⟨(some 141), .op (.load (.int .i64) 1 (.tmp 140)), none⟩,
  ⟨(some 142), .op (.mv (.tmp 6)), none⟩,
  ⟨(some 143), .op (.bin .shl (.tmp 142) (.const (.int .u64 12))), none⟩,
  ⟨(some 144), .op (.nilck (.tmp 139)), none⟩,
  ⟨(some 145), .op (.faddr 1 (.tmp 144)), none⟩,
  ⟨(some 146), .op (.iaddrA true 32 1 (.tmp 145) (.tmp 141)), none⟩,
  ⟨none, .op (.store 1 (.tmp 146) (.tmp 143)), none⟩]
def x61_28 : List XOper := [⟨(some 148), .op (.mv (.tmp 8)), none⟩,
  ⟨(some 149), .op (.bin .eql (.tmp 148) (.const (.int .i64 52))), none⟩,
  ⟨(some 147), .op (.mv (.tmp 149)), none⟩]
def x61_29 : List XOper := [⟨(some 150), .op (.mv (.tmp 0)), none⟩,
  ⟨(some 151), .op (.nilck (.tmp 150)), none⟩,
  ⟨(some 152), .op (.faddr 0 (.tmp 151)), none⟩,
  ⟨(some 153), .op (.load .one 1 (.tmp 152)), none⟩,
  ⟨(some 154), .op (.faddr 1 (.tmp 3)), none⟩,
  ⟨(some 155), .op (.load (.int .i64) 1 (.tmp 154)), none⟩,
  ⟨(some 156), .op (.mv (.tmp 6)), none⟩,
  ⟨(some 157), .op (.bin .shl (.tmp 156) (.const (.int .u64 12))), none⟩,
  ⟨(some 158), .op (.mv (.tmp 0)), none⟩,
  ⟨(some 159), .op (.nilck (.tmp 158)), none⟩,
  ⟨(some 160), .op (.faddr 0 (.tmp 159)), none⟩,
  ⟨(some 161), .op (.load .one 1 (.tmp 160)), none⟩,
  ⟨(some 162), .op (.nilck (.tmp 161)), none⟩,
  ⟨(some 163), .op (.faddr 33 (.tmp 162)), none⟩,
  ⟨(some 164), .op (.load (.int .u64) 1 (.tmp 163)), none⟩,
  ⟨(some 165), .op (.bin .add (.tmp 157) (.tmp 164)), none⟩,
  ⟨(some 166), .op (.nilck (.tmp 153)), none⟩,
  ⟨(some 167), .op (.faddr 1 (.tmp 166)), none⟩,
  ⟨(some 168), .op (.iaddrA true 32 1 (.tmp 167) (.tmp 155)), none⟩,
  ⟨none, .op (.store 1 (.tmp 168) (.tmp 165)), none⟩]
def x61_30 : List XOper := [⟨(some 170), .op (.mv (.tmp 8)), none⟩,
  ⟨(some 171), .op (.bin .eql (.tmp 170) (.const (.int .i64 53))), none⟩,
  ⟨(some 169), .op (.mv (.tmp 171)), none⟩]
def x61_31 : List XOper := [⟨(some 172), .op (.mv (.tmp 0)), none⟩,
  ⟨(some 173), .op (.nilck (.tmp 172)), none⟩,
  ⟨(some 174), .op (.faddr 0 (.tmp 173)), none⟩,
  ⟨(some 175), .op (.load .one 1 (.tmp 174)), none⟩,
  ⟨(some 176), .op (.faddr 1 (.tmp 3)), none⟩,
  ⟨(some 177), .op (.load (.int .i64) 1 (.tmp 176)), none⟩,
  ⟨(some 178), .op (.mv (.tmp 7)), none⟩,
  ⟨(some 179), .op (.mv (.tmp 0)), none⟩,
  ⟨(some 180), .op (.nilck (.tmp 179)), none⟩,
  ⟨(some 181), .op (.faddr 0 (.tmp 180)), none⟩,
  ⟨(some 182), .op (.load .one 1 (.tmp 181)), none⟩,
  ⟨(some 183), .op (.nilck (.tmp 182)), none⟩,
  ⟨(some 184), .op (.faddr 33 (.tmp 183)), none⟩,
  ⟨(some 185), .op (.load (.int .u64) 1 (.tmp 184)), none⟩,
  ⟨(some 186), .op (.mv (.tmp 6)), none⟩,
  ⟨(some 187), .op (.bin .add (.tmp 185) (.tmp 186)), none⟩,
  ⟨(some 188), .op (.nilck (.tmp 175)), none⟩,
  ⟨(some 189), .op (.faddr 1 (.tmp 188)), none⟩,
  ⟨(some 190), .op (.iaddrA true 32 1 (.tmp 189) (.tmp 177)), none⟩,
  ⟨none, .op (.store 1 (.tmp 190) (.tmp 178)), none⟩,
  ⟨(some 7), .op (.mv (.tmp 187)), none⟩]
def x61_32 : List XOper := [⟨(some 192), .op (.mv (.tmp 8)), none⟩,
  ⟨(some 193), .op (.bin .eql (.tmp 192) (.const (.int .i64 54))), none⟩,
  ⟨(some 191), .op (.mv (.tmp 193)), none⟩]
def x61_33 : List XOper := [⟨(some 194), .op (.mv (.tmp 0)), none⟩,
  ⟨(some 195), .op (.nilck (.tmp 194)), none⟩,
  ⟨(some 196), .op (.faddr 0 (.tmp 195)), none⟩,
  ⟨(some 197), .op (.load .one 1 (.tmp 196)), none⟩,
  ⟨(some 198), .op (.faddr 1 (.tmp 3)), none⟩,
  ⟨(some 199), .op (.load (.int .i64) 1 (.tmp 198)), none⟩,
  ⟨(some 200), .op (.mv (.tmp 7)), none⟩,
  ⟨(some 201), .op (.mv (.tmp 5)), none⟩,
  ⟨(some 202), .op (.mv (.tmp 6)), none⟩,
  ⟨(some 203), .op (.bin .add (.tmp 201) (.tmp 202)), none⟩,
  ⟨(some 204), .op (.bin .andNot (.tmp 203) (.const (.int .u64 1))), none⟩,
  ⟨(some 205), .op (.nilck (.tmp 197)), none⟩,
  ⟨(some 206), .op (.faddr 1 (.tmp 205)), none⟩,
  ⟨(some 207), .op (.iaddrA true 32 1 (.tmp 206) (.tmp 199)), none⟩,
  ⟨none, .op (.store 1 (.tmp 207) (.tmp 200)), none⟩,
  ⟨(some 7), .op (.mv (.tmp 204)), none⟩]
def x61_34 : List XOper := [⟨(some 42), .op (.mv (.tmp 0)), none⟩,
  ⟨(some 43), .callF 78 [(.tmp 42)], none⟩,
  ⟨(some 4), .op (.mv (.tmp 43)), none⟩]
def x61_35 : XCode := .cnd (.tmp 191) (.draw x61_33 [[], [0], [0, 1], [0, 1, 2], [], [4], [], [], [], [7, 8], [7, 8, 9], [0, 1, 2, 3], [0, 1, 2, 3, 11], [0, 1, 2, 3, 4, 5, 6, 11, 12], [0, 1, 2, 3, 4, 5, 6, 11, 12, 13], [0, 1, 2, 3, 4, 5, 6, 7, 8, 9, 10, 11, 12, 13, 14]]) (.region x61_34)
def x61_36 : XCode := .seq (.region x61_32) x61_35
def x61_37 : XCode := .cnd (.tmp 169) (.draw x61_31 [[], [0], [0, 1], [0, 1, 2], [], [4], [], [], [7], [7, 8], [7, 8, 9], [7, 8, 9, 10], [7, 8, 9, 10, 11], [7, 8, 9, 10, 11, 12], [], [7, 8, 9, 10, 11, 12, 13, 14], [0, 1, 2, 3], [0, 1, 2, 3, 16], [0, 1, 2, 3, 4, 5, 6, 7, 8, 9, 10, 11, 12, 13, 16, 17], [0, 1, 2, 3, 4, 5, 6, 7, 8, 9, 10, 11, 12, 13, 16, 17, 18], [0, 1, 2, 3, 4, 5, 6, 7, 8, 9, 10, 11, 12, 13, 14, 15, 16, 17, 18, 19]]) x61_36
def x61_38 : XCode := .seq (.region x61_30) x61_37
def x61_39 : XCode := .cnd (.tmp 147) (.draw x61_29 [[], [0], [0, 1], [0, 1, 2], [], [4], [], [6], [], [8], [8, 9], [8, 9, 10], [8, 9, 10, 11], [8, 9, 10, 11, 12], [8, 9, 10, 11, 12, 13], [6, 7, 8, 9, 10, 11, 12, 13, 14], [0, 1, 2, 3], [0, 1, 2, 3, 16], [0, 1, 2, 3, 4, 5, 6, 7, 8, 9, 10, 11, 12, 13, 14, 15, 16, 17], [0, 1, 2, 3, 4, 5, 6, 7, 8, 9, 10, 11, 12, 13, 14, 15, 16, 17, 18]]) x61_38
def x61_40 : XCode := .seq (.region x61_28) x61_39
def x61_41 : XCode := .cnd (.tmp 133) (.draw x61_27 [[], [0], [0, 1], [0, 1, 2], [], [4], [], [6], [0, 1, 2, 3], [0, 1, 2, 3, 8], [0, 1, 2, 3, 4, 5, 6, 7, 8, 9], [0, 1, 2, 3, 4, 5, 6, 7, 8, 9, 10]]) x61_40
def x61_42 : XCode := .seq (.region x61_26) x61_41
def x61_43 : XCode := .cnd (.tmp 108) x61_25 x61_42
def x61_44 : XCode := .seq (.region x61_21) x61_43
def x61_45 : XCode := .cnd (.tmp 102) (.region x61_20) x61_44
def x61_46 : XCode := .seq (.region x61_19) x61_45
def x61_47 : XCode := .cnd (.tmp 72) x61_18 x61_46
def x61_48 : XCode := .seq (.region x61_12) x61_47
def x61_49 : XCode := .cnd (.tmp 44) (.draw x61_11 [[], [0], [0, 1], [0, 1, 2], [], [4], [], [], [], [8], [8, 9], [8, 9, 10], [], [12], [8, 9, 10, 11], [8, 9, 10, 11, 14], [8, 9, 10, 11, 12, 13, 14, 15], [8, 9, 10, 11, 12, 13, 14, 15, 16], [6, 7, 8, 9, 10, 11, 12, 13, 14, 15, 16, 17], [6, 7, 8, 9, 10, 11, 12, 13, 14, 15, 16, 17, 18], [6, 7, 8, 9, 10, 11, 12, 13, 14, 15, 16, 17, 18, 19], [6, 7, 8, 9, 10, 11, 12, 13, 14, 15, 16, 17, 18, 19], [0, 1, 2, 3], [0, 1, 2, 3, 22], [0, 1, 2, 3, 4, 5, 6, 7, 8, 9, 10, 11, 12, 13, 14, 15, 16, 17, 18, 19, 20, 22, 23], [0, 1, 2, 3, 4, 5, 6, 7, 8, 9, 10, 11, 12, 13, 14, 15, 16, 17, 18, 19, 20, 22, 23, 24]]) x61_48
def x61_50 : XCode := .seq (.region x61_10) x61_49
def x61_51 : XCode := .block 0 x61_50
def x61_52 : XCode := .seq (.region x61_9) x61_51
def x61_53 : List XOper := [⟨(some 208), .op (.mv (.tmp 4)), none⟩]
def x61_54 : List XOper := [⟨(some 209), .op (.mv (.tmp 0)), none⟩,
  ⟨(some 210), .op (.nilck (.tmp 209)), none⟩,
  ⟨(some 211), .op (.faddr 0 (.tmp 210)), none⟩,
  ⟨(some 212), .op (.load .one 1 (.tmp 211)), none⟩,
  ⟨(some 213), .op (.nilck (.tmp 212)), none⟩,
  ⟨(some 214), .op (.faddr 1 (.tmp 213)), none⟩,
  ⟨(some 215), .op (.iaddrA false 32 1 (.tmp 214) (.const (.int .i64 0))), none⟩,
  ⟨none, .op (.store 1 (.tmp 215) (.const (.int .u64 0))), none⟩]
def x61_55 : List XOper := [⟨(some 216), .op (.mv (.tmp 0)), none⟩,
  ⟨(some 217), .op (.nilck (.tmp 216)), none⟩,
  ⟨(some 218), .op (.faddr 0 (.tmp 217)), none⟩,
  ⟨(some 219), .op (.load .one 1 (.tmp 218)), none⟩,
  ⟨(some 220), .op (.mv (.tmp 7)), none⟩,
  ⟨(some 221), .op (.nilck (.tmp 219)), none⟩,
  ⟨(some 222), .op (.faddr 33 (.tmp 221)), none⟩,
  ⟨none, .op (.store 1 (.tmp 222) (.tmp 220)), none⟩]
def x61_56 : XCode := .seq (.region x61_54) (.region x61_55)
def x61_57 : XCode := .cnd (.tmp 208) x61_56 .skip
def x61_58 : XCode := .seq (.region x61_53) x61_57
def x61_59 : List XOper := [⟨(some 223), .op (.mv (.tmp 4)), none⟩,
  ⟨(some 2), .op (.mv (.tmp 223)), none⟩]
def x61_60 : XCode := .seq (.region x61_59) .ret
def x61_61 : XCode := .seq x61_58 x61_60
def x61_62 : XCode := .seq x61_52 x61_61
def x61_63 : XCode := .seq (.region x61_8) x61_62
def x61_64 : XCode := .seq (.draw x61_7 [[], [0], [0, 1], [0, 1, 2], [], [4], [0, 1, 2, 3], [0, 1, 2, 3, 6], [0, 1, 2, 3, 4, 5, 6, 7], [0, 1, 2, 3, 4, 5, 6, 7, 8], [], [10], [10, 11], [0, 1, 2, 3, 4, 5, 6, 7, 8, 9, 10, 11, 12], [0, 1, 2, 3, 4, 5, 6, 7, 8, 9, 10, 11, 12, 13]]) x61_63
def x61_65 : XCode := .seq x61_6 x61_64
def x61_66 : XCode := .seq (.region x61_1) x61_65
def x61_67 : XCode := .seq (.region x61_0) x61_66
def x61 : XCode := x61_67
theorem fx61 : fnx Try.prog 61 = some (224, [(2, none)], x61) := by kernel_rfl
def x71_0 : List XOper := [⟨(some 2), .op (.mv (.const (.int .i64 0))), none⟩,
  ⟨(some 3), .op (.mv (.const (.int .i64 0))), none⟩]
def x71_1 : List XOper := [⟨(some 4), .callF 43 [], none⟩,
  ⟨(some 5), .op (.mv (.tmp 0)), none⟩,
  ⟨(some 6), .op (.lookup 3 104 (.int .i64) (.agg #[(.int .u8 0), (.int .u32 0), (.int .u32 0), (.int .u32 0)]) false (.tmp 4) (.tmp 5)), none⟩,
  ⟨(some 7), .op (.field (.int .u8) 0 1 (.tmp 6)), none⟩,
  ⟨(some 8), .callF 44 [(.tmp 7)], none⟩,
  ⟨(some 9), .op (.ext (.tmp 8) 0), none⟩,
  ⟨(some 10), .op (.ext (.tmp 8) 1), none⟩,
  ⟨(some 2), .op (.mv (.tmp 9)), none⟩,
  ⟨(some 3), .op (.mv (.tmp 10)), none⟩]
def x71_2 : XCode := .seq (.region x71_1) .ret
def x71_3 : XCode := .seq (.region x71_0) x71_2
def x71 : XCode := x71_3
theorem fx71 : fnx Try.prog 71 = some (11, [(2, none), (3, none)], x71) := by kernel_rfl
def x72_0 : List XOper := [⟨(some 2), .op (.new [(.int .i64 0), (.int .i64 0), (.int .i64 0), (.int .i64 0), (.int .i64 0)]), none⟩,
  ⟨(some 3), .op (.mv (.const (.bool false))), none⟩]
def x72_1 : List XOper := [⟨(some 11), .op (.mv (.tmp 0)), none⟩,
  ⟨(some 12), .op (.mv (.tmp 0)), none⟩,
  ⟨(some 13), .op (.nilck (.tmp 12)), none⟩,
  ⟨(some 14), .op (.faddr 33 (.tmp 13)), none⟩,
  ⟨(some 15), .op (.load (.int .u64) 1 (.tmp 14)), none⟩,
  ⟨(some 16), .callF 83 [(.tmp 11), (.tmp 15), (.const (.int .i64 4))], none⟩,
  ⟨(some 10), .op (.mv (.tmp 16)), none⟩,
  ⟨(some 17), .op (.ext (.tmp 10) 0), none⟩,
  ⟨(some 18), .op (.ext (.tmp 10) 1), none⟩,
  ⟨(some 4), .op (.mv (.tmp 17)), none⟩,
  ⟨(some 5), .op (.mv (.tmp 18)), none⟩]
def x72_2 : List XOper := [⟨(some 19), .op (.mv (.tmp 5)), none⟩,
  ⟨(some 20), .op (.un .not (.tmp 19)), none⟩]
def x72_3 : List XOper := [⟨(some 21), .op (.build [(.int .i64 0), (.int .i64 0), (.int .i64 0), (.int .i64 0), (.int .i64 0)] []), none⟩,
  ⟨none, .op (.store 5 (.tmp 2) (.tmp 21)), none⟩,
  ⟨(some 3), .op (.mv (.const (.bool false))), none⟩]
def x72_4 : XCode := .seq (.region x72_3) .ret
def x72_5 : XCode := .cnd (.tmp 20) x72_4 .skip
def x72_6 : XCode := .seq (.region x72_2) x72_5
def x72_7 : List XOper := [⟨(some 22), .op (.mv (.tmp 4)), none⟩,
  ⟨(some 23), .callF 84 [(.tmp 22)], none⟩,
  ⟨(some 24), .op (.conv .u32 (.tmp 23)), none⟩,
  ⟨(some 6), .op (.mv (.tmp 24)), none⟩]
def x72_8 : List XOper := [⟨(some 26), .op (.mv (.tmp 0)), none⟩,
  ⟨(some 27), .op (.nilck (.tmp 26)), none⟩,
  ⟨(some 28), .op (.faddr 36 (.tmp 27)), none⟩,
  ⟨(some 29), .op (.load .one 1 (.tmp 28)), none⟩,
  ⟨(some 30), .op (.mv (.tmp 6)), none⟩,
  ⟨(some 31), .op (.lookup 35 26 (.int .u32) (.agg #[(.int .i64 0), (.int .i64 0), (.int .i64 0), (.int .i64 0), (.int .i64 0)]) true (.tmp 29) (.tmp 30)), none⟩,
  ⟨(some 25), .op (.mv (.tmp 31)), none⟩,
  ⟨(some 32), .op (.ext (.tmp 25) 0), none⟩,
  ⟨(some 33), .op (.ext (.tmp 25) 1), none⟩,
  ⟨(some 7), .op (.new [(.int .i64 0), (.int .i64 0), (.int .i64 0), (.int .i64 0), (.int .i64 0)]), none⟩,
  ⟨none, .op (.store 5 (.tmp 7) (.tmp 32)), none⟩,
  ⟨(some 8), .op (.mv (.tmp 33)), none⟩]
def x72_9 : List XOper := [⟨(some 34), .op (.mv (.tmp 8)), none⟩,
  ⟨(some 35), .op (.un .not (.tmp 34)), none⟩]
def x72_10 : List XOper := [⟨(some 9), .op (.mv (.const (.int .i64 0))), none⟩]
def x72_11 : List XOper := [⟨(some 37), .op (.mv (.tmp 6)), none⟩,
  ⟨(some 38), .callF 20 [(.tmp 37)], none⟩,
  ⟨(some 36), .op (.mv (.tmp 38)), none⟩,
  ⟨(some 39), .op (.ext (.tmp 36) 0), none⟩,
  ⟨(some 40), .op (.ext (.tmp 36) 1), none⟩,
  ⟨none, .op (.store 5 (.tmp 7) (.tmp 39)), none⟩,
  ⟨(some 9), .op (.mv (.tmp 40)), none⟩]
def x72_12 : List XOper := [⟨(some 41), .op (.mv (.tmp 9)), none⟩,
  ⟨(some 42), .op (.bin .neq (.tmp 41) (.const (.int .i64 0))), none⟩]
def x72_13 : List XOper := [⟨(some 43), .op (.load .agg 5 (.tmp 7)), none⟩,
  ⟨none, .op (.store 5 (.tmp 2) (.tmp 43)), none⟩,
  ⟨(some 3), .op (.mv (.const (.bool false))), none⟩]
def x72_14 : XCode := .seq (.region x72_13) .ret
def x72_15 : XCode := .cnd (.tmp 42) x72_14 .skip
def x72_16 : XCode := .seq (.region x72_12) x72_15
def x72_17 : XCode := .seq (.region x72_11) x72_16
def x72_18 : List XOper := [⟨(some 44), .op (.mv (.tmp 0)), none⟩,
  ⟨(some 45), .op (.nilck (.tmp 44)), none⟩,
  ⟨(some 46), .op (.faddr 36 (.tmp 45)), none⟩,
  ⟨(some 47), .op (.load .one 1 (.tmp 46)), none⟩,
  ⟨(some 48), .op (.mv (.tmp 6)), none⟩,
  ⟨(some 49), .op (.load .agg 5 (.tmp 7)), none⟩,
  ⟨none, .op (.mapupd 35 26 (.int .u32) (.tmp 47) (.tmp 48) (.tmp 49)), none⟩]
def x72_19 : XCode := .seq x72_17 (.draw x72_18 [[], [0], [0, 1], [0, 1, 2], [], [], [0, 1, 2, 3, 4, 5]])
def x72_20 : XCode := .seq (.region x72_10) x72_19
def x72_21 : XCode := .cnd (.tmp 35) x72_20 .skip
def x72_22 : XCode := .seq (.region x72_9) x72_21
def x72_23 : List XOper := [⟨(some 50), .op (.load .agg 5 (.tmp 7)), none⟩,
  ⟨none, .op (.store 5 (.tmp 2) (.tmp 50)), none⟩,
  ⟨(some 3), .op (.mv (.const (.bool true))), none⟩]
def x72_24 : XCode := .seq (.region x72_23) .ret
def x72_25 : XCode := .seq x72_22 x72_24
def x72_26 : XCode := .seq (.region x72_8) x72_25
def x72_27 : XCode := .seq (.region x72_7) x72_26
def x72_28 : XCode := .seq x72_6 x72_27
def x72_29 : XCode := .seq (.region x72_1) x72_28
def x72_30 : XCode := .seq (.region x72_0) x72_29
def x72 : XCode := x72_30
theorem fx72 : fnx Try.prog 72 = some (51, [(2, (some (.agg, 5))), (3, none)], x72) := by kernel_rfl
def x73_0 : List XOper := [⟨(some 2), .op (.mv (.const (.int .u64 0))), none⟩]
def x73_1 : List XOper := [⟨(some 3), .op (.mv (.tmp 0)), none⟩,
  ⟨(some 4), .op (.conv .u64 (.tmp 3)), none⟩,
  ⟨(some 2), .op (.mv (.tmp 4)), none⟩]
def x73_2 : XCode := .seq (.region x73_1) .ret
def x73_3 : XCode := .seq (.region x73_0) x73_2
def x73 : XCode := x73_3
theorem fx73 : fnx Try.prog 73 = some (5, [(2, none)], x73) := by kernel_rfl
def x74_0 : List XOper := [⟨(some 6), .op (.mv (.const (.int .u64 0))), none⟩,
  ⟨(some 7), .op (.mv (.const (.int .i64 0))), none⟩]
def x74_1 : List XOper := [⟨(some 18), .op (.mv (.tmp 0)), none⟩,
  ⟨(some 19), .op (.mv (.tmp 1)), none⟩,
  ⟨(some 20), .op (.mv (.tmp 2)), none⟩,
  ⟨(some 21), .callF 85 [(.tmp 18), (.tmp 19), (.tmp 20)], none⟩,
  ⟨(some 17), .op (.mv (.tmp 21)), none⟩,
  ⟨(some 22), .op (.ext (.tmp 17) 0), none⟩,
  ⟨(some 23), .op (.ext (.tmp 17) 1), none⟩,
  ⟨(some 8), .op (.mv (.tmp 22)), none⟩,
  ⟨(some 9), .op (.mv (.tmp 23)), none⟩]
def x74_2 : List XOper := [⟨(some 24), .op (.mv (.tmp 9)), none⟩]
def x74_3 : List XOper := [⟨(some 25), .op (.mv (.tmp 8)), none⟩,
  ⟨(some 6), .op (.mv (.tmp 25)), none⟩,
  ⟨(some 7), .op (.mv (.const (.int .i64 0))), none⟩]
def x74_4 : XCode := .seq (.region x74_3) .ret
def x74_5 : XCode := .cnd (.tmp 24) x74_4 .skip
def x74_6 : XCode := .seq (.region x74_2) x74_5
def x74_7 : XCode := .seq (.region x74_1) x74_6
def x74_8 : List XOper := [⟨(some 27), .op (.mv (.tmp 0)), none⟩,
  ⟨(some 28), .op (.mv (.tmp 1)), none⟩,
  ⟨(some 29), .op (.mv (.tmp 2)), none⟩,
  ⟨(some 30), .callF 86 [(.tmp 27), (.tmp 28), (.tmp 29)], none⟩,
  ⟨(some 26), .op (.mv (.tmp 30)), none⟩,
  ⟨(some 31), .op (.ext (.tmp 26) 0), none⟩,
  ⟨(some 32), .op (.ext (.tmp 26) 1), none⟩,
  ⟨(some 10), .op (.mv (.tmp 31)), none⟩,
  ⟨(some 11), .op (.mv (.tmp 32)), none⟩]
def x74_9 : List XOper := [⟨(some 33), .op (.mv (.tmp 11)), none⟩]
def x74_10 : List XOper := [⟨(some 34), .op (.mv (.tmp 10)), none⟩,
  ⟨(some 6), .op (.mv (.tmp 34)), none⟩,
  ⟨(some 7), .op (.mv (.const (.int .i64 0))), none⟩]
def x74_11 : XCode := .seq (.region x74_10) .ret
def x74_12 : XCode := .cnd (.tmp 33) x74_11 .skip
def x74_13 : XCode := .seq (.region x74_9) x74_12
def x74_14 : XCode := .seq (.region x74_8) x74_13
def x74_15 : List XOper := [⟨(some 36), .op (.mv (.tmp 0)), none⟩,
  ⟨(some 37), .callF 87 [(.tmp 36)], none⟩,
  ⟨(some 35), .op (.mv (.tmp 37)), none⟩,
  ⟨(some 38), .op (.ext (.tmp 35) 0), none⟩,
  ⟨(some 39), .op (.ext (.tmp 35) 1), none⟩,
  ⟨(some 40), .op (.ext (.tmp 35) 2), none⟩,
  ⟨(some 12), .op (.mv (.tmp 38)), none⟩,
  ⟨(some 13), .op (.mv (.tmp 39)), none⟩,
  ⟨(some 14), .op (.mv (.tmp 40)), none⟩]
def x74_16 : List XOper := [⟨(some 41), .op (.mv (.tmp 14)), none⟩,
  ⟨(some 42), .op (.un .not (.tmp 41)), none⟩]
def x74_17 : List XOper := [⟨(some 6), .op (.mv (.const (.int .u64 0))), none⟩,
  ⟨(some 7), .op (.mv (.const (.int .i64 1))), none⟩]
def x74_18 : XCode := .seq (.region x74_17) .ret
def x74_19 : XCode := .cnd (.tmp 42) x74_18 .skip
def x74_20 : XCode := .seq (.region x74_16) x74_19
def x74_21 : List XOper := [⟨(some 44), .op (.mv (.tmp 1)), none⟩,
  ⟨(some 45), .op (.mv (.tmp 13)), none⟩,
  ⟨(some 46), .callF 36 [(.tmp 44), (.const (.int .i64 32)), (.tmp 45)], none⟩,
  ⟨(some 43), .op (.mv (.tmp 46)), none⟩,
  ⟨(some 47), .op (.ext (.tmp 43) 0), none⟩,
  ⟨(some 48), .op (.ext (.tmp 43) 1), none⟩,
  ⟨(some 1), .op (.mv (.tmp 47)), none⟩]
def x74_22 : List XOper := [⟨(some 50), .op (.mv (.tmp 2)), none⟩,
  ⟨(some 51), .op (.mv (.tmp 13)), none⟩,
  ⟨(some 52), .callF 36 [(.tmp 50), (.const (.int .i64 32)), (.tmp 51)], none⟩,
  ⟨(some 49), .op (.mv (.tmp 52)), none⟩,
  ⟨(some 53), .op (.ext (.tmp 49) 0), none⟩,
  ⟨(some 54), .op (.ext (.tmp 49) 1), none⟩,
  ⟨(some 2), .op (.mv (.tmp 53)), none⟩]
def x74_23 : List XOper := [⟨(some 55), .op (.mv (.tmp 12)), none⟩,
  ⟨(some 56), .op (.bin .eql (.tmp 55) (.const (.int .i64 3))), none⟩,
  ⟨(some 57), .op (.mv (.tmp 56)), none⟩,
  ⟨(some 58), .op (.mv (.tmp 12)), (some (57, false))⟩,
  ⟨(some 59), .op (.bin .eql (.tmp 58) (.const (.int .i64 7))), (some (57, false))⟩,
  ⟨(some 60), .pick (.tmp 57) (.const (.bool true)) (.tmp 59), none⟩,
  ⟨(some 61), .op (.mv (.tmp 60)), none⟩,
  ⟨(some 62), .op (.mv (.tmp 12)), (some (61, false))⟩,
  ⟨(some 63), .op (.bin .eql (.tmp 62) (.const (.int .i64 8))), (some (61, false))⟩,
  ⟨(some 64), .pick (.tmp 61) (.const (.bool true)) (.tmp 63), none⟩]
def x74_24 : List XOper := [⟨(some 65), .op (.mv (.tmp 2)), none⟩,
  ⟨(some 66), .op (.bin .and (.tmp 65) (.const (.int .u64 31))), none⟩,
  ⟨(some 2), .op (.mv (.tmp 66)), none⟩]
def x74_25 : XCode := .cnd (.tmp 64) (.region x74_24) .skip
def x74_26 : XCode := .seq (.region x74_23) x74_25
def x74_27 : List XOper := [⟨(some 68), .op (.mv (.tmp 12)), none⟩,
  ⟨(some 69), .op (.mv (.tmp 1)), none⟩,
  ⟨(some 70), .op (.mv (.tmp 2)), none⟩,
  ⟨(some 71), .callF 74 [(.tmp 68), (.tmp 69), (.tmp 70)], none⟩,
  ⟨(some 67), .op (.mv (.tmp 71)), none⟩,
  ⟨(some 72), .op (.ext (.tmp 67) 0), none⟩,
  ⟨(some 73), .op (.ext (.tmp 67) 1), none⟩,
  ⟨(some 15), .op (.mv (.tmp 72)), none⟩,
  ⟨(some 16), .op (.mv (.tmp 73)), none⟩]
def x74_28 : List XOper := [⟨(some 75), .op (.mv (.tmp 15)), none⟩,
  ⟨(some 76), .callF 36 [(.tmp 75), (.const (.int .i64 32)), (.const (.bool true))], none⟩,
  ⟨(some 74), .op (.mv (.tmp 76)), none⟩,
  ⟨(some 77), .op (.ext (.tmp 74) 0), none⟩,
  ⟨(some 78), .op (.ext (.tmp 74) 1), none⟩,
  ⟨(some 15), .op (.mv (.tmp 77)), none⟩]
def x74_29 : List XOper := [⟨(some 79), .op (.mv (.tmp 15)), none⟩,
  ⟨(some 80), .op (.mv (.tmp 16)), none⟩,
  ⟨(some 6), .op (.mv (.tmp 79)), none⟩,
  ⟨(some 7), .op (.mv (.tmp 80)), none⟩]
def x74_30 : XCode := .seq (.region x74_29) .ret
def x74_31 : XCode := .seq (.region x74_28) x74_30
def x74_32 : XCode := .seq (.region x74_27) x74_31
def x74_33 : XCode := .seq x74_26 x74_32
def x74_34 : XCode := .seq (.region x74_22) x74_33
def x74_35 : XCode := .seq (.region x74_21) x74_34
def x74_36 : XCode := .seq x74_20 x74_35
def x74_37 : XCode := .seq (.region x74_15) x74_36
def x74_38 : XCode := .seq x74_14 x74_37
def x74_39 : XCode := .seq x74_7 x74_38
def x74_40 : XCode := .seq (.region x74_0) x74_39
def x74 : XCode := x74_40
theorem fx74 : fnx Try.prog 74 = some (81, [(6, none), (7, none)], x74) := by kernel_rfl
def x75_0 : List XOper := [⟨(some 2), .op (.mv (.const (.int .i64 0))), none⟩]
def x75_1 : List XOper := [⟨(some 3), .op (.build [(.int .i64 0), (.int .i64 0), (.int .i64 0), (.int .i64 0), (.int .i64 0), (.int .i64 0), (.int .i64 0), (.int .i64 0), (.int .i64 0), (.int .i64 0)] [(0, 1, (.const (.int .i64 1))), (1, 1, (.const (.int .i64 4))), (2, 1, (.const (.int .i64 5))), (3, 1, (.const (.int .i64 6))), (4, 1, (.const (.int .i64 9))), (5, 1, (.const (.int .i64 10))), (6, 1, (.const (.int .i64 3))), (7, 1, (.const (.int .i64 7))), (8, 1, (.const (.int .i64 8))), (9, 1, (.const (.int .i64 18)))]), none⟩,
  ⟨(some 4), .op (.mv (.tmp 0)), none⟩,
  ⟨(some 5), .op (.bin .sub (.tmp 4) (.const (.int .i64 28))), none⟩,
  ⟨(some 6), .op (.idxA 10 1 (.int .i64) (.tmp 3) (.tmp 5)), none⟩,
  ⟨(some 2), .op (.mv (.tmp 6)), none⟩]
def x75_2 : XCode := .seq (.region x75_1) .ret
def x75_3 : XCode := .seq (.region x75_0) x75_2
def x75 : XCode := x75_3
theorem fx75 : fnx Try.prog 75 = some (7, [(2, none)], x75) := by kernel_rfl
def x76_0 : List XOper := [⟨(some 3), .op (.box (.tmp 1)), none⟩,
  ⟨(some 4), .op (.mv (.const (.bool false))), none⟩]
def x76_1 : List XOper := [⟨(some 11), .op (.faddr 0 (.tmp 3)), none⟩,
  ⟨(some 12), .op (.load (.int .i64) 1 (.tmp 11)), none⟩,
  ⟨(some 13), .callF 88 [(.tmp 12)], none⟩,
  ⟨(some 5), .op (.mv (.tmp 13)), none⟩]
def x76_2 : List XOper := [⟨(some 14), .op (.mv (.tmp 0)), none⟩,
  ⟨(some 15), .op (.nilck (.tmp 14)), none⟩,
  ⟨(some 16), .op (.faddr 0 (.tmp 15)), none⟩,
  ⟨(some 17), .op (.load .one 1 (.tmp 16)), none⟩,
  ⟨(some 18), .op (.faddr 2 (.tmp 3)), none⟩,
  ⟨(some 19), .op (.load (.int .i64) 1 (.tmp 18)), none⟩,
  ⟨(some 20), .op (.nilck (.tmp 17)), none⟩,
  ⟨(some 21), .op (.faddr 1 (.tmp 20)), none⟩,
  ⟨(some 22), .op (.iaddrA true 32 1 (.tmp 21) (.tmp 19)), none⟩,
  ⟨(some 23), .op (.load (.int .u64) 1 (.tmp 22)), none⟩,
  ⟨(some 24), .op (.faddr 4 (.tmp 3)), none⟩,
  ⟨(some 25), .op (.load (.int .i64) 1 (.tmp 24)), none⟩,
  ⟨(some 26), .callF 73 [(.tmp 25)], none⟩,
  ⟨(some 27), .op (.bin .add (.tmp 23) (.tmp 26)), none⟩,
  ⟨(some 6), .op (.mv (.tmp 27)), none⟩]
def x76_3 : List XOper := [⟨(some 29), .op (.mv (.tmp 0)), none⟩,
  ⟨(some 30), .op (.nilck (.tmp 29)), none⟩,
  ⟨(some 31), .op (.faddr 0 (.tmp 30)), none⟩,
  ⟨(some 32), .op (.load .one 1 (.tmp 31)), none⟩,
  ⟨(some 33), .op (.mv (.tmp 6)), none⟩,
  ⟨(some 34), .op (.mv (.tmp 5)), none⟩,
  ⟨(some 35), .callF 83 [(.tmp 32), (.tmp 33), (.tmp 34)], none⟩,
  ⟨(some 28), .op (.mv (.tmp 35)), none⟩,
  ⟨(some 36), .op (.ext (.tmp 28) 0), none⟩,
  ⟨(some 37), .op (.ext (.tmp 28) 1), none⟩,
  ⟨(some 7), .op (.mv (.tmp 36)), none⟩,
  ⟨(some 8), .op (.mv (.tmp 37)), none⟩]
def x76_4 : List XOper := [⟨(some 38), .op (.mv (.tmp 8)), none⟩,
  ⟨(some 39), .op (.un .not (.tmp 38)), none⟩]
def x76_5 : List XOper := [⟨(some 4), .op (.mv (.const (.bool false))), none⟩]
def x76_6 : XCode := .seq (.region x76_5) .ret
def x76_7 : XCode := .cnd (.tmp 39) x76_6 .skip
def x76_8 : XCode := .seq (.region x76_4) x76_7
def x76_9 : List XOper := [⟨(some 40), .op (.faddr 0 (.tmp 3)), none⟩,
  ⟨(some 41), .op (.load (.int .i64) 1 (.tmp 40)), none⟩,
  ⟨(some 42), .op (.bin .geq (.tmp 41) (.const (.int .i64 42))), none⟩,
  ⟨(some 9), .op (.mv (.tmp 42)), none⟩]
def x76_10 : List XOper := [⟨(some 43), .op (.mv (.tmp 0)), none⟩,
  ⟨(some 44), .op (.nilck (.tmp 43)), none⟩,
  ⟨(some 45), .op (.faddr 4 (.tmp 44)), none⟩,
  ⟨(some 46), .op (.load .bool 1 (.tmp 45)), none⟩]
def x76_11 : List XOper := [⟨(some 47), .op (.mv (.tmp 0)), none⟩,
  ⟨(some 48), .op (.mv (.tmp 0)), none⟩,
  ⟨(some 49), .op (.nilck (.tmp 48)), none⟩,
  ⟨(some 50), .op (.faddr 5 (.tmp 49)), none⟩,
  ⟨(some 51), .op (.load .one 1 (.tmp 50)), none⟩,
  ⟨(some 52), .op (.mv (.tmp 0)), none⟩,
  ⟨(some 53), .op (.nilck (.tmp 52)), none⟩,
  ⟨(some 54), .op (.faddr 0 (.tmp 53)), none⟩,
  ⟨(some 55), .op (.load .one 1 (.tmp 54)), none⟩,
  ⟨(some 56), .op (.nilck (.tmp 55)), none⟩,
  ⟨(some 57), .op (.faddr 33 (.tmp 56)), none⟩,
  ⟨(some 58), .op (.load (.int .u64) 1 (.tmp 57)), none⟩,
  ⟨(some 59), .op (.mv (.tmp 6)), none⟩,
  ⟨(some 60), .op (.mv (.tmp 5)), none⟩,
  ⟨(some 61), .op (.mv (.tmp 9)), none⟩,
  ⟨(some 62), .op (.build [(.int .u64 0), (.int .u64 0), (.int .i64 0), (.bool false)] [(0, 1, (.tmp 58)), (1, 1, (.tmp 59)), (2, 1, (.tmp 60)), (3, 1, (.tmp 61))]), none⟩,
  ⟨(some 63), .op (.mkslice [(.int .u64 0), (.int .u64 0), (.int .i64 0), (.bool false)] 1 [(0, (.tmp 62))]), none⟩,
  ⟨(some 64), .op (.app 4 32 (.tmp 51) (.tmp 63)), none⟩,
  ⟨(some 65), .op (.nilck (.tmp 47)), none⟩,
  ⟨(some 66), .op (.faddr 5 (.tmp 65)), none⟩,
  ⟨none, .op (.store 1 (.tmp 66) (.tmp 64)), none⟩]
def x76_12 : XCode := .cnd (.tmp 46) (.draw x76_11 [[], [], [1], [1, 2], [1, 2, 3], [], [5], [5, 6], [5, 6, 7], [5, 6, 7, 8], [5, 6, 7, 8, 9], [5, 6, 7, 8, 9, 10], [], [], [], [5, 6, 7, 8, 9, 10, 11, 12, 13, 14], [5, 6, 7, 8, 9, 10, 11, 12, 13, 14, 15], [1, 2, 3, 4, 5, 6, 7, 8, 9, 10, 11, 12, 13, 14, 15, 16], [0, 1, 2, 3, 4, 5, 6, 7, 8, 9, 10, 11, 12, 13, 14, 15, 16, 17], [0, 1, 2, 3, 4, 5, 6, 7, 8, 9, 10, 11, 12, 13, 14, 15, 16, 17, 18], [0, 1, 2, 3, 4, 5, 6, 7, 8, 9, 10, 11, 12, 13, 14, 15, 16, 17, 18, 19]]) .skip
def x76_13 : XCode := .seq (.region x76_10) x76_12
def x76_14 : List XOper := [⟨(some 67), .op (.mv (.tmp 9)), none⟩]
def x76_15 : List XOper := [⟨(some 68), .op (.mv (.tmp 7)), none⟩,
  ⟨(some 69), .op (.lenS (.tmp 68)), none⟩,
  ⟨(some 70), .op (.mv (.const (.int .i64 0))), none⟩]
def x76_16 : List XOper := [⟨(some 71), .op (.bin .lss (.tmp 70) (.tmp 69)), none⟩]
def x76_17 : XCode := .cnd (.tmp 71) .skip (.exit 0)
def x76_18 : List XOper := [⟨(some 72), .op (.mv (.tmp 70)), none⟩,
  ⟨(some 10), .op (.mv (.tmp 72)), none⟩]
def x76_19 : List XOper := [⟨(some 73), .op (.mv (.tmp 7)), none⟩,
  ⟨(some 74), .op (.mv (.tmp 10)), none⟩,
  ⟨(some 75), .op (.mv (.tmp 0)), none⟩,
  ⟨(some 76), .op (.nilck (.tmp 75)), none⟩,
  ⟨(some 77), .op (.faddr 0 (.tmp 76)), none⟩,
  ⟨(some 78), .op (.load .one 1 (.tmp 77)), none⟩,
  ⟨(some 79), .op (.faddr 3 (.tmp 3)), none⟩,
  ⟨(some 80), .op (.load (.int .i64) 1 (.tmp 79)), none⟩,
  ⟨(some 81), .op (.nilck (.tmp 78)), none⟩,
  ⟨(some 82), .op (.faddr 1 (.tmp 81)), none⟩,
  ⟨(some 83), .op (.iaddrA true 32 1 (.tmp 82) (.tmp 80)), none⟩,
  ⟨(some 84), .op (.load (.int .u64) 1 (.tmp 83)), none⟩,
  ⟨(some 85), .op (.mv (.tmp 10)), none⟩,
  ⟨(some 86), .op (.bin .mul (.const (.int .i64 8)) (.tmp 85)), none⟩,
  ⟨(some 87), .op (.bin .shr (.tmp 84) (.tmp 86)), none⟩,
  ⟨(some 88), .op (.conv .u8 (.tmp 87)), none⟩,
  ⟨(some 89), .op (.iaddrS 1 (.tmp 73) (.tmp 74)), none⟩,
  ⟨none, .op (.store 1 (.tmp 89) (.tmp 88)), none⟩]
def x76_20 : XCode := .seq (.region x76_18) (.draw x76_19 [[], [], [], [2], [2, 3], [2, 3, 4], [], [6], [2, 3, 4, 5], [2, 3, 4, 5, 8], [2, 3, 4, 5, 6, 7, 8, 9], [2, 3, 4, 5, 6, 7, 8, 9, 10], [], [12], [2, 3, 4, 5, 6, 7, 8, 9, 10, 11, 12, 13], [2, 3, 4, 5, 6, 7, 8, 9, 10, 11, 12, 13, 14], [0, 1, 2, 3, 4, 5, 6, 7, 8, 9, 10, 11, 12, 13, 14, 15], [0, 1, 2, 3, 4, 5, 6, 7, 8, 9, 10, 11, 12, 13, 14, 15, 16]])
def x76_21 : XCode := .block 1 x76_20
def x76_22 : List XOper := [⟨(some 90), .op (.bin .add (.tmp 70) (.const (.int .i64 1))), none⟩,
  ⟨(some 70), .op (.mv (.tmp 90)), none⟩]
def x76_23 : XCode := .seq x76_21 (.region x76_22)
def x76_24 : XCode := .seq x76_17 x76_23
def x76_25 : XCode := .seq (.region x76_16) x76_24
def x76_26 : XCode := .loop x76_25
def x76_27 : XCode := .block 0 x76_26
def x76_28 : XCode := .seq (.region x76_15) x76_27
def x76_29 : List XOper := [⟨(some 4), .op (.mv (.const (.bool true))), none⟩]
def x76_30 : XCode := .seq (.region x76_29) .ret
def x76_31 : XCode := .seq x76_28 x76_30
def x76_32 : XCode := .cnd (.tmp 67) x76_31 .skip
def x76_33 : XCode := .seq (.region x76_14) x76_32
def x76_34 : List XOper := [⟨(some 92), .op (.mv (.tmp 0)), none⟩,
  ⟨(some 93), .op (.nilck (.tmp 92)), none⟩,
  ⟨(some 94), .op (.faddr 0 (.tmp 93)), none⟩,
  ⟨(some 95), .op (.load .one 1 (.tmp 94)), none⟩,
  ⟨(some 96), .op (.faddr 1 (.tmp 3)), none⟩,
  ⟨(some 97), .op (.load (.int .i64) 1 (.tmp 96)), none⟩,
  ⟨(some 98), .op (.mv (.tmp 7)), none⟩,
  ⟨(some 99), .callF 84 [(.tmp 98)], none⟩,
  ⟨(some 100), .op (.mv (.tmp 5)), none⟩,
  ⟨(some 101), .op (.bin .mul (.const (.int .i64 8)) (.tmp 100)), none⟩,
  ⟨(some 102), .op (.faddr 0 (.tmp 3)), none⟩,
  ⟨(some 103), .op (.load (.int .i64) 1 (.tmp 102)), none⟩,
  ⟨(some 104), .op (.bin .neq (.tmp 103) (.const (.int .i64 39))), none⟩,
  ⟨(some 105), .callF 36 [(.tmp 99), (.tmp 101), (.tmp 104)], none⟩,
  ⟨(some 91), .op (.mv (.tmp 105)), none⟩,
  ⟨(some 106), .op (.ext (.tmp 91) 0), none⟩,
  ⟨(some 107), .op (.ext (.tmp 91) 1), none⟩,
  ⟨(some 108), .op (.nilck (.tmp 95)), none⟩,
  ⟨(some 109), .op (.faddr 1 (.tmp 108)), none⟩,
  ⟨(some 110), .op (.iaddrA true 32 1 (.tmp 109) (.tmp 97)), none⟩,
  ⟨none, .op (.store 1 (.tmp 110) (.tmp 106)), none⟩]
def x76_35 : List XOper := [⟨(some 4), .op (.mv (.const (.bool true))), none⟩]
def x76_36 : XCode := .seq (.region x76_35) .ret
def x76_37 : XCode := .seq (.draw x76_34 [[], [0], [0, 1], [0, 1, 2], [], [4], [], [6], [], [8], [], [10], [10, 11], [6, 7, 8, 9, 10, 11, 12], [6, 7, 8, 9, 10, 11, 12, 13], [6, 7, 8, 9, 10, 11, 12, 13, 14], [6, 7, 8, 9, 10, 11, 12, 13, 14], [0, 1, 2, 3], [0, 1, 2, 3, 17], [0, 1, 2, 3, 4, 5, 6, 7, 8, 9, 10, 11, 12, 13, 14, 15, 17, 18], [0, 1, 2, 3, 4, 5, 6, 7, 8, 9, 10, 11, 12, 13, 14, 15, 17, 18, 19]]) x76_36
def x76_38 : XCode := .seq x76_33 x76_37
def x76_39 : XCode := .seq x76_13 x76_38
def x76_40 : XCode := .seq (.region x76_9) x76_39
def x76_41 : XCode := .seq x76_8 x76_40
def x76_42 : XCode := .seq (.region x76_3) x76_41
def x76_43 : XCode := .seq (.draw x76_2 [[], [0], [0, 1], [0, 1, 2], [], [4], [0, 1, 2, 3], [0, 1, 2, 3, 6], [0, 1, 2, 3, 4, 5, 6, 7], [0, 1, 2, 3, 4, 5, 6, 7, 8], [], [10], [10, 11], [0, 1, 2, 3, 4, 5, 6, 7, 8, 9, 10, 11, 12], [0, 1, 2, 3, 4, 5, 6, 7, 8, 9, 10, 11, 12, 13]]) x76_42
def x76_44 : XCode := .seq (.region x76_1) x76_43
def x76_45 : XCode := .seq (.region x76_0) x76_44
def x76 : XCode := x76_45
theorem fx76 : fnx Try.prog 76 = some (111, [(4, none)], x76) := by kernel_rfl
def x77_0 : List XOper := [⟨(some 6), .op (.mv (.const (.bool false))), none⟩]
def x77_1 : List XOper := [⟨(some 7), .op (.mv (.tmp 0)), none⟩]
def x77_2 : List XOper := [⟨(some 9), .op (.bin .eql (.tmp 7) (.const (.int .i64 45))), none⟩,
  ⟨(some 8), .op (.mv (.tmp 9)), none⟩]
def x77_3 : List XOper := [⟨(some 10), .op (.bin .eql (.tmp 7) (.const (.int .i64 46))), none⟩,
  ⟨(some 8), .op (.mv (.tmp 10)), none⟩]
def x77_4 : XCode := .cnd (.tmp 8) .skip (.region x77_3)
def x77_5 : XCode := .seq (.region x77_2) x77_4
def x77_6 : List XOper := [⟨(some 11), .op (.mv (.tmp 1)), none⟩,
  ⟨(some 12), .op (.mv (.tmp 2)), none⟩,
  ⟨(some 13), .op (.bin .eql (.tmp 11) (.tmp 12)), none⟩,
  ⟨(some 14), .op (.mv (.tmp 0)), none⟩,
  ⟨(some 15), .op (.bin .eql (.tmp 14) (.const (.int .i64 45))), none⟩,
  ⟨(some 16), .op (.eqb false (.tmp 13) (.tmp 15)), none⟩,
  ⟨(some 6), .op (.mv (.tmp 16)), none⟩]
def x77_7 : XCode := .seq (.region x77_6) .ret
def x77_8 : List XOper := [⟨(some 18), .op (.bin .eql (.tmp 7) (.const (.int .i64 47))), none⟩,
  ⟨(some 17), .op (.mv (.tmp 18)), none⟩]
def x77_9 : List XOper := [⟨(some 19), .op (.bin .eql (.tmp 7) (.const (.int .i64 48))), none⟩,
  ⟨(some 17), .op (.mv (.tmp 19)), none⟩]
def x77_10 : XCode := .cnd (.tmp 17) .skip (.region x77_9)
def x77_11 : XCode := .seq (.region x77_8) x77_10
def x77_12 : List XOper := [⟨(some 20), .op (.mv (.tmp 1)), none⟩,
  ⟨(some 21), .op (.conv .i64 (.tmp 20)), none⟩,
  ⟨(some 22), .op (.mv (.tmp 2)), none⟩,
  ⟨(some 23), .op (.conv .i64 (.tmp 22)), none⟩,
  ⟨(some 24), .op (.bin .lss (.tmp 21) (.tmp 23)), none⟩,
  ⟨(some 25), .op (.mv (.tmp 0)), none⟩,
  ⟨(some 26), .op (.bin .eql (.tmp 25) (.const (.int .i64 47))), none⟩,
  ⟨(some 27), .op (.eqb false (.tmp 24) (.tmp 26)), none⟩,
  ⟨(some 6), .op (.mv (.tmp 27)), none⟩]
def x77_13 : XCode := .seq (.region x77_12) .ret
def x77_14 : XCode := .cnd (.tmp 17) x77_13 .skip
def x77_15 : XCode := .seq x77_11 x77_14
def x77_16 : XCode := .cnd (.tmp 8) x77_7 x77_15
def x77_17 : XCode := .seq x77_5 x77_16
def x77_18 : XCode := .block 0 x77_17
def x77_19 : XCode := .seq (.region x77_1) x77_18
def x77_20 : List XOper := [⟨(some 28), .op (.mv (.tmp 1)), none⟩,
  ⟨(some 29), .op (.mv (.tmp 2)), none⟩,
  ⟨(some 30), .op (.bin .lss (.tmp 28) (.tmp 29)), none⟩,
  ⟨(some 31), .op (.mv (.tmp 0)), none⟩,
  ⟨(some 32), .op (.bin .eql (.tmp 31) (.const (.int .i64 49))), none⟩,
  ⟨(some 33), .op (.eqb false (.tmp 30) (.tmp 32)), none⟩,
  ⟨(some 6), .op (.mv (.tmp 33)), none⟩]
def x77_21 : XCode := .seq (.region x77_20) .ret
def x77_22 : XCode := .seq x77_19 x77_21
def x77_23 : XCode := .seq (.region x77_0) x77_22
def x77 : XCode := x77_23
theorem fx77 : fnx Try.prog 77 = some (34, [(6, none)], x77) := by kernel_rfl
def x78_0 : List XOper := [⟨(some 2), .op (.mv (.const (.bool false))), none⟩]
def x78_1 : List XOper := [⟨(some 3), .op (.mv (.tmp 0)), none⟩,
  ⟨(some 4), .op (.nilck (.tmp 3)), none⟩,
  ⟨(some 5), .op (.faddr 0 (.tmp 4)), none⟩,
  ⟨(some 6), .op (.load .one 1 (.tmp 5)), none⟩,
  ⟨(some 7), .op (.nilck (.tmp 6)), none⟩,
  ⟨(some 8), .op (.faddr 1 (.tmp 7)), none⟩,
  ⟨(some 9), .op (.iaddrA false 32 1 (.tmp 8) (.const (.int .i64 17))), none⟩,
  ⟨(some 10), .op (.load (.int .u64) 1 (.tmp 9)), none⟩]
def x78_2 : List XOper := [⟨(some 12), .op (.bin .eql (.tmp 10) (.const (.int .u64 1))), none⟩,
  ⟨(some 11), .op (.mv (.tmp 12)), none⟩]
def x78_3 : List XOper := [⟨(some 13), .op (.mv (.tmp 0)), none⟩,
  ⟨(some 14), .op (.mv (.tmp 0)), none⟩,
  ⟨(some 15), .op (.nilck (.tmp 14)), none⟩,
  ⟨(some 16), .op (.faddr 2 (.tmp 15)), none⟩,
  ⟨(some 17), .op (.load .one 1 (.tmp 16)), none⟩,
  ⟨(some 18), .op (.mv (.tmp 0)), none⟩,
  ⟨(some 19), .op (.nilck (.tmp 18)), none⟩,
  ⟨(some 20), .op (.faddr 0 (.tmp 19)), none⟩,
  ⟨(some 21), .op (.load .one 1 (.tmp 20)), none⟩,
  ⟨(some 22), .op (.nilck (.tmp 21)), none⟩,
  ⟨(some 23), .op (.faddr 1 (.tmp 22)), none⟩,
  ⟨(some 24), .op (.iaddrA false 32 1 (.tmp 23) (.const (.int .i64 10))), none⟩,
  ⟨(some 25), .op (.load (.int .u64) 1 (.tmp 24)), none⟩,
  ⟨(some 26), .op (.conv .u8 (.tmp 25)), none⟩,
  ⟨(some 27), .op (.mkslice [(.int .u8 0)] 1 [(0, (.tmp 26))]), none⟩,
  ⟨(some 28), .op (.app 1 1 (.tmp 17) (.tmp 27)), none⟩,
  ⟨(some 29), .op (.nilck (.tmp 13)), none⟩,
  ⟨(some 30), .op (.faddr 2 (.tmp 29)), none⟩,
  ⟨none, .op (.store 1 (.tmp 30) (.tmp 28)), none⟩]
def x78_4 : List XOper := [⟨(some 32), .op (.bin .eql (.tmp 10) (.const (.int .u64 2))), none⟩,
  ⟨(some 31), .op (.mv (.tmp 32)), none⟩]
def x78_5 : List XOper := [⟨(some 33), .op (.mv (.tmp 0)), none⟩,
  ⟨(some 34), .op (.nilck (.tmp 33)), none⟩,
  ⟨(some 35), .op (.faddr 0 (.tmp 34)), none⟩,
  ⟨(some 36), .op (.load .one 1 (.tmp 35)), none⟩,
  ⟨(some 37), .op (.nilck (.tmp 36)), none⟩,
  ⟨(some 38), .op (.faddr 1 (.tmp 37)), none⟩,
  ⟨(some 39), .op (.iaddrA false 32 1 (.tmp 38) (.const (.int .i64 10))), none⟩,
  ⟨none, .op (.store 1 (.tmp 39) (.const (.int .u64 18446744073709551615))), none⟩]
def x78_6 : List XOper := [⟨(some 40), .op (.mv (.tmp 0)), none⟩,
  ⟨(some 41), .op (.nilck (.tmp 40)), none⟩,
  ⟨(some 42), .op (.faddr 1 (.tmp 41)), none⟩,
  ⟨(some 43), .op (.load .one 1 (.tmp 42)), none⟩,
  ⟨(some 44), .op (.lenS (.tmp 43)), none⟩,
  ⟨(some 45), .op (.bin .gtr (.tmp 44) (.const (.int .i64 0))), none⟩]
def x78_7 : List XOper := [⟨(some 46), .op (.mv (.tmp 0)), none⟩,
  ⟨(some 47), .op (.nilck (.tmp 46)), none⟩,
  ⟨(some 48), .op (.faddr 0 (.tmp 47)), none⟩,
  ⟨(some 49), .op (.load .one 1 (.tmp 48)), none⟩,
  ⟨(some 50), .op (.mv (.tmp 0)), none⟩,
  ⟨(some 51), .op (.mv (.tmp 0)), none⟩,
  ⟨(some 52), .op (.nilck (.tmp 51)), none⟩,
  ⟨(some 53), .op (.faddr 1 (.tmp 52)), none⟩,
  ⟨(some 54), .op (.load .one 1 (.tmp 53)), none⟩,
  ⟨(some 55), .op (.iaddrS 1 (.tmp 54) (.const (.int .i64 0))), none⟩,
  ⟨(some 56), .op (.load (.int .u8) 1 (.tmp 55)), none⟩,
  ⟨(some 57), .op (.conv .u64 (.tmp 56)), none⟩,
  ⟨(some 58), .op (.mv (.tmp 0)), none⟩,
  ⟨(some 59), .op (.nilck (.tmp 58)), none⟩,
  ⟨(some 60), .op (.faddr 1 (.tmp 59)), none⟩,
  ⟨(some 61), .op (.load .one 1 (.tmp 60)), none⟩,
  ⟨(some 62), .op (.slS 1 (.tmp 61) (some (.const (.int .i64 1))) none), none⟩,
  ⟨(some 63), .op (.nilck (.tmp 49)), none⟩,
  ⟨(some 64), .op (.faddr 1 (.tmp 63)), none⟩,
  ⟨(some 65), .op (.iaddrA false 32 1 (.tmp 64) (.const (.int .i64 10))), none⟩,
  ⟨none, .op (.store 1 (.tmp 65) (.tmp 57)), none⟩,
  ⟨(some 66), .op (.nilck (.tmp 50)), none⟩,
  ⟨(some 67), .op (.faddr 1 (.tmp 66)), none⟩,
  ⟨none, .op (.store 1 (.tmp 67) (.tmp 62)), none⟩]
def x78_8 : XCode := .cnd (.tmp 45) (.draw x78_7 [[], [0], [0, 1], [0, 1, 2], [], [], [5], [5, 6], [5, 6, 7], [5, 6, 7, 8], [5, 6, 7, 8, 9], [5, 6, 7, 8, 9, 10], [], [12], [12, 13], [12, 13, 14], [12, 13, 14, 15], [0, 1, 2, 3], [0, 1, 2, 3, 17], [0, 1, 2, 3, 5, 6, 7, 8, 9, 10, 11, 12, 13, 14, 15, 17, 18], [0, 1, 2, 3, 5, 6, 7, 8, 9, 10, 11, 12, 13, 14, 15, 17, 18, 19], [0, 1, 2, 3, 4, 5, 6, 7, 8, 9, 10, 11, 12, 13, 14, 15, 16, 17, 18, 19, 20], [0, 1, 2, 3, 4, 5, 6, 7, 8, 9, 10, 11, 12, 13, 14, 15, 16, 17, 18, 19, 20, 21], [0, 1, 2, 3, 4, 5, 6, 7, 8, 9, 10, 11, 12, 13, 14, 15, 16, 17, 18, 19, 20, 21, 22]]) .skip
def x78_9 : XCode := .seq (.region x78_6) x78_8
def x78_10 : XCode := .seq (.region x78_5) x78_9
def x78_11 : List XOper := [⟨(some 69), .op (.bin .eql (.tmp 10) (.const (.int .u64 3))), none⟩,
  ⟨(some 68), .op (.mv (.tmp 69)), none⟩]
def x78_12 : List XOper := [⟨(some 70), .op (.mv (.tmp 0)), none⟩,
  ⟨(some 71), .op (.nilck (.tmp 70)), none⟩,
  ⟨(some 72), .op (.faddr 0 (.tmp 71)), none⟩,
  ⟨(some 73), .op (.load .one 1 (.tmp 72)), none⟩,
  ⟨(some 74), .op (.mv (.tmp 0)), none⟩,
  ⟨(some 75), .op (.nilck (.tmp 74)), none⟩,
  ⟨(some 76), .op (.faddr 0 (.tmp 75)), none⟩,
  ⟨(some 77), .op (.load .one 1 (.tmp 76)), none⟩,
  ⟨(some 78), .op (.mv (.tmp 0)), none⟩,
  ⟨(some 79), .op (.nilck (.tmp 78)), none⟩,
  ⟨(some 80), .op (.faddr 0 (.tmp 79)), none⟩,
  ⟨(some 81), .op (.load .one 1 (.tmp 80)), none⟩,
  ⟨(some 82), .op (.nilck (.tmp 81)), none⟩,
  ⟨(some 83), .op (.faddr 1 (.tmp 82)), none⟩,
  ⟨(some 84), .op (.iaddrA false 32 1 (.tmp 83) (.const (.int .i64 10))), none⟩,
  ⟨(some 85), .op (.load (.int .u64) 1 (.tmp 84)), none⟩,
  ⟨(some 86), .op (.conv .u8 (.tmp 85)), none⟩,
  ⟨(some 87), .op (.nilck (.tmp 73)), none⟩,
  ⟨(some 88), .op (.faddr 34 (.tmp 87)), none⟩,
  ⟨none, .op (.store 1 (.tmp 88) (.const (.int .i64 1))), none⟩,
  ⟨(some 89), .op (.nilck (.tmp 77)), none⟩,
  ⟨(some 90), .op (.faddr 35 (.tmp 89)), none⟩,
  ⟨none, .op (.store 1 (.tmp 90) (.tmp 86)), none⟩]
def x78_13 : List XOper := [⟨(some 92), .op (.bin .eql (.tmp 10) (.const (.int .u64 4))), none⟩,
  ⟨(some 91), .op (.mv (.tmp 92)), none⟩]
def x78_14 : List XOper := [⟨(some 93), .op (.mv (.tmp 0)), none⟩,
  ⟨(some 94), .op (.nilck (.tmp 93)), none⟩,
  ⟨(some 95), .op (.faddr 0 (.tmp 94)), none⟩,
  ⟨(some 96), .op (.load .one 1 (.tmp 95)), none⟩,
  ⟨(some 97), .op (.nilck (.tmp 96)), none⟩,
  ⟨(some 98), .op (.faddr 34 (.tmp 97)), none⟩,
  ⟨none, .op (.store 1 (.tmp 98) (.const (.int .i64 2))), none⟩]
def x78_15 : List XOper := [⟨(some 100), .op (.bin .eql (.tmp 10) (.const (.int .u64 5))), none⟩,
  ⟨(some 99), .op (.mv (.tmp 100)), none⟩]
def x78_16 : List XOper := [⟨(some 101), .op (.mv (.tmp 0)), none⟩,
  ⟨(some 102), .op (.nilck (.tmp 101)), none⟩,
  ⟨(some 103), .op (.faddr 0 (.tmp 102)), none⟩,
  ⟨(some 104), .op (.load .one 1 (.tmp 103)), none⟩,
  ⟨(some 105), .op (.nilck (.tmp 104)), none⟩,
  ⟨(some 106), .op (.faddr 34 (.tmp 105)), none⟩,
  ⟨none, .op (.store 1 (.tmp 106) (.const (.int .i64 3))), none⟩]
def x78_17 : List XOper := [⟨(some 2), .op (.mv (.const (.bool false))), none⟩]
def x78_18 : XCode := .seq (.region x78_17) .ret
def x78_19 : XCode := .cnd (.tmp 99) (.region x78_16) x78_18
def x78_20 : XCode := .seq (.region x78_15) x78_19
def x78_21 : XCode := .cnd (.tmp 91) (.region x78_14) x78_20
def x78_22 : XCode := .seq (.region x78_13) x78_21
def x78_23 : XCode := .cnd (.tmp 68) (.draw x78_12 [[], [0], [0, 1], [0, 1, 2], [], [4], [4, 5], [4, 5, 6], [], [8], [8, 9], [8, 9, 10], [8, 9, 10, 11], [8, 9, 10, 11, 12], [8, 9, 10, 11, 12, 13], [8, 9, 10, 11, 12, 13, 14], [8, 9, 10, 11, 12, 13, 14, 15], [0, 1, 2, 3, 4, 5, 6, 7, 8, 9, 10, 11, 12, 13, 14, 15], [0, 1, 2, 3, 4, 5, 6, 7, 8, 9, 10, 11, 12, 13, 14, 15, 17], [0, 1, 2, 3, 4, 5, 6, 7, 8, 9, 10, 11, 12, 13, 14, 15, 17, 18], [0, 1, 2, 3, 4, 5, 6, 7, 8, 9, 10, 11, 12, 13, 14, 15, 16, 17, 18, 19], [0, 1, 2, 3, 4, 5, 6, 7, 8, 9, 10, 11, 12, 13, 14, 15, 16, 17, 18, 19, 20], [0, 1, 2, 3, 4, 5, 6, 7, 8, 9, 10, 11, 12, 13, 14, 15, 16, 17, 18, 19, 20, 21]]) x78_22
def x78_24 : XCode := .seq (.region x78_11) x78_23
def x78_25 : XCode := .cnd (.tmp 31) x78_10 x78_24
def x78_26 : XCode := .seq (.region x78_4) x78_25
def x78_27 : XCode := .cnd (.tmp 11) (.draw x78_3 [[], [], [1], [1, 2], [1, 2, 3], [], [5], [5, 6], [5, 6, 7], [5, 6, 7, 8], [5, 6, 7, 8, 9], [5, 6, 7, 8, 9, 10], [5, 6, 7, 8, 9, 10, 11], [5, 6, 7, 8, 9, 10, 11, 12], [5, 6, 7, 8, 9, 10, 11, 12, 13], [1, 2, 3, 4, 5, 6, 7, 8, 9, 10, 11, 12, 13, 14], [0, 1, 2, 3, 4, 5, 6, 7, 8, 9, 10, 11, 12, 13, 14, 15], [0, 1, 2, 3, 4, 5, 6, 7, 8, 9, 10, 11, 12, 13, 14, 15, 16], [0, 1, 2, 3, 4, 5, 6, 7, 8, 9, 10, 11, 12, 13, 14, 15, 16, 17]]) x78_26
def x78_28 : XCode := .seq (.region x78_2) x78_27
def x78_29 : XCode := .block 0 x78_28
def x78_30 : XCode := .seq (.region x78_1) x78_29
def x78_31 : List XOper := [⟨(some 2), .op (.mv (.const (.bool true))), none⟩]
def x78_32 : XCode := .seq (.region x78_31) .ret
def x78_33 : XCode := .seq x78_30 x78_32
def x78_34 : XCode := .seq (.region x78_0) x78_33
def x78 : XCode := x78_34
theorem fx78 : fnx Try.prog 78 = some (107, [(2, none)], x78) := by kernel_rfl
def x83_0 : List XOper := [⟨(some 6), .op (.mv (.const (.slice none 0 0))), none⟩,
  ⟨(some 7), .op (.mv (.const (.bool false))), none⟩]
def x83_1 : List XOper := [⟨(some 8), .op (.mv (.tmp 1)), none⟩,
  ⟨(some 9), .op (.mv (.tmp 2)), none⟩,
  ⟨(some 10), .op (.conv .u64 (.tmp 9)), none⟩,
  ⟨(some 11), .op (.bin .rem (.tmp 8) (.tmp 10)), none⟩,
  ⟨(some 12), .op (.bin .neq (.tmp 11) (.const (.int .u64 0))), none⟩,
  ⟨(some 13), .op (.mv (.tmp 12)), none⟩,
  ⟨(some 14), .op (.mv (.tmp 1)), (some (13, false))⟩,
  ⟨(some 15), .op (.mv (.tmp 0)), (some (13, false))⟩,
  ⟨(some 16), .op (.nilck (.tmp 15)), (some (13, false))⟩,
  ⟨(some 17), .op (.faddr 0 (.tmp 16)), (some (13, false))⟩,
  ⟨(some 18), .op (.load .one 1 (.tmp 17)), (some (13, false))⟩,
  ⟨(some 19), .op (.lenS (.tmp 18)), (some (13, false))⟩,
  ⟨(some 20), .op (.conv .u64 (.tmp 19)), (some (13, false))⟩,
  ⟨(some 21), .op (.bin .gtr (.tmp 14) (.tmp 20)), (some (13, false))⟩,
  ⟨(some 22), .pick (.tmp 13) (.const (.bool true)) (.tmp 21), none⟩,
  ⟨(some 23), .op (.mv (.tmp 22)), none⟩,
  ⟨(some 24), .op (.mv (.tmp 0)), (some (23, false))⟩,
  ⟨(some 25), .op (.nilck (.tmp 24)), (some (23, false))⟩,
  ⟨(some 26), .op (.faddr 0 (.tmp 25)), (some (23, false))⟩,
  ⟨(some 27), .op (.load .one 1 (.tmp 26)), (some (23, false))⟩,
  ⟨(some 28), .op (.lenS (.tmp 27)), (some (23, false))⟩,
  ⟨(some 29), .op (.conv .u64 (.tmp 28)), (some (23, false))⟩,
  ⟨(some 30), .op (.mv (.tmp 1)), (some (23, false))⟩,
  ⟨(some 31), .op (.bin .sub (.tmp 29) (.tmp 30)), (some (23, false))⟩,
  ⟨(some 32), .op (.mv (.tmp 2)), (some (23, false))⟩,
  ⟨(some 33), .op (.conv .u64 (.tmp 32)), (some (23, false))⟩,
  ⟨(some 34), .op (.bin .lss (.tmp 31) (.tmp 33)), (some (23, false))⟩,
  ⟨(some 35), .pick (.tmp 23) (.const (.bool true)) (.tmp 34), none⟩]
def x83_2 : List XOper := [⟨(some 6), .op (.mv (.const (.slice none 0 0))), none⟩,
  ⟨(some 7), .op (.mv (.const (.bool false))), none⟩]
def x83_3 : XCode := .seq (.region x83_2) .ret
def x83_4 : XCode := .cnd (.tmp 35) x83_3 .skip
def x83_5 : XCode := .seq (.region x83_1) x83_4
def x83_6 : List XOper := [⟨(some 36), .op (.mv (.tmp 0)), none⟩,
  ⟨(some 37), .op (.nilck (.tmp 36)), none⟩,
  ⟨(some 38), .op (.faddr 0 (.tmp 37)), none⟩,
  ⟨(some 39), .op (.load .one 1 (.tmp 38)), none⟩,
  ⟨(some 40), .op (.mv (.tmp 1)), none⟩,
  ⟨(some 41), .op (.mv (.tmp 1)), none⟩,
  ⟨(some 42), .op (.mv (.tmp 2)), none⟩,
  ⟨(some 43), .op (.conv .u64 (.tmp 42)), none⟩,
  ⟨(some 44), .op (.bin .add (.tmp 41) (.tmp 43)), none⟩,
  ⟨(some 45), .op (.slS 1 (.tmp 39) (some (.tmp 40)) (some (.tmp 44))), none⟩,
  ⟨(some 6), .op (.mv (.tmp 45)), none⟩,
  ⟨(some 7), .op (.mv (.const (.bool true))), none⟩]
def x83_7 : XCode := .seq (.region x83_6) .ret
def x83_8 : XCode := .seq x83_5 x83_7
def x83_9 : XCode := .seq (.region x83_0) x83_8
def x83 : XCode := x83_9
theorem fx83 : fnx Try.prog 83 = some (46, [(6, none), (7, none)], x83) := by kernel_rfl
def x84_0 : List XOper := [⟨(some 2), .op (.mv (.const (.int .u64 0))), none⟩]
def x84_1 : List XOper := [⟨(some 3), .op (.mv (.const (.int .u64 0))), none⟩]
def x84_2 : List XOper := [⟨(some 6), .op (.mv (.tmp 0)), none⟩,
  ⟨(some 7), .op (.lenS (.tmp 6)), none⟩,
  ⟨(some 8), .op (.mv (.const (.int .i64 0))), none⟩]
def x84_3 : List XOper := [⟨(some 9), .op (.bin .lss (.tmp 8) (.tmp 7)), none⟩]
def x84_4 : XCode := .cnd (.tmp 9) .skip (.exit 0)
def x84_5 : List XOper := [⟨(some 10), .op (.mv (.tmp 8)), none⟩,
  ⟨(some 11), .op (.iaddrS 1 (.tmp 6) (.tmp 8)), none⟩,
  ⟨(some 12), .op (.load (.int .u8) 1 (.tmp 11)), none⟩,
  ⟨(some 4), .op (.mv (.tmp 10)), none⟩,
  ⟨(some 5), .op (.mv (.tmp 12)), none⟩]
def x84_6 : List XOper := [⟨(some 13), .op (.mv (.tmp 3)), none⟩,
  ⟨(some 14), .op (.mv (.tmp 5)), none⟩,
  ⟨(some 15), .op (.conv .u64 (.tmp 14)), none⟩,
  ⟨(some 16), .op (.mv (.tmp 4)), none⟩,
  ⟨(some 17), .op (.bin .mul (.const (.int .i64 8)) (.tmp 16)), none⟩,
  ⟨(some 18), .op (.bin .shl (.tmp 15) (.tmp 17)), none⟩,
  ⟨(some 19), .op (.bin .or (.tmp 13) (.tmp 18)), none⟩,
  ⟨(some 3), .op (.mv (.tmp 19)), none⟩]
def x84_7 : XCode := .seq (.region x84_5) (.region x84_6)
def x84_8 : XCode := .block 1 x84_7
def x84_9 : List XOper := [⟨(some 20), .op (.bin .add (.tmp 8) (.const (.int .i64 1))), none⟩,
  ⟨(some 8), .op (.mv (.tmp 20)), none⟩]
def x84_10 : XCode := .seq x84_8 (.region x84_9)
def x84_11 : XCode := .seq x84_4 x84_10
def x84_12 : XCode := .seq (.region x84_3) x84_11
def x84_13 : XCode := .loop x84_12
def x84_14 : XCode := .block 0 x84_13
def x84_15 : XCode := .seq (.region x84_2) x84_14
def x84_16 : List XOper := [⟨(some 21), .op (.mv (.tmp 3)), none⟩,
  ⟨(some 2), .op (.mv (.tmp 21)), none⟩]
def x84_17 : XCode := .seq (.region x84_16) .ret
def x84_18 : XCode := .seq x84_15 x84_17
def x84_19 : XCode := .seq (.region x84_1) x84_18
def x84_20 : XCode := .seq (.region x84_0) x84_19
def x84 : XCode := x84_20
theorem fx84 : fnx Try.prog 84 = some (22, [(2, none)], x84) := by kernel_rfl
def x85_0 : List XOper := [⟨(some 6), .op (.mv (.const (.int .u64 0))), none⟩,
  ⟨(some 7), .op (.mv (.const (.bool false))), none⟩]
def x85_1 : List XOper := [⟨(some 12), .op (.mv (.tmp 1)), none⟩,
  ⟨(some 13), .op (.conv .i64 (.tmp 12)), none⟩,
  ⟨(some 14), .op (.mv (.tmp 2)), none⟩,
  ⟨(some 15), .op (.conv .i64 (.tmp 14)), none⟩,
  ⟨(some 8), .op (.mv (.tmp 13)), none⟩,
  ⟨(some 9), .op (.mv (.tmp 15)), none⟩]
def x85_2 : List XOper := [⟨(some 17), .op (.mv (.tmp 1)), none⟩,
  ⟨(some 18), .op (.mv (.tmp 2)), none⟩,
  ⟨(some 19), .callF 98 [(.tmp 17), (.tmp 18)], none⟩,
  ⟨(some 16), .op (.mv (.tmp 19)), none⟩,
  ⟨(some 20), .op (.ext (.tmp 16) 0), none⟩,
  ⟨(some 21), .op (.ext (.tmp 16) 1), none⟩,
  ⟨(some 10), .op (.mv (.tmp 20)), none⟩,
  ⟨(some 11), .op (.mv (.tmp 21)), none⟩]
def x85_3 : List XOper := [⟨(some 22), .op (.mv (.tmp 0)), none⟩]
def x85_4 : List XOper := [⟨(some 24), .op (.bin .eql (.tmp 22) (.const (.int .i64 1))), none⟩,
  ⟨(some 23), .op (.mv (.tmp 24)), none⟩]
def x85_5 : List XOper := [⟨(some 25), .op (.mv (.tmp 1)), none⟩,
  ⟨(some 26), .op (.mv (.tmp 2)), none⟩,
  ⟨(some 27), .op (.bin .add (.tmp 25) (.tmp 26)), none⟩,
  ⟨(some 6), .op (.mv (.tmp 27)), none⟩,
  ⟨(some 7), .op (.mv (.const (.bool true))), none⟩]
def x85_6 : XCode := .seq (.region x85_5) .ret
def x85_7 : List XOper := [⟨(some 29), .op (.bin .eql (.tmp 22) (.const (.int .i64 2))), none⟩,
  ⟨(some 28), .op (.mv (.tmp 29)), none⟩]
def x85_8 : List XOper := [⟨(some 30), .op (.mv (.tmp 1)), none⟩,
  ⟨(some 31), .op (.mv (.tmp 2)), none⟩,
  ⟨(some 32), .op (.bin .sub (.tmp 30) (.tmp 31)), none⟩,
  ⟨(some 6), .op (.mv (.tmp 32)), none⟩,
  ⟨(some 7), .op (.mv (.const (.bool true))), none⟩]
def x85_9 : XCode := .seq (.region x85_8) .ret
def x85_10 : List XOper := [⟨(some 34), .op (.bin .eql (.tmp 22) (.const (.int .i64 3))), none⟩,
  ⟨(some 33), .op (.mv (.tmp 34)), none⟩]
def x85_11 : List XOper := [⟨(some 35), .op (.mv (.tmp 1)), none⟩,
  ⟨(some 36), .op (.mv (.tmp 2)), none⟩,
  ⟨(some 37), .op (.bin .and (.tmp 36) (.const (.int .u64 63))), none⟩,
  ⟨(some 38), .op (.bin .shl (.tmp 35) (.tmp 37)), none⟩,
  ⟨(some 6), .op (.mv (.tmp 38)), none⟩,
  ⟨(some 7), .op (.mv (.const (.bool true))), none⟩]
def x85_12 : XCode := .seq (.region x85_11) .ret
def x85_13 : List XOper := [⟨(some 40), .op (.bin .eql (.tmp 22) (.const (.int .i64 4))), none⟩,
  ⟨(some 39), .op (.mv (.tmp 40)), none⟩]
def x85_14 : List XOper := [⟨(some 41), .op (.mv (.tmp 8)), none⟩,
  ⟨(some 42), .op (.mv (.tmp 9)), none⟩,
  ⟨(some 43), .op (.bin .lss (.tmp 41) (.tmp 42)), none⟩,
  ⟨(some 44), .callF 99 [(.tmp 43)], none⟩,
  ⟨(some 6), .op (.mv (.tmp 44)), none⟩,
  ⟨(some 7), .op (.mv (.const (.bool true))), none⟩]
def x85_15 : XCode := .seq (.region x85_14) .ret
def x85_16 : List XOper := [⟨(some 46), .op (.bin .eql (.tmp 22) (.const (.int .i64 5))), none⟩,
  ⟨(some 45), .op (.mv (.tmp 46)), none⟩]
def x85_17 : List XOper := [⟨(some 47), .op (.mv (.tmp 1)), none⟩,
  ⟨(some 48), .op (.mv (.tmp 2)), none⟩,
  ⟨(some 49), .op (.bin .lss (.tmp 47) (.tmp 48)), none⟩,
  ⟨(some 50), .callF 99 [(.tmp 49)], none⟩,
  ⟨(some 6), .op (.mv (.tmp 50)), none⟩,
  ⟨(some 7), .op (.mv (.const (.bool true))), none⟩]
def x85_18 : XCode := .seq (.region x85_17) .ret
def x85_19 : List XOper := [⟨(some 52), .op (.bin .eql (.tmp 22) (.const (.int .i64 6))), none⟩,
  ⟨(some 51), .op (.mv (.tmp 52)), none⟩]
def x85_20 : List XOper := [⟨(some 53), .op (.mv (.tmp 1)), none⟩,
  ⟨(some 54), .op (.mv (.tmp 2)), none⟩,
  ⟨(some 55), .op (.bin .xor (.tmp 53) (.tmp 54)), none⟩,
  ⟨(some 6), .op (.mv (.tmp 55)), none⟩,
  ⟨(some 7), .op (.mv (.const (.bool true))), none⟩]
def x85_21 : XCode := .seq (.region x85_20) .ret
def x85_22 : List XOper := [⟨(some 57), .op (.bin .eql (.tmp 22) (.const (.int .i64 7))), none⟩,
  ⟨(some 56), .op (.mv (.tmp 57)), none⟩]
def x85_23 : List XOper := [⟨(some 58), .op (.mv (.tmp 1)), none⟩,
  ⟨(some 59), .op (.mv (.tmp 2)), none⟩,
  ⟨(some 60), .op (.bin .and (.tmp 59) (.const (.int .u64 63))), none⟩,
  ⟨(some 61), .op (.bin .shr (.tmp 58) (.tmp 60)), none⟩,
  ⟨(some 6), .op (.mv (.tmp 61)), none⟩,
  ⟨(some 7), .op (.mv (.const (.bool true))), none⟩]
def x85_24 : XCode := .seq (.region x85_23) .ret
def x85_25 : List XOper := [⟨(some 63), .op (.bin .eql (.tmp 22) (.const (.int .i64 8))), none⟩,
  ⟨(some 62), .op (.mv (.tmp 63)), none⟩]
def x85_26 : List XOper := [⟨(some 64), .op (.mv (.tmp 8)), none⟩,
  ⟨(some 65), .op (.mv (.tmp 2)), none⟩,
  ⟨(some 66), .op (.bin .and (.tmp 65) (.const (.int .u64 63))), none⟩,
  ⟨(some 67), .op (.bin .shr (.tmp 64) (.tmp 66)), none⟩,
  ⟨(some 68), .op (.conv .u64 (.tmp 67)), none⟩,
  ⟨(some 6), .op (.mv (.tmp 68)), none⟩,
  ⟨(some 7), .op (.mv (.const (.bool true))), none⟩]
def x85_27 : XCode := .seq (.region x85_26) .ret
def x85_28 : List XOper := [⟨(some 70), .op (.bin .eql (.tmp 22) (.const (.int .i64 9))), none⟩,
  ⟨(some 69), .op (.mv (.tmp 70)), none⟩]
def x85_29 : List XOper := [⟨(some 71), .op (.mv (.tmp 1)), none⟩,
  ⟨(some 72), .op (.mv (.tmp 2)), none⟩,
  ⟨(some 73), .op (.bin .or (.tmp 71) (.tmp 72)), none⟩,
  ⟨(some 6), .op (.mv (.tmp 73)), none⟩,
  ⟨(some 7), .op (.mv (.const (.bool true))), none⟩]
def x85_30 : XCode := .seq (.region x85_29) .ret
def x85_31 : List XOper := [⟨(some 75), .op (.bin .eql (.tmp 22) (.const (.int .i64 10))), none⟩,
  ⟨(some 74), .op (.mv (.tmp 75)), none⟩]
def x85_32 : List XOper := [⟨(some 76), .op (.mv (.tmp 1)), none⟩,
  ⟨(some 77), .op (.mv (.tmp 2)), none⟩,
  ⟨(some 78), .op (.bin .and (.tmp 76) (.tmp 77)), none⟩,
  ⟨(some 6), .op (.mv (.tmp 78)), none⟩,
  ⟨(some 7), .op (.mv (.const (.bool true))), none⟩]
def x85_33 : XCode := .seq (.region x85_32) .ret
def x85_34 : List XOper := [⟨(some 80), .op (.bin .eql (.tmp 22) (.const (.int .i64 11))), none⟩,
  ⟨(some 79), .op (.mv (.tmp 80)), none⟩]
def x85_35 : List XOper := [⟨(some 81), .op (.mv (.tmp 11)), none⟩,
  ⟨(some 6), .op (.mv (.tmp 81)), none⟩,
  ⟨(some 7), .op (.mv (.const (.bool true))), none⟩]
def x85_36 : XCode := .seq (.region x85_35) .ret
def x85_37 : List XOper := [⟨(some 83), .op (.bin .eql (.tmp 22) (.const (.int .i64 13))), none⟩,
  ⟨(some 82), .op (.mv (.tmp 83)), none⟩]
def x85_38 : List XOper := [⟨(some 84), .op (.mv (.tmp 10)), none⟩,
  ⟨(some 6), .op (.mv (.tmp 84)), none⟩,
  ⟨(some 7), .op (.mv (.const (.bool true))), none⟩]
def x85_39 : XCode := .seq (.region x85_38) .ret
def x85_40 : List XOper := [⟨(some 86), .op (.bin .eql (.tmp 22) (.const (.int .i64 12))), none⟩,
  ⟨(some 85), .op (.mv (.tmp 86)), none⟩]
def x85_41 : List XOper := [⟨(some 87), .op (.mv (.tmp 10)), none⟩,
  ⟨(some 88), .op (.mv (.tmp 2)), none⟩,
  ⟨(some 89), .op (.mv (.tmp 8)), none⟩,
  ⟨(some 90), .op (.bin .lss (.tmp 89) (.const (.int .i64 0))), none⟩,
  ⟨(some 91), .callF 99 [(.tmp 90)], none⟩,
  ⟨(some 92), .op (.bin .mul (.tmp 88) (.tmp 91)), none⟩,
  ⟨(some 93), .op (.bin .sub (.tmp 87) (.tmp 92)), none⟩,
  ⟨(some 94), .op (.mv (.tmp 1)), none⟩,
  ⟨(some 95), .op (.mv (.tmp 9)), none⟩,
  ⟨(some 96), .op (.bin .lss (.tmp 95) (.const (.int .i64 0))), none⟩,
  ⟨(some 97), .callF 99 [(.tmp 96)], none⟩,
  ⟨(some 98), .op (.bin .mul (.tmp 94) (.tmp 97)), none⟩,
  ⟨(some 99), .op (.bin .sub (.tmp 93) (.tmp 98)), none⟩,
  ⟨(some 6), .op (.mv (.tmp 99)), none⟩,
  ⟨(some 7), .op (.mv (.const (.bool true))), none⟩]
def x85_42 : XCode := .seq (.region x85_41) .ret
def x85_43 : XCode := .cnd (.tmp 85) x85_42 .skip
def x85_44 : XCode := .seq (.region x85_40) x85_43
def x85_45 : XCode := .cnd (.tmp 82) x85_39 x85_44
def x85_46 : XCode := .seq (.region x85_37) x85_45
def x85_47 : XCode := .cnd (.tmp 79) x85_36 x85_46
def x85_48 : XCode := .seq (.region x85_34) x85_47
def x85_49 : XCode := .cnd (.tmp 74) x85_33 x85_48
def x85_50 : XCode := .seq (.region x85_31) x85_49
def x85_51 : XCode := .cnd (.tmp 69) x85_30 x85_50
def x85_52 : XCode := .seq (.region x85_28) x85_51
def x85_53 : XCode := .cnd (.tmp 62) x85_27 x85_52
def x85_54 : XCode := .seq (.region x85_25) x85_53
def x85_55 : XCode := .cnd (.tmp 56) x85_24 x85_54
def x85_56 : XCode := .seq (.region x85_22) x85_55
def x85_57 : XCode := .cnd (.tmp 51) x85_21 x85_56
def x85_58 : XCode := .seq (.region x85_19) x85_57
def x85_59 : XCode := .cnd (.tmp 45) x85_18 x85_58
def x85_60 : XCode := .seq (.region x85_16) x85_59
def x85_61 : XCode := .cnd (.tmp 39) x85_15 x85_60
def x85_62 : XCode := .seq (.region x85_13) x85_61
def x85_63 : XCode := .cnd (.tmp 33) x85_12 x85_62
def x85_64 : XCode := .seq (.region x85_10) x85_63
def x85_65 : XCode := .cnd (.tmp 28) x85_9 x85_64
def x85_66 : XCode := .seq (.region x85_7) x85_65
def x85_67 : XCode := .cnd (.tmp 23) x85_6 x85_66
def x85_68 : XCode := .seq (.region x85_4) x85_67
def x85_69 : XCode := .block 0 x85_68
def x85_70 : XCode := .seq (.region x85_3) x85_69
def x85_71 : List XOper := [⟨(some 6), .op (.mv (.const (.int .u64 0))), none⟩,
  ⟨(some 7), .op (.mv (.const (.bool false))), none⟩]
def x85_72 : XCode := .seq (.region x85_71) .ret
def x85_73 : XCode := .seq x85_70 x85_72
def x85_74 : XCode := .seq (.region x85_2) x85_73
def x85_75 : XCode := .seq (.region x85_1) x85_74
def x85_76 : XCode := .seq (.region x85_0) x85_75
def x85 : XCode := x85_76
theorem fx85 : fnx Try.prog 85 = some (100, [(6, none), (7, none)], x85) := by kernel_rfl
def x86_0 : List XOper := [⟨(some 6), .op (.mv (.const (.int .u64 0))), none⟩,
  ⟨(some 7), .op (.mv (.const (.bool false))), none⟩]
def x86_1 : List XOper := [⟨(some 10), .op (.mv (.tmp 1)), none⟩,
  ⟨(some 11), .op (.conv .i64 (.tmp 10)), none⟩,
  ⟨(some 12), .op (.mv (.tmp 2)), none⟩,
  ⟨(some 13), .op (.conv .i64 (.tmp 12)), none⟩,
  ⟨(some 8), .op (.mv (.tmp 11)), none⟩,
  ⟨(some 9), .op (.mv (.tmp 13)), none⟩]
def x86_2 : List XOper := [⟨(some 14), .op (.mv (.tmp 0)), none⟩]
def x86_3 : List XOper := [⟨(some 16), .op (.bin .eql (.tmp 14) (.const (.int .i64 14))), none⟩,
  ⟨(some 15), .op (.mv (.tmp 16)), none⟩]
def x86_4 : List XOper := [⟨(some 17), .op (.bin .eql (.tmp 14) (.const (.int .i64 15))), none⟩,
  ⟨(some 15), .op (.mv (.tmp 17)), none⟩]
def x86_5 : XCode := .cnd (.tmp 15) .skip (.region x86_4)
def x86_6 : XCode := .seq (.region x86_3) x86_5
def x86_7 : List XOper := [⟨(some 18), .op (.mv (.tmp 2)), none⟩,
  ⟨(some 19), .op (.bin .eql (.tmp 18) (.const (.int .u64 0))), none⟩]
def x86_8 : List XOper := [⟨(some 6), .op (.mv (.const (.int .u64 18446744073709551615))), none⟩,
  ⟨(some 7), .op (.mv (.const (.bool true))), none⟩]
def x86_9 : XCode := .seq (.region x86_8) .ret
def x86_10 : XCode := .cnd (.tmp 19) x86_9 .skip
def x86_11 : XCode := .seq (.region x86_7) x86_10
def x86_12 : List XOper := [⟨(some 20), .op (.mv (.tmp 0)), none⟩,
  ⟨(some 21), .op (.bin .eql (.tmp 20) (.const (.int .i64 15))), none⟩]
def x86_13 : List XOper := [⟨(some 22), .op (.mv (.tmp 1)), none⟩,
  ⟨(some 23), .op (.mv (.tmp 2)), none⟩,
  ⟨(some 24), .op (.bin .quo (.tmp 22) (.tmp 23)), none⟩,
  ⟨(some 6), .op (.mv (.tmp 24)), none⟩,
  ⟨(some 7), .op (.mv (.const (.bool true))), none⟩]
def x86_14 : XCode := .seq (.region x86_13) .ret
def x86_15 : XCode := .cnd (.tmp 21) x86_14 .skip
def x86_16 : XCode := .seq (.region x86_12) x86_15
def x86_17 : List XOper := [⟨(some 25), .op (.mv (.tmp 8)), none⟩,
  ⟨(some 26), .op (.mv (.tmp 9)), none⟩,
  ⟨(some 27), .op (.bin .quo (.tmp 25) (.tmp 26)), none⟩,
  ⟨(some 28), .op (.conv .u64 (.tmp 27)), none⟩,
  ⟨(some 6), .op (.mv (.tmp 28)), none⟩,
  ⟨(some 7), .op (.mv (.const (.bool true))), none⟩]
def x86_18 : XCode := .seq (.region x86_17) .ret
def x86_19 : XCode := .seq x86_16 x86_18
def x86_20 : XCode := .seq x86_11 x86_19
def x86_21 : List XOper := [⟨(some 30), .op (.bin .eql (.tmp 14) (.const (.int .i64 16))), none⟩,
  ⟨(some 29), .op (.mv (.tmp 30)), none⟩]
def x86_22 : List XOper := [⟨(some 31), .op (.bin .eql (.tmp 14) (.const (.int .i64 17))), none⟩,
  ⟨(some 29), .op (.mv (.tmp 31)), none⟩]
def x86_23 : XCode := .cnd (.tmp 29) .skip (.region x86_22)
def x86_24 : XCode := .seq (.region x86_21) x86_23
def x86_25 : List XOper := [⟨(some 32), .op (.mv (.tmp 2)), none⟩,
  ⟨(some 33), .op (.bin .eql (.tmp 32) (.const (.int .u64 0))), none⟩]
def x86_26 : List XOper := [⟨(some 34), .op (.mv (.tmp 1)), none⟩,
  ⟨(some 6), .op (.mv (.tmp 34)), none⟩,
  ⟨(some 7), .op (.mv (.const (.bool true))), none⟩]
def x86_27 : XCode := .seq (.region x86_26) .ret
def x86_28 : XCode := .cnd (.tmp 33) x86_27 .skip
def x86_29 : XCode := .seq (.region x86_25) x86_28
def x86_30 : List XOper := [⟨(some 35), .op (.mv (.tmp 0)), none⟩,
  ⟨(some 36), .op (.bin .eql (.tmp 35) (.const (.int .i64 17))), none⟩]
def x86_31 : List XOper := [⟨(some 37), .op (.mv (.tmp 1)), none⟩,
  ⟨(some 38), .op (.mv (.tmp 2)), none⟩,
  ⟨(some 39), .op (.bin .rem (.tmp 37) (.tmp 38)), none⟩,
  ⟨(some 6), .op (.mv (.tmp 39)), none⟩,
  ⟨(some 7), .op (.mv (.const (.bool true))), none⟩]
def x86_32 : XCode := .seq (.region x86_31) .ret
def x86_33 : XCode := .cnd (.tmp 36) x86_32 .skip
def x86_34 : XCode := .seq (.region x86_30) x86_33
def x86_35 : List XOper := [⟨(some 40), .op (.mv (.tmp 8)), none⟩,
  ⟨(some 41), .op (.mv (.tmp 9)), none⟩,
  ⟨(some 42), .op (.bin .rem (.tmp 40) (.tmp 41)), none⟩,
  ⟨(some 43), .op (.conv .u64 (.tmp 42)), none⟩,
  ⟨(some 6), .op (.mv (.tmp 43)), none⟩,
  ⟨(some 7), .op (.mv (.const (.bool true))), none⟩]
def x86_36 : XCode := .seq (.region x86_35) .ret
def x86_37 : XCode := .seq x86_34 x86_36
def x86_38 : XCode := .seq x86_29 x86_37
def x86_39 : XCode := .cnd (.tmp 29) x86_38 .skip
def x86_40 : XCode := .seq x86_24 x86_39
def x86_41 : XCode := .cnd (.tmp 15) x86_20 x86_40
def x86_42 : XCode := .seq x86_6 x86_41
def x86_43 : XCode := .block 0 x86_42
def x86_44 : XCode := .seq (.region x86_2) x86_43
def x86_45 : List XOper := [⟨(some 6), .op (.mv (.const (.int .u64 0))), none⟩,
  ⟨(some 7), .op (.mv (.const (.bool false))), none⟩]
def x86_46 : XCode := .seq (.region x86_45) .ret
def x86_47 : XCode := .seq x86_44 x86_46
def x86_48 : XCode := .seq (.region x86_1) x86_47
def x86_49 : XCode := .seq (.region x86_0) x86_48
def x86 : XCode := x86_49
theorem fx86 : fnx Try.prog 86 = some (44, [(6, none), (7, none)], x86) := by kernel_rfl
def x87_0 : List XOper := [⟨(some 2), .op (.mv (.const (.int .i64 0))), none⟩,
  ⟨(some 3), .op (.mv (.const (.bool false))), none⟩,
  ⟨(some 4), .op (.mv (.const (.bool false))), none⟩]
def x87_1 : List XOper := [⟨(some 5), .op (.mv (.tmp 0)), none⟩]
def x87_2 : List XOper := [⟨(some 7), .op (.bin .eql (.tmp 5) (.const (.int .i64 18))), none⟩,
  ⟨(some 6), .op (.mv (.tmp 7)), none⟩]
def x87_3 : List XOper := [⟨(some 2), .op (.mv (.const (.int .i64 1))), none⟩,
  ⟨(some 3), .op (.mv (.const (.bool true))), none⟩,
  ⟨(some 4), .op (.mv (.const (.bool true))), none⟩]
def x87_4 : XCode := .seq (.region x87_3) .ret
def x87_5 : List XOper := [⟨(some 9), .op (.bin .eql (.tmp 5) (.const (.int .i64 19))), none⟩,
  ⟨(some 8), .op (.mv (.tmp 9)), none⟩]
def x87_6 : List XOper := [⟨(some 2), .op (.mv (.const (.int .i64 2))), none⟩,
  ⟨(some 3), .op (.mv (.const (.bool true))), none⟩,
  ⟨(some 4), .op (.mv (.const (.bool true))), none⟩]
def x87_7 : XCode := .seq (.region x87_6) .ret
def x87_8 : List XOper := [⟨(some 11), .op (.bin .eql (.tmp 5) (.const (.int .i64 20))), none⟩,
  ⟨(some 10), .op (.mv (.tmp 11)), none⟩]
def x87_9 : List XOper := [⟨(some 2), .op (.mv (.const (.int .i64 3))), none⟩,
  ⟨(some 3), .op (.mv (.const (.bool true))), none⟩,
  ⟨(some 4), .op (.mv (.const (.bool true))), none⟩]
def x87_10 : XCode := .seq (.region x87_9) .ret
def x87_11 : List XOper := [⟨(some 13), .op (.bin .eql (.tmp 5) (.const (.int .i64 21))), none⟩,
  ⟨(some 12), .op (.mv (.tmp 13)), none⟩]
def x87_12 : List XOper := [⟨(some 2), .op (.mv (.const (.int .i64 7))), none⟩,
  ⟨(some 3), .op (.mv (.const (.bool false))), none⟩,
  ⟨(some 4), .op (.mv (.const (.bool true))), none⟩]
def x87_13 : XCode := .seq (.region x87_12) .ret
def x87_14 : List XOper := [⟨(some 15), .op (.bin .eql (.tmp 5) (.const (.int .i64 22))), none⟩,
  ⟨(some 14), .op (.mv (.tmp 15)), none⟩]
def x87_15 : List XOper := [⟨(some 2), .op (.mv (.const (.int .i64 8))), none⟩,
  ⟨(some 3), .op (.mv (.const (.bool true))), none⟩,
  ⟨(some 4), .op (.mv (.const (.bool true))), none⟩]
def x87_16 : XCode := .seq (.region x87_15) .ret
def x87_17 : List XOper := [⟨(some 17), .op (.bin .eql (.tmp 5) (.const (.int .i64 23))), none⟩,
  ⟨(some 16), .op (.mv (.tmp 17)), none⟩]
def x87_18 : List XOper := [⟨(some 2), .op (.mv (.const (.int .i64 11))), none⟩,
  ⟨(some 3), .op (.mv (.const (.bool true))), none⟩,
  ⟨(some 4), .op (.mv (.const (.bool true))), none⟩]
def x87_19 : XCode := .seq (.region x87_18) .ret
def x87_20 : List XOper := [⟨(some 19), .op (.bin .eql (.tmp 5) (.const (.int .i64 24))), none⟩,
  ⟨(some 18), .op (.mv (.tmp 19)), none⟩]
def x87_21 : List XOper := [⟨(some 2), .op (.mv (.const (.int .i64 14))), none⟩,
  ⟨(some 3), .op (.mv (.const (.bool true))), none⟩,
  ⟨(some 4), .op (.mv (.const (.bool true))), none⟩]
def x87_22 : XCode := .seq (.region x87_21) .ret
def x87_23 : List XOper := [⟨(some 21), .op (.bin .eql (.tmp 5) (.const (.int .i64 25))), none⟩,
  ⟨(some 20), .op (.mv (.tmp 21)), none⟩]
def x87_24 : List XOper := [⟨(some 2), .op (.mv (.const (.int .i64 15))), none⟩,
  ⟨(some 3), .op (.mv (.const (.bool false))), none⟩,
  ⟨(some 4), .op (.mv (.const (.bool true))), none⟩]
def x87_25 : XCode := .seq (.region x87_24) .ret
def x87_26 : List XOper := [⟨(some 23), .op (.bin .eql (.tmp 5) (.const (.int .i64 26))), none⟩,
  ⟨(some 22), .op (.mv (.tmp 23)), none⟩]
def x87_27 : List XOper := [⟨(some 2), .op (.mv (.const (.int .i64 16))), none⟩,
  ⟨(some 3), .op (.mv (.const (.bool true))), none⟩,
  ⟨(some 4), .op (.mv (.const (.bool true))), none⟩]
def x87_28 : XCode := .seq (.region x87_27) .ret
def x87_29 : List XOper := [⟨(some 25), .op (.bin .eql (.tmp 5) (.const (.int .i64 27))), none⟩,
  ⟨(some 24), .op (.mv (.tmp 25)), none⟩]
def x87_30 : List XOper := [⟨(some 2), .op (.mv (.const (.int .i64 17))), none⟩,
  ⟨(some 3), .op (.mv (.const (.bool false))), none⟩,
  ⟨(some 4), .op (.mv (.const (.bool true))), none⟩]
def x87_31 : XCode := .seq (.region x87_30) .ret
def x87_32 : XCode := .cnd (.tmp 24) x87_31 .skip
def x87_33 : XCode := .seq (.region x87_29) x87_32
def x87_34 : XCode := .cnd (.tmp 22) x87_28 x87_33
def x87_35 : XCode := .seq (.region x87_26) x87_34
def x87_36 : XCode := .cnd (.tmp 20) x87_25 x87_35
def x87_37 : XCode := .seq (.region x87_23) x87_36
def x87_38 : XCode := .cnd (.tmp 18) x87_22 x87_37
def x87_39 : XCode := .seq (.region x87_20) x87_38
def x87_40 : XCode := .cnd (.tmp 16) x87_19 x87_39
def x87_41 : XCode := .seq (.region x87_17) x87_40
def x87_42 : XCode := .cnd (.tmp 14) x87_16 x87_41
def x87_43 : XCode := .seq (.region x87_14) x87_42
def x87_44 : XCode := .cnd (.tmp 12) x87_13 x87_43
def x87_45 : XCode := .seq (.region x87_11) x87_44
def x87_46 : XCode := .cnd (.tmp 10) x87_10 x87_45
def x87_47 : XCode := .seq (.region x87_8) x87_46
def x87_48 : XCode := .cnd (.tmp 8) x87_7 x87_47
def x87_49 : XCode := .seq (.region x87_5) x87_48
def x87_50 : XCode := .cnd (.tmp 6) x87_4 x87_49
def x87_51 : XCode := .seq (.region x87_2) x87_50
def x87_52 : XCode := .block 0 x87_51
def x87_53 : XCode := .seq (.region x87_1) x87_52
def x87_54 : List XOper := [⟨(some 2), .op (.mv (.const (.int .i64 0))), none⟩,
  ⟨(some 3), .op (.mv (.const (.bool false))), none⟩,
  ⟨(some 4), .op (.mv (.const (.bool false))), none⟩]
def x87_55 : XCode := .seq (.region x87_54) .ret
def x87_56 : XCode := .seq x87_53 x87_55
def x87_57 : XCode := .seq (.region x87_0) x87_56
def x87 : XCode := x87_57
theorem fx87 : fnx Try.prog 87 = some (26, [(2, none), (3, none), (4, none)], x87) := by kernel_rfl
def x88_0 : List XOper := [⟨(some 2), .op (.mv (.const (.int .i64 0))), none⟩]
def x88_1 : List XOper := [⟨(some 3), .op (.mv (.tmp 0)), none⟩]
def x88_2 : List XOper := [⟨(some 5), .op (.bin .eql (.tmp 3) (.const (.int .i64 40))), none⟩,
  ⟨(some 4), .op (.mv (.tmp 5)), none⟩]
def x88_3 : List XOper := [⟨(some 6), .op (.bin .eql (.tmp 3) (.const (.int .i64 43))), none⟩,
  ⟨(some 4), .op (.mv (.tmp 6)), none⟩]
def x88_4 : XCode := .cnd (.tmp 4) .skip (.region x88_3)
def x88_5 : XCode := .seq (.region x88_2) x88_4
def x88_6 : List XOper := [⟨(some 2), .op (.mv (.const (.int .i64 4))), none⟩]
def x88_7 : XCode := .seq (.region x88_6) .ret
def x88_8 : List XOper := [⟨(some 8), .op (.bin .eql (.tmp 3) (.const (.int .i64 41))), none⟩,
  ⟨(some 7), .op (.mv (.tmp 8)), none⟩]
def x88_9 : List XOper := [⟨(some 9), .op (.bin .eql (.tmp 3) (.const (.int .i64 44))), none⟩,
  ⟨(some 7), .op (.mv (.tmp 9)), none⟩]
def x88_10 : XCode := .cnd (.tmp 7) .skip (.region x88_9)
def x88_11 : XCode := .seq (.region x88_8) x88_10
def x88_12 : List XOper := [⟨(some 2), .op (.mv (.const (.int .i64 8))), none⟩]
def x88_13 : XCode := .seq (.region x88_12) .ret
def x88_14 : XCode := .cnd (.tmp 7) x88_13 .skip
def x88_15 : XCode := .seq x88_11 x88_14
def x88_16 : XCode := .cnd (.tmp 4) x88_7 x88_15
def x88_17 : XCode := .seq x88_5 x88_16
def x88_18 : XCode := .block 0 x88_17
def x88_19 : XCode := .seq (.region x88_1) x88_18
def x88_20 : List XOper := [⟨(some 2), .op (.mv (.const (.int .i64 1))), none⟩]
def x88_21 : XCode := .seq (.region x88_20) .ret
def x88_22 : XCode := .seq x88_19 x88_21
def x88_23 : XCode := .seq (.region x88_0) x88_22
def x88 : XCode := x88_23
theorem fx88 : fnx Try.prog 88 = some (10, [(2, none)], x88) := by kernel_rfl
def x98_0 : List XOper := [⟨(some 4), .op (.mv (.const (.int .u64 0))), none⟩,
  ⟨(some 5), .op (.mv (.const (.int .u64 0))), none⟩]
def x98_1 : List XOper := [⟨(some 14), .op (.mv (.tmp 0)), none⟩,
  ⟨(some 15), .op (.bin .and (.tmp 14) (.const (.int .u64 4294967295))), none⟩,
  ⟨(some 6), .op (.mv (.tmp 15)), none⟩]
def x98_2 : List XOper := [⟨(some 16), .op (.mv (.tmp 0)), none⟩,
  ⟨(some 17), .op (.bin .shr (.tmp 16) (.const (.int .u64 32))), none⟩,
  ⟨(some 7), .op (.mv (.tmp 17)), none⟩]
def x98_3 : List XOper := [⟨(some 18), .op (.mv (.tmp 1)), none⟩,
  ⟨(some 19), .op (.bin .and (.tmp 18) (.const (.int .u64 4294967295))), none⟩,
  ⟨(some 8), .op (.mv (.tmp 19)), none⟩]
def x98_4 : List XOper := [⟨(some 20), .op (.mv (.tmp 1)), none⟩,
  ⟨(some 21), .op (.bin .shr (.tmp 20) (.const (.int .u64 32))), none⟩,
  ⟨(some 9), .op (.mv (.tmp 21)), none⟩]
def x98_5 : List XOper := [⟨(some 22), .op (.mv (.tmp 6)), none⟩,
  ⟨(some 23), .op (.mv (.tmp 8)), none⟩,
  ⟨(some 24), .op (.bin .mul (.tmp 22) (.tmp 23)), none⟩,
  ⟨(some 10), .op (.mv (.tmp 24)), none⟩]
def x98_6 : List XOper := [⟨(some 25), .op (.mv (.tmp 7)), none⟩,
  ⟨(some 26), .op (.mv (.tmp 8)), none⟩,
  ⟨(some 27), .op (.bin .mul (.tmp 25) (.tmp 26)), none⟩,
  ⟨(some 28), .op (.mv (.tmp 10)), none⟩,
  ⟨(some 29), .op (.bin .shr (.tmp 28) (.const (.int .u64 32))), none⟩,
  ⟨(some 30), .op (.bin .add (.tmp 27) (.tmp 29)), none⟩,
  ⟨(some 11), .op (.mv (.tmp 30)), none⟩]
def x98_7 : List XOper := [⟨(some 31), .op (.mv (.tmp 11)), none⟩,
  ⟨(some 32), .op (.bin .and (.tmp 31) (.const (.int .u64 4294967295))), none⟩,
  ⟨(some 12), .op (.mv (.tmp 32)), none⟩]
def x98_8 : List XOper := [⟨(some 33), .op (.mv (.tmp 11)), none⟩,
  ⟨(some 34), .op (.bin .shr (.tmp 33) (.const (.int .u64 32))), none⟩,
  ⟨(some 13), .op (.mv (.tmp 34)), none⟩]
def x98_9 : List XOper := [⟨(some 35), .op (.mv (.tmp 12)), none⟩,
  ⟨(some 36), .op (.mv (.tmp 6)), none⟩,
  ⟨(some 37), .op (.mv (.tmp 9)), none⟩,
  ⟨(some 38), .op (.bin .mul (.tmp 36) (.tmp 37)), none⟩,
  ⟨(some 39), .op (.bin .add (.tmp 35) (.tmp 38)), none⟩,
  ⟨(some 12), .op (.mv (.tmp 39)), none⟩]
def x98_10 : List XOper := [⟨(some 40), .op (.mv (.tmp 7)), none⟩,
  ⟨(some 41), .op (.mv (.tmp 9)), none⟩,
  ⟨(some 42), .op (.bin .mul (.tmp 40) (.tmp 41)), none⟩,
  ⟨(some 43), .op (.mv (.tmp 13)), none⟩,
  ⟨(some 44), .op (.bin .add (.tmp 42) (.tmp 43)), none⟩,
  ⟨(some 45), .op (.mv (.tmp 12)), none⟩,
  ⟨(some 46), .op (.bin .shr (.tmp 45) (.const (.int .u64 32))), none⟩,
  ⟨(some 47), .op (.bin .add (.tmp 44) (.tmp 46)), none⟩,
  ⟨(some 4), .op (.mv (.tmp 47)), none⟩]
def x98_11 : List XOper := [⟨(some 48), .op (.mv (.tmp 0)), none⟩,
  ⟨(some 49), .op (.mv (.tmp 1)), none⟩,
  ⟨(some 50), .op (.bin .mul (.tmp 48) (.tmp 49)), none⟩,
  ⟨(some 5), .op (.mv (.tmp 50)), none⟩]
def x98_12 : XCode := .seq (.region x98_11) .ret
def x98_13 : XCode := .seq (.region x98_10) x98_12
def x98_14 : XCode := .seq (.region x98_9) x98_13
def x98_15 : XCode := .seq (.region x98_8) x98_14
def x98_16 : XCode := .seq (.region x98_7) x98_15
def x98_17 : XCode := .seq (.region x98_6) x98_16
def x98_18 : XCode := .seq (.region x98_5) x98_17
def x98_19 : XCode := .seq (.region x98_4) x98_18
def x98_20 : XCode := .seq (.region x98_3) x98_19
def x98_21 : XCode := .seq (.region x98_2) x98_20
def x98_22 : XCode := .seq (.region x98_1) x98_21
def x98_23 : XCode := .seq (.region x98_0) x98_22
def x98 : XCode := x98_23
theorem fx98 : fnx Try.prog 98 = some (51, [(4, none), (5, none)], x98) := by kernel_rfl
def x99_0 : List XOper := [⟨(some 2), .op (.mv (.const (.int .u64 0))), none⟩]
def x99_1 : List XOper := [⟨(some 3), .op (.mv (.tmp 0)), none⟩]
def x99_2 : List XOper := [⟨(some 2), .op (.mv (.const (.int .u64 1))), none⟩]
def x99_3 : XCode := .seq (.region x99_2) .ret
def x99_4 : XCode := .cnd (.tmp 3) x99_3 .skip
def x99_5 : XCode := .seq (.region x99_1) x99_4
def x99_6 : List XOper := [⟨(some 2), .op (.mv (.const (.int .u64 0))), none⟩]
def x99_7 : XCode := .seq (.region x99_6) .ret
def x99_8 : XCode := .seq x99_5 x99_7
def x99_9 : XCode := .seq (.region x99_0) x99_8
def x99 : XCode := x99_9
theorem fx99 : fnx Try.prog 99 = some (4, [(2, none)], x99) := by kernel_rfl
end Go.X
