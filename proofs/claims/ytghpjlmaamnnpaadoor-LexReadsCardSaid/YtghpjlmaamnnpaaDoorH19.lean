import Derived.Test.YtghpjlmaamnnpaaDoorH16
import Derived.Test.YtghpjlmaamnnpaaDoorProg
import Derived.KernelRfl
set_option linter.all false
namespace Go.X
open Go Go.Proofs
def x3_0:List XOper:=[⟨(some 2),.op (.mv (.const (.bool false))),none⟩]
def x3_1:List XOper:=[⟨(some 13),.callF 10 [],none⟩,
 ⟨(some 14),.op (.un .not (.tmp 13)),none⟩]
def x3_2:List XOper:=[⟨(some 2),.op (.mv (.const (.bool false))),none⟩]
def x3_3:XCode:=.seq (.region x3_2) .ret
def x3_4:XCode:=.cnd (.tmp 14) x3_3 .skip
def x3_5:XCode:=.seq (.region x3_1) x3_4
def x3_6:List XOper:=[⟨(some 15),.op (.mv (.tmp 0)),none⟩,
 ⟨(some 16),.op (.mv (.tmp 0)),none⟩,
 ⟨(some 17),.op (.lenStr (.tmp 16)),none⟩,
 ⟨(some 18),.op (.minmax false [(.tmp 17),(.const (.int .i64 8193))]),none⟩,
 ⟨(some 19),.op (.slStr (.tmp 15) none (some (.tmp 18))),none⟩,
 ⟨(some 0),.op (.mv (.tmp 19)),none⟩]
def x3_7:List XOper:=[⟨(some 21),.op (.mv (.tmp 0)),none⟩,
 ⟨(some 22),.callF 11 [(.tmp 21)],none⟩,
 ⟨(some 20),.op (.mv (.tmp 22)),none⟩,
 ⟨(some 23),.op (.ext (.tmp 20) 0),none⟩,
 ⟨(some 24),.op (.ext (.tmp 20) 1),none⟩,
 ⟨(some 25),.op (.ext (.tmp 20) 2),none⟩,
 ⟨(some 3),.op (.mv (.tmp 23)),none⟩,
 ⟨(some 4),.op (.mv (.tmp 24)),none⟩,
 ⟨(some 5),.op (.mv (.tmp 25)),none⟩]
def x3_8:List XOper:=[⟨(some 27),.op (.mv (.tmp 0)),none⟩,
 ⟨(some 28),.callF 12 [(.tmp 27)],none⟩,
 ⟨(some 26),.op (.mv (.tmp 28)),none⟩,
 ⟨(some 29),.op (.ext (.tmp 26) 0),none⟩,
 ⟨(some 30),.op (.ext (.tmp 26) 1),none⟩,
 ⟨(some 31),.op (.ext (.tmp 26) 2),none⟩,
 ⟨(some 6),.op (.mv (.tmp 29)),none⟩,
 ⟨(some 7),.op (.mv (.tmp 30)),none⟩,
 ⟨(some 8),.op (.mv (.tmp 31)),none⟩]
def x3_9:List XOper:=[⟨(some 32),.op (.mv (.tmp 5)),none⟩,
 ⟨(some 33),.op (.mv (.tmp 8)),none⟩,
 ⟨(some 34),.op (.bin .neq (.tmp 32) (.tmp 33)),none⟩,
 ⟨(some 35),.op (.mv (.tmp 34)),none⟩,
 ⟨(some 36),.op (.mv (.tmp 4)),(some (35,false))⟩,
 ⟨(some 37),.op (.mv (.tmp 7)),(some (35,false))⟩,
 ⟨(some 38),.op (.bin .neq (.tmp 36) (.tmp 37)),(some (35,false))⟩,
 ⟨(some 39),.pick (.tmp 35) (.const (.bool true)) (.tmp 38),none⟩,
 ⟨(some 40),.op (.mv (.tmp 39)),none⟩,
 ⟨(some 41),.op (.mv (.tmp 3)),(some (40,false))⟩,
 ⟨(some 42),.op (.mv (.tmp 6)),(some (40,false))⟩,
 ⟨(some 43),.callF 13 [(.tmp 41),(.tmp 42)],(some (40,false))⟩,
 ⟨(some 44),.op (.un .not (.tmp 43)),(some (40,false))⟩,
 ⟨(some 45),.pick (.tmp 40) (.const (.bool true)) (.tmp 44),none⟩]
def x3_10:List XOper:=[⟨(some 2),.op (.mv (.const (.bool false))),none⟩]
def x3_11:XCode:=.seq (.region x3_10) .ret
def x3_12:XCode:=.cnd (.tmp 45) x3_11 .skip
def x3_13:XCode:=.seq (.region x3_9) x3_12
def x3_14:List XOper:=[⟨(some 46),.op (.mv (.tmp 3)),none⟩,
 ⟨(some 47),.op (.lenS (.tmp 46)),none⟩,
 ⟨(some 48),.op (.mv (.const (.int .i64 0))),none⟩]
def x3_15:List XOper:=[⟨(some 49),.op (.bin .lss (.tmp 48) (.tmp 47)),none⟩]
def x3_16:XCode:=.cnd (.tmp 49) .skip (.exit 0)
def x3_17:List XOper:=[⟨(some 50),.op (.mv (.tmp 48)),none⟩,
 ⟨(some 9),.op (.mv (.tmp 50)),none⟩]
def x3_18:List XOper:=[⟨(some 51),.op (.mv (.tmp 3)),none⟩,
 ⟨(some 52),.op (.mv (.tmp 9)),none⟩,
 ⟨(some 53),.op (.iaddrS 3 (.tmp 51) (.tmp 52)),none⟩,
 ⟨(some 54),.op (.faddr 0 (.tmp 53)),none⟩,
 ⟨none,.op (.store 1 (.tmp 54) (.const (.int .i64 (-1)))),none⟩]
def x3_19:XCode:=.seq (.region x3_17) (.region x3_18)
def x3_20:XCode:=.block 1 x3_19
def x3_21:List XOper:=[⟨(some 55),.op (.bin .add (.tmp 48) (.const (.int .i64 1))),none⟩,
 ⟨(some 48),.op (.mv (.tmp 55)),none⟩]
def x3_22:XCode:=.seq x3_20 (.region x3_21)
def x3_23:XCode:=.seq x3_16 x3_22
def x3_24:XCode:=.seq (.region x3_15) x3_23
def x3_25:XCode:=.loop x3_24
def x3_26:XCode:=.block 0 x3_25
def x3_27:XCode:=.seq (.region x3_14) x3_26
def x3_28:List XOper:=[⟨(some 57),.op (.mv (.tmp 0)),none⟩,
 ⟨(some 58),.callF 11 [(.tmp 57)],none⟩,
 ⟨(some 56),.op (.mv (.tmp 58)),none⟩,
 ⟨(some 59),.op (.ext (.tmp 56) 0),none⟩,
 ⟨(some 60),.op (.ext (.tmp 56) 1),none⟩,
 ⟨(some 61),.op (.ext (.tmp 56) 2),none⟩,
 ⟨(some 10),.op (.mv (.tmp 59)),none⟩,
 ⟨(some 11),.op (.mv (.tmp 60)),none⟩,
 ⟨(some 12),.op (.mv (.tmp 61)),none⟩]
def x3_29:List XOper:=[⟨(some 62),.op (.mv (.tmp 10)),none⟩,
 ⟨(some 63),.op (.mv (.tmp 6)),none⟩,
 ⟨(some 64),.callF 13 [(.tmp 62),(.tmp 63)],none⟩,
 ⟨(some 2),.op (.mv (.tmp 64)),none⟩]
def x3_30:XCode:=.seq (.region x3_29) .ret
def x3_31:XCode:=.seq (.region x3_28) x3_30
def x3_32:XCode:=.seq x3_27 x3_31
def x3_33:XCode:=.seq x3_13 x3_32
def x3_34:XCode:=.seq (.region x3_8) x3_33
def x3_35:XCode:=.seq (.region x3_7) x3_34
def x3_36:XCode:=.seq (.region x3_6) x3_35
def x3_37:XCode:=.seq x3_5 x3_36
def x3_38:XCode:=.seq (.region x3_0) x3_37
def x3:XCode:=x3_38
theorem fx3:fnx Tryd.prog 3=some (65,[(2,none)],x3):=by kernel_rfl
def x10_0:List XOper:=[⟨(some 0),.op (.mv (.const (.bool false))),none⟩]
def x10_1:List XOper:=[⟨(some 10),.callF 11 [(.const (.string ⟨#[112,45,62,120,32,61,32,48,120,49,102,59]⟩))],none⟩,
 ⟨(some 9),.op (.mv (.tmp 10)),none⟩,
 ⟨(some 11),.op (.ext (.tmp 9) 0),none⟩,
 ⟨(some 12),.op (.ext (.tmp 9) 1),none⟩,
 ⟨(some 13),.op (.ext (.tmp 9) 2),none⟩,
 ⟨(some 1),.op (.mv (.tmp 11)),none⟩,
 ⟨(some 2),.op (.mv (.tmp 12)),none⟩,
 ⟨(some 3),.op (.mv (.tmp 13)),none⟩]
def x10_2:List XOper:=[⟨(some 15),.callF 14 [(.const (.string ⟨#[39,65,39]⟩))],none⟩,
 ⟨(some 14),.op (.mv (.tmp 15)),none⟩,
 ⟨(some 16),.op (.ext (.tmp 14) 0),none⟩,
 ⟨(some 17),.op (.ext (.tmp 14) 1),none⟩,
 ⟨(some 4),.op (.mv (.tmp 16)),none⟩,
 ⟨(some 5),.op (.mv (.tmp 17)),none⟩]
def x10_3:List XOper:=[⟨(some 19),.callF 11 [(.const (.string ⟨#[32,49,50,97]⟩))],none⟩,
 ⟨(some 18),.op (.mv (.tmp 19)),none⟩,
 ⟨(some 20),.op (.ext (.tmp 18) 0),none⟩,
 ⟨(some 21),.op (.ext (.tmp 18) 1),none⟩,
 ⟨(some 22),.op (.ext (.tmp 18) 2),none⟩,
 ⟨(some 6),.op (.mv (.tmp 20)),none⟩,
 ⟨(some 7),.op (.mv (.tmp 21)),none⟩,
 ⟨(some 8),.op (.mv (.tmp 22)),none⟩]
def x10_4:List XOper:=[⟨(some 23),.op (.mv (.tmp 3)),none⟩,
 ⟨(some 24),.op (.bin .eql (.tmp 23) (.const (.int .i64 0))),none⟩,
 ⟨(some 25),.op (.mv (.tmp 24)),none⟩,
 ⟨(some 26),.op (.mv (.tmp 1)),(some (25,true))⟩,
 ⟨(some 27),.op (.lenS (.tmp 26)),(some (25,true))⟩,
 ⟨(some 28),.op (.bin .eql (.tmp 27) (.const (.int .i64 7))),(some (25,true))⟩,
 ⟨(some 29),.pick (.tmp 25) (.tmp 28) (.const (.bool false)),none⟩,
 ⟨(some 30),.op (.mv (.tmp 29)),none⟩,
 ⟨(some 31),.op (.mv (.tmp 1)),(some (30,true))⟩,
 ⟨(some 32),.op (.iaddrS 3 (.tmp 31) (.const (.int .i64 1))),(some (30,true))⟩,
 ⟨(some 33),.op (.load .agg 3 (.tmp 32)),(some (30,true))⟩,
 ⟨(some 34),.op (.build [(.int .i64 0),(.string ⟨#[]⟩),(.int .i64 0)] [(0,1,(.const (.int .i64 3))),(1,1,(.const (.string ⟨#[45,62]⟩))),(2,1,(.const (.int .i64 1)))]),(some (30,true))⟩,
 ⟨(some 35),.op (.eqagg false [0,1,0] (.tmp 33) (.tmp 34)),(some (30,true))⟩,
 ⟨(some 36),.pick (.tmp 30) (.tmp 35) (.const (.bool false)),none⟩,
 ⟨(some 37),.op (.mv (.tmp 36)),none⟩,
 ⟨(some 38),.op (.mv (.tmp 5)),(some (37,true))⟩,
 ⟨(some 39),.op (.bin .eql (.tmp 38) (.const (.int .i64 0))),(some (37,true))⟩,
 ⟨(some 40),.pick (.tmp 37) (.tmp 39) (.const (.bool false)),none⟩,
 ⟨(some 41),.op (.mv (.tmp 40)),none⟩,
 ⟨(some 42),.op (.mv (.tmp 4)),(some (41,true))⟩,
 ⟨(some 43),.op (.bin .eql (.tmp 42) (.const (.int .u64 65))),(some (41,true))⟩,
 ⟨(some 44),.pick (.tmp 41) (.tmp 43) (.const (.bool false)),none⟩,
 ⟨(some 45),.op (.mv (.tmp 44)),none⟩,
 ⟨(some 46),.op (.mv (.tmp 8)),(some (45,true))⟩,
 ⟨(some 47),.op (.bin .eql (.tmp 46) (.const (.int .i64 10))),(some (45,true))⟩,
 ⟨(some 48),.pick (.tmp 45) (.tmp 47) (.const (.bool false)),none⟩,
 ⟨(some 49),.op (.mv (.tmp 48)),none⟩,
 ⟨(some 50),.op (.mv (.tmp 7)),(some (49,true))⟩,
 ⟨(some 51),.op (.bin .eql (.tmp 50) (.const (.int .i64 1))),(some (49,true))⟩,
 ⟨(some 52),.pick (.tmp 49) (.tmp 51) (.const (.bool false)),none⟩,
 ⟨(some 0),.op (.mv (.tmp 52)),none⟩]
def x10_5:XCode:=.seq (.region x10_4) .ret
def x10_6:XCode:=.seq (.region x10_3) x10_5
def x10_7:XCode:=.seq (.region x10_2) x10_6
def x10_8:XCode:=.seq (.region x10_1) x10_7
def x10_9:XCode:=.seq (.region x10_0) x10_8
def x10:XCode:=x10_9
theorem fx10:fnx Tryd.prog 10=some (53,[(0,none)],x10):=by kernel_rfl
def x11_0:List XOper:=[⟨(some 2),.op (.mv (.const (.slice none 0 0))),none⟩,
 ⟨(some 3),.op (.mv (.const (.int .i64 0))),none⟩,
 ⟨(some 4),.op (.mv (.const (.int .i64 0))),none⟩]
def x11_1:List XOper:=[⟨(some 10),.op (.mv (.tmp 0)),none⟩,
 ⟨(some 11),.op (.lenStr (.tmp 10)),none⟩,
 ⟨(some 12),.op (.bin .gtr (.tmp 11) (.const (.int .i64 8192))),none⟩]
def x11_2:List XOper:=[⟨(some 2),.op (.mv (.const (.slice none 0 0))),none⟩,
 ⟨(some 3),.op (.mv (.const (.int .i64 8192))),none⟩,
 ⟨(some 4),.op (.mv (.const (.int .i64 3))),none⟩]
def x11_3:XCode:=.seq (.region x11_2) .ret
def x11_4:XCode:=.cnd (.tmp 12) x11_3 .skip
def x11_5:XCode:=.seq (.region x11_1) x11_4
def x11_6:List XOper:=[⟨(some 5),.op (.mv (.const (.slice none 0 0))),none⟩]
def x11_7:List XOper:=[⟨(some 14),.op (.mv (.tmp 0)),none⟩,
 ⟨(some 15),.callF 16 [(.tmp 14),(.const (.int .i64 0))],none⟩,
 ⟨(some 13),.op (.mv (.tmp 15)),none⟩,
 ⟨(some 16),.op (.ext (.tmp 13) 0),none⟩,
 ⟨(some 17),.op (.ext (.tmp 13) 1),none⟩,
 ⟨(some 6),.op (.mv (.tmp 16)),none⟩,
 ⟨(some 7),.op (.mv (.tmp 17)),none⟩]
def x11_8:List XOper:=[⟨(some 24),.op (.mv (.tmp 7)),none⟩,
 ⟨(some 25),.op (.un .not (.tmp 24)),none⟩]
def x11_9:List XOper:=[⟨(some 26),.op (.mv (.tmp 6)),none⟩,
 ⟨(some 2),.op (.mv (.const (.slice none 0 0))),none⟩,
 ⟨(some 3),.op (.mv (.tmp 26)),none⟩,
 ⟨(some 4),.op (.mv (.const (.int .i64 10))),none⟩]
def x11_10:XCode:=.seq (.region x11_9) .ret
def x11_11:XCode:=.cnd (.tmp 25) x11_10 .skip
def x11_12:XCode:=.seq (.region x11_8) x11_11
def x11_13:List XOper:=[⟨(some 27),.op (.mv (.tmp 6)),none⟩,
 ⟨(some 28),.op (.mv (.tmp 0)),none⟩,
 ⟨(some 29),.op (.lenStr (.tmp 28)),none⟩,
 ⟨(some 30),.op (.bin .eql (.tmp 27) (.tmp 29)),none⟩]
def x11_14:List XOper:=[⟨(some 31),.op (.mv (.tmp 5)),none⟩,
 ⟨(some 32),.op (.mv (.tmp 6)),none⟩,
 ⟨(some 33),.op (.build [(.int .i64 0),(.string ⟨#[]⟩),(.int .i64 0)] [(2,1,(.tmp 32))]),none⟩,
 ⟨(some 34),.op (.mkslice [(.int .i64 0),(.string ⟨#[]⟩),(.int .i64 0)] 1 [(0,(.tmp 33))]),none⟩,
 ⟨(some 35),.op (.app 3 32 (.tmp 31) (.tmp 34)),none⟩,
 ⟨(some 2),.op (.mv (.tmp 35)),none⟩,
 ⟨(some 3),.op (.mv (.const (.int .i64 0))),none⟩,
 ⟨(some 4),.op (.mv (.const (.int .i64 0))),none⟩]
def x11_15:XCode:=.seq (.region x11_14) .ret
def x11_16:XCode:=.cnd (.tmp 30) x11_15 .skip
def x11_17:XCode:=.seq (.region x11_13) x11_16
def x11_18:List XOper:=[⟨(some 37),.op (.mv (.tmp 0)),none⟩,
 ⟨(some 38),.op (.mv (.tmp 6)),none⟩,
 ⟨(some 39),.op (.slStr (.tmp 37) (some (.tmp 38)) none),none⟩,
 ⟨(some 40),.callF 17 [(.tmp 39)],none⟩,
 ⟨(some 36),.op (.mv (.tmp 40)),none⟩,
 ⟨(some 41),.op (.ext (.tmp 36) 0),none⟩,
 ⟨(some 42),.op (.ext (.tmp 36) 1),none⟩,
 ⟨(some 8),.op (.mv (.tmp 41)),none⟩,
 ⟨(some 9),.op (.mv (.tmp 42)),none⟩]
def x11_19:List XOper:=[⟨(some 43),.op (.mv (.tmp 9)),none⟩,
 ⟨(some 44),.op (.bin .eql (.tmp 43) (.const (.int .i64 0))),none⟩]
def x11_20:List XOper:=[⟨(some 45),.op (.mv (.tmp 6)),none⟩,
 ⟨(some 2),.op (.mv (.const (.slice none 0 0))),none⟩,
 ⟨(some 3),.op (.mv (.tmp 45)),none⟩,
 ⟨(some 4),.op (.mv (.const (.int .i64 10))),none⟩]
def x11_21:XCode:=.seq (.region x11_20) .ret
def x11_22:XCode:=.cnd (.tmp 44) x11_21 .skip
def x11_23:XCode:=.seq (.region x11_19) x11_22
def x11_24:List XOper:=[⟨(some 46),.op (.mv (.tmp 5)),none⟩,
 ⟨(some 47),.op (.lenS (.tmp 46)),none⟩,
 ⟨(some 48),.op (.bin .eql (.tmp 47) (.const (.int .i64 2500))),none⟩]
def x11_25:List XOper:=[⟨(some 49),.op (.mv (.tmp 6)),none⟩,
 ⟨(some 2),.op (.mv (.const (.slice none 0 0))),none⟩,
 ⟨(some 3),.op (.mv (.tmp 49)),none⟩,
 ⟨(some 4),.op (.mv (.const (.int .i64 3))),none⟩]
def x11_26:XCode:=.seq (.region x11_25) .ret
def x11_27:XCode:=.cnd (.tmp 48) x11_26 .skip
def x11_28:XCode:=.seq (.region x11_24) x11_27
def x11_29:List XOper:=[⟨(some 50),.op (.mv (.tmp 5)),none⟩,
 ⟨(some 51),.op (.mv (.tmp 8)),none⟩,
 ⟨(some 52),.op (.mv (.tmp 0)),none⟩,
 ⟨(some 53),.op (.mv (.tmp 6)),none⟩,
 ⟨(some 54),.op (.mv (.tmp 6)),none⟩,
 ⟨(some 55),.op (.mv (.tmp 9)),none⟩,
 ⟨(some 56),.op (.bin .add (.tmp 54) (.tmp 55)),none⟩,
 ⟨(some 57),.op (.slStr (.tmp 52) (some (.tmp 53)) (some (.tmp 56))),none⟩,
 ⟨(some 58),.op (.mv (.tmp 6)),none⟩,
 ⟨(some 59),.op (.build [(.int .i64 0),(.string ⟨#[]⟩),(.int .i64 0)] [(0,1,(.tmp 51)),(1,1,(.tmp 57)),(2,1,(.tmp 58))]),none⟩,
 ⟨(some 60),.op (.mkslice [(.int .i64 0),(.string ⟨#[]⟩),(.int .i64 0)] 1 [(0,(.tmp 59))]),none⟩,
 ⟨(some 61),.op (.app 3 32 (.tmp 50) (.tmp 60)),none⟩,
 ⟨(some 5),.op (.mv (.tmp 61)),none⟩]
def x11_30:List XOper:=[⟨(some 62),.op (.mv (.tmp 6)),none⟩,
 ⟨(some 63),.op (.mv (.tmp 9)),none⟩,
 ⟨(some 64),.op (.bin .add (.tmp 62) (.tmp 63)),none⟩,
 ⟨(some 6),.op (.mv (.tmp 64)),none⟩]
def x11_31:XCode:=.seq (.region x11_29) (.region x11_30)
def x11_32:XCode:=.seq x11_28 x11_31
def x11_33:XCode:=.seq x11_23 x11_32
def x11_34:XCode:=.seq (.region x11_18) x11_33
def x11_35:XCode:=.seq x11_17 x11_34
def x11_36:XCode:=.seq x11_12 x11_35
def x11_37:XCode:=.block 1 x11_36
def x11_38:List XOper:=[⟨(some 19),.op (.mv (.tmp 0)),none⟩,
 ⟨(some 20),.op (.mv (.tmp 6)),none⟩,
 ⟨(some 21),.callF 16 [(.tmp 19),(.tmp 20)],none⟩,
 ⟨(some 18),.op (.mv (.tmp 21)),none⟩,
 ⟨(some 22),.op (.ext (.tmp 18) 0),none⟩,
 ⟨(some 23),.op (.ext (.tmp 18) 1),none⟩,
 ⟨(some 6),.op (.mv (.tmp 22)),none⟩,
 ⟨(some 7),.op (.mv (.tmp 23)),none⟩]
def x11_39:XCode:=.seq x11_37 (.region x11_38)
def x11_40:XCode:=.loop x11_39
def x11_41:XCode:=.block 0 x11_40
def x11_42:XCode:=.seq (.region x11_7) x11_41
def x11_43:XCode:=.seq (.region x11_6) x11_42
def x11_44:XCode:=.seq x11_5 x11_43
def x11_45:XCode:=.seq (.region x11_0) x11_44
def x11:XCode:=x11_45
theorem fx11:fnx Tryd.prog 11=some (65,[(2,none),(3,none),(4,none)],x11):=by kernel_rfl
def x12_0:List XOper:=[⟨(some 2),.op (.mv (.const (.slice none 0 0))),none⟩,
 ⟨(some 3),.op (.mv (.const (.int .i64 0))),none⟩,
 ⟨(some 4),.op (.mv (.const (.int .i64 0))),none⟩]
def x12_1:List XOper:=[⟨(some 10),.op (.mv (.tmp 0)),none⟩,
 ⟨(some 11),.op (.lenStr (.tmp 10)),none⟩,
 ⟨(some 12),.op (.bin .gtr (.tmp 11) (.const (.int .i64 8192))),none⟩]
def x12_2:List XOper:=[⟨(some 2),.op (.mv (.const (.slice none 0 0))),none⟩,
 ⟨(some 3),.op (.mv (.const (.int .i64 8192))),none⟩,
 ⟨(some 4),.op (.mv (.const (.int .i64 3))),none⟩]
def x12_3:XCode:=.seq (.region x12_2) .ret
def x12_4:XCode:=.cnd (.tmp 12) x12_3 .skip
def x12_5:XCode:=.seq (.region x12_1) x12_4
def x12_6:List XOper:=[⟨(some 5),.op (.mv (.const (.slice none 0 0))),none⟩]
def x12_7:List XOper:=[⟨(some 6),.op (.mv (.const (.int .i64 0))),none⟩]
def x12_8:List XOper:=[⟨(some 7),.op (.mv (.const (.bool true))),none⟩]
def x12_9:List XOper:=[⟨(some 14),.op (.mv (.tmp 0)),none⟩,
 ⟨(some 15),.op (.mv (.tmp 6)),none⟩,
 ⟨(some 16),.callF 18 [(.tmp 14),(.tmp 15)],none⟩,
 ⟨(some 13),.op (.mv (.tmp 16)),none⟩,
 ⟨(some 17),.op (.ext (.tmp 13) 0),none⟩,
 ⟨(some 18),.op (.ext (.tmp 13) 1),none⟩,
 ⟨(some 6),.op (.mv (.tmp 17)),none⟩,
 ⟨(some 7),.op (.mv (.tmp 18)),none⟩]
def x12_10:List XOper:=[⟨(some 19),.op (.mv (.tmp 7)),none⟩,
 ⟨(some 20),.op (.un .not (.tmp 19)),none⟩]
def x12_11:List XOper:=[⟨(some 21),.op (.mv (.tmp 6)),none⟩,
 ⟨(some 2),.op (.mv (.const (.slice none 0 0))),none⟩,
 ⟨(some 3),.op (.mv (.tmp 21)),none⟩,
 ⟨(some 4),.op (.mv (.const (.int .i64 10))),none⟩]
def x12_12:XCode:=.seq (.region x12_11) .ret
def x12_13:XCode:=.cnd (.tmp 20) x12_12 .skip
def x12_14:XCode:=.seq (.region x12_10) x12_13
def x12_15:List XOper:=[⟨(some 22),.op (.mv (.tmp 6)),none⟩,
 ⟨(some 23),.op (.mv (.tmp 0)),none⟩,
 ⟨(some 24),.op (.lenStr (.tmp 23)),none⟩,
 ⟨(some 25),.op (.bin .eql (.tmp 22) (.tmp 24)),none⟩]
def x12_16:List XOper:=[⟨(some 26),.op (.mv (.tmp 5)),none⟩,
 ⟨(some 27),.op (.mv (.tmp 6)),none⟩,
 ⟨(some 28),.op (.build [(.int .i64 0),(.string ⟨#[]⟩),(.int .i64 0)] [(2,1,(.tmp 27))]),none⟩,
 ⟨(some 29),.op (.mkslice [(.int .i64 0),(.string ⟨#[]⟩),(.int .i64 0)] 1 [(0,(.tmp 28))]),none⟩,
 ⟨(some 30),.op (.app 3 32 (.tmp 26) (.tmp 29)),none⟩,
 ⟨(some 2),.op (.mv (.tmp 30)),none⟩,
 ⟨(some 3),.op (.mv (.const (.int .i64 0))),none⟩,
 ⟨(some 4),.op (.mv (.const (.int .i64 0))),none⟩]
def x12_17:XCode:=.seq (.region x12_16) .ret
def x12_18:XCode:=.cnd (.tmp 25) x12_17 .skip
def x12_19:XCode:=.seq (.region x12_15) x12_18
def x12_20:List XOper:=[⟨(some 32),.op (.mv (.tmp 0)),none⟩,
 ⟨(some 33),.op (.mv (.tmp 6)),none⟩,
 ⟨(some 34),.callF 19 [(.tmp 32),(.tmp 33)],none⟩,
 ⟨(some 31),.op (.mv (.tmp 34)),none⟩,
 ⟨(some 35),.op (.ext (.tmp 31) 0),none⟩,
 ⟨(some 36),.op (.ext (.tmp 31) 1),none⟩,
 ⟨(some 8),.op (.mv (.tmp 35)),none⟩,
 ⟨(some 9),.op (.mv (.tmp 36)),none⟩]
def x12_21:List XOper:=[⟨(some 37),.op (.mv (.tmp 9)),none⟩,
 ⟨(some 38),.op (.bin .eql (.tmp 37) (.const (.int .i64 0))),none⟩]
def x12_22:List XOper:=[⟨(some 39),.op (.mv (.tmp 6)),none⟩,
 ⟨(some 2),.op (.mv (.const (.slice none 0 0))),none⟩,
 ⟨(some 3),.op (.mv (.tmp 39)),none⟩,
 ⟨(some 4),.op (.mv (.const (.int .i64 10))),none⟩]
def x12_23:XCode:=.seq (.region x12_22) .ret
def x12_24:XCode:=.cnd (.tmp 38) x12_23 .skip
def x12_25:XCode:=.seq (.region x12_21) x12_24
def x12_26:List XOper:=[⟨(some 40),.op (.mv (.tmp 5)),none⟩,
 ⟨(some 41),.op (.lenS (.tmp 40)),none⟩,
 ⟨(some 42),.op (.bin .geq (.tmp 41) (.const (.int .i64 2500))),none⟩]
def x12_27:List XOper:=[⟨(some 43),.op (.mv (.tmp 6)),none⟩,
 ⟨(some 2),.op (.mv (.const (.slice none 0 0))),none⟩,
 ⟨(some 3),.op (.mv (.tmp 43)),none⟩,
 ⟨(some 4),.op (.mv (.const (.int .i64 3))),none⟩]
def x12_28:XCode:=.seq (.region x12_27) .ret
def x12_29:XCode:=.cnd (.tmp 42) x12_28 .skip
def x12_30:XCode:=.seq (.region x12_26) x12_29
def x12_31:List XOper:=[⟨(some 44),.op (.mv (.tmp 5)),none⟩,
 ⟨(some 45),.op (.mv (.tmp 8)),none⟩,
 ⟨(some 46),.op (.mv (.tmp 0)),none⟩,
 ⟨(some 47),.op (.mv (.tmp 6)),none⟩,
 ⟨(some 48),.op (.mv (.tmp 9)),none⟩,
 ⟨(some 49),.op (.slStr (.tmp 46) (some (.tmp 47)) (some (.tmp 48))),none⟩,
 ⟨(some 50),.op (.mv (.tmp 6)),none⟩,
 ⟨(some 51),.op (.build [(.int .i64 0),(.string ⟨#[]⟩),(.int .i64 0)] [(0,1,(.tmp 45)),(1,1,(.tmp 49)),(2,1,(.tmp 50))]),none⟩,
 ⟨(some 52),.op (.mkslice [(.int .i64 0),(.string ⟨#[]⟩),(.int .i64 0)] 1 [(0,(.tmp 51))]),none⟩,
 ⟨(some 53),.op (.app 3 32 (.tmp 44) (.tmp 52)),none⟩,
 ⟨(some 5),.op (.mv (.tmp 53)),none⟩]
def x12_32:List XOper:=[⟨(some 54),.op (.mv (.tmp 9)),none⟩,
 ⟨(some 6),.op (.mv (.tmp 54)),none⟩]
def x12_33:XCode:=.seq (.region x12_31) (.region x12_32)
def x12_34:XCode:=.seq x12_30 x12_33
def x12_35:XCode:=.seq x12_25 x12_34
def x12_36:XCode:=.seq (.region x12_20) x12_35
def x12_37:XCode:=.seq x12_19 x12_36
def x12_38:XCode:=.seq x12_14 x12_37
def x12_39:XCode:=.seq (.region x12_9) x12_38
def x12_40:XCode:=.seq (.region x12_8) x12_39
def x12_41:XCode:=.block 1 x12_40
def x12_42:XCode:=.loop x12_41
def x12_43:XCode:=.block 0 x12_42
def x12_44:XCode:=.seq (.region x12_7) x12_43
def x12_45:XCode:=.seq (.region x12_6) x12_44
def x12_46:XCode:=.seq x12_5 x12_45
def x12_47:XCode:=.seq (.region x12_0) x12_46
def x12:XCode:=x12_47
theorem fx12:fnx Tryd.prog 12=some (55,[(2,none),(3,none),(4,none)],x12):=by kernel_rfl
def x13_0:List XOper:=[⟨(some 4),.op (.mv (.const (.bool false))),none⟩]
def x13_1:List XOper:=[⟨(some 6),.op (.mv (.tmp 0)),none⟩,
 ⟨(some 7),.op (.lenS (.tmp 6)),none⟩,
 ⟨(some 8),.op (.mv (.tmp 1)),none⟩,
 ⟨(some 9),.op (.lenS (.tmp 8)),none⟩,
 ⟨(some 10),.op (.bin .neq (.tmp 7) (.tmp 9)),none⟩]
def x13_2:List XOper:=[⟨(some 4),.op (.mv (.const (.bool false))),none⟩]
def x13_3:XCode:=.seq (.region x13_2) .ret
def x13_4:XCode:=.cnd (.tmp 10) x13_3 .skip
def x13_5:XCode:=.seq (.region x13_1) x13_4
def x13_6:List XOper:=[⟨(some 11),.op (.mv (.tmp 0)),none⟩,
 ⟨(some 12),.op (.lenS (.tmp 11)),none⟩,
 ⟨(some 13),.op (.mv (.const (.int .i64 0))),none⟩]
def x13_7:List XOper:=[⟨(some 14),.op (.bin .lss (.tmp 13) (.tmp 12)),none⟩]
def x13_8:XCode:=.cnd (.tmp 14) .skip (.exit 0)
def x13_9:List XOper:=[⟨(some 15),.op (.mv (.tmp 13)),none⟩,
 ⟨(some 5),.op (.mv (.tmp 15)),none⟩]
def x13_10:List XOper:=[⟨(some 16),.op (.mv (.tmp 0)),none⟩,
 ⟨(some 17),.op (.mv (.tmp 5)),none⟩,
 ⟨(some 18),.op (.iaddrS 3 (.tmp 16) (.tmp 17)),none⟩,
 ⟨(some 19),.op (.load .agg 3 (.tmp 18)),none⟩,
 ⟨(some 20),.op (.mv (.tmp 1)),none⟩,
 ⟨(some 21),.op (.mv (.tmp 5)),none⟩,
 ⟨(some 22),.op (.iaddrS 3 (.tmp 20) (.tmp 21)),none⟩,
 ⟨(some 23),.op (.load .agg 3 (.tmp 22)),none⟩,
 ⟨(some 24),.op (.eqagg true [0,1,0] (.tmp 19) (.tmp 23)),none⟩]
def x13_11:List XOper:=[⟨(some 4),.op (.mv (.const (.bool false))),none⟩]
def x13_12:XCode:=.seq (.region x13_11) .ret
def x13_13:XCode:=.cnd (.tmp 24) x13_12 .skip
def x13_14:XCode:=.seq (.draw x13_10 [[],[],[0,1],[0,1,2],[],[],[4,5],[4,5,6],[0,1,2,3,4,5,6,7]]) x13_13
def x13_15:XCode:=.seq (.region x13_9) x13_14
def x13_16:XCode:=.block 1 x13_15
def x13_17:List XOper:=[⟨(some 25),.op (.bin .add (.tmp 13) (.const (.int .i64 1))),none⟩,
 ⟨(some 13),.op (.mv (.tmp 25)),none⟩]
def x13_18:XCode:=.seq x13_16 (.region x13_17)
def x13_19:XCode:=.seq x13_8 x13_18
def x13_20:XCode:=.seq (.region x13_7) x13_19
def x13_21:XCode:=.loop x13_20
def x13_22:XCode:=.block 0 x13_21
def x13_23:XCode:=.seq (.region x13_6) x13_22
def x13_24:List XOper:=[⟨(some 4),.op (.mv (.const (.bool true))),none⟩]
def x13_25:XCode:=.seq (.region x13_24) .ret
def x13_26:XCode:=.seq x13_23 x13_25
def x13_27:XCode:=.seq x13_5 x13_26
def x13_28:XCode:=.seq (.region x13_0) x13_27
def x13:XCode:=x13_28
theorem fx13:fnx Tryd.prog 13=some (26,[(4,none)],x13):=by kernel_rfl
def x14_0:List XOper:=[⟨(some 2),.op (.mv (.const (.int .u64 0))),none⟩,
 ⟨(some 3),.op (.mv (.const (.int .i64 0))),none⟩]
def x14_1:List XOper:=[⟨(some 10),.op (.mv (.tmp 0)),none⟩,
 ⟨(some 11),.op (.lenStr (.tmp 10)),none⟩,
 ⟨(some 12),.op (.bin .eql (.tmp 11) (.const (.int .i64 3))),none⟩,
 ⟨(some 13),.op (.mv (.tmp 12)),none⟩,
 ⟨(some 14),.op (.mv (.tmp 0)),(some (13,true))⟩,
 ⟨(some 15),.op (.idxStr (.tmp 14) (.const (.int .i64 0))),(some (13,true))⟩,
 ⟨(some 16),.op (.bin .eql (.tmp 15) (.const (.int .u8 39))),(some (13,true))⟩,
 ⟨(some 17),.pick (.tmp 13) (.tmp 16) (.const (.bool false)),none⟩,
 ⟨(some 18),.op (.mv (.tmp 17)),none⟩,
 ⟨(some 19),.op (.mv (.tmp 0)),(some (18,true))⟩,
 ⟨(some 20),.op (.idxStr (.tmp 19) (.const (.int .i64 2))),(some (18,true))⟩,
 ⟨(some 21),.op (.bin .eql (.tmp 20) (.const (.int .u8 39))),(some (18,true))⟩,
 ⟨(some 22),.pick (.tmp 18) (.tmp 21) (.const (.bool false)),none⟩,
 ⟨(some 23),.op (.mv (.tmp 22)),none⟩,
 ⟨(some 24),.op (.mv (.tmp 0)),(some (23,true))⟩,
 ⟨(some 25),.op (.idxStr (.tmp 24) (.const (.int .i64 1))),(some (23,true))⟩,
 ⟨(some 26),.op (.bin .geq (.tmp 25) (.const (.int .u8 32))),(some (23,true))⟩,
 ⟨(some 27),.pick (.tmp 23) (.tmp 26) (.const (.bool false)),none⟩,
 ⟨(some 28),.op (.mv (.tmp 27)),none⟩,
 ⟨(some 29),.op (.mv (.tmp 0)),(some (28,true))⟩,
 ⟨(some 30),.op (.idxStr (.tmp 29) (.const (.int .i64 1))),(some (28,true))⟩,
 ⟨(some 31),.op (.bin .leq (.tmp 30) (.const (.int .u8 126))),(some (28,true))⟩,
 ⟨(some 32),.pick (.tmp 28) (.tmp 31) (.const (.bool false)),none⟩,
 ⟨(some 33),.op (.mv (.tmp 32)),none⟩,
 ⟨(some 34),.op (.mv (.tmp 0)),(some (33,true))⟩,
 ⟨(some 35),.op (.idxStr (.tmp 34) (.const (.int .i64 1))),(some (33,true))⟩,
 ⟨(some 36),.op (.bin .neq (.tmp 35) (.const (.int .u8 39))),(some (33,true))⟩,
 ⟨(some 37),.pick (.tmp 33) (.tmp 36) (.const (.bool false)),none⟩,
 ⟨(some 38),.op (.mv (.tmp 37)),none⟩,
 ⟨(some 39),.op (.mv (.tmp 0)),(some (38,true))⟩,
 ⟨(some 40),.op (.idxStr (.tmp 39) (.const (.int .i64 1))),(some (38,true))⟩,
 ⟨(some 41),.op (.bin .neq (.tmp 40) (.const (.int .u8 92))),(some (38,true))⟩,
 ⟨(some 42),.pick (.tmp 38) (.tmp 41) (.const (.bool false)),none⟩]
def x14_2:List XOper:=[⟨(some 43),.op (.mv (.tmp 0)),none⟩,
 ⟨(some 44),.op (.idxStr (.tmp 43) (.const (.int .i64 1))),none⟩,
 ⟨(some 45),.op (.conv .u64 (.tmp 44)),none⟩,
 ⟨(some 2),.op (.mv (.tmp 45)),none⟩,
 ⟨(some 3),.op (.mv (.const (.int .i64 0))),none⟩]
def x14_3:XCode:=.seq (.region x14_2) .ret
def x14_4:XCode:=.cnd (.tmp 42) x14_3 .skip
def x14_5:XCode:=.seq (.region x14_1) x14_4
def x14_6:List XOper:=[⟨(some 46),.op (.mv (.tmp 0)),none⟩,
 ⟨(some 47),.op (.bin .eql (.tmp 46) (.const (.string ⟨#[]⟩))),none⟩,
 ⟨(some 48),.op (.mv (.tmp 47)),none⟩,
 ⟨(some 49),.op (.mv (.tmp 0)),(some (48,false))⟩,
 ⟨(some 50),.op (.idxStr (.tmp 49) (.const (.int .i64 0))),(some (48,false))⟩,
 ⟨(some 51),.callF 20 [(.tmp 50)],(some (48,false))⟩,
 ⟨(some 52),.op (.un .not (.tmp 51)),(some (48,false))⟩,
 ⟨(some 53),.pick (.tmp 48) (.const (.bool true)) (.tmp 52),none⟩,
 ⟨(some 54),.op (.mv (.tmp 53)),none⟩,
 ⟨(some 55),.op (.mv (.tmp 0)),(some (54,false))⟩,
 ⟨(some 56),.op (.lenStr (.tmp 55)),(some (54,false))⟩,
 ⟨(some 57),.op (.bin .gtr (.tmp 56) (.const (.int .i64 20))),(some (54,false))⟩,
 ⟨(some 58),.pick (.tmp 54) (.const (.bool true)) (.tmp 57),none⟩,
 ⟨(some 59),.op (.mv (.tmp 58)),none⟩,
 ⟨(some 60),.op (.mv (.tmp 0)),(some (59,false))⟩,
 ⟨(some 61),.callF 21 [(.tmp 60),(.const (.string ⟨#[95]⟩))],(some (59,false))⟩,
 ⟨(some 62),.pick (.tmp 59) (.const (.bool true)) (.tmp 61),none⟩,
 ⟨(some 63),.op (.mv (.tmp 62)),none⟩,
 ⟨(some 64),.op (.mv (.tmp 0)),(some (63,false))⟩,
 ⟨(some 65),.callF 22 [(.tmp 64)],(some (63,false))⟩,
 ⟨(some 66),.op (.mv (.tmp 0)),(some (63,false))⟩,
 ⟨(some 67),.op (.bin .neq (.tmp 65) (.tmp 66)),(some (63,false))⟩,
 ⟨(some 68),.pick (.tmp 63) (.const (.bool true)) (.tmp 67),none⟩]
def x14_7:List XOper:=[⟨(some 2),.op (.mv (.const (.int .u64 0))),none⟩,
 ⟨(some 3),.op (.mv (.const (.int .i64 10))),none⟩]
def x14_8:XCode:=.seq (.region x14_7) .ret
def x14_9:XCode:=.cnd (.tmp 68) x14_8 .skip
def x14_10:XCode:=.seq (.region x14_6) x14_9
def x14_11:List XOper:=[⟨(some 69),.op (.mv (.tmp 0)),none⟩,
 ⟨(some 4),.op (.mv (.const (.int .i64 10))),none⟩,
 ⟨(some 5),.op (.mv (.tmp 69)),none⟩]
def x14_12:List XOper:=[⟨(some 71),.op (.mv (.tmp 0)),none⟩,
 ⟨(some 72),.callF 23 [(.tmp 71),(.const (.string ⟨#[48,120]⟩))],none⟩,
 ⟨(some 70),.op (.mv (.tmp 72)),none⟩,
 ⟨(some 73),.op (.ext (.tmp 70) 0),none⟩,
 ⟨(some 74),.op (.ext (.tmp 70) 1),none⟩,
 ⟨(some 6),.op (.mv (.tmp 73)),none⟩,
 ⟨(some 7),.op (.mv (.tmp 74)),none⟩]
def x14_13:List XOper:=[⟨(some 75),.op (.mv (.tmp 7)),none⟩]
def x14_14:List XOper:=[⟨(some 76),.op (.mv (.tmp 6)),none⟩,
 ⟨(some 4),.op (.mv (.const (.int .i64 16))),none⟩,
 ⟨(some 5),.op (.mv (.tmp 76)),none⟩]
def x14_15:XCode:=.cnd (.tmp 75) (.region x14_14) .skip
def x14_16:XCode:=.seq (.region x14_13) x14_15
def x14_17:XCode:=.seq (.region x14_12) x14_16
def x14_18:List XOper:=[⟨(some 78),.op (.mv (.tmp 5)),none⟩,
 ⟨(some 79),.op (.mv (.tmp 4)),none⟩,
 ⟨(some 80),.callF 24 [(.tmp 78),(.tmp 79),(.const (.int .i64 63))],none⟩,
 ⟨(some 77),.op (.mv (.tmp 80)),none⟩,
 ⟨(some 81),.op (.ext (.tmp 77) 0),none⟩,
 ⟨(some 82),.op (.ext (.tmp 77) 1),none⟩,
 ⟨(some 8),.op (.mv (.tmp 81)),none⟩,
 ⟨(some 9),.op (.mv (.tmp 82)),none⟩]
def x14_19:List XOper:=[⟨(some 83),.op (.mv (.tmp 9)),none⟩,
 ⟨(some 84),.op (.eqnil 4 true (.tmp 83) (.const .nilIface)),none⟩]
def x14_20:List XOper:=[⟨(some 2),.op (.mv (.const (.int .u64 0))),none⟩,
 ⟨(some 3),.op (.mv (.const (.int .i64 10))),none⟩]
def x14_21:XCode:=.seq (.region x14_20) .ret
def x14_22:XCode:=.cnd (.tmp 84) x14_21 .skip
def x14_23:XCode:=.seq (.region x14_19) x14_22
def x14_24:List XOper:=[⟨(some 85),.op (.mv (.tmp 8)),none⟩,
 ⟨(some 2),.op (.mv (.tmp 85)),none⟩,
 ⟨(some 3),.op (.mv (.const (.int .i64 0))),none⟩]
def x14_25:XCode:=.seq (.region x14_24) .ret
def x14_26:XCode:=.seq x14_23 x14_25
def x14_27:XCode:=.seq (.region x14_18) x14_26
def x14_28:XCode:=.seq x14_17 x14_27
def x14_29:XCode:=.seq (.region x14_11) x14_28
def x14_30:XCode:=.seq x14_10 x14_29
def x14_31:XCode:=.seq x14_5 x14_30
def x14_32:XCode:=.seq (.region x14_0) x14_31
def x14:XCode:=x14_32
theorem fx14:fnx Tryd.prog 14=some (86,[(2,none),(3,none)],x14):=by kernel_rfl
def x15_0:List XOper:=[⟨(some 2),.op (.mv (.const (.int .u64 0))),none⟩,
 ⟨(some 3),.op (.mv (.const (.bool false))),none⟩]
def x15_1:List XOper:=[⟨(some 8),.op (.mv (.tmp 0)),none⟩,
 ⟨(some 9),.op (.lenStr (.tmp 8)),none⟩,
 ⟨(some 10),.op (.bin .eql (.tmp 9) (.const (.int .i64 3))),none⟩,
 ⟨(some 11),.op (.mv (.tmp 10)),none⟩,
 ⟨(some 12),.op (.mv (.tmp 0)),(some (11,true))⟩,
 ⟨(some 13),.op (.idxStr (.tmp 12) (.const (.int .i64 0))),(some (11,true))⟩,
 ⟨(some 14),.op (.bin .eql (.tmp 13) (.const (.int .u8 39))),(some (11,true))⟩,
 ⟨(some 15),.pick (.tmp 11) (.tmp 14) (.const (.bool false)),none⟩]
def x15_2:List XOper:=[⟨(some 16),.op (.mv (.tmp 0)),none⟩,
 ⟨(some 17),.op (.idxStr (.tmp 16) (.const (.int .i64 2))),none⟩,
 ⟨(some 18),.op (.bin .eql (.tmp 17) (.const (.int .u8 39))),none⟩,
 ⟨(some 19),.op (.mv (.tmp 18)),none⟩,
 ⟨(some 20),.op (.mv (.tmp 0)),(some (19,true))⟩,
 ⟨(some 21),.op (.idxStr (.tmp 20) (.const (.int .i64 1))),(some (19,true))⟩,
 ⟨(some 22),.op (.bin .geq (.tmp 21) (.const (.int .u8 32))),(some (19,true))⟩,
 ⟨(some 23),.pick (.tmp 19) (.tmp 22) (.const (.bool false)),none⟩,
 ⟨(some 24),.op (.mv (.tmp 23)),none⟩,
 ⟨(some 25),.op (.mv (.tmp 0)),(some (24,true))⟩,
 ⟨(some 26),.op (.idxStr (.tmp 25) (.const (.int .i64 1))),(some (24,true))⟩,
 ⟨(some 27),.op (.bin .leq (.tmp 26) (.const (.int .u8 126))),(some (24,true))⟩,
 ⟨(some 28),.pick (.tmp 24) (.tmp 27) (.const (.bool false)),none⟩,
 ⟨(some 29),.op (.mv (.tmp 28)),none⟩,
 ⟨(some 30),.op (.mv (.tmp 0)),(some (29,true))⟩,
 ⟨(some 31),.op (.idxStr (.tmp 30) (.const (.int .i64 1))),(some (29,true))⟩,
 ⟨(some 32),.op (.bin .neq (.tmp 31) (.const (.int .u8 39))),(some (29,true))⟩,
 ⟨(some 33),.pick (.tmp 29) (.tmp 32) (.const (.bool false)),none⟩,
 ⟨(some 34),.op (.mv (.tmp 33)),none⟩,
 ⟨(some 35),.op (.mv (.tmp 0)),(some (34,true))⟩,
 ⟨(some 36),.op (.idxStr (.tmp 35) (.const (.int .i64 1))),(some (34,true))⟩,
 ⟨(some 37),.op (.bin .neq (.tmp 36) (.const (.int .u8 92))),(some (34,true))⟩,
 ⟨(some 38),.pick (.tmp 34) (.tmp 37) (.const (.bool false)),none⟩]
def x15_3:List XOper:=[⟨(some 39),.op (.mv (.tmp 0)),none⟩,
 ⟨(some 40),.op (.idxStr (.tmp 39) (.const (.int .i64 1))),none⟩,
 ⟨(some 41),.op (.conv .u64 (.tmp 40)),none⟩,
 ⟨(some 2),.op (.mv (.tmp 41)),none⟩,
 ⟨(some 3),.op (.mv (.const (.bool true))),none⟩]
def x15_4:XCode:=.seq (.region x15_3) .ret
def x15_5:XCode:=.cnd (.tmp 38) x15_4 .skip
def x15_6:XCode:=.seq (.region x15_2) x15_5
def x15_7:List XOper:=[⟨(some 2),.op (.mv (.const (.int .u64 0))),none⟩,
 ⟨(some 3),.op (.mv (.const (.bool false))),none⟩]
def x15_8:XCode:=.seq (.region x15_7) .ret
def x15_9:XCode:=.seq x15_6 x15_8
def x15_10:XCode:=.cnd (.tmp 15) x15_9 .skip
def x15_11:XCode:=.seq (.region x15_1) x15_10
def x15_12:List XOper:=[⟨(some 42),.op (.mv (.tmp 0)),none⟩,
 ⟨(some 43),.op (.bin .eql (.tmp 42) (.const (.string ⟨#[]⟩))),none⟩,
 ⟨(some 44),.op (.mv (.tmp 43)),none⟩,
 ⟨(some 45),.op (.mv (.tmp 0)),(some (44,false))⟩,
 ⟨(some 46),.op (.lenStr (.tmp 45)),(some (44,false))⟩,
 ⟨(some 47),.op (.bin .gtr (.tmp 46) (.const (.int .i64 20))),(some (44,false))⟩,
 ⟨(some 48),.pick (.tmp 44) (.const (.bool true)) (.tmp 47),none⟩,
 ⟨(some 49),.op (.mv (.tmp 48)),none⟩,
 ⟨(some 50),.op (.mv (.tmp 0)),(some (49,false))⟩,
 ⟨(some 51),.op (.idxStr (.tmp 50) (.const (.int .i64 0))),(some (49,false))⟩,
 ⟨(some 52),.callF 25 [(.tmp 51)],(some (49,false))⟩,
 ⟨(some 53),.op (.un .not (.tmp 52)),(some (49,false))⟩,
 ⟨(some 54),.pick (.tmp 49) (.const (.bool true)) (.tmp 53),none⟩]
def x15_13:List XOper:=[⟨(some 2),.op (.mv (.const (.int .u64 0))),none⟩,
 ⟨(some 3),.op (.mv (.const (.bool false))),none⟩]
def x15_14:XCode:=.seq (.region x15_13) .ret
def x15_15:XCode:=.cnd (.tmp 54) x15_14 .skip
def x15_16:XCode:=.seq (.region x15_12) x15_15
def x15_17:List XOper:=[⟨(some 4),.op (.mv (.const (.int .i64 0))),none⟩,
 ⟨(some 5),.op (.mv (.const (.int .u64 10))),none⟩]
def x15_18:List XOper:=[⟨(some 55),.op (.mv (.tmp 0)),none⟩,
 ⟨(some 56),.callF 26 [(.tmp 55),(.const (.int .i64 0)),(.const (.string ⟨#[48,120]⟩))],none⟩]
def x15_19:List XOper:=[⟨(some 4),.op (.mv (.const (.int .i64 2))),none⟩]
def x15_20:List XOper:=[⟨(some 5),.op (.mv (.const (.int .u64 16))),none⟩]
def x15_21:XCode:=.seq (.region x15_19) (.region x15_20)
def x15_22:XCode:=.cnd (.tmp 56) x15_21 .skip
def x15_23:XCode:=.seq (.region x15_18) x15_22
def x15_24:List XOper:=[⟨(some 57),.op (.mv (.tmp 4)),none⟩,
 ⟨(some 58),.op (.mv (.tmp 0)),none⟩,
 ⟨(some 59),.op (.lenStr (.tmp 58)),none⟩,
 ⟨(some 60),.op (.bin .eql (.tmp 57) (.tmp 59)),none⟩]
def x15_25:List XOper:=[⟨(some 2),.op (.mv (.const (.int .u64 0))),none⟩,
 ⟨(some 3),.op (.mv (.const (.bool false))),none⟩]
def x15_26:XCode:=.seq (.region x15_25) .ret
def x15_27:XCode:=.cnd (.tmp 60) x15_26 .skip
def x15_28:XCode:=.seq (.region x15_24) x15_27
def x15_29:List XOper:=[⟨(some 6),.op (.mv (.const (.int .u64 0))),none⟩]
def x15_30:List XOper:=[⟨(some 61),.op (.mv (.tmp 4)),none⟩,
 ⟨(some 62),.op (.mv (.tmp 0)),none⟩,
 ⟨(some 63),.op (.lenStr (.tmp 62)),none⟩,
 ⟨(some 64),.op (.bin .lss (.tmp 61) (.tmp 63)),none⟩]
def x15_31:XCode:=.cnd (.tmp 64) .skip (.exit 0)
def x15_32:XCode:=.seq (.region x15_30) x15_31
def x15_33:List XOper:=[⟨(some 7),.op (.mv (.const (.int .u64 99))),none⟩]
def x15_34:List XOper:=[⟨(some 67),.op (.mv (.tmp 0)),none⟩,
 ⟨(some 68),.op (.mv (.tmp 4)),none⟩,
 ⟨(some 69),.op (.idxStr (.tmp 67) (.tmp 68)),none⟩,
 ⟨(some 70),.callF 25 [(.tmp 69)],none⟩]
def x15_35:List XOper:=[⟨(some 71),.op (.mv (.tmp 0)),none⟩,
 ⟨(some 72),.op (.mv (.tmp 4)),none⟩,
 ⟨(some 73),.op (.idxStr (.tmp 71) (.tmp 72)),none⟩,
 ⟨(some 74),.op (.bin .sub (.tmp 73) (.const (.int .u8 48))),none⟩,
 ⟨(some 75),.op (.conv .u64 (.tmp 74)),none⟩,
 ⟨(some 7),.op (.mv (.tmp 75)),none⟩]
def x15_36:List XOper:=[⟨(some 76),.op (.mv (.tmp 0)),none⟩,
 ⟨(some 77),.op (.mv (.tmp 4)),none⟩,
 ⟨(some 78),.op (.idxStr (.tmp 76) (.tmp 77)),none⟩,
 ⟨(some 79),.op (.bin .geq (.tmp 78) (.const (.int .u8 97))),none⟩,
 ⟨(some 80),.op (.mv (.tmp 79)),none⟩,
 ⟨(some 81),.op (.mv (.tmp 0)),(some (80,true))⟩,
 ⟨(some 82),.op (.mv (.tmp 4)),(some (80,true))⟩,
 ⟨(some 83),.op (.idxStr (.tmp 81) (.tmp 82)),(some (80,true))⟩,
 ⟨(some 84),.op (.bin .leq (.tmp 83) (.const (.int .u8 102))),(some (80,true))⟩,
 ⟨(some 85),.pick (.tmp 80) (.tmp 84) (.const (.bool false)),none⟩]
def x15_37:List XOper:=[⟨(some 86),.op (.mv (.tmp 0)),none⟩,
 ⟨(some 87),.op (.mv (.tmp 4)),none⟩,
 ⟨(some 88),.op (.idxStr (.tmp 86) (.tmp 87)),none⟩,
 ⟨(some 89),.op (.bin .sub (.tmp 88) (.const (.int .u8 97))),none⟩,
 ⟨(some 90),.op (.conv .u64 (.tmp 89)),none⟩,
 ⟨(some 91),.op (.bin .add (.tmp 90) (.const (.int .u64 10))),none⟩,
 ⟨(some 7),.op (.mv (.tmp 91)),none⟩]
def x15_38:XCode:=.cnd (.tmp 85) (.region x15_37) .skip
def x15_39:XCode:=.seq (.region x15_36) x15_38
def x15_40:XCode:=.cnd (.tmp 70) (.region x15_35) x15_39
def x15_41:XCode:=.seq (.region x15_34) x15_40
def x15_42:List XOper:=[⟨(some 92),.op (.mv (.tmp 7)),none⟩,
 ⟨(some 93),.op (.mv (.tmp 5)),none⟩,
 ⟨(some 94),.op (.bin .geq (.tmp 92) (.tmp 93)),none⟩,
 ⟨(some 95),.op (.mv (.tmp 94)),none⟩,
 ⟨(some 96),.op (.mv (.tmp 6)),(some (95,false))⟩,
 ⟨(some 97),.op (.mv (.tmp 7)),(some (95,false))⟩,
 ⟨(some 98),.op (.bin .sub (.const (.int .u64 9223372036854775807)) (.tmp 97)),(some (95,false))⟩,
 ⟨(some 99),.op (.mv (.tmp 5)),(some (95,false))⟩,
 ⟨(some 100),.op (.bin .quo (.tmp 98) (.tmp 99)),(some (95,false))⟩,
 ⟨(some 101),.op (.bin .gtr (.tmp 96) (.tmp 100)),(some (95,false))⟩,
 ⟨(some 102),.pick (.tmp 95) (.const (.bool true)) (.tmp 101),none⟩]
def x15_43:List XOper:=[⟨(some 2),.op (.mv (.const (.int .u64 0))),none⟩,
 ⟨(some 3),.op (.mv (.const (.bool false))),none⟩]
def x15_44:XCode:=.seq (.region x15_43) .ret
def x15_45:XCode:=.cnd (.tmp 102) x15_44 .skip
def x15_46:XCode:=.seq (.region x15_42) x15_45
def x15_47:List XOper:=[⟨(some 103),.op (.mv (.tmp 6)),none⟩,
 ⟨(some 104),.op (.mv (.tmp 5)),none⟩,
 ⟨(some 105),.op (.bin .mul (.tmp 103) (.tmp 104)),none⟩,
 ⟨(some 106),.op (.mv (.tmp 7)),none⟩,
 ⟨(some 107),.op (.bin .add (.tmp 105) (.tmp 106)),none⟩,
 ⟨(some 6),.op (.mv (.tmp 107)),none⟩]
def x15_48:XCode:=.seq x15_46 (.region x15_47)
def x15_49:XCode:=.seq x15_41 x15_48
def x15_50:XCode:=.seq (.region x15_33) x15_49
def x15_51:XCode:=.block 1 x15_50
def x15_52:List XOper:=[⟨(some 65),.op (.mv (.tmp 4)),none⟩,
 ⟨(some 66),.op (.bin .add (.tmp 65) (.const (.int .i64 1))),none⟩,
 ⟨(some 4),.op (.mv (.tmp 66)),none⟩]
def x15_53:XCode:=.seq x15_51 (.region x15_52)
def x15_54:XCode:=.seq x15_32 x15_53
def x15_55:XCode:=.loop x15_54
def x15_56:XCode:=.block 0 x15_55
def x15_57:List XOper:=[⟨(some 108),.op (.mv (.tmp 6)),none⟩,
 ⟨(some 2),.op (.mv (.tmp 108)),none⟩,
 ⟨(some 3),.op (.mv (.const (.bool true))),none⟩]
def x15_58:XCode:=.seq (.region x15_57) .ret
def x15_59:XCode:=.seq x15_56 x15_58
def x15_60:XCode:=.seq (.region x15_29) x15_59
def x15_61:XCode:=.seq x15_28 x15_60
def x15_62:XCode:=.seq x15_23 x15_61
def x15_63:XCode:=.seq (.region x15_17) x15_62
def x15_64:XCode:=.seq x15_16 x15_63
def x15_65:XCode:=.seq x15_11 x15_64
def x15_66:XCode:=.seq (.region x15_0) x15_65
def x15:XCode:=x15_66
theorem fx15:fnx Tryd.prog 15=some (109,[(2,none),(3,none)],x15):=by kernel_rfl
def x16_0:List XOper:=[⟨(some 4),.op (.mv (.const (.int .i64 0))),none⟩,
 ⟨(some 5),.op (.mv (.const (.bool false))),none⟩]
def x16_1:List XOper:=[⟨(some 9),.op (.mv (.tmp 1)),none⟩,
 ⟨(some 10),.op (.mv (.tmp 0)),none⟩,
 ⟨(some 11),.op (.lenStr (.tmp 10)),none⟩,
 ⟨(some 12),.op (.bin .lss (.tmp 9) (.tmp 11)),none⟩]
def x16_2:XCode:=.cnd (.tmp 12) .skip (.exit 0)
def x16_3:XCode:=.seq (.region x16_1) x16_2
def x16_4:List XOper:=[⟨(some 13),.op (.mv (.tmp 0)),none⟩,
 ⟨(some 14),.op (.mv (.tmp 1)),none⟩,
 ⟨(some 15),.op (.slStr (.tmp 13) (some (.tmp 14)) none),none⟩,
 ⟨(some 6),.op (.mv (.tmp 15)),none⟩]
def x16_5:List XOper:=[⟨(some 18),.op (.mv (.tmp 6)),none⟩,
 ⟨(some 19),.op (.idxStr (.tmp 18) (.const (.int .i64 0))),none⟩,
 ⟨(some 20),.callF 27 [(.const (.string ⟨#[32,9,13,10]⟩)),(.tmp 19)],none⟩,
 ⟨(some 21),.op (.bin .geq (.tmp 20) (.const (.int .i64 0))),none⟩,
 ⟨(some 17),.op (.mv (.tmp 21)),none⟩]
def x16_6:List XOper:=[⟨(some 22),.op (.mv (.tmp 1)),none⟩,
 ⟨(some 23),.op (.bin .add (.tmp 22) (.const (.int .i64 1))),none⟩,
 ⟨(some 1),.op (.mv (.tmp 23)),none⟩]
def x16_7:List XOper:=[⟨(some 25),.op (.mv (.tmp 6)),none⟩,
 ⟨(some 26),.callF 28 [(.tmp 25),(.const (.string ⟨#[47,47]⟩))],none⟩,
 ⟨(some 24),.op (.mv (.tmp 26)),none⟩]
def x16_8:List XOper:=[⟨(some 27),.op (.mv (.tmp 6)),none⟩,
 ⟨(some 28),.callF 27 [(.tmp 27),(.const (.int .u8 10))],none⟩,
 ⟨(some 7),.op (.mv (.tmp 28)),none⟩]
def x16_9:List XOper:=[⟨(some 29),.op (.mv (.tmp 7)),none⟩,
 ⟨(some 30),.op (.bin .lss (.tmp 29) (.const (.int .i64 0))),none⟩]
def x16_10:List XOper:=[⟨(some 31),.op (.mv (.tmp 6)),none⟩,
 ⟨(some 32),.op (.lenStr (.tmp 31)),none⟩,
 ⟨(some 7),.op (.mv (.tmp 32)),none⟩]
def x16_11:XCode:=.cnd (.tmp 30) (.region x16_10) .skip
def x16_12:XCode:=.seq (.region x16_9) x16_11
def x16_13:List XOper:=[⟨(some 33),.op (.mv (.tmp 1)),none⟩,
 ⟨(some 34),.op (.mv (.tmp 7)),none⟩,
 ⟨(some 35),.op (.bin .add (.tmp 33) (.tmp 34)),none⟩,
 ⟨(some 1),.op (.mv (.tmp 35)),none⟩]
def x16_14:XCode:=.seq x16_12 (.region x16_13)
def x16_15:XCode:=.seq (.region x16_8) x16_14
def x16_16:List XOper:=[⟨(some 37),.op (.mv (.tmp 6)),none⟩,
 ⟨(some 38),.callF 28 [(.tmp 37),(.const (.string ⟨#[47,42]⟩))],none⟩,
 ⟨(some 36),.op (.mv (.tmp 38)),none⟩]
def x16_17:List XOper:=[⟨(some 39),.op (.mv (.tmp 6)),none⟩,
 ⟨(some 40),.op (.slStr (.tmp 39) (some (.const (.int .i64 2))) none),none⟩,
 ⟨(some 41),.callF 29 [(.tmp 40),(.const (.string ⟨#[42,47]⟩))],none⟩,
 ⟨(some 8),.op (.mv (.tmp 41)),none⟩]
def x16_18:List XOper:=[⟨(some 42),.op (.mv (.tmp 8)),none⟩,
 ⟨(some 43),.op (.bin .lss (.tmp 42) (.const (.int .i64 0))),none⟩]
def x16_19:List XOper:=[⟨(some 44),.op (.mv (.tmp 1)),none⟩,
 ⟨(some 4),.op (.mv (.tmp 44)),none⟩,
 ⟨(some 5),.op (.mv (.const (.bool false))),none⟩]
def x16_20:XCode:=.seq (.region x16_19) .ret
def x16_21:XCode:=.cnd (.tmp 43) x16_20 .skip
def x16_22:XCode:=.seq (.region x16_18) x16_21
def x16_23:List XOper:=[⟨(some 45),.op (.mv (.tmp 1)),none⟩,
 ⟨(some 46),.op (.mv (.tmp 8)),none⟩,
 ⟨(some 47),.op (.bin .add (.tmp 46) (.const (.int .i64 4))),none⟩,
 ⟨(some 48),.op (.bin .add (.tmp 45) (.tmp 47)),none⟩,
 ⟨(some 1),.op (.mv (.tmp 48)),none⟩]
def x16_24:XCode:=.seq x16_22 (.region x16_23)
def x16_25:XCode:=.seq (.region x16_17) x16_24
def x16_26:List XOper:=[⟨(some 16),.op (.mv (.tmp 1)),none⟩,
 ⟨(some 4),.op (.mv (.tmp 16)),none⟩,
 ⟨(some 5),.op (.mv (.const (.bool true))),none⟩]
def x16_27:XCode:=.seq (.region x16_26) .ret
def x16_28:XCode:=.cnd (.tmp 36) x16_25 x16_27
def x16_29:XCode:=.seq (.region x16_16) x16_28
def x16_30:XCode:=.cnd (.tmp 24) x16_15 x16_29
def x16_31:XCode:=.seq (.region x16_7) x16_30
def x16_32:XCode:=.cnd (.tmp 17) (.region x16_6) x16_31
def x16_33:XCode:=.seq (.region x16_5) x16_32
def x16_34:XCode:=.block 2 x16_33
def x16_35:XCode:=.seq (.region x16_4) x16_34
def x16_36:XCode:=.block 1 x16_35
def x16_37:XCode:=.seq x16_3 x16_36
def x16_38:XCode:=.loop x16_37
def x16_39:XCode:=.block 0 x16_38
def x16_40:List XOper:=[⟨(some 49),.op (.mv (.tmp 1)),none⟩,
 ⟨(some 4),.op (.mv (.tmp 49)),none⟩,
 ⟨(some 5),.op (.mv (.const (.bool true))),none⟩]
def x16_41:XCode:=.seq (.region x16_40) .ret
def x16_42:XCode:=.seq x16_39 x16_41
def x16_43:XCode:=.seq (.region x16_0) x16_42
def x16:XCode:=x16_43
theorem fx16:fnx Tryd.prog 16=some (50,[(4,none),(5,none)],x16):=by kernel_rfl
def x17_0:List XOper:=[⟨(some 2),.op (.mv (.const (.int .i64 0))),none⟩,
 ⟨(some 3),.op (.mv (.const (.int .i64 0))),none⟩]
def x17_1:List XOper:=[⟨(some 11),.op (.mv (.tmp 0)),none⟩,
 ⟨(some 12),.op (.idxStr (.tmp 11) (.const (.int .i64 0))),none⟩,
 ⟨(some 4),.op (.mv (.tmp 12)),none⟩]
def x17_2:List XOper:=[⟨(some 14),.op (.mv (.tmp 4)),none⟩,
 ⟨(some 15),.callF 30 [(.tmp 14)],none⟩,
 ⟨(some 13),.op (.mv (.tmp 15)),none⟩]
def x17_3:List XOper:=[⟨(some 16),.op (.mv (.tmp 0)),none⟩,
 ⟨(some 17),.callF 31 [(.tmp 16)],none⟩,
 ⟨(some 5),.op (.mv (.tmp 17)),none⟩]
def x17_4:List XOper:=[⟨(some 18),.callF 33 [],none⟩,
 ⟨(some 19),.op (.mv (.tmp 0)),none⟩,
 ⟨(some 20),.op (.mv (.tmp 5)),none⟩,
 ⟨(some 21),.op (.slStr (.tmp 19) none (some (.tmp 20))),none⟩,
 ⟨(some 22),.callF 32 [(.tmp 18),(.tmp 21)],none⟩]
def x17_5:List XOper:=[⟨(some 23),.op (.mv (.tmp 5)),none⟩,
 ⟨(some 2),.op (.mv (.const (.int .i64 4))),none⟩,
 ⟨(some 3),.op (.mv (.tmp 23)),none⟩]
def x17_6:XCode:=.seq (.region x17_5) .ret
def x17_7:XCode:=.cnd (.tmp 22) x17_6 .skip
def x17_8:XCode:=.seq (.draw x17_4 [[],[],[],[1,2],[0,1,2,3]]) x17_7
def x17_9:List XOper:=[⟨(some 24),.op (.mv (.tmp 5)),none⟩,
 ⟨(some 25),.op (.bin .gtr (.tmp 24) (.const (.int .i64 32))),none⟩]
def x17_10:List XOper:=[⟨(some 2),.op (.mv (.const (.int .i64 0))),none⟩,
 ⟨(some 3),.op (.mv (.const (.int .i64 0))),none⟩]
def x17_11:XCode:=.seq (.region x17_10) .ret
def x17_12:XCode:=.cnd (.tmp 25) x17_11 .skip
def x17_13:XCode:=.seq (.region x17_9) x17_12
def x17_14:List XOper:=[⟨(some 26),.op (.mv (.tmp 5)),none⟩,
 ⟨(some 2),.op (.mv (.const (.int .i64 1))),none⟩,
 ⟨(some 3),.op (.mv (.tmp 26)),none⟩]
def x17_15:XCode:=.seq (.region x17_14) .ret
def x17_16:XCode:=.seq x17_13 x17_15
def x17_17:XCode:=.seq x17_8 x17_16
def x17_18:XCode:=.seq (.region x17_3) x17_17
def x17_19:List XOper:=[⟨(some 28),.op (.mv (.tmp 4)),none⟩,
 ⟨(some 29),.callF 20 [(.tmp 28)],none⟩,
 ⟨(some 27),.op (.mv (.tmp 29)),none⟩]
def x17_20:List XOper:=[⟨(some 30),.op (.mv (.tmp 0)),none⟩,
 ⟨(some 31),.callF 31 [(.tmp 30)],none⟩,
 ⟨(some 6),.op (.mv (.tmp 31)),none⟩]
def x17_21:List XOper:=[⟨(some 33),.op (.mv (.tmp 0)),none⟩,
 ⟨(some 34),.op (.mv (.tmp 6)),none⟩,
 ⟨(some 35),.op (.slStr (.tmp 33) none (some (.tmp 34))),none⟩,
 ⟨(some 36),.callF 14 [(.tmp 35)],none⟩,
 ⟨(some 32),.op (.mv (.tmp 36)),none⟩,
 ⟨(some 37),.op (.ext (.tmp 32) 0),none⟩,
 ⟨(some 38),.op (.ext (.tmp 32) 1),none⟩,
 ⟨(some 7),.op (.mv (.tmp 37)),none⟩,
 ⟨(some 8),.op (.mv (.tmp 38)),none⟩]
def x17_22:List XOper:=[⟨(some 39),.op (.mv (.tmp 8)),none⟩,
 ⟨(some 40),.op (.bin .neq (.tmp 39) (.const (.int .i64 0))),none⟩]
def x17_23:List XOper:=[⟨(some 2),.op (.mv (.const (.int .i64 0))),none⟩,
 ⟨(some 3),.op (.mv (.const (.int .i64 0))),none⟩]
def x17_24:XCode:=.seq (.region x17_23) .ret
def x17_25:XCode:=.cnd (.tmp 40) x17_24 .skip
def x17_26:XCode:=.seq (.region x17_22) x17_25
def x17_27:XCode:=.seq (.region x17_21) x17_26
def x17_28:List XOper:=[⟨(some 41),.op (.mv (.tmp 6)),none⟩,
 ⟨(some 2),.op (.mv (.const (.int .i64 2))),none⟩,
 ⟨(some 3),.op (.mv (.tmp 41)),none⟩]
def x17_29:XCode:=.seq (.region x17_28) .ret
def x17_30:XCode:=.seq x17_27 x17_29
def x17_31:XCode:=.seq (.region x17_20) x17_30
def x17_32:List XOper:=[⟨(some 43),.op (.mv (.tmp 4)),none⟩,
 ⟨(some 44),.op (.bin .eql (.tmp 43) (.const (.int .u8 39))),none⟩,
 ⟨(some 42),.op (.mv (.tmp 44)),none⟩]
def x17_33:List XOper:=[⟨(some 46),.op (.mv (.tmp 0)),none⟩,
 ⟨(some 47),.op (.mv (.tmp 0)),none⟩,
 ⟨(some 48),.op (.lenStr (.tmp 47)),none⟩,
 ⟨(some 49),.op (.minmax false [(.const (.int .i64 3)),(.tmp 48)]),none⟩,
 ⟨(some 50),.op (.slStr (.tmp 46) none (some (.tmp 49))),none⟩,
 ⟨(some 51),.callF 14 [(.tmp 50)],none⟩,
 ⟨(some 45),.op (.mv (.tmp 51)),none⟩,
 ⟨(some 52),.op (.ext (.tmp 45) 0),none⟩,
 ⟨(some 53),.op (.ext (.tmp 45) 1),none⟩,
 ⟨(some 9),.op (.mv (.tmp 52)),none⟩,
 ⟨(some 10),.op (.mv (.tmp 53)),none⟩]
def x17_34:List XOper:=[⟨(some 54),.op (.mv (.tmp 10)),none⟩,
 ⟨(some 55),.op (.bin .neq (.tmp 54) (.const (.int .i64 0))),none⟩]
def x17_35:List XOper:=[⟨(some 2),.op (.mv (.const (.int .i64 0))),none⟩,
 ⟨(some 3),.op (.mv (.const (.int .i64 0))),none⟩]
def x17_36:XCode:=.seq (.region x17_35) .ret
def x17_37:XCode:=.cnd (.tmp 55) x17_36 .skip
def x17_38:XCode:=.seq (.region x17_34) x17_37
def x17_39:XCode:=.seq (.region x17_33) x17_38
def x17_40:List XOper:=[⟨(some 2),.op (.mv (.const (.int .i64 2))),none⟩,
 ⟨(some 3),.op (.mv (.const (.int .i64 3))),none⟩]
def x17_41:XCode:=.seq (.region x17_40) .ret
def x17_42:XCode:=.seq x17_39 x17_41
def x17_43:List XOper:=[⟨(some 57),.op (.mv (.tmp 0)),none⟩,
 ⟨(some 58),.op (.lenStr (.tmp 57)),none⟩,
 ⟨(some 59),.op (.bin .gtr (.tmp 58) (.const (.int .i64 1))),none⟩,
 ⟨(some 60),.op (.mv (.tmp 59)),none⟩,
 ⟨(some 61),.callF 34 [],(some (60,true))⟩,
 ⟨(some 62),.op (.mv (.tmp 4)),(some (60,true))⟩,
 ⟨(some 63),.op (.mv (.tmp 0)),(some (60,true))⟩,
 ⟨(some 64),.op (.idxStr (.tmp 63) (.const (.int .i64 1))),(some (60,true))⟩,
 ⟨(some 65),.op (.build [(.int .u8 0),(.int .u8 0)] [(0,1,(.tmp 62)),(1,1,(.tmp 64))]),(some (60,true))⟩,
 ⟨(some 66),.op (.lookup 68 3 (.array 2 5) (.int .i64 0) false (.tmp 61) (.tmp 65)),(some (60,true))⟩,
 ⟨(some 67),.op (.bin .gtr (.tmp 66) (.const (.int .i64 0))),(some (60,true))⟩,
 ⟨(some 68),.pick (.tmp 60) (.tmp 67) (.const (.bool false)),none⟩,
 ⟨(some 56),.op (.mv (.tmp 68)),none⟩]
def x17_44:List XOper:=[⟨(some 69),.callF 34 [],none⟩,
 ⟨(some 70),.op (.mv (.tmp 4)),none⟩,
 ⟨(some 71),.op (.mv (.tmp 0)),none⟩,
 ⟨(some 72),.op (.idxStr (.tmp 71) (.const (.int .i64 1))),none⟩,
 ⟨(some 73),.op (.build [(.int .u8 0),(.int .u8 0)] [(0,1,(.tmp 70)),(1,1,(.tmp 72))]),none⟩,
 ⟨(some 74),.op (.lookup 68 3 (.array 2 5) (.int .i64 0) false (.tmp 69) (.tmp 73)),none⟩,
 ⟨(some 2),.op (.mv (.const (.int .i64 3))),none⟩,
 ⟨(some 3),.op (.mv (.tmp 74)),none⟩]
def x17_45:XCode:=.seq (.draw x17_44 [[],[],[],[2],[1,2,3],[0,1,2,3,4],[0],[0,1,2,3,4,5,6]]) .ret
def x17_46:List XOper:=[⟨(some 76),.op (.mv (.tmp 4)),none⟩,
 ⟨(some 77),.callF 27 [(.const (.string ⟨#[43,45,42,47,37,38,124,94,126,33,60,62,61,40,41,123,125,91,93,59,44,46]⟩)),(.tmp 76)],none⟩,
 ⟨(some 78),.op (.bin .geq (.tmp 77) (.const (.int .i64 0))),none⟩,
 ⟨(some 75),.op (.mv (.tmp 78)),none⟩]
def x17_47:List XOper:=[⟨(some 2),.op (.mv (.const (.int .i64 3))),none⟩,
 ⟨(some 3),.op (.mv (.const (.int .i64 1))),none⟩]
def x17_48:XCode:=.seq (.region x17_47) .ret
def x17_49:XCode:=.cnd (.tmp 75) x17_48 .skip
def x17_50:XCode:=.seq (.region x17_46) x17_49
def x17_51:XCode:=.cnd (.tmp 56) x17_45 x17_50
def x17_52:XCode:=.seq (.draw x17_43 [[],[0],[0,1],[0,1,2],[0,1,2,3],[0,1,2,3],[0,1,2,3],[0,1,2,3,6],[0,1,2,3,5,6,7],[0,1,2,3,4,5,6,7,8],[0,1,2,3,4,5,6,7,8,9],[0,1,2,3,4,5,6,7,8,9,10],[0,1,2,3,4,5,6,7,8,9,10,11]]) x17_51
def x17_53:XCode:=.cnd (.tmp 42) x17_42 x17_52
def x17_54:XCode:=.seq (.region x17_32) x17_53
def x17_55:XCode:=.cnd (.tmp 27) x17_31 x17_54
def x17_56:XCode:=.seq (.region x17_19) x17_55
def x17_57:XCode:=.cnd (.tmp 13) x17_18 x17_56
def x17_58:XCode:=.seq (.region x17_2) x17_57
def x17_59:XCode:=.block 0 x17_58
def x17_60:List XOper:=[⟨(some 2),.op (.mv (.const (.int .i64 0))),none⟩,
 ⟨(some 3),.op (.mv (.const (.int .i64 0))),none⟩]
def x17_61:XCode:=.seq (.region x17_60) .ret
def x17_62:XCode:=.seq x17_59 x17_61
def x17_63:XCode:=.seq (.region x17_1) x17_62
def x17_64:XCode:=.seq (.region x17_0) x17_63
def x17:XCode:=x17_64
theorem fx17:fnx Tryd.prog 17=some (79,[(2,none),(3,none)],x17):=by kernel_rfl
def x18_0:List XOper:=[⟨(some 4),.op (.mv (.const (.int .i64 0))),none⟩,
 ⟨(some 5),.op (.mv (.const (.bool false))),none⟩]
def x18_1:List XOper:=[⟨(some 7),.op (.mv (.tmp 1)),none⟩,
 ⟨(some 8),.op (.mv (.tmp 0)),none⟩,
 ⟨(some 9),.op (.lenStr (.tmp 8)),none⟩,
 ⟨(some 10),.op (.bin .lss (.tmp 7) (.tmp 9)),none⟩]
def x18_2:XCode:=.cnd (.tmp 10) .skip (.exit 0)
def x18_3:XCode:=.seq (.region x18_1) x18_2
def x18_4:List XOper:=[⟨(some 11),.op (.mv (.tmp 0)),none⟩,
 ⟨(some 12),.op (.mv (.tmp 1)),none⟩,
 ⟨(some 13),.op (.idxStr (.tmp 11) (.tmp 12)),none⟩,
 ⟨(some 14),.op (.bin .eql (.tmp 13) (.const (.int .u8 32))),none⟩,
 ⟨(some 15),.op (.mv (.tmp 14)),none⟩,
 ⟨(some 16),.op (.mv (.tmp 0)),(some (15,false))⟩,
 ⟨(some 17),.op (.mv (.tmp 1)),(some (15,false))⟩,
 ⟨(some 18),.op (.idxStr (.tmp 16) (.tmp 17)),(some (15,false))⟩,
 ⟨(some 19),.op (.bin .eql (.tmp 18) (.const (.int .u8 9))),(some (15,false))⟩,
 ⟨(some 20),.pick (.tmp 15) (.const (.bool true)) (.tmp 19),none⟩,
 ⟨(some 21),.op (.mv (.tmp 20)),none⟩,
 ⟨(some 22),.op (.mv (.tmp 0)),(some (21,false))⟩,
 ⟨(some 23),.op (.mv (.tmp 1)),(some (21,false))⟩,
 ⟨(some 24),.op (.idxStr (.tmp 22) (.tmp 23)),(some (21,false))⟩,
 ⟨(some 25),.op (.bin .eql (.tmp 24) (.const (.int .u8 10))),(some (21,false))⟩,
 ⟨(some 26),.pick (.tmp 21) (.const (.bool true)) (.tmp 25),none⟩,
 ⟨(some 27),.op (.mv (.tmp 26)),none⟩,
 ⟨(some 28),.op (.mv (.tmp 0)),(some (27,false))⟩,
 ⟨(some 29),.op (.mv (.tmp 1)),(some (27,false))⟩,
 ⟨(some 30),.op (.idxStr (.tmp 28) (.tmp 29)),(some (27,false))⟩,
 ⟨(some 31),.op (.bin .eql (.tmp 30) (.const (.int .u8 13))),(some (27,false))⟩,
 ⟨(some 32),.pick (.tmp 27) (.const (.bool true)) (.tmp 31),none⟩]
def x18_5:List XOper:=[⟨(some 33),.op (.mv (.tmp 1)),none⟩,
 ⟨(some 34),.op (.bin .add (.tmp 33) (.const (.int .i64 1))),none⟩,
 ⟨(some 1),.op (.mv (.tmp 34)),none⟩]
def x18_6:List XOper:=[⟨(some 35),.op (.mv (.tmp 0)),none⟩,
 ⟨(some 36),.op (.mv (.tmp 1)),none⟩,
 ⟨(some 37),.callF 26 [(.tmp 35),(.tmp 36),(.const (.string ⟨#[47,47]⟩))],none⟩]
def x18_7:List XOper:=[⟨(some 38),.op (.mv (.tmp 1)),none⟩,
 ⟨(some 39),.op (.mv (.tmp 0)),none⟩,
 ⟨(some 40),.op (.lenStr (.tmp 39)),none⟩,
 ⟨(some 41),.op (.bin .lss (.tmp 38) (.tmp 40)),none⟩,
 ⟨(some 42),.op (.mv (.tmp 41)),none⟩,
 ⟨(some 43),.op (.mv (.tmp 0)),(some (42,true))⟩,
 ⟨(some 44),.op (.mv (.tmp 1)),(some (42,true))⟩,
 ⟨(some 45),.op (.idxStr (.tmp 43) (.tmp 44)),(some (42,true))⟩,
 ⟨(some 46),.op (.bin .neq (.tmp 45) (.const (.int .u8 10))),(some (42,true))⟩,
 ⟨(some 47),.pick (.tmp 42) (.tmp 46) (.const (.bool false)),none⟩]
def x18_8:XCode:=.cnd (.tmp 47) .skip (.exit 2)
def x18_9:XCode:=.seq (.region x18_7) x18_8
def x18_10:List XOper:=[⟨(some 48),.op (.mv (.tmp 1)),none⟩,
 ⟨(some 49),.op (.bin .add (.tmp 48) (.const (.int .i64 1))),none⟩,
 ⟨(some 1),.op (.mv (.tmp 49)),none⟩]
def x18_11:XCode:=.block 3 (.region x18_10)
def x18_12:XCode:=.seq x18_9 x18_11
def x18_13:XCode:=.loop x18_12
def x18_14:XCode:=.block 2 x18_13
def x18_15:List XOper:=[⟨(some 50),.op (.mv (.tmp 0)),none⟩,
 ⟨(some 51),.op (.mv (.tmp 1)),none⟩,
 ⟨(some 52),.callF 26 [(.tmp 50),(.tmp 51),(.const (.string ⟨#[47,42]⟩))],none⟩]
def x18_16:List XOper:=[⟨(some 53),.op (.mv (.tmp 1)),none⟩,
 ⟨(some 54),.op (.bin .add (.tmp 53) (.const (.int .i64 2))),none⟩,
 ⟨(some 6),.op (.mv (.tmp 54)),none⟩]
def x18_17:List XOper:=[⟨(some 55),.op (.mv (.tmp 6)),none⟩,
 ⟨(some 56),.op (.mv (.tmp 0)),none⟩,
 ⟨(some 57),.op (.lenStr (.tmp 56)),none⟩,
 ⟨(some 58),.op (.bin .lss (.tmp 55) (.tmp 57)),none⟩,
 ⟨(some 59),.op (.mv (.tmp 58)),none⟩,
 ⟨(some 60),.op (.mv (.tmp 0)),(some (59,true))⟩,
 ⟨(some 61),.op (.mv (.tmp 6)),(some (59,true))⟩,
 ⟨(some 62),.callF 26 [(.tmp 60),(.tmp 61),(.const (.string ⟨#[42,47]⟩))],(some (59,true))⟩,
 ⟨(some 63),.op (.un .not (.tmp 62)),(some (59,true))⟩,
 ⟨(some 64),.pick (.tmp 59) (.tmp 63) (.const (.bool false)),none⟩]
def x18_18:XCode:=.cnd (.tmp 64) .skip (.exit 4)
def x18_19:XCode:=.seq (.region x18_17) x18_18
def x18_20:List XOper:=[⟨(some 65),.op (.mv (.tmp 6)),none⟩,
 ⟨(some 66),.op (.bin .add (.tmp 65) (.const (.int .i64 1))),none⟩,
 ⟨(some 6),.op (.mv (.tmp 66)),none⟩]
def x18_21:XCode:=.block 5 (.region x18_20)
def x18_22:XCode:=.seq x18_19 x18_21
def x18_23:XCode:=.loop x18_22
def x18_24:XCode:=.block 4 x18_23
def x18_25:List XOper:=[⟨(some 67),.op (.mv (.tmp 6)),none⟩,
 ⟨(some 68),.op (.mv (.tmp 0)),none⟩,
 ⟨(some 69),.op (.lenStr (.tmp 68)),none⟩,
 ⟨(some 70),.op (.bin .geq (.tmp 67) (.tmp 69)),none⟩]
def x18_26:List XOper:=[⟨(some 71),.op (.mv (.tmp 1)),none⟩,
 ⟨(some 4),.op (.mv (.tmp 71)),none⟩,
 ⟨(some 5),.op (.mv (.const (.bool false))),none⟩]
def x18_27:XCode:=.seq (.region x18_26) .ret
def x18_28:XCode:=.cnd (.tmp 70) x18_27 .skip
def x18_29:XCode:=.seq (.region x18_25) x18_28
def x18_30:List XOper:=[⟨(some 72),.op (.mv (.tmp 6)),none⟩,
 ⟨(some 73),.op (.bin .add (.tmp 72) (.const (.int .i64 2))),none⟩,
 ⟨(some 1),.op (.mv (.tmp 73)),none⟩]
def x18_31:XCode:=.seq x18_29 (.region x18_30)
def x18_32:XCode:=.seq x18_24 x18_31
def x18_33:XCode:=.seq (.region x18_16) x18_32
def x18_34:List XOper:=[⟨(some 74),.op (.mv (.tmp 1)),none⟩,
 ⟨(some 4),.op (.mv (.tmp 74)),none⟩,
 ⟨(some 5),.op (.mv (.const (.bool true))),none⟩]
def x18_35:XCode:=.seq (.region x18_34) .ret
def x18_36:XCode:=.cnd (.tmp 52) x18_33 x18_35
def x18_37:XCode:=.seq (.region x18_15) x18_36
def x18_38:XCode:=.cnd (.tmp 37) x18_14 x18_37
def x18_39:XCode:=.seq (.region x18_6) x18_38
def x18_40:XCode:=.cnd (.tmp 32) (.region x18_5) x18_39
def x18_41:XCode:=.seq (.region x18_4) x18_40
def x18_42:XCode:=.block 1 x18_41
def x18_43:XCode:=.seq x18_3 x18_42
def x18_44:XCode:=.loop x18_43
def x18_45:XCode:=.block 0 x18_44
def x18_46:List XOper:=[⟨(some 75),.op (.mv (.tmp 1)),none⟩,
 ⟨(some 4),.op (.mv (.tmp 75)),none⟩,
 ⟨(some 5),.op (.mv (.const (.bool true))),none⟩]
def x18_47:XCode:=.seq (.region x18_46) .ret
def x18_48:XCode:=.seq x18_45 x18_47
def x18_49:XCode:=.seq (.region x18_0) x18_48
def x18:XCode:=x18_49
theorem fx18:fnx Tryd.prog 18=some (76,[(4,none),(5,none)],x18):=by kernel_rfl
def x19_0:List XOper:=[⟨(some 4),.op (.mv (.const (.int .i64 0))),none⟩,
 ⟨(some 5),.op (.mv (.const (.int .i64 0))),none⟩]
def x19_1:List XOper:=[⟨(some 13),.op (.mv (.tmp 1)),none⟩,
 ⟨(some 6),.op (.mv (.tmp 13)),none⟩]
def x19_2:List XOper:=[⟨(some 14),.op (.mv (.tmp 6)),none⟩,
 ⟨(some 15),.op (.mv (.tmp 0)),none⟩,
 ⟨(some 16),.op (.lenStr (.tmp 15)),none⟩,
 ⟨(some 17),.op (.bin .lss (.tmp 14) (.tmp 16)),none⟩,
 ⟨(some 18),.op (.mv (.tmp 17)),none⟩,
 ⟨(some 19),.op (.mv (.tmp 0)),(some (18,true))⟩,
 ⟨(some 20),.op (.mv (.tmp 6)),(some (18,true))⟩,
 ⟨(some 21),.op (.idxStr (.tmp 19) (.tmp 20)),(some (18,true))⟩,
 ⟨(some 22),.callF 35 [(.tmp 21)],(some (18,true))⟩,
 ⟨(some 23),.op (.mv (.tmp 22)),(some (18,true))⟩,
 ⟨(some 24),.op (.mv (.tmp 0)),(some (23,false))⟩,
 ⟨(some 25),.op (.mv (.tmp 6)),(some (23,false))⟩,
 ⟨(some 26),.op (.idxStr (.tmp 24) (.tmp 25)),(some (23,false))⟩,
 ⟨(some 27),.callF 25 [(.tmp 26)],(some (23,false))⟩,
 ⟨(some 28),.pick (.tmp 23) (.const (.bool true)) (.tmp 27),(some (18,true))⟩,
 ⟨(some 29),.pick (.tmp 18) (.tmp 28) (.const (.bool false)),none⟩]
def x19_3:XCode:=.cnd (.tmp 29) .skip (.exit 0)
def x19_4:XCode:=.seq (.region x19_2) x19_3
def x19_5:List XOper:=[⟨(some 30),.op (.mv (.tmp 6)),none⟩,
 ⟨(some 31),.op (.bin .add (.tmp 30) (.const (.int .i64 1))),none⟩,
 ⟨(some 6),.op (.mv (.tmp 31)),none⟩]
def x19_6:XCode:=.block 1 (.region x19_5)
def x19_7:XCode:=.seq x19_4 x19_6
def x19_8:XCode:=.loop x19_7
def x19_9:XCode:=.block 0 x19_8
def x19_10:List XOper:=[⟨(some 32),.op (.mv (.tmp 0)),none⟩,
 ⟨(some 33),.op (.mv (.tmp 1)),none⟩,
 ⟨(some 34),.op (.idxStr (.tmp 32) (.tmp 33)),none⟩,
 ⟨(some 35),.callF 35 [(.tmp 34)],none⟩]
def x19_11:List XOper:=[⟨(some 36),.op (.mv (.tmp 0)),none⟩,
 ⟨(some 37),.op (.mv (.tmp 1)),none⟩,
 ⟨(some 38),.op (.mv (.tmp 6)),none⟩,
 ⟨(some 39),.op (.slStr (.tmp 36) (some (.tmp 37)) (some (.tmp 38))),none⟩,
 ⟨(some 40),.callF 36 [(.tmp 39)],none⟩]
def x19_12:List XOper:=[⟨(some 41),.op (.mv (.tmp 6)),none⟩,
 ⟨(some 4),.op (.mv (.const (.int .i64 4))),none⟩,
 ⟨(some 5),.op (.mv (.tmp 41)),none⟩]
def x19_13:XCode:=.seq (.region x19_12) .ret
def x19_14:XCode:=.cnd (.tmp 40) x19_13 .skip
def x19_15:XCode:=.seq (.region x19_11) x19_14
def x19_16:List XOper:=[⟨(some 42),.op (.mv (.tmp 6)),none⟩,
 ⟨(some 43),.op (.mv (.tmp 1)),none⟩,
 ⟨(some 44),.op (.bin .sub (.tmp 42) (.tmp 43)),none⟩,
 ⟨(some 45),.op (.bin .gtr (.tmp 44) (.const (.int .i64 32))),none⟩]
def x19_17:List XOper:=[⟨(some 4),.op (.mv (.const (.int .i64 0))),none⟩,
 ⟨(some 5),.op (.mv (.const (.int .i64 0))),none⟩]
def x19_18:XCode:=.seq (.region x19_17) .ret
def x19_19:XCode:=.cnd (.tmp 45) x19_18 .skip
def x19_20:XCode:=.seq (.region x19_16) x19_19
def x19_21:List XOper:=[⟨(some 46),.op (.mv (.tmp 6)),none⟩,
 ⟨(some 4),.op (.mv (.const (.int .i64 1))),none⟩,
 ⟨(some 5),.op (.mv (.tmp 46)),none⟩]
def x19_22:XCode:=.seq (.region x19_21) .ret
def x19_23:XCode:=.seq x19_20 x19_22
def x19_24:XCode:=.seq x19_15 x19_23
def x19_25:XCode:=.cnd (.tmp 35) x19_24 .skip
def x19_26:XCode:=.seq (.region x19_10) x19_25
def x19_27:List XOper:=[⟨(some 47),.op (.mv (.tmp 0)),none⟩,
 ⟨(some 48),.op (.mv (.tmp 1)),none⟩,
 ⟨(some 49),.op (.idxStr (.tmp 47) (.tmp 48)),none⟩,
 ⟨(some 50),.op (.bin .eql (.tmp 49) (.const (.int .u8 39))),none⟩]
def x19_28:List XOper:=[⟨(some 51),.op (.mv (.tmp 1)),none⟩,
 ⟨(some 52),.op (.bin .add (.tmp 51) (.const (.int .i64 3))),none⟩,
 ⟨(some 6),.op (.mv (.tmp 52)),none⟩]
def x19_29:XCode:=.cnd (.tmp 50) (.region x19_28) .skip
def x19_30:XCode:=.seq (.region x19_27) x19_29
def x19_31:List XOper:=[⟨(some 53),.op (.mv (.tmp 0)),none⟩,
 ⟨(some 54),.op (.mv (.tmp 1)),none⟩,
 ⟨(some 55),.op (.idxStr (.tmp 53) (.tmp 54)),none⟩,
 ⟨(some 56),.callF 25 [(.tmp 55)],none⟩,
 ⟨(some 57),.op (.mv (.tmp 56)),none⟩,
 ⟨(some 58),.op (.mv (.tmp 0)),(some (57,false))⟩,
 ⟨(some 59),.op (.mv (.tmp 1)),(some (57,false))⟩,
 ⟨(some 60),.op (.idxStr (.tmp 58) (.tmp 59)),(some (57,false))⟩,
 ⟨(some 61),.op (.bin .eql (.tmp 60) (.const (.int .u8 39))),(some (57,false))⟩,
 ⟨(some 62),.pick (.tmp 57) (.const (.bool true)) (.tmp 61),none⟩]
def x19_32:List XOper:=[⟨(some 63),.op (.mv (.tmp 6)),none⟩,
 ⟨(some 64),.op (.mv (.tmp 0)),none⟩,
 ⟨(some 65),.op (.lenStr (.tmp 64)),none⟩,
 ⟨(some 66),.op (.bin .gtr (.tmp 63) (.tmp 65)),none⟩]
def x19_33:List XOper:=[⟨(some 4),.op (.mv (.const (.int .i64 0))),none⟩,
 ⟨(some 5),.op (.mv (.const (.int .i64 0))),none⟩]
def x19_34:XCode:=.seq (.region x19_33) .ret
def x19_35:XCode:=.cnd (.tmp 66) x19_34 .skip
def x19_36:XCode:=.seq (.region x19_32) x19_35
def x19_37:List XOper:=[⟨(some 68),.op (.mv (.tmp 0)),none⟩,
 ⟨(some 69),.op (.mv (.tmp 1)),none⟩,
 ⟨(some 70),.op (.mv (.tmp 6)),none⟩,
 ⟨(some 71),.op (.slStr (.tmp 68) (some (.tmp 69)) (some (.tmp 70))),none⟩,
 ⟨(some 72),.callF 15 [(.tmp 71)],none⟩,
 ⟨(some 67),.op (.mv (.tmp 72)),none⟩,
 ⟨(some 73),.op (.ext (.tmp 67) 0),none⟩,
 ⟨(some 74),.op (.ext (.tmp 67) 1),none⟩,
 ⟨(some 7),.op (.mv (.tmp 73)),none⟩,
 ⟨(some 8),.op (.mv (.tmp 74)),none⟩]
def x19_38:List XOper:=[⟨(some 75),.op (.mv (.tmp 8)),none⟩,
 ⟨(some 76),.op (.un .not (.tmp 75)),none⟩]
def x19_39:List XOper:=[⟨(some 4),.op (.mv (.const (.int .i64 0))),none⟩,
 ⟨(some 5),.op (.mv (.const (.int .i64 0))),none⟩]
def x19_40:XCode:=.seq (.region x19_39) .ret
def x19_41:XCode:=.cnd (.tmp 76) x19_40 .skip
def x19_42:XCode:=.seq (.region x19_38) x19_41
def x19_43:XCode:=.seq (.region x19_37) x19_42
def x19_44:List XOper:=[⟨(some 77),.op (.mv (.tmp 6)),none⟩,
 ⟨(some 4),.op (.mv (.const (.int .i64 2))),none⟩,
 ⟨(some 5),.op (.mv (.tmp 77)),none⟩]
def x19_45:XCode:=.seq (.region x19_44) .ret
def x19_46:XCode:=.seq x19_43 x19_45
def x19_47:XCode:=.seq x19_36 x19_46
def x19_48:XCode:=.cnd (.tmp 62) x19_47 .skip
def x19_49:XCode:=.seq (.region x19_31) x19_48
def x19_50:List XOper:=[⟨(some 78),.op (.build [(.string ⟨#[]⟩),(.string ⟨#[]⟩),(.string ⟨#[]⟩),(.string ⟨#[]⟩),(.string ⟨#[]⟩),(.string ⟨#[]⟩),(.string ⟨#[]⟩),(.string ⟨#[]⟩),(.string ⟨#[]⟩)] [(0,1,(.const (.string ⟨#[45,62]⟩))),(1,1,(.const (.string ⟨#[60,60]⟩))),(2,1,(.const (.string ⟨#[62,62]⟩))),(3,1,(.const (.string ⟨#[60,61]⟩))),(4,1,(.const (.string ⟨#[62,61]⟩))),(5,1,(.const (.string ⟨#[61,61]⟩))),(6,1,(.const (.string ⟨#[33,61]⟩))),(7,1,(.const (.string ⟨#[38,38]⟩))),(8,1,(.const (.string ⟨#[124,124]⟩)))]),none⟩,
 ⟨(some 9),.op (.new [(.string ⟨#[]⟩),(.string ⟨#[]⟩),(.string ⟨#[]⟩),(.string ⟨#[]⟩),(.string ⟨#[]⟩),(.string ⟨#[]⟩),(.string ⟨#[]⟩),(.string ⟨#[]⟩),(.string ⟨#[]⟩)]),none⟩,
 ⟨none,.op (.store 9 (.tmp 9) (.tmp 78)),none⟩]
def x19_51:List XOper:=[⟨(some 79),.op (.mv (.const (.int .i64 0))),none⟩]
def x19_52:List XOper:=[⟨(some 80),.op (.bin .lss (.tmp 79) (.const (.int .i64 9))),none⟩]
def x19_53:XCode:=.cnd (.tmp 80) .skip (.exit 2)
def x19_54:List XOper:=[⟨(some 81),.op (.mv (.tmp 79)),none⟩,
 ⟨(some 10),.op (.mv (.tmp 81)),none⟩]
def x19_55:List XOper:=[⟨(some 82),.op (.mv (.tmp 0)),none⟩,
 ⟨(some 83),.op (.mv (.tmp 1)),none⟩,
 ⟨(some 84),.op (.mv (.tmp 10)),none⟩,
 ⟨(some 85),.op (.iaddrA true 9 1 (.tmp 9) (.tmp 84)),none⟩,
 ⟨(some 86),.op (.load .str 1 (.tmp 85)),none⟩,
 ⟨(some 87),.callF 26 [(.tmp 82),(.tmp 83),(.tmp 86)],none⟩]
def x19_56:List XOper:=[⟨(some 88),.op (.mv (.tmp 1)),none⟩,
 ⟨(some 89),.op (.bin .add (.tmp 88) (.const (.int .i64 2))),none⟩,
 ⟨(some 4),.op (.mv (.const (.int .i64 3))),none⟩,
 ⟨(some 5),.op (.mv (.tmp 89)),none⟩]
def x19_57:XCode:=.seq (.region x19_56) .ret
def x19_58:XCode:=.cnd (.tmp 87) x19_57 .skip
def x19_59:XCode:=.seq (.region x19_55) x19_58
def x19_60:XCode:=.seq (.region x19_54) x19_59
def x19_61:XCode:=.block 3 x19_60
def x19_62:List XOper:=[⟨(some 90),.op (.bin .add (.tmp 79) (.const (.int .i64 1))),none⟩,
 ⟨(some 79),.op (.mv (.tmp 90)),none⟩]
def x19_63:XCode:=.seq x19_61 (.region x19_62)
def x19_64:XCode:=.seq x19_53 x19_63
def x19_65:XCode:=.seq (.region x19_52) x19_64
def x19_66:XCode:=.loop x19_65
def x19_67:XCode:=.block 2 x19_66
def x19_68:XCode:=.seq (.region x19_51) x19_67
def x19_69:List XOper:=[⟨(some 11),.op (.mv (.const (.string ⟨#[43,45,42,47,37,38,124,94,126,33,60,62,61,40,41,123,125,91,93,59,44,46]⟩))),none⟩]
def x19_70:List XOper:=[⟨(some 12),.op (.mv (.const (.int .i64 0))),none⟩]
def x19_71:List XOper:=[⟨(some 91),.op (.mv (.tmp 12)),none⟩,
 ⟨(some 92),.op (.mv (.tmp 11)),none⟩,
 ⟨(some 93),.op (.lenStr (.tmp 92)),none⟩,
 ⟨(some 94),.op (.bin .lss (.tmp 91) (.tmp 93)),none⟩]
def x19_72:XCode:=.cnd (.tmp 94) .skip (.exit 4)
def x19_73:XCode:=.seq (.region x19_71) x19_72
def x19_74:List XOper:=[⟨(some 97),.op (.mv (.tmp 11)),none⟩,
 ⟨(some 98),.op (.mv (.tmp 12)),none⟩,
 ⟨(some 99),.op (.idxStr (.tmp 97) (.tmp 98)),none⟩,
 ⟨(some 100),.op (.mv (.tmp 0)),none⟩,
 ⟨(some 101),.op (.mv (.tmp 1)),none⟩,
 ⟨(some 102),.op (.idxStr (.tmp 100) (.tmp 101)),none⟩,
 ⟨(some 103),.op (.bin .eql (.tmp 99) (.tmp 102)),none⟩]
def x19_75:List XOper:=[⟨(some 104),.op (.mv (.tmp 1)),none⟩,
 ⟨(some 105),.op (.bin .add (.tmp 104) (.const (.int .i64 1))),none⟩,
 ⟨(some 4),.op (.mv (.const (.int .i64 3))),none⟩,
 ⟨(some 5),.op (.mv (.tmp 105)),none⟩]
def x19_76:XCode:=.seq (.region x19_75) .ret
def x19_77:XCode:=.cnd (.tmp 103) x19_76 .skip
def x19_78:XCode:=.seq (.draw x19_74 [[],[],[0,1],[],[],[3,4],[0,1,2,3,4,5]]) x19_77
def x19_79:XCode:=.block 5 x19_78
def x19_80:List XOper:=[⟨(some 95),.op (.mv (.tmp 12)),none⟩,
 ⟨(some 96),.op (.bin .add (.tmp 95) (.const (.int .i64 1))),none⟩,
 ⟨(some 12),.op (.mv (.tmp 96)),none⟩]
def x19_81:XCode:=.seq x19_79 (.region x19_80)
def x19_82:XCode:=.seq x19_73 x19_81
def x19_83:XCode:=.loop x19_82
def x19_84:XCode:=.block 4 x19_83
def x19_85:XCode:=.seq (.region x19_70) x19_84
def x19_86:List XOper:=[⟨(some 4),.op (.mv (.const (.int .i64 0))),none⟩,
 ⟨(some 5),.op (.mv (.const (.int .i64 0))),none⟩]
def x19_87:XCode:=.seq (.region x19_86) .ret
def x19_88:XCode:=.seq x19_85 x19_87
def x19_89:XCode:=.seq (.region x19_69) x19_88
def x19_90:XCode:=.seq x19_68 x19_89
def x19_91:XCode:=.seq (.region x19_50) x19_90
def x19_92:XCode:=.seq x19_49 x19_91
def x19_93:XCode:=.seq x19_30 x19_92
def x19_94:XCode:=.seq x19_26 x19_93
def x19_95:XCode:=.seq x19_9 x19_94
def x19_96:XCode:=.seq (.region x19_1) x19_95
def x19_97:XCode:=.seq (.region x19_0) x19_96
def x19:XCode:=x19_97
theorem fx19:fnx Tryd.prog 19=some (106,[(4,none),(5,none)],x19):=by kernel_rfl
def x20_0:List XOper:=[⟨(some 2),.op (.mv (.const (.bool false))),none⟩]
def x20_1:List XOper:=[⟨(some 3),.op (.mv (.tmp 0)),none⟩,
 ⟨(some 4),.op (.bin .geq (.tmp 3) (.const (.int .u8 48))),none⟩,
 ⟨(some 5),.op (.mv (.tmp 4)),none⟩,
 ⟨(some 6),.op (.mv (.tmp 0)),(some (5,true))⟩,
 ⟨(some 7),.op (.bin .leq (.tmp 6) (.const (.int .u8 57))),(some (5,true))⟩,
 ⟨(some 8),.pick (.tmp 5) (.tmp 7) (.const (.bool false)),none⟩,
 ⟨(some 2),.op (.mv (.tmp 8)),none⟩]
def x20_2:XCode:=.seq (.region x20_1) .ret
def x20_3:XCode:=.seq (.region x20_0) x20_2
def x20:XCode:=x20_3
theorem fx20:fnx Tryd.prog 20=some (9,[(2,none)],x20):=by kernel_rfl
def x21_0:List XOper:=[⟨(some 4),.op (.mv (.const (.bool false))),none⟩]
def x21_1:List XOper:=[⟨(some 5),.op (.mv (.tmp 0)),none⟩,
 ⟨(some 6),.op (.mv (.tmp 1)),none⟩,
 ⟨(some 7),.callF 29 [(.tmp 5),(.tmp 6)],none⟩,
 ⟨(some 8),.op (.bin .geq (.tmp 7) (.const (.int .i64 0))),none⟩,
 ⟨(some 4),.op (.mv (.tmp 8)),none⟩]
def x21_2:XCode:=.seq (.region x21_1) .ret
def x21_3:XCode:=.seq (.region x21_0) x21_2
def x21:XCode:=x21_3
theorem fx21:fnx Tryd.prog 21=some (9,[(4,none)],x21):=by kernel_rfl
def x22_0:List XOper:=[⟨(some 2),.op (.mv (.const (.string ⟨#[]⟩))),none⟩]
def x22_1:List XOper:=[⟨(some 3),.op (.mv (.const (.bool true))),none⟩,
 ⟨(some 4),.op (.mv (.const (.bool false))),none⟩]
def x22_2:List XOper:=[⟨(some 5),.op (.mv (.const (.int .i64 0))),none⟩]
def x22_3:List XOper:=[⟨(some 11),.op (.mv (.tmp 5)),none⟩,
 ⟨(some 12),.op (.mv (.tmp 0)),none⟩,
 ⟨(some 13),.op (.lenStr (.tmp 12)),none⟩,
 ⟨(some 14),.op (.bin .lss (.tmp 11) (.tmp 13)),none⟩]
def x22_4:XCode:=.cnd (.tmp 14) .skip (.exit 0)
def x22_5:XCode:=.seq (.region x22_3) x22_4
def x22_6:List XOper:=[⟨(some 17),.op (.mv (.tmp 0)),none⟩,
 ⟨(some 18),.op (.mv (.tmp 5)),none⟩,
 ⟨(some 19),.op (.idxStr (.tmp 17) (.tmp 18)),none⟩,
 ⟨(some 6),.op (.mv (.tmp 19)),none⟩]
def x22_7:List XOper:=[⟨(some 20),.op (.mv (.tmp 6)),none⟩,
 ⟨(some 21),.op (.bin .geq (.tmp 20) (.const (.int .u8 128))),none⟩]
def x22_8:List XOper:=[⟨(some 3),.op (.mv (.const (.bool false))),none⟩]
def x22_9:XCode:=.seq (.region x22_8) (.exit 0)
def x22_10:XCode:=.cnd (.tmp 21) x22_9 .skip
def x22_11:XCode:=.seq (.region x22_7) x22_10
def x22_12:List XOper:=[⟨(some 22),.op (.mv (.tmp 4)),none⟩,
 ⟨(some 23),.op (.mv (.tmp 22)),none⟩,
 ⟨(some 24),.op (.mv (.tmp 6)),(some (23,false))⟩,
 ⟨(some 25),.op (.bin .leq (.const (.int .u8 65)) (.tmp 24)),(some (23,false))⟩,
 ⟨(some 26),.op (.mv (.tmp 25)),(some (23,false))⟩,
 ⟨(some 27),.op (.mv (.tmp 6)),(some (26,true))⟩,
 ⟨(some 28),.op (.bin .leq (.tmp 27) (.const (.int .u8 90))),(some (26,true))⟩,
 ⟨(some 29),.pick (.tmp 26) (.tmp 28) (.const (.bool false)),(some (23,false))⟩,
 ⟨(some 30),.pick (.tmp 23) (.const (.bool true)) (.tmp 29),none⟩,
 ⟨(some 4),.op (.mv (.tmp 30)),none⟩]
def x22_13:XCode:=.seq x22_11 (.region x22_12)
def x22_14:XCode:=.seq (.region x22_6) x22_13
def x22_15:XCode:=.block 1 x22_14
def x22_16:List XOper:=[⟨(some 15),.op (.mv (.tmp 5)),none⟩,
 ⟨(some 16),.op (.bin .add (.tmp 15) (.const (.int .i64 1))),none⟩,
 ⟨(some 5),.op (.mv (.tmp 16)),none⟩]
def x22_17:XCode:=.seq x22_15 (.region x22_16)
def x22_18:XCode:=.seq x22_5 x22_17
def x22_19:XCode:=.loop x22_18
def x22_20:XCode:=.block 0 x22_19
def x22_21:XCode:=.seq (.region x22_2) x22_20
def x22_22:List XOper:=[⟨(some 31),.op (.mv (.tmp 3)),none⟩]
def x22_23:List XOper:=[⟨(some 32),.op (.mv (.tmp 4)),none⟩,
 ⟨(some 33),.op (.un .not (.tmp 32)),none⟩]
def x22_24:List XOper:=[⟨(some 34),.op (.mv (.tmp 0)),none⟩,
 ⟨(some 2),.op (.mv (.tmp 34)),none⟩]
def x22_25:XCode:=.seq (.region x22_24) .ret
def x22_26:XCode:=.cnd (.tmp 33) x22_25 .skip
def x22_27:XCode:=.seq (.region x22_23) x22_26
def x22_28:List XOper:=[⟨(some 7),.op (.new [(.pointer none),(.slice none 0 0)]),none⟩]
def x22_29:List XOper:=[⟨(some 8),.op (.mv (.const (.int .i64 0))),none⟩]
def x22_30:List XOper:=[⟨(some 35),.op (.mv (.tmp 0)),none⟩,
 ⟨(some 36),.op (.lenStr (.tmp 35)),none⟩,
 ⟨(some 37),.callF 37 [(.tmp 7),(.tmp 36)],none⟩]
def x22_31:List XOper:=[⟨(some 9),.op (.mv (.const (.int .i64 0))),none⟩]
def x22_32:List XOper:=[⟨(some 38),.op (.mv (.tmp 9)),none⟩,
 ⟨(some 39),.op (.mv (.tmp 0)),none⟩,
 ⟨(some 40),.op (.lenStr (.tmp 39)),none⟩,
 ⟨(some 41),.op (.bin .lss (.tmp 38) (.tmp 40)),none⟩]
def x22_33:XCode:=.cnd (.tmp 41) .skip (.exit 2)
def x22_34:XCode:=.seq (.region x22_32) x22_33
def x22_35:List XOper:=[⟨(some 44),.op (.mv (.tmp 0)),none⟩,
 ⟨(some 45),.op (.mv (.tmp 9)),none⟩,
 ⟨(some 46),.op (.idxStr (.tmp 44) (.tmp 45)),none⟩,
 ⟨(some 10),.op (.mv (.tmp 46)),none⟩]
def x22_36:List XOper:=[⟨(some 47),.op (.mv (.tmp 10)),none⟩,
 ⟨(some 48),.op (.bin .leq (.const (.int .u8 65)) (.tmp 47)),none⟩,
 ⟨(some 49),.op (.mv (.tmp 48)),none⟩,
 ⟨(some 50),.op (.mv (.tmp 10)),(some (49,true))⟩,
 ⟨(some 51),.op (.bin .leq (.tmp 50) (.const (.int .u8 90))),(some (49,true))⟩,
 ⟨(some 52),.pick (.tmp 49) (.tmp 51) (.const (.bool false)),none⟩]
def x22_37:List XOper:=[⟨(some 53),.op (.mv (.tmp 10)),none⟩,
 ⟨(some 54),.op (.bin .add (.tmp 53) (.const (.int .u8 32))),none⟩,
 ⟨(some 10),.op (.mv (.tmp 54)),none⟩]
def x22_38:List XOper:=[⟨(some 55),.op (.mv (.tmp 8)),none⟩,
 ⟨(some 56),.op (.mv (.tmp 9)),none⟩,
 ⟨(some 57),.op (.bin .lss (.tmp 55) (.tmp 56)),none⟩]
def x22_39:List XOper:=[⟨(some 58),.op (.mv (.tmp 0)),none⟩,
 ⟨(some 59),.op (.mv (.tmp 8)),none⟩,
 ⟨(some 60),.op (.mv (.tmp 9)),none⟩,
 ⟨(some 61),.op (.slStr (.tmp 58) (some (.tmp 59)) (some (.tmp 60))),none⟩,
 ⟨(some 62),.callF 38 [(.tmp 7),(.tmp 61)],none⟩]
def x22_40:XCode:=.cnd (.tmp 57) (.region x22_39) .skip
def x22_41:XCode:=.seq (.region x22_38) x22_40
def x22_42:List XOper:=[⟨(some 63),.op (.mv (.tmp 10)),none⟩,
 ⟨(some 64),.callF 39 [(.tmp 7),(.tmp 63)],none⟩]
def x22_43:List XOper:=[⟨(some 65),.op (.mv (.tmp 9)),none⟩,
 ⟨(some 66),.op (.bin .add (.tmp 65) (.const (.int .i64 1))),none⟩,
 ⟨(some 8),.op (.mv (.tmp 66)),none⟩]
def x22_44:XCode:=.seq (.region x22_42) (.region x22_43)
def x22_45:XCode:=.seq x22_41 x22_44
def x22_46:XCode:=.seq (.region x22_37) x22_45
def x22_47:XCode:=.cnd (.tmp 52) x22_46 .skip
def x22_48:XCode:=.seq (.region x22_36) x22_47
def x22_49:XCode:=.seq (.region x22_35) x22_48
def x22_50:XCode:=.block 3 x22_49
def x22_51:List XOper:=[⟨(some 42),.op (.mv (.tmp 9)),none⟩,
 ⟨(some 43),.op (.bin .add (.tmp 42) (.const (.int .i64 1))),none⟩,
 ⟨(some 9),.op (.mv (.tmp 43)),none⟩]
def x22_52:XCode:=.seq x22_50 (.region x22_51)
def x22_53:XCode:=.seq x22_34 x22_52
def x22_54:XCode:=.loop x22_53
def x22_55:XCode:=.block 2 x22_54
def x22_56:XCode:=.seq (.region x22_31) x22_55
def x22_57:List XOper:=[⟨(some 67),.op (.mv (.tmp 8)),none⟩,
 ⟨(some 68),.op (.mv (.tmp 0)),none⟩,
 ⟨(some 69),.op (.lenStr (.tmp 68)),none⟩,
 ⟨(some 70),.op (.bin .lss (.tmp 67) (.tmp 69)),none⟩]
def x22_58:List XOper:=[⟨(some 71),.op (.mv (.tmp 0)),none⟩,
 ⟨(some 72),.op (.mv (.tmp 8)),none⟩,
 ⟨(some 73),.op (.slStr (.tmp 71) (some (.tmp 72)) none),none⟩,
 ⟨(some 74),.callF 38 [(.tmp 7),(.tmp 73)],none⟩]
def x22_59:XCode:=.cnd (.tmp 70) (.region x22_58) .skip
def x22_60:XCode:=.seq (.region x22_57) x22_59
def x22_61:List XOper:=[⟨(some 75),.callF 40 [(.tmp 7)],none⟩,
 ⟨(some 2),.op (.mv (.tmp 75)),none⟩]
def x22_62:XCode:=.seq (.region x22_61) .ret
def x22_63:XCode:=.seq x22_60 x22_62
def x22_64:XCode:=.seq x22_56 x22_63
def x22_65:XCode:=.seq (.region x22_30) x22_64
def x22_66:XCode:=.seq (.region x22_29) x22_65
def x22_67:XCode:=.seq (.region x22_28) x22_66
def x22_68:XCode:=.seq x22_27 x22_67
def x22_69:XCode:=.cnd (.tmp 31) x22_68 .skip
def x22_70:XCode:=.seq (.region x22_22) x22_69
def x22_71:List XOper:=[⟨(some 76),.op (.mv (.tmp 0)),none⟩,
 ⟨(some 77),.callF 41 [(.func 42),(.tmp 76)],none⟩,
 ⟨(some 2),.op (.mv (.tmp 77)),none⟩]
def x22_72:XCode:=.seq (.region x22_71) .ret
def x22_73:XCode:=.seq x22_70 x22_72
def x22_74:XCode:=.seq x22_21 x22_73
def x22_75:XCode:=.seq (.region x22_1) x22_74
def x22_76:XCode:=.seq (.region x22_0) x22_75
def x22:XCode:=x22_76
theorem fx22:fnx Tryd.prog 22=some (78,[(2,none)],x22):=by kernel_rfl
def x23_0:List XOper:=[⟨(some 4),.op (.mv (.const (.string ⟨#[]⟩))),none⟩,
 ⟨(some 5),.op (.mv (.const (.bool false))),none⟩]
def x23_1:List XOper:=[⟨(some 6),.op (.mv (.tmp 0)),none⟩,
 ⟨(some 7),.op (.mv (.tmp 1)),none⟩,
 ⟨(some 8),.callF 43 [(.tmp 6),(.tmp 7)],none⟩,
 ⟨(some 9),.op (.ext (.tmp 8) 0),none⟩,
 ⟨(some 10),.op (.ext (.tmp 8) 1),none⟩,
 ⟨(some 4),.op (.mv (.tmp 9)),none⟩,
 ⟨(some 5),.op (.mv (.tmp 10)),none⟩]
def x23_2:XCode:=.seq (.region x23_1) .ret
def x23_3:XCode:=.seq (.region x23_0) x23_2
def x23:XCode:=x23_3
theorem fx23:fnx Tryd.prog 23=some (11,[(4,none),(5,none)],x23):=by kernel_rfl
def x24_0:List XOper:=[⟨(some 6),.op (.mv (.const (.int .u64 0))),none⟩,
 ⟨(some 7),.op (.mv (.const .nilIface)),none⟩]
def x24_1:List XOper:=[⟨(some 11),.op (.mv (.tmp 0)),none⟩,
 ⟨(some 12),.op (.mv (.tmp 1)),none⟩,
 ⟨(some 13),.op (.mv (.tmp 2)),none⟩,
 ⟨(some 14),.callF 44 [(.tmp 11),(.tmp 12),(.tmp 13)],none⟩,
 ⟨(some 10),.op (.mv (.tmp 14)),none⟩,
 ⟨(some 15),.op (.ext (.tmp 10) 0),none⟩,
 ⟨(some 16),.op (.ext (.tmp 10) 1),none⟩,
 ⟨(some 8),.op (.mv (.tmp 15)),none⟩,
 ⟨(some 9),.op (.mv (.tmp 16)),none⟩]
def x24_2:List XOper:=[⟨(some 17),.op (.mv (.tmp 9)),none⟩,
 ⟨(some 18),.op (.eqnil 4 true (.tmp 17) (.const .nilIface)),none⟩]
def x24_3:List XOper:=[⟨(some 19),.op (.mv (.tmp 8)),none⟩,
 ⟨(some 20),.op (.mv (.tmp 0)),none⟩,
 ⟨(some 21),.op (.mv (.tmp 1)),none⟩,
 ⟨(some 22),.op (.mv (.tmp 2)),none⟩,
 ⟨(some 23),.op (.mv (.tmp 9)),none⟩,
 ⟨(some 24),.callF 45 [(.const (.string ⟨#[80,97,114,115,101,85,105,110,116]⟩)),(.tmp 20),(.tmp 21),(.tmp 22),(.tmp 23)],none⟩,
 ⟨(some 6),.op (.mv (.tmp 19)),none⟩,
 ⟨(some 7),.op (.mv (.tmp 24)),none⟩]
def x24_4:XCode:=.seq (.region x24_3) .ret
def x24_5:XCode:=.cnd (.tmp 18) x24_4 .skip
def x24_6:XCode:=.seq (.region x24_2) x24_5
def x24_7:List XOper:=[⟨(some 25),.op (.mv (.tmp 8)),none⟩,
 ⟨(some 6),.op (.mv (.tmp 25)),none⟩,
 ⟨(some 7),.op (.mv (.const .nilIface)),none⟩]
def x24_8:XCode:=.seq (.region x24_7) .ret
def x24_9:XCode:=.seq x24_6 x24_8
def x24_10:XCode:=.seq (.region x24_1) x24_9
def x24_11:XCode:=.seq (.region x24_0) x24_10
def x24:XCode:=x24_11
theorem fx24:fnx Tryd.prog 24=some (26,[(6,none),(7,none)],x24):=by kernel_rfl
def x25_0:List XOper:=[⟨(some 2),.op (.mv (.const (.bool false))),none⟩]
def x25_1:List XOper:=[⟨(some 3),.op (.mv (.tmp 0)),none⟩,
 ⟨(some 4),.op (.bin .geq (.tmp 3) (.const (.int .u8 48))),none⟩,
 ⟨(some 5),.op (.mv (.tmp 4)),none⟩,
 ⟨(some 6),.op (.mv (.tmp 0)),(some (5,true))⟩,
 ⟨(some 7),.op (.bin .leq (.tmp 6) (.const (.int .u8 57))),(some (5,true))⟩,
 ⟨(some 8),.pick (.tmp 5) (.tmp 7) (.const (.bool false)),none⟩,
 ⟨(some 2),.op (.mv (.tmp 8)),none⟩]
def x25_2:XCode:=.seq (.region x25_1) .ret
def x25_3:XCode:=.seq (.region x25_0) x25_2
def x25:XCode:=x25_3
theorem fx25:fnx Tryd.prog 25=some (9,[(2,none)],x25):=by kernel_rfl
def x26_0:List XOper:=[⟨(some 6),.op (.mv (.const (.bool false))),none⟩]
def x26_1:List XOper:=[⟨(some 7),.op (.mv (.tmp 1)),none⟩,
 ⟨(some 8),.op (.mv (.tmp 2)),none⟩,
 ⟨(some 9),.op (.lenStr (.tmp 8)),none⟩,
 ⟨(some 10),.op (.bin .add (.tmp 7) (.tmp 9)),none⟩,
 ⟨(some 11),.op (.mv (.tmp 0)),none⟩,
 ⟨(some 12),.op (.lenStr (.tmp 11)),none⟩,
 ⟨(some 13),.op (.bin .leq (.tmp 10) (.tmp 12)),none⟩,
 ⟨(some 14),.op (.mv (.tmp 13)),none⟩,
 ⟨(some 15),.op (.mv (.tmp 0)),(some (14,true))⟩,
 ⟨(some 16),.op (.mv (.tmp 1)),(some (14,true))⟩,
 ⟨(some 17),.op (.mv (.tmp 1)),(some (14,true))⟩,
 ⟨(some 18),.op (.mv (.tmp 2)),(some (14,true))⟩,
 ⟨(some 19),.op (.lenStr (.tmp 18)),(some (14,true))⟩,
 ⟨(some 20),.op (.bin .add (.tmp 17) (.tmp 19)),(some (14,true))⟩,
 ⟨(some 21),.op (.slStr (.tmp 15) (some (.tmp 16)) (some (.tmp 20))),(some (14,true))⟩,
 ⟨(some 22),.op (.mv (.tmp 2)),(some (14,true))⟩,
 ⟨(some 23),.op (.bin .eql (.tmp 21) (.tmp 22)),(some (14,true))⟩,
 ⟨(some 24),.pick (.tmp 14) (.tmp 23) (.const (.bool false)),none⟩,
 ⟨(some 6),.op (.mv (.tmp 24)),none⟩]
def x26_2:XCode:=.seq (.region x26_1) .ret
def x26_3:XCode:=.seq (.region x26_0) x26_2
def x26:XCode:=x26_3
theorem fx26:fnx Tryd.prog 26=some (25,[(6,none)],x26):=by kernel_rfl
def x27_0:List XOper:=[⟨(some 4),.op (.mv (.const (.int .i64 0))),none⟩]
def x27_1:List XOper:=[⟨(some 5),.op (.mv (.tmp 0)),none⟩,
 ⟨(some 6),.op (.mv (.tmp 1)),none⟩,
 ⟨(some 7),.callF 46 [(.tmp 5),(.tmp 6)],none⟩,
 ⟨(some 4),.op (.mv (.tmp 7)),none⟩]
def x27_2:XCode:=.seq (.region x27_1) .ret
def x27_3:XCode:=.seq (.region x27_0) x27_2
def x27:XCode:=x27_3
theorem fx27:fnx Tryd.prog 27=some (8,[(4,none)],x27):=by kernel_rfl
def x28_0:List XOper:=[⟨(some 4),.op (.mv (.const (.bool false))),none⟩]
def x28_1:List XOper:=[⟨(some 5),.op (.mv (.tmp 0)),none⟩,
 ⟨(some 6),.op (.mv (.tmp 1)),none⟩,
 ⟨(some 7),.callF 47 [(.tmp 5),(.tmp 6)],none⟩,
 ⟨(some 4),.op (.mv (.tmp 7)),none⟩]
def x28_2:XCode:=.seq (.region x28_1) .ret
def x28_3:XCode:=.seq (.region x28_0) x28_2
def x28:XCode:=x28_3
theorem fx28:fnx Tryd.prog 28=some (8,[(4,none)],x28):=by kernel_rfl
def x29_0:List XOper:=[⟨(some 4),.op (.mv (.const (.int .i64 0))),none⟩]
def x29_1:List XOper:=[⟨(some 5),.op (.mv (.tmp 0)),none⟩,
 ⟨(some 6),.op (.mv (.tmp 1)),none⟩,
 ⟨(some 7),.callF 48 [(.tmp 5),(.tmp 6)],none⟩,
 ⟨(some 4),.op (.mv (.tmp 7)),none⟩]
def x29_2:XCode:=.seq (.region x29_1) .ret
def x29_3:XCode:=.seq (.region x29_0) x29_2
def x29:XCode:=x29_3
theorem fx29:fnx Tryd.prog 29=some (8,[(4,none)],x29):=by kernel_rfl
def x30_0:List XOper:=[⟨(some 2),.op (.mv (.const (.bool false))),none⟩]
def x30_1:List XOper:=[⟨(some 3),.op (.mv (.tmp 0)),none⟩,
 ⟨(some 4),.op (.bin .eql (.tmp 3) (.const (.int .u8 95))),none⟩,
 ⟨(some 5),.op (.mv (.tmp 4)),none⟩,
 ⟨(some 6),.op (.mv (.tmp 0)),(some (5,false))⟩,
 ⟨(some 7),.op (.bin .or (.tmp 6) (.const (.int .u8 32))),(some (5,false))⟩,
 ⟨(some 8),.op (.bin .geq (.tmp 7) (.const (.int .u8 97))),(some (5,false))⟩,
 ⟨(some 9),.op (.mv (.tmp 8)),(some (5,false))⟩,
 ⟨(some 10),.op (.mv (.tmp 0)),(some (9,true))⟩,
 ⟨(some 11),.op (.bin .or (.tmp 10) (.const (.int .u8 32))),(some (9,true))⟩,
 ⟨(some 12),.op (.bin .leq (.tmp 11) (.const (.int .u8 122))),(some (9,true))⟩,
 ⟨(some 13),.pick (.tmp 9) (.tmp 12) (.const (.bool false)),(some (5,false))⟩,
 ⟨(some 14),.pick (.tmp 5) (.const (.bool true)) (.tmp 13),none⟩,
 ⟨(some 2),.op (.mv (.tmp 14)),none⟩]
def x30_2:XCode:=.seq (.region x30_1) .ret
def x30_3:XCode:=.seq (.region x30_0) x30_2
def x30:XCode:=x30_3
theorem fx30:fnx Tryd.prog 30=some (15,[(2,none)],x30):=by kernel_rfl
def x31_0:List XOper:=[⟨(some 2),.op (.mv (.const (.int .i64 0))),none⟩]
def x31_1:List XOper:=[⟨(some 3),.op (.mv (.const (.int .i64 0))),none⟩]
def x31_2:List XOper:=[⟨(some 4),.op (.mv (.tmp 3)),none⟩,
 ⟨(some 5),.op (.mv (.tmp 0)),none⟩,
 ⟨(some 6),.op (.lenStr (.tmp 5)),none⟩,
 ⟨(some 7),.op (.bin .lss (.tmp 4) (.tmp 6)),none⟩,
 ⟨(some 8),.op (.mv (.tmp 7)),none⟩,
 ⟨(some 9),.op (.mv (.tmp 0)),(some (8,true))⟩,
 ⟨(some 10),.op (.mv (.tmp 3)),(some (8,true))⟩,
 ⟨(some 11),.op (.idxStr (.tmp 9) (.tmp 10)),(some (8,true))⟩,
 ⟨(some 12),.callF 30 [(.tmp 11)],(some (8,true))⟩,
 ⟨(some 13),.op (.mv (.tmp 12)),(some (8,true))⟩,
 ⟨(some 14),.op (.mv (.tmp 0)),(some (13,false))⟩,
 ⟨(some 15),.op (.mv (.tmp 3)),(some (13,false))⟩,
 ⟨(some 16),.op (.idxStr (.tmp 14) (.tmp 15)),(some (13,false))⟩,
 ⟨(some 17),.callF 20 [(.tmp 16)],(some (13,false))⟩,
 ⟨(some 18),.pick (.tmp 13) (.const (.bool true)) (.tmp 17),(some (8,true))⟩,
 ⟨(some 19),.pick (.tmp 8) (.tmp 18) (.const (.bool false)),none⟩]
def x31_3:XCode:=.cnd (.tmp 19) .skip (.exit 0)
def x31_4:XCode:=.seq (.region x31_2) x31_3
def x31_5:List XOper:=[⟨(some 20),.op (.mv (.tmp 3)),none⟩,
 ⟨(some 21),.op (.bin .add (.tmp 20) (.const (.int .i64 1))),none⟩,
 ⟨(some 3),.op (.mv (.tmp 21)),none⟩]
def x31_6:XCode:=.block 1 (.region x31_5)
def x31_7:XCode:=.seq x31_4 x31_6
def x31_8:XCode:=.loop x31_7
def x31_9:XCode:=.block 0 x31_8
def x31_10:List XOper:=[⟨(some 22),.op (.mv (.tmp 3)),none⟩,
 ⟨(some 2),.op (.mv (.tmp 22)),none⟩]
def x31_11:XCode:=.seq (.region x31_10) .ret
def x31_12:XCode:=.seq x31_9 x31_11
def x31_13:XCode:=.seq (.region x31_1) x31_12
def x31_14:XCode:=.seq (.region x31_0) x31_13
def x31:XCode:=x31_14
theorem fx31:fnx Tryd.prog 31=some (23,[(2,none)],x31):=by kernel_rfl
def x32_0:List XOper:=[⟨(some 4),.op (.mv (.const (.bool false))),none⟩]
def x32_1:List XOper:=[⟨(some 5),.op (.mv (.tmp 0)),none⟩,
 ⟨(some 6),.op (.mv (.tmp 1)),none⟩,
 ⟨(some 7),.callF 49 [(.tmp 5),(.tmp 6)],none⟩,
 ⟨(some 8),.op (.bin .geq (.tmp 7) (.const (.int .i64 0))),none⟩,
 ⟨(some 4),.op (.mv (.tmp 8)),none⟩]
def x32_2:XCode:=.seq (.region x32_1) .ret
def x32_3:XCode:=.seq (.region x32_0) x32_2
def x32:XCode:=x32_3
theorem fx32:fnx Tryd.prog 32=some (9,[(4,none)],x32):=by kernel_rfl
def x33_0:List XOper:=[⟨(some 0),.op (.mv (.const (.slice none 0 0))),none⟩]
def x33_1:List XOper:=[⟨(some 1),.callF 50 [(.const (.string ⟨#[99,104,97,114,32,105,110,116,32,108,111,110,103,32,118,111,105,100,32,115,116,114,117,99,116,32,105,102,32,101,108,115,101,32,119,104,105,108,101,32,114,101,116,117,114,110,32,98,114,101,97,107,32,99,111,110,116,105,110,117,101,32,115,105,122,101,111,102,32,109,97,108,108,111,99]⟩))],none⟩,
 ⟨(some 0),.op (.mv (.tmp 1)),none⟩]
def x33_2:XCode:=.seq (.region x33_1) .ret
def x33_3:XCode:=.seq (.region x33_0) x33_2
def x33:XCode:=x33_3
theorem fx33:fnx Tryd.prog 33=some (2,[(0,none)],x33):=by kernel_rfl
def x34_0:List XOper:=[⟨(some 0),.op (.mv (.const (.map none))),none⟩]
def x34_1:List XOper:=[⟨(some 1),.op (.mkmap 68 3 (.int .i64 0)),none⟩,
 ⟨(some 2),.op (.build [(.int .u8 0),(.int .u8 0)] [(0,1,(.const (.int .u8 45))),(1,1,(.const (.int .u8 62)))]),none⟩,
 ⟨none,.op (.mapupd 68 3 (.array 2 5) (.tmp 1) (.tmp 2) (.const (.int .i64 2))),none⟩,
 ⟨(some 3),.op (.build [(.int .u8 0),(.int .u8 0)] [(0,1,(.const (.int .u8 60))),(1,1,(.const (.int .u8 60)))]),none⟩,
 ⟨none,.op (.mapupd 68 3 (.array 2 5) (.tmp 1) (.tmp 3) (.const (.int .i64 2))),none⟩,
 ⟨(some 4),.op (.build [(.int .u8 0),(.int .u8 0)] [(0,1,(.const (.int .u8 62))),(1,1,(.const (.int .u8 62)))]),none⟩,
 ⟨none,.op (.mapupd 68 3 (.array 2 5) (.tmp 1) (.tmp 4) (.const (.int .i64 2))),none⟩,
 ⟨(some 5),.op (.build [(.int .u8 0),(.int .u8 0)] [(0,1,(.const (.int .u8 60))),(1,1,(.const (.int .u8 61)))]),none⟩,
 ⟨none,.op (.mapupd 68 3 (.array 2 5) (.tmp 1) (.tmp 5) (.const (.int .i64 2))),none⟩,
 ⟨(some 6),.op (.build [(.int .u8 0),(.int .u8 0)] [(0,1,(.const (.int .u8 62))),(1,1,(.const (.int .u8 61)))]),none⟩,
 ⟨none,.op (.mapupd 68 3 (.array 2 5) (.tmp 1) (.tmp 6) (.const (.int .i64 2))),none⟩,
 ⟨(some 7),.op (.build [(.int .u8 0),(.int .u8 0)] [(0,1,(.const (.int .u8 61))),(1,1,(.const (.int .u8 61)))]),none⟩,
 ⟨none,.op (.mapupd 68 3 (.array 2 5) (.tmp 1) (.tmp 7) (.const (.int .i64 2))),none⟩,
 ⟨(some 8),.op (.build [(.int .u8 0),(.int .u8 0)] [(0,1,(.const (.int .u8 33))),(1,1,(.const (.int .u8 61)))]),none⟩,
 ⟨none,.op (.mapupd 68 3 (.array 2 5) (.tmp 1) (.tmp 8) (.const (.int .i64 2))),none⟩,
 ⟨(some 9),.op (.build [(.int .u8 0),(.int .u8 0)] [(0,1,(.const (.int .u8 38))),(1,1,(.const (.int .u8 38)))]),none⟩,
 ⟨none,.op (.mapupd 68 3 (.array 2 5) (.tmp 1) (.tmp 9) (.const (.int .i64 2))),none⟩,
 ⟨(some 10),.op (.build [(.int .u8 0),(.int .u8 0)] [(0,1,(.const (.int .u8 124))),(1,1,(.const (.int .u8 124)))]),none⟩,
 ⟨none,.op (.mapupd 68 3 (.array 2 5) (.tmp 1) (.tmp 10) (.const (.int .i64 2))),none⟩,
 ⟨(some 11),.op (.mv (.tmp 1)),none⟩,
 ⟨(some 0),.op (.mv (.tmp 11)),none⟩]
def x34_2:XCode:=.seq (.draw x34_1 [[],[],[0,1],[],[0,3],[],[0,5],[],[0,7],[],[0,9],[],[0,11],[],[0,13],[],[0,15],[],[0,17],[0,1,2,3,4,5,6,7,8,9,10,11,12,13,14,15,16,17,18],[0,1,2,3,4,5,6,7,8,9,10,11,12,13,14,15,16,17,18,19]]) .ret
def x34_3:XCode:=.seq (.region x34_0) x34_2
def x34:XCode:=x34_3
theorem fx34:fnx Tryd.prog 34=some (12,[(0,none)],x34):=by kernel_rfl
def x35_0:List XOper:=[⟨(some 2),.op (.mv (.const (.bool false))),none⟩]
def x35_1:List XOper:=[⟨(some 3),.op (.mv (.tmp 0)),none⟩,
 ⟨(some 4),.op (.bin .geq (.tmp 3) (.const (.int .u8 97))),none⟩,
 ⟨(some 5),.op (.mv (.tmp 4)),none⟩,
 ⟨(some 6),.op (.mv (.tmp 0)),(some (5,true))⟩,
 ⟨(some 7),.op (.bin .leq (.tmp 6) (.const (.int .u8 122))),(some (5,true))⟩,
 ⟨(some 8),.pick (.tmp 5) (.tmp 7) (.const (.bool false)),none⟩,
 ⟨(some 9),.op (.mv (.tmp 8)),none⟩,
 ⟨(some 10),.op (.mv (.tmp 0)),(some (9,false))⟩,
 ⟨(some 11),.op (.bin .geq (.tmp 10) (.const (.int .u8 65))),(some (9,false))⟩,
 ⟨(some 12),.op (.mv (.tmp 11)),(some (9,false))⟩,
 ⟨(some 13),.op (.mv (.tmp 0)),(some (12,true))⟩,
 ⟨(some 14),.op (.bin .leq (.tmp 13) (.const (.int .u8 90))),(some (12,true))⟩,
 ⟨(some 15),.pick (.tmp 12) (.tmp 14) (.const (.bool false)),(some (9,false))⟩,
 ⟨(some 16),.pick (.tmp 9) (.const (.bool true)) (.tmp 15),none⟩,
 ⟨(some 17),.op (.mv (.tmp 16)),none⟩,
 ⟨(some 18),.op (.mv (.tmp 0)),(some (17,false))⟩,
 ⟨(some 19),.op (.bin .eql (.tmp 18) (.const (.int .u8 95))),(some (17,false))⟩,
 ⟨(some 20),.pick (.tmp 17) (.const (.bool true)) (.tmp 19),none⟩,
 ⟨(some 2),.op (.mv (.tmp 20)),none⟩]
def x35_2:XCode:=.seq (.region x35_1) .ret
def x35_3:XCode:=.seq (.region x35_0) x35_2
def x35:XCode:=x35_3
theorem fx35:fnx Tryd.prog 35=some (21,[(2,none)],x35):=by kernel_rfl
def x36_0:List XOper:=[⟨(some 2),.op (.mv (.const (.bool false))),none⟩]
def x36_1:List XOper:=[⟨(some 5),.op (.build [(.string ⟨#[]⟩),(.string ⟨#[]⟩),(.string ⟨#[]⟩),(.string ⟨#[]⟩),(.string ⟨#[]⟩),(.string ⟨#[]⟩),(.string ⟨#[]⟩),(.string ⟨#[]⟩),(.string ⟨#[]⟩),(.string ⟨#[]⟩),(.string ⟨#[]⟩),(.string ⟨#[]⟩),(.string ⟨#[]⟩)] [(0,1,(.const (.string ⟨#[99,104,97,114]⟩))),(1,1,(.const (.string ⟨#[105,110,116]⟩))),(2,1,(.const (.string ⟨#[108,111,110,103]⟩))),(3,1,(.const (.string ⟨#[118,111,105,100]⟩))),(4,1,(.const (.string ⟨#[115,116,114,117,99,116]⟩))),(5,1,(.const (.string ⟨#[105,102]⟩))),(6,1,(.const (.string ⟨#[101,108,115,101]⟩))),(7,1,(.const (.string ⟨#[119,104,105,108,101]⟩))),(8,1,(.const (.string ⟨#[114,101,116,117,114,110]⟩))),(9,1,(.const (.string ⟨#[98,114,101,97,107]⟩))),(10,1,(.const (.string ⟨#[99,111,110,116,105,110,117,101]⟩))),(11,1,(.const (.string ⟨#[115,105,122,101,111,102]⟩))),(12,1,(.const (.string ⟨#[109,97,108,108,111,99]⟩)))]),none⟩,
 ⟨(some 3),.op (.new [(.string ⟨#[]⟩),(.string ⟨#[]⟩),(.string ⟨#[]⟩),(.string ⟨#[]⟩),(.string ⟨#[]⟩),(.string ⟨#[]⟩),(.string ⟨#[]⟩),(.string ⟨#[]⟩),(.string ⟨#[]⟩),(.string ⟨#[]⟩),(.string ⟨#[]⟩),(.string ⟨#[]⟩),(.string ⟨#[]⟩)]),none⟩,
 ⟨none,.op (.store 13 (.tmp 3) (.tmp 5)),none⟩]
def x36_2:List XOper:=[⟨(some 6),.op (.mv (.const (.int .i64 0))),none⟩]
def x36_3:List XOper:=[⟨(some 7),.op (.bin .lss (.tmp 6) (.const (.int .i64 13))),none⟩]
def x36_4:XCode:=.cnd (.tmp 7) .skip (.exit 0)
def x36_5:List XOper:=[⟨(some 8),.op (.mv (.tmp 6)),none⟩,
 ⟨(some 4),.op (.mv (.tmp 8)),none⟩]
def x36_6:List XOper:=[⟨(some 9),.op (.mv (.tmp 4)),none⟩,
 ⟨(some 10),.op (.iaddrA true 13 1 (.tmp 3) (.tmp 9)),none⟩,
 ⟨(some 11),.op (.load .str 1 (.tmp 10)),none⟩,
 ⟨(some 12),.op (.mv (.tmp 0)),none⟩,
 ⟨(some 13),.op (.bin .eql (.tmp 11) (.tmp 12)),none⟩]
def x36_7:List XOper:=[⟨(some 2),.op (.mv (.const (.bool true))),none⟩]
def x36_8:XCode:=.seq (.region x36_7) .ret
def x36_9:XCode:=.cnd (.tmp 13) x36_8 .skip
def x36_10:XCode:=.seq (.region x36_6) x36_9
def x36_11:XCode:=.seq (.region x36_5) x36_10
def x36_12:XCode:=.block 1 x36_11
def x36_13:List XOper:=[⟨(some 14),.op (.bin .add (.tmp 6) (.const (.int .i64 1))),none⟩,
 ⟨(some 6),.op (.mv (.tmp 14)),none⟩]
def x36_14:XCode:=.seq x36_12 (.region x36_13)
def x36_15:XCode:=.seq x36_4 x36_14
def x36_16:XCode:=.seq (.region x36_3) x36_15
def x36_17:XCode:=.loop x36_16
def x36_18:XCode:=.block 0 x36_17
def x36_19:XCode:=.seq (.region x36_2) x36_18
def x36_20:List XOper:=[⟨(some 2),.op (.mv (.const (.bool false))),none⟩]
def x36_21:XCode:=.seq (.region x36_20) .ret
def x36_22:XCode:=.seq x36_19 x36_21
def x36_23:XCode:=.seq (.region x36_1) x36_22
def x36_24:XCode:=.seq (.region x36_0) x36_23
def x36:XCode:=x36_24
theorem fx36:fnx Tryd.prog 36=some (15,[(2,none)],x36):=by kernel_rfl
def x38_0:List XOper:=[⟨(some 4),.op (.mv (.const (.int .i64 0))),none⟩,
 ⟨(some 5),.op (.mv (.const .nilIface)),none⟩]
def x38_1:List XOper:=[⟨(some 6),.op (.mv (.tmp 0)),none⟩,
 ⟨(some 7),.callF 51 [(.tmp 6)],none⟩]
def x38_2:List XOper:=[⟨(some 8),.op (.mv (.tmp 0)),none⟩,
 ⟨(some 9),.op (.mv (.tmp 0)),none⟩,
 ⟨(some 10),.op (.nilck (.tmp 9)),none⟩,
 ⟨(some 11),.op (.faddr 1 (.tmp 10)),none⟩,
 ⟨(some 12),.op (.load .one 1 (.tmp 11)),none⟩,
 ⟨(some 13),.op (.mv (.tmp 1)),none⟩,
 ⟨(some 14),.op (.app 1 1 (.tmp 12) (.tmp 13)),none⟩,
 ⟨(some 15),.op (.nilck (.tmp 8)),none⟩,
 ⟨(some 16),.op (.faddr 1 (.tmp 15)),none⟩,
 ⟨none,.op (.store 1 (.tmp 16) (.tmp 14)),none⟩]
def x38_3:List XOper:=[⟨(some 17),.op (.mv (.tmp 1)),none⟩,
 ⟨(some 18),.op (.lenStr (.tmp 17)),none⟩,
 ⟨(some 4),.op (.mv (.tmp 18)),none⟩,
 ⟨(some 5),.op (.mv (.const .nilIface)),none⟩]
def x38_4:XCode:=.seq (.region x38_3) .ret
def x38_5:XCode:=.seq (.region x38_2) x38_4
def x38_6:XCode:=.seq (.region x38_1) x38_5
def x38_7:XCode:=.seq (.region x38_0) x38_6
def x38:XCode:=x38_7
theorem fx38:fnx Tryd.prog 38=some (19,[(4,none),(5,none)],x38):=by kernel_rfl
def x39_0:List XOper:=[⟨(some 4),.op (.mv (.const .nilIface)),none⟩]
def x39_1:List XOper:=[⟨(some 5),.op (.mv (.tmp 0)),none⟩,
 ⟨(some 6),.callF 51 [(.tmp 5)],none⟩]
def x39_2:List XOper:=[⟨(some 7),.op (.mv (.tmp 0)),none⟩,
 ⟨(some 8),.op (.mv (.tmp 0)),none⟩,
 ⟨(some 9),.op (.nilck (.tmp 8)),none⟩,
 ⟨(some 10),.op (.faddr 1 (.tmp 9)),none⟩,
 ⟨(some 11),.op (.load .one 1 (.tmp 10)),none⟩,
 ⟨(some 12),.op (.mv (.tmp 1)),none⟩,
 ⟨(some 13),.op (.mkslice [(.int .u8 0)] 1 [(0,(.tmp 12))]),none⟩,
 ⟨(some 14),.op (.app 1 1 (.tmp 11) (.tmp 13)),none⟩,
 ⟨(some 15),.op (.nilck (.tmp 7)),none⟩,
 ⟨(some 16),.op (.faddr 1 (.tmp 15)),none⟩,
 ⟨none,.op (.store 1 (.tmp 16) (.tmp 14)),none⟩]
def x39_3:List XOper:=[⟨(some 4),.op (.mv (.const .nilIface)),none⟩]
def x39_4:XCode:=.seq (.region x39_3) .ret
def x39_5:XCode:=.seq (.region x39_2) x39_4
def x39_6:XCode:=.seq (.region x39_1) x39_5
def x39_7:XCode:=.seq (.region x39_0) x39_6
def x39:XCode:=x39_7
theorem fx39:fnx Tryd.prog 39=some (17,[(4,none)],x39):=by kernel_rfl
def x42_0:List XOper:=[⟨(some 2),.op (.mv (.const (.int .i32 0))),none⟩]
def x42_1:List XOper:=[⟨(some 3),.op (.mv (.tmp 0)),none⟩,
 ⟨(some 4),.op (.bin .leq (.tmp 3) (.const (.int .i32 127))),none⟩]
def x42_2:List XOper:=[⟨(some 5),.op (.mv (.tmp 0)),none⟩,
 ⟨(some 6),.op (.bin .leq (.const (.int .i32 65)) (.tmp 5)),none⟩,
 ⟨(some 7),.op (.mv (.tmp 6)),none⟩,
 ⟨(some 8),.op (.mv (.tmp 0)),(some (7,true))⟩,
 ⟨(some 9),.op (.bin .leq (.tmp 8) (.const (.int .i32 90))),(some (7,true))⟩,
 ⟨(some 10),.pick (.tmp 7) (.tmp 9) (.const (.bool false)),none⟩]
def x42_3:List XOper:=[⟨(some 11),.op (.mv (.tmp 0)),none⟩,
 ⟨(some 12),.op (.bin .add (.tmp 11) (.const (.int .i32 32))),none⟩,
 ⟨(some 0),.op (.mv (.tmp 12)),none⟩]
def x42_4:XCode:=.cnd (.tmp 10) (.region x42_3) .skip
def x42_5:XCode:=.seq (.region x42_2) x42_4
def x42_6:List XOper:=[⟨(some 13),.op (.mv (.tmp 0)),none⟩,
 ⟨(some 2),.op (.mv (.tmp 13)),none⟩]
def x42_7:XCode:=.seq (.region x42_6) .ret
def x42_8:XCode:=.seq x42_5 x42_7
def x42_9:XCode:=.cnd (.tmp 4) x42_8 .skip
def x42_10:XCode:=.seq (.region x42_1) x42_9
def x42_11:List XOper:=[⟨(some 14),.op (.mv (.tmp 0)),none⟩,
 ⟨(some 15),.callF 57 [(.const (.int .i64 1)),(.tmp 14)],none⟩,
 ⟨(some 2),.op (.mv (.tmp 15)),none⟩]
def x42_12:XCode:=.seq (.region x42_11) .ret
def x42_13:XCode:=.seq x42_10 x42_12
def x42_14:XCode:=.seq (.region x42_0) x42_13
def x42:XCode:=x42_14
theorem fx42:fnx Tryd.prog 42=some (16,[(2,none)],x42):=by kernel_rfl
def x43_0:List XOper:=[⟨(some 4),.op (.mv (.const (.string ⟨#[]⟩))),none⟩,
 ⟨(some 5),.op (.mv (.const (.bool false))),none⟩]
def x43_1:List XOper:=[⟨(some 6),.op (.mv (.tmp 0)),none⟩,
 ⟨(some 7),.op (.mv (.tmp 1)),none⟩,
 ⟨(some 8),.callF 47 [(.tmp 6),(.tmp 7)],none⟩,
 ⟨(some 9),.op (.un .not (.tmp 8)),none⟩]
def x43_2:List XOper:=[⟨(some 10),.op (.mv (.tmp 0)),none⟩,
 ⟨(some 4),.op (.mv (.tmp 10)),none⟩,
 ⟨(some 5),.op (.mv (.const (.bool false))),none⟩]
def x43_3:XCode:=.seq (.region x43_2) .ret
def x43_4:XCode:=.cnd (.tmp 9) x43_3 .skip
def x43_5:XCode:=.seq (.region x43_1) x43_4
def x43_6:List XOper:=[⟨(some 11),.op (.mv (.tmp 0)),none⟩,
 ⟨(some 12),.op (.mv (.tmp 1)),none⟩,
 ⟨(some 13),.op (.lenStr (.tmp 12)),none⟩,
 ⟨(some 14),.op (.slStr (.tmp 11) (some (.tmp 13)) none),none⟩,
 ⟨(some 4),.op (.mv (.tmp 14)),none⟩,
 ⟨(some 5),.op (.mv (.const (.bool true))),none⟩]
def x43_7:XCode:=.seq (.region x43_6) .ret
def x43_8:XCode:=.seq x43_5 x43_7
def x43_9:XCode:=.seq (.region x43_0) x43_8
def x43:XCode:=x43_9
theorem fx43:fnx Tryd.prog 43=some (15,[(4,none),(5,none)],x43):=by kernel_rfl
def x44_0:List XOper:=[⟨(some 6),.op (.mv (.const (.int .u64 0))),none⟩,
 ⟨(some 7),.op (.mv (.const .nilIface)),none⟩]
def x44_1:List XOper:=[⟨(some 18),.op (.mv (.tmp 0)),none⟩,
 ⟨(some 19),.op (.bin .eql (.tmp 18) (.const (.string ⟨#[]⟩))),none⟩]
def x44_2:List XOper:=[⟨(some 20),.op (.mkif 91 (.const (.int .i64 2))),none⟩,
 ⟨(some 6),.op (.mv (.const (.int .u64 0))),none⟩,
 ⟨(some 7),.op (.mv (.tmp 20)),none⟩]
def x44_3:XCode:=.seq (.region x44_2) .ret
def x44_4:XCode:=.cnd (.tmp 19) x44_3 .skip
def x44_5:XCode:=.seq (.region x44_1) x44_4
def x44_6:List XOper:=[⟨(some 21),.op (.mv (.tmp 1)),none⟩,
 ⟨(some 22),.op (.bin .eql (.tmp 21) (.const (.int .i64 0))),none⟩,
 ⟨(some 8),.op (.mv (.tmp 22)),none⟩]
def x44_7:List XOper:=[⟨(some 23),.op (.mv (.tmp 0)),none⟩,
 ⟨(some 9),.op (.mv (.tmp 23)),none⟩]
def x44_8:List XOper:=[⟨(some 26),.op (.mv (.tmp 1)),none⟩,
 ⟨(some 27),.op (.bin .leq (.const (.int .i64 2)) (.tmp 26)),none⟩,
 ⟨(some 28),.op (.mv (.tmp 27)),none⟩,
 ⟨(some 29),.op (.mv (.tmp 1)),(some (28,true))⟩,
 ⟨(some 30),.op (.bin .leq (.tmp 29) (.const (.int .i64 36))),(some (28,true))⟩,
 ⟨(some 31),.pick (.tmp 28) (.tmp 30) (.const (.bool false)),none⟩,
 ⟨(some 25),.op (.mv (.tmp 31)),none⟩]
def x44_9:List XOper:=[⟨(some 33),.op (.mv (.tmp 1)),none⟩,
 ⟨(some 34),.op (.bin .eql (.tmp 33) (.const (.int .i64 0))),none⟩,
 ⟨(some 32),.op (.mv (.tmp 34)),none⟩]
def x44_10:List XOper:=[⟨(some 1),.op (.mv (.const (.int .i64 10))),none⟩]
def x44_11:List XOper:=[⟨(some 35),.op (.mv (.tmp 0)),none⟩,
 ⟨(some 36),.op (.idxStr (.tmp 35) (.const (.int .i64 0))),none⟩,
 ⟨(some 37),.op (.bin .eql (.tmp 36) (.const (.int .u8 48))),none⟩]
def x44_12:List XOper:=[⟨(some 41),.op (.mv (.tmp 0)),none⟩,
 ⟨(some 42),.op (.lenStr (.tmp 41)),none⟩,
 ⟨(some 43),.op (.bin .geq (.tmp 42) (.const (.int .i64 3))),none⟩,
 ⟨(some 44),.op (.mv (.tmp 43)),none⟩,
 ⟨(some 45),.op (.mv (.tmp 0)),(some (44,true))⟩,
 ⟨(some 46),.op (.idxStr (.tmp 45) (.const (.int .i64 1))),(some (44,true))⟩,
 ⟨(some 47),.callF 58 [(.tmp 46)],(some (44,true))⟩,
 ⟨(some 48),.op (.bin .eql (.tmp 47) (.const (.int .u8 98))),(some (44,true))⟩,
 ⟨(some 49),.pick (.tmp 44) (.tmp 48) (.const (.bool false)),none⟩,
 ⟨(some 40),.op (.mv (.tmp 49)),none⟩]
def x44_13:List XOper:=[⟨(some 1),.op (.mv (.const (.int .i64 2))),none⟩]
def x44_14:List XOper:=[⟨(some 50),.op (.mv (.tmp 0)),none⟩,
 ⟨(some 51),.op (.slStr (.tmp 50) (some (.const (.int .i64 2))) none),none⟩,
 ⟨(some 0),.op (.mv (.tmp 51)),none⟩]
def x44_15:XCode:=.seq (.region x44_13) (.region x44_14)
def x44_16:List XOper:=[⟨(some 53),.op (.mv (.tmp 0)),none⟩,
 ⟨(some 54),.op (.lenStr (.tmp 53)),none⟩,
 ⟨(some 55),.op (.bin .geq (.tmp 54) (.const (.int .i64 3))),none⟩,
 ⟨(some 56),.op (.mv (.tmp 55)),none⟩,
 ⟨(some 57),.op (.mv (.tmp 0)),(some (56,true))⟩,
 ⟨(some 58),.op (.idxStr (.tmp 57) (.const (.int .i64 1))),(some (56,true))⟩,
 ⟨(some 59),.callF 58 [(.tmp 58)],(some (56,true))⟩,
 ⟨(some 60),.op (.bin .eql (.tmp 59) (.const (.int .u8 111))),(some (56,true))⟩,
 ⟨(some 61),.pick (.tmp 56) (.tmp 60) (.const (.bool false)),none⟩,
 ⟨(some 52),.op (.mv (.tmp 61)),none⟩]
def x44_17:List XOper:=[⟨(some 1),.op (.mv (.const (.int .i64 8))),none⟩]
def x44_18:List XOper:=[⟨(some 62),.op (.mv (.tmp 0)),none⟩,
 ⟨(some 63),.op (.slStr (.tmp 62) (some (.const (.int .i64 2))) none),none⟩,
 ⟨(some 0),.op (.mv (.tmp 63)),none⟩]
def x44_19:XCode:=.seq (.region x44_17) (.region x44_18)
def x44_20:List XOper:=[⟨(some 65),.op (.mv (.tmp 0)),none⟩,
 ⟨(some 66),.op (.lenStr (.tmp 65)),none⟩,
 ⟨(some 67),.op (.bin .geq (.tmp 66) (.const (.int .i64 3))),none⟩,
 ⟨(some 68),.op (.mv (.tmp 67)),none⟩,
 ⟨(some 69),.op (.mv (.tmp 0)),(some (68,true))⟩,
 ⟨(some 70),.op (.idxStr (.tmp 69) (.const (.int .i64 1))),(some (68,true))⟩,
 ⟨(some 71),.callF 58 [(.tmp 70)],(some (68,true))⟩,
 ⟨(some 72),.op (.bin .eql (.tmp 71) (.const (.int .u8 120))),(some (68,true))⟩,
 ⟨(some 73),.pick (.tmp 68) (.tmp 72) (.const (.bool false)),none⟩,
 ⟨(some 64),.op (.mv (.tmp 73)),none⟩]
def x44_21:List XOper:=[⟨(some 1),.op (.mv (.const (.int .i64 16))),none⟩]
def x44_22:List XOper:=[⟨(some 74),.op (.mv (.tmp 0)),none⟩,
 ⟨(some 75),.op (.slStr (.tmp 74) (some (.const (.int .i64 2))) none),none⟩,
 ⟨(some 0),.op (.mv (.tmp 75)),none⟩]
def x44_23:XCode:=.seq (.region x44_21) (.region x44_22)
def x44_24:List XOper:=[⟨(some 1),.op (.mv (.const (.int .i64 8))),none⟩]
def x44_25:List XOper:=[⟨(some 38),.op (.mv (.tmp 0)),none⟩,
 ⟨(some 39),.op (.slStr (.tmp 38) (some (.const (.int .i64 1))) none),none⟩,
 ⟨(some 0),.op (.mv (.tmp 39)),none⟩]
def x44_26:XCode:=.seq (.region x44_24) (.region x44_25)
def x44_27:XCode:=.cnd (.tmp 64) x44_23 x44_26
def x44_28:XCode:=.seq (.region x44_20) x44_27
def x44_29:XCode:=.cnd (.tmp 52) x44_19 x44_28
def x44_30:XCode:=.seq (.region x44_16) x44_29
def x44_31:XCode:=.cnd (.tmp 40) x44_15 x44_30
def x44_32:XCode:=.seq (.region x44_12) x44_31
def x44_33:XCode:=.block 1 x44_32
def x44_34:XCode:=.cnd (.tmp 37) x44_33 .skip
def x44_35:XCode:=.seq (.region x44_11) x44_34
def x44_36:XCode:=.seq (.region x44_10) x44_35
def x44_37:List XOper:=[⟨(some 24),.op (.mkif 91 (.const (.int .i64 3))),none⟩,
 ⟨(some 6),.op (.mv (.const (.int .u64 0))),none⟩,
 ⟨(some 7),.op (.mv (.tmp 24)),none⟩]
def x44_38:XCode:=.seq (.region x44_37) .ret
def x44_39:XCode:=.cnd (.tmp 32) x44_36 x44_38
def x44_40:XCode:=.seq (.region x44_9) x44_39
def x44_41:XCode:=.cnd (.tmp 25) .skip x44_40
def x44_42:XCode:=.seq (.region x44_8) x44_41
def x44_43:XCode:=.block 0 x44_42
def x44_44:List XOper:=[⟨(some 76),.op (.mv (.tmp 2)),none⟩,
 ⟨(some 77),.op (.bin .eql (.tmp 76) (.const (.int .i64 0))),none⟩]
def x44_45:List XOper:=[⟨(some 2),.op (.mv (.const (.int .i64 64))),none⟩]
def x44_46:List XOper:=[⟨(some 78),.op (.mv (.tmp 2)),none⟩,
 ⟨(some 79),.op (.bin .lss (.tmp 78) (.const (.int .i64 0))),none⟩,
 ⟨(some 80),.op (.mv (.tmp 79)),none⟩,
 ⟨(some 81),.op (.mv (.tmp 2)),(some (80,false))⟩,
 ⟨(some 82),.op (.bin .gtr (.tmp 81) (.const (.int .i64 64))),(some (80,false))⟩,
 ⟨(some 83),.pick (.tmp 80) (.const (.bool true)) (.tmp 82),none⟩]
def x44_47:List XOper:=[⟨(some 84),.op (.mkif 91 (.const (.int .i64 4))),none⟩,
 ⟨(some 6),.op (.mv (.const (.int .u64 0))),none⟩,
 ⟨(some 7),.op (.mv (.tmp 84)),none⟩]
def x44_48:XCode:=.seq (.region x44_47) .ret
def x44_49:XCode:=.cnd (.tmp 83) x44_48 .skip
def x44_50:XCode:=.seq (.region x44_46) x44_49
def x44_51:XCode:=.cnd (.tmp 77) (.region x44_45) x44_50
def x44_52:XCode:=.seq (.region x44_44) x44_51
def x44_53:List XOper:=[⟨(some 10),.op (.mv (.const (.int .u64 0))),none⟩]
def x44_54:List XOper:=[⟨(some 85),.op (.mv (.tmp 1)),none⟩]
def x44_55:List XOper:=[⟨(some 91),.op (.bin .eql (.tmp 85) (.const (.int .i64 10))),none⟩,
 ⟨(some 90),.op (.mv (.tmp 91)),none⟩]
def x44_56:List XOper:=[⟨(some 10),.op (.mv (.const (.int .u64 1844674407370955162))),none⟩]
def x44_57:List XOper:=[⟨(some 93),.op (.bin .eql (.tmp 85) (.const (.int .i64 16))),none⟩,
 ⟨(some 92),.op (.mv (.tmp 93)),none⟩]
def x44_58:List XOper:=[⟨(some 10),.op (.mv (.const (.int .u64 1152921504606846976))),none⟩]
def x44_59:List XOper:=[⟨(some 86),.op (.mv (.tmp 1)),none⟩,
 ⟨(some 87),.op (.conv .u64 (.tmp 86)),none⟩,
 ⟨(some 88),.op (.bin .quo (.const (.int .u64 18446744073709551615)) (.tmp 87)),none⟩,
 ⟨(some 89),.op (.bin .add (.tmp 88) (.const (.int .u64 1))),none⟩,
 ⟨(some 10),.op (.mv (.tmp 89)),none⟩]
def x44_60:XCode:=.cnd (.tmp 92) (.region x44_58) (.region x44_59)
def x44_61:XCode:=.seq (.region x44_57) x44_60
def x44_62:XCode:=.cnd (.tmp 90) (.region x44_56) x44_61
def x44_63:XCode:=.seq (.region x44_55) x44_62
def x44_64:XCode:=.block 2 x44_63
def x44_65:XCode:=.seq (.region x44_54) x44_64
def x44_66:List XOper:=[⟨(some 94),.op (.mv (.tmp 2)),none⟩,
 ⟨(some 95),.op (.conv .u64 (.tmp 94)),none⟩,
 ⟨(some 96),.op (.bin .shl (.const (.int .u64 1)) (.tmp 95)),none⟩,
 ⟨(some 97),.op (.bin .sub (.tmp 96) (.const (.int .u64 1))),none⟩,
 ⟨(some 11),.op (.mv (.tmp 97)),none⟩]
def x44_67:List XOper:=[⟨(some 12),.op (.mv (.const (.bool false))),none⟩]
def x44_68:List XOper:=[⟨(some 13),.op (.mv (.const (.int .u64 0))),none⟩]
def x44_69:List XOper:=[⟨(some 98),.op (.mv (.tmp 0)),none⟩,
 ⟨(some 99),.op (.s2b (.tmp 98)),none⟩,
 ⟨(some 100),.op (.lenS (.tmp 99)),none⟩,
 ⟨(some 101),.op (.mv (.const (.int .i64 0))),none⟩]
def x44_70:List XOper:=[⟨(some 102),.op (.bin .lss (.tmp 101) (.tmp 100)),none⟩]
def x44_71:XCode:=.cnd (.tmp 102) .skip (.exit 3)
def x44_72:List XOper:=[⟨(some 103),.op (.iaddrS 1 (.tmp 99) (.tmp 101)),none⟩,
 ⟨(some 104),.op (.load (.int .u8) 1 (.tmp 103)),none⟩,
 ⟨(some 15),.op (.mv (.tmp 104)),none⟩]
def x44_73:List XOper:=[⟨(some 16),.op (.mv (.const (.int .u8 0))),none⟩]
def x44_74:List XOper:=[⟨(some 107),.op (.mv (.tmp 15)),none⟩,
 ⟨(some 108),.op (.bin .eql (.tmp 107) (.const (.int .u8 95))),none⟩,
 ⟨(some 109),.op (.mv (.tmp 108)),none⟩,
 ⟨(some 110),.op (.mv (.tmp 8)),(some (109,true))⟩,
 ⟨(some 111),.pick (.tmp 109) (.tmp 110) (.const (.bool false)),none⟩,
 ⟨(some 106),.op (.mv (.tmp 111)),none⟩]
def x44_75:List XOper:=[⟨(some 12),.op (.mv (.const (.bool true))),none⟩]
def x44_76:XCode:=.seq (.region x44_75) (.exit 4)
def x44_77:List XOper:=[⟨(some 113),.op (.mv (.tmp 15)),none⟩,
 ⟨(some 114),.op (.bin .leq (.const (.int .u8 48)) (.tmp 113)),none⟩,
 ⟨(some 115),.op (.mv (.tmp 114)),none⟩,
 ⟨(some 116),.op (.mv (.tmp 15)),(some (115,true))⟩,
 ⟨(some 117),.op (.bin .leq (.tmp 116) (.const (.int .u8 57))),(some (115,true))⟩,
 ⟨(some 118),.pick (.tmp 115) (.tmp 117) (.const (.bool false)),none⟩,
 ⟨(some 112),.op (.mv (.tmp 118)),none⟩]
def x44_78:List XOper:=[⟨(some 119),.op (.mv (.tmp 15)),none⟩,
 ⟨(some 120),.op (.bin .sub (.tmp 119) (.const (.int .u8 48))),none⟩,
 ⟨(some 16),.op (.mv (.tmp 120)),none⟩]
def x44_79:List XOper:=[⟨(some 122),.op (.mv (.tmp 15)),none⟩,
 ⟨(some 123),.callF 58 [(.tmp 122)],none⟩,
 ⟨(some 124),.op (.bin .leq (.const (.int .u8 97)) (.tmp 123)),none⟩,
 ⟨(some 125),.op (.mv (.tmp 124)),none⟩,
 ⟨(some 126),.op (.mv (.tmp 15)),(some (125,true))⟩,
 ⟨(some 127),.callF 58 [(.tmp 126)],(some (125,true))⟩,
 ⟨(some 128),.op (.bin .leq (.tmp 127) (.const (.int .u8 122))),(some (125,true))⟩,
 ⟨(some 129),.pick (.tmp 125) (.tmp 128) (.const (.bool false)),none⟩,
 ⟨(some 121),.op (.mv (.tmp 129)),none⟩]
def x44_80:List XOper:=[⟨(some 130),.op (.mv (.tmp 15)),none⟩,
 ⟨(some 131),.callF 58 [(.tmp 130)],none⟩,
 ⟨(some 132),.op (.bin .sub (.tmp 131) (.const (.int .u8 97))),none⟩,
 ⟨(some 133),.op (.bin .add (.tmp 132) (.const (.int .u8 10))),none⟩,
 ⟨(some 16),.op (.mv (.tmp 133)),none⟩]
def x44_81:List XOper:=[⟨(some 105),.op (.mkif 91 (.const (.int .i64 2))),none⟩,
 ⟨(some 6),.op (.mv (.const (.int .u64 0))),none⟩,
 ⟨(some 7),.op (.mv (.tmp 105)),none⟩]
def x44_82:XCode:=.seq (.region x44_81) .ret
def x44_83:XCode:=.cnd (.tmp 121) (.region x44_80) x44_82
def x44_84:XCode:=.seq (.region x44_79) x44_83
def x44_85:XCode:=.cnd (.tmp 112) (.region x44_78) x44_84
def x44_86:XCode:=.seq (.region x44_77) x44_85
def x44_87:XCode:=.cnd (.tmp 106) x44_76 x44_86
def x44_88:XCode:=.seq (.region x44_74) x44_87
def x44_89:XCode:=.block 5 x44_88
def x44_90:List XOper:=[⟨(some 134),.op (.mv (.tmp 16)),none⟩,
 ⟨(some 135),.op (.mv (.tmp 1)),none⟩,
 ⟨(some 136),.op (.conv .u8 (.tmp 135)),none⟩,
 ⟨(some 137),.op (.bin .geq (.tmp 134) (.tmp 136)),none⟩]
def x44_91:List XOper:=[⟨(some 138),.op (.mkif 91 (.const (.int .i64 2))),none⟩,
 ⟨(some 6),.op (.mv (.const (.int .u64 0))),none⟩,
 ⟨(some 7),.op (.mv (.tmp 138)),none⟩]
def x44_92:XCode:=.seq (.region x44_91) .ret
def x44_93:XCode:=.cnd (.tmp 137) x44_92 .skip
def x44_94:XCode:=.seq (.region x44_90) x44_93
def x44_95:List XOper:=[⟨(some 139),.op (.mv (.tmp 13)),none⟩,
 ⟨(some 140),.op (.mv (.tmp 10)),none⟩,
 ⟨(some 141),.op (.bin .geq (.tmp 139) (.tmp 140)),none⟩]
def x44_96:List XOper:=[⟨(some 142),.op (.mv (.tmp 11)),none⟩,
 ⟨(some 143),.op (.mkif 91 (.const (.int .i64 1))),none⟩,
 ⟨(some 6),.op (.mv (.tmp 142)),none⟩,
 ⟨(some 7),.op (.mv (.tmp 143)),none⟩]
def x44_97:XCode:=.seq (.region x44_96) .ret
def x44_98:XCode:=.cnd (.tmp 141) x44_97 .skip
def x44_99:XCode:=.seq (.region x44_95) x44_98
def x44_100:List XOper:=[⟨(some 144),.op (.mv (.tmp 13)),none⟩,
 ⟨(some 145),.op (.mv (.tmp 1)),none⟩,
 ⟨(some 146),.op (.conv .u64 (.tmp 145)),none⟩,
 ⟨(some 147),.op (.bin .mul (.tmp 144) (.tmp 146)),none⟩,
 ⟨(some 13),.op (.mv (.tmp 147)),none⟩]
def x44_101:List XOper:=[⟨(some 148),.op (.mv (.tmp 13)),none⟩,
 ⟨(some 149),.op (.mv (.tmp 16)),none⟩,
 ⟨(some 150),.op (.conv .u64 (.tmp 149)),none⟩,
 ⟨(some 151),.op (.bin .add (.tmp 148) (.tmp 150)),none⟩,
 ⟨(some 17),.op (.mv (.tmp 151)),none⟩]
def x44_102:List XOper:=[⟨(some 152),.op (.mv (.tmp 17)),none⟩,
 ⟨(some 153),.op (.mv (.tmp 13)),none⟩,
 ⟨(some 154),.op (.bin .lss (.tmp 152) (.tmp 153)),none⟩,
 ⟨(some 155),.op (.mv (.tmp 154)),none⟩,
 ⟨(some 156),.op (.mv (.tmp 17)),(some (155,false))⟩,
 ⟨(some 157),.op (.mv (.tmp 11)),(some (155,false))⟩,
 ⟨(some 158),.op (.bin .gtr (.tmp 156) (.tmp 157)),(some (155,false))⟩,
 ⟨(some 159),.pick (.tmp 155) (.const (.bool true)) (.tmp 158),none⟩]
def x44_103:List XOper:=[⟨(some 160),.op (.mv (.tmp 11)),none⟩,
 ⟨(some 161),.op (.mkif 91 (.const (.int .i64 1))),none⟩,
 ⟨(some 6),.op (.mv (.tmp 160)),none⟩,
 ⟨(some 7),.op (.mv (.tmp 161)),none⟩]
def x44_104:XCode:=.seq (.region x44_103) .ret
def x44_105:XCode:=.cnd (.tmp 159) x44_104 .skip
def x44_106:XCode:=.seq (.region x44_102) x44_105
def x44_107:List XOper:=[⟨(some 162),.op (.mv (.tmp 17)),none⟩,
 ⟨(some 13),.op (.mv (.tmp 162)),none⟩]
def x44_108:XCode:=.seq x44_106 (.region x44_107)
def x44_109:XCode:=.seq (.region x44_101) x44_108
def x44_110:XCode:=.seq (.region x44_100) x44_109
def x44_111:XCode:=.seq x44_99 x44_110
def x44_112:XCode:=.seq x44_94 x44_111
def x44_113:XCode:=.seq x44_89 x44_112
def x44_114:XCode:=.seq (.region x44_73) x44_113
def x44_115:XCode:=.seq (.region x44_72) x44_114
def x44_116:XCode:=.block 4 x44_115
def x44_117:List XOper:=[⟨(some 163),.op (.bin .add (.tmp 101) (.const (.int .i64 1))),none⟩,
 ⟨(some 101),.op (.mv (.tmp 163)),none⟩]
def x44_118:XCode:=.seq x44_116 (.region x44_117)
def x44_119:XCode:=.seq x44_71 x44_118
def x44_120:XCode:=.seq (.region x44_70) x44_119
def x44_121:XCode:=.loop x44_120
def x44_122:XCode:=.block 3 x44_121
def x44_123:XCode:=.seq (.region x44_69) x44_122
def x44_124:List XOper:=[⟨(some 164),.op (.mv (.tmp 12)),none⟩,
 ⟨(some 165),.op (.mv (.tmp 164)),none⟩,
 ⟨(some 166),.op (.mv (.tmp 9)),(some (165,true))⟩,
 ⟨(some 167),.callF 59 [(.tmp 166)],(some (165,true))⟩,
 ⟨(some 168),.op (.un .not (.tmp 167)),(some (165,true))⟩,
 ⟨(some 169),.pick (.tmp 165) (.tmp 168) (.const (.bool false)),none⟩]
def x44_125:List XOper:=[⟨(some 170),.op (.mkif 91 (.const (.int .i64 2))),none⟩,
 ⟨(some 6),.op (.mv (.const (.int .u64 0))),none⟩,
 ⟨(some 7),.op (.mv (.tmp 170)),none⟩]
def x44_126:XCode:=.seq (.region x44_125) .ret
def x44_127:XCode:=.cnd (.tmp 169) x44_126 .skip
def x44_128:XCode:=.seq (.region x44_124) x44_127
def x44_129:List XOper:=[⟨(some 171),.op (.mv (.tmp 13)),none⟩,
 ⟨(some 6),.op (.mv (.tmp 171)),none⟩,
 ⟨(some 7),.op (.mv (.const .nilIface)),none⟩]
def x44_130:XCode:=.seq (.region x44_129) .ret
def x44_131:XCode:=.seq x44_128 x44_130
def x44_132:XCode:=.seq x44_123 x44_131
def x44_133:XCode:=.seq (.region x44_68) x44_132
def x44_134:XCode:=.seq (.region x44_67) x44_133
def x44_135:XCode:=.seq (.region x44_66) x44_134
def x44_136:XCode:=.seq x44_65 x44_135
def x44_137:XCode:=.seq (.region x44_53) x44_136
def x44_138:XCode:=.seq x44_52 x44_137
def x44_139:XCode:=.seq x44_43 x44_138
def x44_140:XCode:=.seq (.region x44_7) x44_139
def x44_141:XCode:=.seq (.region x44_6) x44_140
def x44_142:XCode:=.seq x44_5 x44_141
def x44_143:XCode:=.seq (.region x44_0) x44_142
def x44:XCode:=x44_143
theorem fx44:fnx Tryd.prog 44=some (172,[(6,none),(7,none)],x44):=by kernel_rfl
def x47_0:List XOper:=[⟨(some 4),.op (.mv (.const (.bool false))),none⟩]
def x47_1:List XOper:=[⟨(some 5),.op (.mv (.tmp 0)),none⟩,
 ⟨(some 6),.op (.lenStr (.tmp 5)),none⟩,
 ⟨(some 7),.op (.mv (.tmp 1)),none⟩,
 ⟨(some 8),.op (.lenStr (.tmp 7)),none⟩,
 ⟨(some 9),.op (.bin .geq (.tmp 6) (.tmp 8)),none⟩,
 ⟨(some 10),.op (.mv (.tmp 9)),none⟩,
 ⟨(some 11),.op (.mv (.tmp 0)),(some (10,true))⟩,
 ⟨(some 12),.op (.mv (.tmp 1)),(some (10,true))⟩,
 ⟨(some 13),.op (.lenStr (.tmp 12)),(some (10,true))⟩,
 ⟨(some 14),.op (.slStr (.tmp 11) none (some (.tmp 13))),(some (10,true))⟩,
 ⟨(some 15),.op (.mv (.tmp 1)),(some (10,true))⟩,
 ⟨(some 16),.op (.bin .eql (.tmp 14) (.tmp 15)),(some (10,true))⟩,
 ⟨(some 17),.pick (.tmp 10) (.tmp 16) (.const (.bool false)),none⟩,
 ⟨(some 4),.op (.mv (.tmp 17)),none⟩]
def x47_2:XCode:=.seq (.region x47_1) .ret
def x47_3:XCode:=.seq (.region x47_0) x47_2
def x47:XCode:=x47_3
theorem fx47:fnx Tryd.prog 47=some (18,[(4,none)],x47):=by kernel_rfl
def x49_0:List XOper:=[⟨(some 4),.op (.mv (.const (.int .i64 0))),none⟩]
def x49_1:List XOper:=[⟨(some 6),.op (.mv (.tmp 0)),none⟩,
 ⟨(some 7),.op (.lenS (.tmp 6)),none⟩,
 ⟨(some 8),.op (.mv (.const (.int .i64 0))),none⟩]
def x49_2:List XOper:=[⟨(some 9),.op (.bin .lss (.tmp 8) (.tmp 7)),none⟩]
def x49_3:XCode:=.cnd (.tmp 9) .skip (.exit 0)
def x49_4:List XOper:=[⟨(some 10),.op (.mv (.tmp 8)),none⟩,
 ⟨(some 5),.op (.mv (.tmp 10)),none⟩]
def x49_5:List XOper:=[⟨(some 11),.op (.mv (.tmp 1)),none⟩,
 ⟨(some 12),.op (.mv (.tmp 0)),none⟩,
 ⟨(some 13),.op (.mv (.tmp 5)),none⟩,
 ⟨(some 14),.op (.iaddrS 1 (.tmp 12) (.tmp 13)),none⟩,
 ⟨(some 15),.op (.load .str 1 (.tmp 14)),none⟩,
 ⟨(some 16),.op (.bin .eql (.tmp 11) (.tmp 15)),none⟩]
def x49_6:List XOper:=[⟨(some 17),.op (.mv (.tmp 5)),none⟩,
 ⟨(some 4),.op (.mv (.tmp 17)),none⟩]
def x49_7:XCode:=.seq (.region x49_6) .ret
def x49_8:XCode:=.cnd (.tmp 16) x49_7 .skip
def x49_9:XCode:=.seq (.region x49_5) x49_8
def x49_10:XCode:=.seq (.region x49_4) x49_9
def x49_11:XCode:=.block 1 x49_10
def x49_12:List XOper:=[⟨(some 18),.op (.bin .add (.tmp 8) (.const (.int .i64 1))),none⟩,
 ⟨(some 8),.op (.mv (.tmp 18)),none⟩]
def x49_13:XCode:=.seq x49_11 (.region x49_12)
def x49_14:XCode:=.seq x49_3 x49_13
def x49_15:XCode:=.seq (.region x49_2) x49_14
def x49_16:XCode:=.loop x49_15
def x49_17:XCode:=.block 0 x49_16
def x49_18:XCode:=.seq (.region x49_1) x49_17
def x49_19:List XOper:=[⟨(some 4),.op (.mv (.const (.int .i64 (-1)))),none⟩]
def x49_20:XCode:=.seq (.region x49_19) .ret
def x49_21:XCode:=.seq x49_18 x49_20
def x49_22:XCode:=.seq (.region x49_0) x49_21
def x49:XCode:=x49_22
theorem fx49:fnx Tryd.prog 49=some (19,[(4,none)],x49):=by kernel_rfl
def x50_0:List XOper:=[⟨(some 2),.op (.mv (.const (.slice none 0 0))),none⟩]
def x50_1:List XOper:=[⟨(some 3),.op (.mv (.const (.int .i64 0))),none⟩]
def x50_2:List XOper:=[⟨(some 4),.op (.mv (.const (.int .i64 1))),none⟩]
def x50_3:List XOper:=[⟨(some 5),.op (.mv (.const (.int .u8 0))),none⟩]
def x50_4:List XOper:=[⟨(some 6),.op (.mv (.const (.int .i64 0))),none⟩]
def x50_5:List XOper:=[⟨(some 13),.op (.mv (.tmp 6)),none⟩,
 ⟨(some 14),.op (.mv (.tmp 0)),none⟩,
 ⟨(some 15),.op (.lenStr (.tmp 14)),none⟩,
 ⟨(some 16),.op (.bin .lss (.tmp 13) (.tmp 15)),none⟩]
def x50_6:XCode:=.cnd (.tmp 16) .skip (.exit 0)
def x50_7:XCode:=.seq (.region x50_5) x50_6
def x50_8:List XOper:=[⟨(some 19),.op (.mv (.tmp 0)),none⟩,
 ⟨(some 20),.op (.mv (.tmp 6)),none⟩,
 ⟨(some 21),.op (.idxStr (.tmp 19) (.tmp 20)),none⟩,
 ⟨(some 7),.op (.mv (.tmp 21)),none⟩]
def x50_9:List XOper:=[⟨(some 22),.op (.mv (.tmp 5)),none⟩,
 ⟨(some 23),.op (.mv (.tmp 7)),none⟩,
 ⟨(some 24),.op (.bin .or (.tmp 22) (.tmp 23)),none⟩,
 ⟨(some 5),.op (.mv (.tmp 24)),none⟩]
def x50_10:List XOper:=[⟨(some 25),.op (.mv (.tmp 7)),none⟩,
 ⟨(some 26),.op (.iaddrA true 256 1 (.global 1) (.tmp 25)),none⟩,
 ⟨(some 27),.op (.load (.int .u8) 1 (.tmp 26)),none⟩,
 ⟨(some 28),.op (.conv .i64 (.tmp 27)),none⟩,
 ⟨(some 8),.op (.mv (.tmp 28)),none⟩]
def x50_11:List XOper:=[⟨(some 29),.op (.mv (.tmp 3)),none⟩,
 ⟨(some 30),.op (.mv (.tmp 4)),none⟩,
 ⟨(some 31),.op (.mv (.tmp 8)),none⟩,
 ⟨(some 32),.op (.un .xor (.tmp 31)),none⟩,
 ⟨(some 33),.op (.bin .and (.tmp 30) (.tmp 32)),none⟩,
 ⟨(some 34),.op (.bin .add (.tmp 29) (.tmp 33)),none⟩,
 ⟨(some 3),.op (.mv (.tmp 34)),none⟩]
def x50_12:List XOper:=[⟨(some 35),.op (.mv (.tmp 8)),none⟩,
 ⟨(some 4),.op (.mv (.tmp 35)),none⟩]
def x50_13:XCode:=.seq (.region x50_11) (.region x50_12)
def x50_14:XCode:=.seq (.region x50_10) x50_13
def x50_15:XCode:=.seq (.region x50_9) x50_14
def x50_16:XCode:=.seq (.region x50_8) x50_15
def x50_17:XCode:=.block 1 x50_16
def x50_18:List XOper:=[⟨(some 17),.op (.mv (.tmp 6)),none⟩,
 ⟨(some 18),.op (.bin .add (.tmp 17) (.const (.int .i64 1))),none⟩,
 ⟨(some 6),.op (.mv (.tmp 18)),none⟩]
def x50_19:XCode:=.seq x50_17 (.region x50_18)
def x50_20:XCode:=.seq x50_7 x50_19
def x50_21:XCode:=.loop x50_20
def x50_22:XCode:=.block 0 x50_21
def x50_23:XCode:=.seq (.region x50_4) x50_22
def x50_24:List XOper:=[⟨(some 36),.op (.mv (.tmp 5)),none⟩,
 ⟨(some 37),.op (.bin .geq (.tmp 36) (.const (.int .u8 128))),none⟩]
def x50_25:List XOper:=[⟨(some 38),.op (.mv (.tmp 0)),none⟩,
 ⟨(some 39),.callF 68 [(.tmp 38),(.func 69)],none⟩,
 ⟨(some 2),.op (.mv (.tmp 39)),none⟩]
def x50_26:XCode:=.seq (.region x50_25) .ret
def x50_27:XCode:=.cnd (.tmp 37) x50_26 .skip
def x50_28:XCode:=.seq (.region x50_24) x50_27
def x50_29:List XOper:=[⟨(some 40),.op (.mv (.tmp 3)),none⟩,
 ⟨(some 41),.op (.mks [(.string ⟨#[]⟩)] 16 (.tmp 40) (.tmp 40)),none⟩,
 ⟨(some 9),.op (.mv (.tmp 41)),none⟩]
def x50_30:List XOper:=[⟨(some 10),.op (.mv (.const (.int .i64 0))),none⟩]
def x50_31:List XOper:=[⟨(some 11),.op (.mv (.const (.int .i64 0))),none⟩]
def x50_32:List XOper:=[⟨(some 12),.op (.mv (.const (.int .i64 0))),none⟩]
def x50_33:List XOper:=[⟨(some 42),.op (.mv (.tmp 12)),none⟩,
 ⟨(some 43),.op (.mv (.tmp 0)),none⟩,
 ⟨(some 44),.op (.lenStr (.tmp 43)),none⟩,
 ⟨(some 45),.op (.bin .lss (.tmp 42) (.tmp 44)),none⟩,
 ⟨(some 46),.op (.mv (.tmp 45)),none⟩,
 ⟨(some 47),.op (.mv (.tmp 0)),(some (46,true))⟩,
 ⟨(some 48),.op (.mv (.tmp 12)),(some (46,true))⟩,
 ⟨(some 49),.op (.idxStr (.tmp 47) (.tmp 48)),(some (46,true))⟩,
 ⟨(some 50),.op (.iaddrA true 256 1 (.global 1) (.tmp 49)),(some (46,true))⟩,
 ⟨(some 51),.op (.load (.int .u8) 1 (.tmp 50)),(some (46,true))⟩,
 ⟨(some 52),.op (.bin .neq (.tmp 51) (.const (.int .u8 0))),(some (46,true))⟩,
 ⟨(some 53),.pick (.tmp 46) (.tmp 52) (.const (.bool false)),none⟩]
def x50_34:XCode:=.cnd (.tmp 53) .skip (.exit 2)
def x50_35:XCode:=.seq (.region x50_33) x50_34
def x50_36:List XOper:=[⟨(some 54),.op (.mv (.tmp 12)),none⟩,
 ⟨(some 55),.op (.bin .add (.tmp 54) (.const (.int .i64 1))),none⟩,
 ⟨(some 12),.op (.mv (.tmp 55)),none⟩]
def x50_37:XCode:=.block 3 (.region x50_36)
def x50_38:XCode:=.seq x50_35 x50_37
def x50_39:XCode:=.loop x50_38
def x50_40:XCode:=.block 2 x50_39
def x50_41:List XOper:=[⟨(some 56),.op (.mv (.tmp 12)),none⟩,
 ⟨(some 11),.op (.mv (.tmp 56)),none⟩]
def x50_42:List XOper:=[⟨(some 57),.op (.mv (.tmp 12)),none⟩,
 ⟨(some 58),.op (.mv (.tmp 0)),none⟩,
 ⟨(some 59),.op (.lenStr (.tmp 58)),none⟩,
 ⟨(some 60),.op (.bin .lss (.tmp 57) (.tmp 59)),none⟩]
def x50_43:XCode:=.cnd (.tmp 60) .skip (.exit 4)
def x50_44:XCode:=.seq (.region x50_42) x50_43
def x50_45:List XOper:=[⟨(some 61),.op (.mv (.tmp 0)),none⟩,
 ⟨(some 62),.op (.mv (.tmp 12)),none⟩,
 ⟨(some 63),.op (.idxStr (.tmp 61) (.tmp 62)),none⟩,
 ⟨(some 64),.op (.iaddrA true 256 1 (.global 1) (.tmp 63)),none⟩,
 ⟨(some 65),.op (.load (.int .u8) 1 (.tmp 64)),none⟩,
 ⟨(some 66),.op (.bin .eql (.tmp 65) (.const (.int .u8 0))),none⟩]
def x50_46:List XOper:=[⟨(some 67),.op (.mv (.tmp 12)),none⟩,
 ⟨(some 68),.op (.bin .add (.tmp 67) (.const (.int .i64 1))),none⟩,
 ⟨(some 12),.op (.mv (.tmp 68)),none⟩]
def x50_47:XCode:=.seq (.region x50_46) (.exit 5)
def x50_48:XCode:=.cnd (.tmp 66) x50_47 .skip
def x50_49:XCode:=.seq (.region x50_45) x50_48
def x50_50:List XOper:=[⟨(some 69),.op (.mv (.tmp 9)),none⟩,
 ⟨(some 70),.op (.mv (.tmp 10)),none⟩,
 ⟨(some 71),.op (.mv (.tmp 0)),none⟩,
 ⟨(some 72),.op (.mv (.tmp 11)),none⟩,
 ⟨(some 73),.op (.mv (.tmp 12)),none⟩,
 ⟨(some 74),.op (.slStr (.tmp 71) (some (.tmp 72)) (some (.tmp 73))),none⟩,
 ⟨(some 75),.op (.iaddrS 1 (.tmp 69) (.tmp 70)),none⟩,
 ⟨none,.op (.store 1 (.tmp 75) (.tmp 74)),none⟩]
def x50_51:List XOper:=[⟨(some 76),.op (.mv (.tmp 10)),none⟩,
 ⟨(some 77),.op (.bin .add (.tmp 76) (.const (.int .i64 1))),none⟩,
 ⟨(some 10),.op (.mv (.tmp 77)),none⟩]
def x50_52:List XOper:=[⟨(some 78),.op (.mv (.tmp 12)),none⟩,
 ⟨(some 79),.op (.bin .add (.tmp 78) (.const (.int .i64 1))),none⟩,
 ⟨(some 12),.op (.mv (.tmp 79)),none⟩]
def x50_53:List XOper:=[⟨(some 80),.op (.mv (.tmp 12)),none⟩,
 ⟨(some 81),.op (.mv (.tmp 0)),none⟩,
 ⟨(some 82),.op (.lenStr (.tmp 81)),none⟩,
 ⟨(some 83),.op (.bin .lss (.tmp 80) (.tmp 82)),none⟩,
 ⟨(some 84),.op (.mv (.tmp 83)),none⟩,
 ⟨(some 85),.op (.mv (.tmp 0)),(some (84,true))⟩,
 ⟨(some 86),.op (.mv (.tmp 12)),(some (84,true))⟩,
 ⟨(some 87),.op (.idxStr (.tmp 85) (.tmp 86)),(some (84,true))⟩,
 ⟨(some 88),.op (.iaddrA true 256 1 (.global 1) (.tmp 87)),(some (84,true))⟩,
 ⟨(some 89),.op (.load (.int .u8) 1 (.tmp 88)),(some (84,true))⟩,
 ⟨(some 90),.op (.bin .neq (.tmp 89) (.const (.int .u8 0))),(some (84,true))⟩,
 ⟨(some 91),.pick (.tmp 84) (.tmp 90) (.const (.bool false)),none⟩]
def x50_54:XCode:=.cnd (.tmp 91) .skip (.exit 6)
def x50_55:XCode:=.seq (.region x50_53) x50_54
def x50_56:List XOper:=[⟨(some 92),.op (.mv (.tmp 12)),none⟩,
 ⟨(some 93),.op (.bin .add (.tmp 92) (.const (.int .i64 1))),none⟩,
 ⟨(some 12),.op (.mv (.tmp 93)),none⟩]
def x50_57:XCode:=.block 7 (.region x50_56)
def x50_58:XCode:=.seq x50_55 x50_57
def x50_59:XCode:=.loop x50_58
def x50_60:XCode:=.block 6 x50_59
def x50_61:List XOper:=[⟨(some 94),.op (.mv (.tmp 12)),none⟩,
 ⟨(some 11),.op (.mv (.tmp 94)),none⟩]
def x50_62:XCode:=.seq x50_60 (.region x50_61)
def x50_63:XCode:=.seq (.region x50_52) x50_62
def x50_64:XCode:=.seq (.region x50_51) x50_63
def x50_65:XCode:=.seq (.region x50_50) x50_64
def x50_66:XCode:=.seq x50_49 x50_65
def x50_67:XCode:=.block 5 x50_66
def x50_68:XCode:=.seq x50_44 x50_67
def x50_69:XCode:=.loop x50_68
def x50_70:XCode:=.block 4 x50_69
def x50_71:List XOper:=[⟨(some 95),.op (.mv (.tmp 11)),none⟩,
 ⟨(some 96),.op (.mv (.tmp 0)),none⟩,
 ⟨(some 97),.op (.lenStr (.tmp 96)),none⟩,
 ⟨(some 98),.op (.bin .lss (.tmp 95) (.tmp 97)),none⟩]
def x50_72:List XOper:=[⟨(some 99),.op (.mv (.tmp 9)),none⟩,
 ⟨(some 100),.op (.mv (.tmp 10)),none⟩,
 ⟨(some 101),.op (.mv (.tmp 0)),none⟩,
 ⟨(some 102),.op (.mv (.tmp 11)),none⟩,
 ⟨(some 103),.op (.slStr (.tmp 101) (some (.tmp 102)) none),none⟩,
 ⟨(some 104),.op (.iaddrS 1 (.tmp 99) (.tmp 100)),none⟩,
 ⟨none,.op (.store 1 (.tmp 104) (.tmp 103)),none⟩]
def x50_73:XCode:=.cnd (.tmp 98) (.region x50_72) .skip
def x50_74:XCode:=.seq (.region x50_71) x50_73
def x50_75:List XOper:=[⟨(some 105),.op (.mv (.tmp 9)),none⟩,
 ⟨(some 2),.op (.mv (.tmp 105)),none⟩]
def x50_76:XCode:=.seq (.region x50_75) .ret
def x50_77:XCode:=.seq x50_74 x50_76
def x50_78:XCode:=.seq x50_70 x50_77
def x50_79:XCode:=.seq (.region x50_41) x50_78
def x50_80:XCode:=.seq x50_40 x50_79
def x50_81:XCode:=.seq (.region x50_32) x50_80
def x50_82:XCode:=.seq (.region x50_31) x50_81
def x50_83:XCode:=.seq (.region x50_30) x50_82
def x50_84:XCode:=.seq (.region x50_29) x50_83
def x50_85:XCode:=.seq x50_28 x50_84
def x50_86:XCode:=.seq x50_23 x50_85
def x50_87:XCode:=.seq (.region x50_3) x50_86
def x50_88:XCode:=.seq (.region x50_2) x50_87
def x50_89:XCode:=.seq (.region x50_1) x50_88
def x50_90:XCode:=.seq (.region x50_0) x50_89
def x50:XCode:=x50_90
theorem fx50:fnx Tryd.prog 50=some (106,[(2,none)],x50):=by kernel_rfl
def x57_0:List XOper:=[⟨(some 4),.op (.mv (.const (.int .i32 0))),none⟩]
def x57_1:List XOper:=[⟨(some 6),.op (.mv (.tmp 0)),none⟩,
 ⟨(some 7),.op (.mv (.tmp 1)),none⟩,
 ⟨(some 8),.op (.load .one 1 (.global 2)),none⟩,
 ⟨(some 9),.callF 74 [(.tmp 6),(.tmp 7),(.tmp 8)],none⟩,
 ⟨(some 5),.op (.mv (.tmp 9)),none⟩,
 ⟨(some 10),.op (.ext (.tmp 5) 0),none⟩,
 ⟨(some 11),.op (.ext (.tmp 5) 1),none⟩,
 ⟨(some 1),.op (.mv (.tmp 10)),none⟩]
def x57_2:List XOper:=[⟨(some 12),.op (.mv (.tmp 1)),none⟩,
 ⟨(some 4),.op (.mv (.tmp 12)),none⟩]
def x57_3:XCode:=.seq (.region x57_2) .ret
def x57_4:XCode:=.seq (.region x57_1) x57_3
def x57_5:XCode:=.seq (.region x57_0) x57_4
def x57:XCode:=x57_5
theorem fx57:fnx Tryd.prog 57=some (13,[(4,none)],x57):=by kernel_rfl
def x58_0:List XOper:=[⟨(some 2),.op (.mv (.const (.int .u8 0))),none⟩]
def x58_1:List XOper:=[⟨(some 3),.op (.mv (.tmp 0)),none⟩,
 ⟨(some 4),.op (.bin .or (.tmp 3) (.const (.int .u8 32))),none⟩,
 ⟨(some 2),.op (.mv (.tmp 4)),none⟩]
def x58_2:XCode:=.seq (.region x58_1) .ret
def x58_3:XCode:=.seq (.region x58_0) x58_2
def x58:XCode:=x58_3
theorem fx58:fnx Tryd.prog 58=some (5,[(2,none)],x58):=by kernel_rfl
def x59_0:List XOper:=[⟨(some 2),.op (.mv (.const (.bool false))),none⟩]
def x59_1:List XOper:=[⟨(some 3),.op (.mv (.const (.int .i32 94))),none⟩]
def x59_2:List XOper:=[⟨(some 4),.op (.mv (.const (.int .i64 0))),none⟩]
def x59_3:List XOper:=[⟨(some 6),.op (.mv (.tmp 0)),none⟩,
 ⟨(some 7),.op (.lenStr (.tmp 6)),none⟩,
 ⟨(some 8),.op (.bin .geq (.tmp 7) (.const (.int .i64 1))),none⟩,
 ⟨(some 9),.op (.mv (.tmp 8)),none⟩,
 ⟨(some 10),.op (.mv (.tmp 0)),(some (9,true))⟩,
 ⟨(some 11),.op (.idxStr (.tmp 10) (.const (.int .i64 0))),(some (9,true))⟩,
 ⟨(some 12),.op (.bin .eql (.tmp 11) (.const (.int .u8 45))),(some (9,true))⟩,
 ⟨(some 13),.op (.mv (.tmp 12)),(some (9,true))⟩,
 ⟨(some 14),.op (.mv (.tmp 0)),(some (13,false))⟩,
 ⟨(some 15),.op (.idxStr (.tmp 14) (.const (.int .i64 0))),(some (13,false))⟩,
 ⟨(some 16),.op (.bin .eql (.tmp 15) (.const (.int .u8 43))),(some (13,false))⟩,
 ⟨(some 17),.pick (.tmp 13) (.const (.bool true)) (.tmp 16),(some (9,true))⟩,
 ⟨(some 18),.pick (.tmp 9) (.tmp 17) (.const (.bool false)),none⟩]
def x59_4:List XOper:=[⟨(some 19),.op (.mv (.tmp 0)),none⟩,
 ⟨(some 20),.op (.slStr (.tmp 19) (some (.const (.int .i64 1))) none),none⟩,
 ⟨(some 0),.op (.mv (.tmp 20)),none⟩]
def x59_5:XCode:=.cnd (.tmp 18) (.region x59_4) .skip
def x59_6:XCode:=.seq (.region x59_3) x59_5
def x59_7:List XOper:=[⟨(some 5),.op (.mv (.const (.bool false))),none⟩]
def x59_8:List XOper:=[⟨(some 21),.op (.mv (.tmp 0)),none⟩,
 ⟨(some 22),.op (.lenStr (.tmp 21)),none⟩,
 ⟨(some 23),.op (.bin .geq (.tmp 22) (.const (.int .i64 2))),none⟩,
 ⟨(some 24),.op (.mv (.tmp 23)),none⟩,
 ⟨(some 25),.op (.mv (.tmp 0)),(some (24,true))⟩,
 ⟨(some 26),.op (.idxStr (.tmp 25) (.const (.int .i64 0))),(some (24,true))⟩,
 ⟨(some 27),.op (.bin .eql (.tmp 26) (.const (.int .u8 48))),(some (24,true))⟩,
 ⟨(some 28),.pick (.tmp 24) (.tmp 27) (.const (.bool false)),none⟩,
 ⟨(some 29),.op (.mv (.tmp 28)),none⟩,
 ⟨(some 30),.op (.mv (.tmp 0)),(some (29,true))⟩,
 ⟨(some 31),.op (.idxStr (.tmp 30) (.const (.int .i64 1))),(some (29,true))⟩,
 ⟨(some 32),.callF 58 [(.tmp 31)],(some (29,true))⟩,
 ⟨(some 33),.op (.bin .eql (.tmp 32) (.const (.int .u8 98))),(some (29,true))⟩,
 ⟨(some 34),.op (.mv (.tmp 33)),(some (29,true))⟩,
 ⟨(some 35),.op (.mv (.tmp 0)),(some (34,false))⟩,
 ⟨(some 36),.op (.idxStr (.tmp 35) (.const (.int .i64 1))),(some (34,false))⟩,
 ⟨(some 37),.callF 58 [(.tmp 36)],(some (34,false))⟩,
 ⟨(some 38),.op (.bin .eql (.tmp 37) (.const (.int .u8 111))),(some (34,false))⟩,
 ⟨(some 39),.pick (.tmp 34) (.const (.bool true)) (.tmp 38),(some (29,true))⟩,
 ⟨(some 40),.op (.mv (.tmp 39)),(some (29,true))⟩,
 ⟨(some 41),.op (.mv (.tmp 0)),(some (40,false))⟩,
 ⟨(some 42),.op (.idxStr (.tmp 41) (.const (.int .i64 1))),(some (40,false))⟩,
 ⟨(some 43),.callF 58 [(.tmp 42)],(some (40,false))⟩,
 ⟨(some 44),.op (.bin .eql (.tmp 43) (.const (.int .u8 120))),(some (40,false))⟩,
 ⟨(some 45),.pick (.tmp 40) (.const (.bool true)) (.tmp 44),(some (29,true))⟩,
 ⟨(some 46),.pick (.tmp 29) (.tmp 45) (.const (.bool false)),none⟩]
def x59_9:List XOper:=[⟨(some 4),.op (.mv (.const (.int .i64 2))),none⟩]
def x59_10:List XOper:=[⟨(some 3),.op (.mv (.const (.int .i32 48))),none⟩]
def x59_11:List XOper:=[⟨(some 47),.op (.mv (.tmp 0)),none⟩,
 ⟨(some 48),.op (.idxStr (.tmp 47) (.const (.int .i64 1))),none⟩,
 ⟨(some 49),.callF 58 [(.tmp 48)],none⟩,
 ⟨(some 50),.op (.bin .eql (.tmp 49) (.const (.int .u8 120))),none⟩,
 ⟨(some 5),.op (.mv (.tmp 50)),none⟩]
def x59_12:XCode:=.seq (.region x59_10) (.region x59_11)
def x59_13:XCode:=.seq (.region x59_9) x59_12
def x59_14:XCode:=.cnd (.tmp 46) x59_13 .skip
def x59_15:XCode:=.seq (.region x59_8) x59_14
def x59_16:List XOper:=[⟨(some 51),.op (.mv (.tmp 4)),none⟩,
 ⟨(some 52),.op (.mv (.tmp 0)),none⟩,
 ⟨(some 53),.op (.lenStr (.tmp 52)),none⟩,
 ⟨(some 54),.op (.bin .lss (.tmp 51) (.tmp 53)),none⟩]
def x59_17:XCode:=.cnd (.tmp 54) .skip (.exit 0)
def x59_18:XCode:=.seq (.region x59_16) x59_17
def x59_19:List XOper:=[⟨(some 57),.op (.mv (.tmp 0)),none⟩,
 ⟨(some 58),.op (.mv (.tmp 4)),none⟩,
 ⟨(some 59),.op (.idxStr (.tmp 57) (.tmp 58)),none⟩,
 ⟨(some 60),.op (.bin .leq (.const (.int .u8 48)) (.tmp 59)),none⟩,
 ⟨(some 61),.op (.mv (.tmp 60)),none⟩,
 ⟨(some 62),.op (.mv (.tmp 0)),(some (61,true))⟩,
 ⟨(some 63),.op (.mv (.tmp 4)),(some (61,true))⟩,
 ⟨(some 64),.op (.idxStr (.tmp 62) (.tmp 63)),(some (61,true))⟩,
 ⟨(some 65),.op (.bin .leq (.tmp 64) (.const (.int .u8 57))),(some (61,true))⟩,
 ⟨(some 66),.pick (.tmp 61) (.tmp 65) (.const (.bool false)),none⟩,
 ⟨(some 67),.op (.mv (.tmp 66)),none⟩,
 ⟨(some 68),.op (.mv (.tmp 5)),(some (67,false))⟩,
 ⟨(some 69),.op (.mv (.tmp 68)),(some (67,false))⟩,
 ⟨(some 70),.op (.mv (.tmp 0)),(some (69,true))⟩,
 ⟨(some 71),.op (.mv (.tmp 4)),(some (69,true))⟩,
 ⟨(some 72),.op (.idxStr (.tmp 70) (.tmp 71)),(some (69,true))⟩,
 ⟨(some 73),.callF 58 [(.tmp 72)],(some (69,true))⟩,
 ⟨(some 74),.op (.bin .leq (.const (.int .u8 97)) (.tmp 73)),(some (69,true))⟩,
 ⟨(some 75),.pick (.tmp 69) (.tmp 74) (.const (.bool false)),(some (67,false))⟩,
 ⟨(some 76),.op (.mv (.tmp 75)),(some (67,false))⟩,
 ⟨(some 77),.op (.mv (.tmp 0)),(some (76,true))⟩,
 ⟨(some 78),.op (.mv (.tmp 4)),(some (76,true))⟩,
 ⟨(some 79),.op (.idxStr (.tmp 77) (.tmp 78)),(some (76,true))⟩,
 ⟨(some 80),.callF 58 [(.tmp 79)],(some (76,true))⟩,
 ⟨(some 81),.op (.bin .leq (.tmp 80) (.const (.int .u8 102))),(some (76,true))⟩,
 ⟨(some 82),.pick (.tmp 76) (.tmp 81) (.const (.bool false)),(some (67,false))⟩,
 ⟨(some 83),.pick (.tmp 67) (.const (.bool true)) (.tmp 82),none⟩]
def x59_20:List XOper:=[⟨(some 3),.op (.mv (.const (.int .i32 48))),none⟩]
def x59_21:XCode:=.seq (.region x59_20) (.exit 1)
def x59_22:XCode:=.cnd (.tmp 83) x59_21 .skip
def x59_23:XCode:=.seq (.region x59_19) x59_22
def x59_24:List XOper:=[⟨(some 84),.op (.mv (.tmp 0)),none⟩,
 ⟨(some 85),.op (.mv (.tmp 4)),none⟩,
 ⟨(some 86),.op (.idxStr (.tmp 84) (.tmp 85)),none⟩,
 ⟨(some 87),.op (.bin .eql (.tmp 86) (.const (.int .u8 95))),none⟩]
def x59_25:List XOper:=[⟨(some 88),.op (.mv (.tmp 3)),none⟩,
 ⟨(some 89),.op (.bin .neq (.tmp 88) (.const (.int .i32 48))),none⟩]
def x59_26:List XOper:=[⟨(some 2),.op (.mv (.const (.bool false))),none⟩]
def x59_27:XCode:=.seq (.region x59_26) .ret
def x59_28:XCode:=.cnd (.tmp 89) x59_27 .skip
def x59_29:XCode:=.seq (.region x59_25) x59_28
def x59_30:List XOper:=[⟨(some 3),.op (.mv (.const (.int .i32 95))),none⟩]
def x59_31:XCode:=.seq (.region x59_30) (.exit 1)
def x59_32:XCode:=.seq x59_29 x59_31
def x59_33:XCode:=.cnd (.tmp 87) x59_32 .skip
def x59_34:XCode:=.seq (.region x59_24) x59_33
def x59_35:List XOper:=[⟨(some 90),.op (.mv (.tmp 3)),none⟩,
 ⟨(some 91),.op (.bin .eql (.tmp 90) (.const (.int .i32 95))),none⟩]
def x59_36:List XOper:=[⟨(some 2),.op (.mv (.const (.bool false))),none⟩]
def x59_37:XCode:=.seq (.region x59_36) .ret
def x59_38:XCode:=.cnd (.tmp 91) x59_37 .skip
def x59_39:XCode:=.seq (.region x59_35) x59_38
def x59_40:List XOper:=[⟨(some 3),.op (.mv (.const (.int .i32 33))),none⟩]
def x59_41:XCode:=.seq x59_39 (.region x59_40)
def x59_42:XCode:=.seq x59_34 x59_41
def x59_43:XCode:=.seq x59_23 x59_42
def x59_44:XCode:=.block 1 x59_43
def x59_45:List XOper:=[⟨(some 55),.op (.mv (.tmp 4)),none⟩,
 ⟨(some 56),.op (.bin .add (.tmp 55) (.const (.int .i64 1))),none⟩,
 ⟨(some 4),.op (.mv (.tmp 56)),none⟩]
def x59_46:XCode:=.seq x59_44 (.region x59_45)
def x59_47:XCode:=.seq x59_18 x59_46
def x59_48:XCode:=.loop x59_47
def x59_49:XCode:=.block 0 x59_48
def x59_50:List XOper:=[⟨(some 92),.op (.mv (.tmp 3)),none⟩,
 ⟨(some 93),.op (.bin .neq (.tmp 92) (.const (.int .i32 95))),none⟩,
 ⟨(some 2),.op (.mv (.tmp 93)),none⟩]
def x59_51:XCode:=.seq (.region x59_50) .ret
def x59_52:XCode:=.seq x59_49 x59_51
def x59_53:XCode:=.seq x59_15 x59_52
def x59_54:XCode:=.seq (.region x59_7) x59_53
def x59_55:XCode:=.seq x59_6 x59_54
def x59_56:XCode:=.seq (.region x59_2) x59_55
def x59_57:XCode:=.seq (.region x59_1) x59_56
def x59_58:XCode:=.seq (.region x59_0) x59_57
def x59:XCode:=x59_58
theorem fx59:fnx Tryd.prog 59=some (94,[(2,none)],x59):=by kernel_rfl
def x69_0:List XOper:=[⟨(some 2),.op (.mv (.const (.bool false))),none⟩]
def x69_1:List XOper:=[⟨(some 3),.op (.mv (.tmp 0)),none⟩,
 ⟨(some 4),.op (.conv .u32 (.tmp 3)),none⟩,
 ⟨(some 5),.op (.bin .leq (.tmp 4) (.const (.int .u32 255))),none⟩]
def x69_2:List XOper:=[⟨(some 6),.op (.mv (.tmp 0)),none⟩]
def x69_3:List XOper:=[⟨(some 8),.op (.bin .eql (.tmp 6) (.const (.int .i32 9))),none⟩,
 ⟨(some 7),.op (.mv (.tmp 8)),none⟩]
def x69_4:List XOper:=[⟨(some 9),.op (.bin .eql (.tmp 6) (.const (.int .i32 10))),none⟩,
 ⟨(some 7),.op (.mv (.tmp 9)),none⟩]
def x69_5:List XOper:=[⟨(some 10),.op (.bin .eql (.tmp 6) (.const (.int .i32 11))),none⟩,
 ⟨(some 7),.op (.mv (.tmp 10)),none⟩]
def x69_6:List XOper:=[⟨(some 11),.op (.bin .eql (.tmp 6) (.const (.int .i32 12))),none⟩,
 ⟨(some 7),.op (.mv (.tmp 11)),none⟩]
def x69_7:List XOper:=[⟨(some 12),.op (.bin .eql (.tmp 6) (.const (.int .i32 13))),none⟩,
 ⟨(some 7),.op (.mv (.tmp 12)),none⟩]
def x69_8:List XOper:=[⟨(some 13),.op (.bin .eql (.tmp 6) (.const (.int .i32 32))),none⟩,
 ⟨(some 7),.op (.mv (.tmp 13)),none⟩]
def x69_9:List XOper:=[⟨(some 14),.op (.bin .eql (.tmp 6) (.const (.int .i32 133))),none⟩,
 ⟨(some 7),.op (.mv (.tmp 14)),none⟩]
def x69_10:List XOper:=[⟨(some 15),.op (.bin .eql (.tmp 6) (.const (.int .i32 160))),none⟩,
 ⟨(some 7),.op (.mv (.tmp 15)),none⟩]
def x69_11:XCode:=.cnd (.tmp 7) .skip (.region x69_10)
def x69_12:XCode:=.seq (.region x69_9) x69_11
def x69_13:XCode:=.cnd (.tmp 7) .skip x69_12
def x69_14:XCode:=.seq (.region x69_8) x69_13
def x69_15:XCode:=.cnd (.tmp 7) .skip x69_14
def x69_16:XCode:=.seq (.region x69_7) x69_15
def x69_17:XCode:=.cnd (.tmp 7) .skip x69_16
def x69_18:XCode:=.seq (.region x69_6) x69_17
def x69_19:XCode:=.cnd (.tmp 7) .skip x69_18
def x69_20:XCode:=.seq (.region x69_5) x69_19
def x69_21:XCode:=.cnd (.tmp 7) .skip x69_20
def x69_22:XCode:=.seq (.region x69_4) x69_21
def x69_23:XCode:=.cnd (.tmp 7) .skip x69_22
def x69_24:XCode:=.seq (.region x69_3) x69_23
def x69_25:List XOper:=[⟨(some 2),.op (.mv (.const (.bool true))),none⟩]
def x69_26:XCode:=.seq (.region x69_25) .ret
def x69_27:XCode:=.cnd (.tmp 7) x69_26 .skip
def x69_28:XCode:=.seq x69_24 x69_27
def x69_29:XCode:=.block 0 x69_28
def x69_30:XCode:=.seq (.region x69_2) x69_29
def x69_31:List XOper:=[⟨(some 2),.op (.mv (.const (.bool false))),none⟩]
def x69_32:XCode:=.seq (.region x69_31) .ret
def x69_33:XCode:=.seq x69_30 x69_32
def x69_34:XCode:=.cnd (.tmp 5) x69_33 .skip
def x69_35:XCode:=.seq (.region x69_1) x69_34
def x69_36:List XOper:=[⟨(some 16),.op (.load .one 1 (.global 5)),none⟩,
 ⟨(some 17),.op (.mv (.tmp 0)),none⟩,
 ⟨(some 18),.callF 79 [(.tmp 16),(.tmp 17)],none⟩,
 ⟨(some 2),.op (.mv (.tmp 18)),none⟩]
def x69_37:XCode:=.seq (.region x69_36) .ret
def x69_38:XCode:=.seq x69_35 x69_37
def x69_39:XCode:=.seq (.region x69_0) x69_38
def x69:XCode:=x69_39
theorem fx69:fnx Tryd.prog 69=some (19,[(2,none)],x69):=by kernel_rfl
def x74_0:List XOper:=[⟨(some 6),.op (.mv (.const (.int .i32 0))),none⟩,
 ⟨(some 7),.op (.mv (.const (.bool false))),none⟩]
def x74_1:List XOper:=[⟨(some 9),.op (.mv (.tmp 0)),none⟩,
 ⟨(some 10),.op (.bin .lss (.tmp 9) (.const (.int .i64 0))),none⟩,
 ⟨(some 11),.op (.mv (.tmp 10)),none⟩,
 ⟨(some 12),.op (.mv (.tmp 0)),(some (11,false))⟩,
 ⟨(some 13),.op (.bin .leq (.const (.int .i64 3)) (.tmp 12)),(some (11,false))⟩,
 ⟨(some 14),.pick (.tmp 11) (.const (.bool true)) (.tmp 13),none⟩]
def x74_2:List XOper:=[⟨(some 6),.op (.mv (.const (.int .i32 65533))),none⟩,
 ⟨(some 7),.op (.mv (.const (.bool false))),none⟩]
def x74_3:XCode:=.seq (.region x74_2) .ret
def x74_4:XCode:=.cnd (.tmp 14) x74_3 .skip
def x74_5:XCode:=.seq (.region x74_1) x74_4
def x74_6:List XOper:=[⟨(some 15),.op (.mv (.tmp 1)),none⟩,
 ⟨(some 16),.op (.mv (.tmp 2)),none⟩,
 ⟨(some 17),.callF 81 [(.tmp 15),(.tmp 16)],none⟩,
 ⟨(some 8),.op (.mv (.tmp 17)),none⟩]
def x74_7:List XOper:=[⟨(some 18),.op (.mv (.tmp 8)),none⟩,
 ⟨(some 19),.op (.eqnil 0 true (.tmp 18) (.const (.pointer none))),none⟩]
def x74_8:List XOper:=[⟨(some 20),.op (.mv (.tmp 0)),none⟩,
 ⟨(some 21),.op (.mv (.tmp 1)),none⟩,
 ⟨(some 22),.op (.mv (.tmp 8)),none⟩,
 ⟨(some 23),.callF 82 [(.tmp 20),(.tmp 21),(.tmp 22)],none⟩,
 ⟨(some 6),.op (.mv (.tmp 23)),none⟩,
 ⟨(some 7),.op (.mv (.const (.bool true))),none⟩]
def x74_9:XCode:=.seq (.region x74_8) .ret
def x74_10:XCode:=.cnd (.tmp 19) x74_9 .skip
def x74_11:XCode:=.seq (.region x74_7) x74_10
def x74_12:XCode:=.seq (.region x74_6) x74_11
def x74_13:List XOper:=[⟨(some 24),.op (.mv (.tmp 1)),none⟩,
 ⟨(some 6),.op (.mv (.tmp 24)),none⟩,
 ⟨(some 7),.op (.mv (.const (.bool false))),none⟩]
def x74_14:XCode:=.seq (.region x74_13) .ret
def x74_15:XCode:=.seq x74_12 x74_14
def x74_16:XCode:=.seq x74_5 x74_15
def x74_17:XCode:=.seq (.region x74_0) x74_16
def x74:XCode:=x74_17
theorem fx74:fnx Tryd.prog 74=some (25,[(6,none),(7,none)],x74):=by kernel_rfl
def x79_0:List XOper:=[⟨(some 4),.op (.mv (.const (.bool false))),none⟩]
def x79_1:List XOper:=[⟨(some 8),.op (.mv (.tmp 0)),none⟩,
 ⟨(some 9),.op (.nilck (.tmp 8)),none⟩,
 ⟨(some 10),.op (.faddr 0 (.tmp 9)),none⟩,
 ⟨(some 11),.op (.load .one 1 (.tmp 10)),none⟩,
 ⟨(some 5),.op (.mv (.tmp 11)),none⟩]
def x79_2:List XOper:=[⟨(some 12),.op (.mv (.tmp 0)),none⟩,
 ⟨(some 13),.op (.nilck (.tmp 12)),none⟩,
 ⟨(some 14),.op (.faddr 2 (.tmp 13)),none⟩,
 ⟨(some 15),.op (.load (.int .i64) 1 (.tmp 14)),none⟩,
 ⟨(some 6),.op (.mv (.tmp 15)),none⟩]
def x79_3:List XOper:=[⟨(some 16),.op (.mv (.tmp 5)),none⟩,
 ⟨(some 17),.op (.lenS (.tmp 16)),none⟩,
 ⟨(some 18),.op (.mv (.tmp 6)),none⟩,
 ⟨(some 19),.op (.bin .gtr (.tmp 17) (.tmp 18)),none⟩,
 ⟨(some 20),.op (.mv (.tmp 19)),none⟩,
 ⟨(some 21),.op (.mv (.tmp 1)),(some (20,true))⟩,
 ⟨(some 22),.op (.conv .u32 (.tmp 21)),(some (20,true))⟩,
 ⟨(some 23),.op (.mv (.tmp 5)),(some (20,true))⟩,
 ⟨(some 24),.op (.mv (.tmp 5)),(some (20,true))⟩,
 ⟨(some 25),.op (.lenS (.tmp 24)),(some (20,true))⟩,
 ⟨(some 26),.op (.bin .sub (.tmp 25) (.const (.int .i64 1))),(some (20,true))⟩,
 ⟨(some 27),.op (.iaddrS 3 (.tmp 23) (.tmp 26)),(some (20,true))⟩,
 ⟨(some 28),.op (.faddr 1 (.tmp 27)),(some (20,true))⟩,
 ⟨(some 29),.op (.load (.int .u16) 1 (.tmp 28)),(some (20,true))⟩,
 ⟨(some 30),.op (.conv .u32 (.tmp 29)),(some (20,true))⟩,
 ⟨(some 31),.op (.bin .leq (.tmp 22) (.tmp 30)),(some (20,true))⟩,
 ⟨(some 32),.pick (.tmp 20) (.tmp 31) (.const (.bool false)),none⟩]
def x79_4:List XOper:=[⟨(some 33),.op (.mv (.tmp 5)),none⟩,
 ⟨(some 34),.op (.mv (.tmp 6)),none⟩,
 ⟨(some 35),.op (.slS 3 (.tmp 33) (some (.tmp 34)) none),none⟩,
 ⟨(some 36),.op (.mv (.tmp 1)),none⟩,
 ⟨(some 37),.op (.conv .u16 (.tmp 36)),none⟩,
 ⟨(some 38),.callF 84 [(.tmp 35),(.tmp 37)],none⟩,
 ⟨(some 4),.op (.mv (.tmp 38)),none⟩]
def x79_5:XCode:=.seq (.region x79_4) .ret
def x79_6:XCode:=.cnd (.tmp 32) x79_5 .skip
def x79_7:XCode:=.seq (.region x79_3) x79_6
def x79_8:XCode:=.seq (.region x79_2) x79_7
def x79_9:List XOper:=[⟨(some 39),.op (.mv (.tmp 0)),none⟩,
 ⟨(some 40),.op (.nilck (.tmp 39)),none⟩,
 ⟨(some 41),.op (.faddr 1 (.tmp 40)),none⟩,
 ⟨(some 42),.op (.load .one 1 (.tmp 41)),none⟩,
 ⟨(some 7),.op (.mv (.tmp 42)),none⟩]
def x79_10:List XOper:=[⟨(some 43),.op (.mv (.tmp 7)),none⟩,
 ⟨(some 44),.op (.lenS (.tmp 43)),none⟩,
 ⟨(some 45),.op (.bin .gtr (.tmp 44) (.const (.int .i64 0))),none⟩,
 ⟨(some 46),.op (.mv (.tmp 45)),none⟩,
 ⟨(some 47),.op (.mv (.tmp 1)),(some (46,true))⟩,
 ⟨(some 48),.op (.mv (.tmp 7)),(some (46,true))⟩,
 ⟨(some 49),.op (.iaddrS 3 (.tmp 48) (.const (.int .i64 0))),(some (46,true))⟩,
 ⟨(some 50),.op (.faddr 0 (.tmp 49)),(some (46,true))⟩,
 ⟨(some 51),.op (.load (.int .u32) 1 (.tmp 50)),(some (46,true))⟩,
 ⟨(some 52),.op (.conv .i32 (.tmp 51)),(some (46,true))⟩,
 ⟨(some 53),.op (.bin .geq (.tmp 47) (.tmp 52)),(some (46,true))⟩,
 ⟨(some 54),.pick (.tmp 46) (.tmp 53) (.const (.bool false)),none⟩]
def x79_11:List XOper:=[⟨(some 55),.op (.mv (.tmp 7)),none⟩,
 ⟨(some 56),.op (.mv (.tmp 1)),none⟩,
 ⟨(some 57),.op (.conv .u32 (.tmp 56)),none⟩,
 ⟨(some 58),.callF 85 [(.tmp 55),(.tmp 57)],none⟩,
 ⟨(some 4),.op (.mv (.tmp 58)),none⟩]
def x79_12:XCode:=.seq (.region x79_11) .ret
def x79_13:XCode:=.cnd (.tmp 54) x79_12 .skip
def x79_14:XCode:=.seq (.region x79_10) x79_13
def x79_15:List XOper:=[⟨(some 4),.op (.mv (.const (.bool false))),none⟩]
def x79_16:XCode:=.seq (.region x79_15) .ret
def x79_17:XCode:=.seq x79_14 x79_16
def x79_18:XCode:=.seq (.region x79_9) x79_17
def x79_19:XCode:=.seq x79_8 x79_18
def x79_20:XCode:=.seq (.region x79_1) x79_19
def x79_21:XCode:=.seq (.region x79_0) x79_20
def x79:XCode:=x79_21
theorem fx79:fnx Tryd.prog 79=some (59,[(4,none)],x79):=by kernel_rfl
def x81_0:List XOper:=[⟨(some 4),.op (.mv (.const (.pointer none))),none⟩]
def x81_1:List XOper:=[⟨(some 5),.op (.mv (.const (.int .i64 0))),none⟩]
def x81_2:List XOper:=[⟨(some 9),.op (.mv (.tmp 1)),none⟩,
 ⟨(some 10),.op (.lenS (.tmp 9)),none⟩,
 ⟨(some 6),.op (.mv (.tmp 10)),none⟩]
def x81_3:List XOper:=[⟨(some 11),.op (.mv (.tmp 5)),none⟩,
 ⟨(some 12),.op (.mv (.tmp 6)),none⟩,
 ⟨(some 13),.op (.bin .lss (.tmp 11) (.tmp 12)),none⟩]
def x81_4:XCode:=.cnd (.tmp 13) .skip (.exit 0)
def x81_5:XCode:=.seq (.region x81_3) x81_4
def x81_6:List XOper:=[⟨(some 14),.op (.mv (.tmp 5)),none⟩,
 ⟨(some 15),.op (.mv (.tmp 6)),none⟩,
 ⟨(some 16),.op (.bin .add (.tmp 14) (.tmp 15)),none⟩,
 ⟨(some 17),.op (.conv .u64 (.tmp 16)),none⟩,
 ⟨(some 18),.op (.bin .shr (.tmp 17) (.const (.int .u64 1))),none⟩,
 ⟨(some 19),.op (.conv .i64 (.tmp 18)),none⟩,
 ⟨(some 7),.op (.mv (.tmp 19)),none⟩]
def x81_7:List XOper:=[⟨(some 20),.op (.mv (.tmp 1)),none⟩,
 ⟨(some 21),.op (.mv (.tmp 7)),none⟩,
 ⟨(some 22),.op (.iaddrS 5 (.tmp 20) (.tmp 21)),none⟩,
 ⟨(some 8),.op (.mv (.tmp 22)),none⟩]
def x81_8:List XOper:=[⟨(some 23),.op (.mv (.tmp 8)),none⟩,
 ⟨(some 24),.op (.nilck (.tmp 23)),none⟩,
 ⟨(some 25),.op (.faddr 0 (.tmp 24)),none⟩,
 ⟨(some 26),.op (.load (.int .u32) 1 (.tmp 25)),none⟩,
 ⟨(some 27),.op (.conv .i32 (.tmp 26)),none⟩,
 ⟨(some 28),.op (.mv (.tmp 0)),none⟩,
 ⟨(some 29),.op (.bin .leq (.tmp 27) (.tmp 28)),none⟩,
 ⟨(some 30),.op (.mv (.tmp 29)),none⟩,
 ⟨(some 31),.op (.mv (.tmp 0)),(some (30,true))⟩,
 ⟨(some 32),.op (.mv (.tmp 8)),(some (30,true))⟩,
 ⟨(some 33),.op (.nilck (.tmp 32)),(some (30,true))⟩,
 ⟨(some 34),.op (.faddr 1 (.tmp 33)),(some (30,true))⟩,
 ⟨(some 35),.op (.load (.int .u32) 1 (.tmp 34)),(some (30,true))⟩,
 ⟨(some 36),.op (.conv .i32 (.tmp 35)),(some (30,true))⟩,
 ⟨(some 37),.op (.bin .leq (.tmp 31) (.tmp 36)),(some (30,true))⟩,
 ⟨(some 38),.pick (.tmp 30) (.tmp 37) (.const (.bool false)),none⟩]
def x81_9:List XOper:=[⟨(some 39),.op (.mv (.tmp 8)),none⟩,
 ⟨(some 4),.op (.mv (.tmp 39)),none⟩]
def x81_10:XCode:=.seq (.region x81_9) .ret
def x81_11:XCode:=.cnd (.tmp 38) x81_10 .skip
def x81_12:XCode:=.seq (.region x81_8) x81_11
def x81_13:List XOper:=[⟨(some 40),.op (.mv (.tmp 0)),none⟩,
 ⟨(some 41),.op (.mv (.tmp 8)),none⟩,
 ⟨(some 42),.op (.nilck (.tmp 41)),none⟩,
 ⟨(some 43),.op (.faddr 0 (.tmp 42)),none⟩,
 ⟨(some 44),.op (.load (.int .u32) 1 (.tmp 43)),none⟩,
 ⟨(some 45),.op (.conv .i32 (.tmp 44)),none⟩,
 ⟨(some 46),.op (.bin .lss (.tmp 40) (.tmp 45)),none⟩]
def x81_14:List XOper:=[⟨(some 47),.op (.mv (.tmp 7)),none⟩,
 ⟨(some 6),.op (.mv (.tmp 47)),none⟩]
def x81_15:List XOper:=[⟨(some 48),.op (.mv (.tmp 7)),none⟩,
 ⟨(some 49),.op (.bin .add (.tmp 48) (.const (.int .i64 1))),none⟩,
 ⟨(some 5),.op (.mv (.tmp 49)),none⟩]
def x81_16:XCode:=.cnd (.tmp 46) (.region x81_14) (.region x81_15)
def x81_17:XCode:=.seq (.region x81_13) x81_16
def x81_18:XCode:=.seq x81_12 x81_17
def x81_19:XCode:=.seq (.region x81_7) x81_18
def x81_20:XCode:=.seq (.region x81_6) x81_19
def x81_21:XCode:=.block 1 x81_20
def x81_22:XCode:=.seq x81_5 x81_21
def x81_23:XCode:=.loop x81_22
def x81_24:XCode:=.block 0 x81_23
def x81_25:List XOper:=[⟨(some 4),.op (.mv (.const (.pointer none))),none⟩]
def x81_26:XCode:=.seq (.region x81_25) .ret
def x81_27:XCode:=.seq x81_24 x81_26
def x81_28:XCode:=.seq (.region x81_2) x81_27
def x81_29:XCode:=.seq (.region x81_1) x81_28
def x81_30:XCode:=.seq (.region x81_0) x81_29
def x81:XCode:=x81_30
theorem fx81:fnx Tryd.prog 81=some (50,[(4,none)],x81):=by kernel_rfl
def x82_0:List XOper:=[⟨(some 6),.op (.mv (.const (.int .i32 0))),none⟩]
def x82_1:List XOper:=[⟨(some 8),.op (.mv (.tmp 2)),none⟩,
 ⟨(some 9),.op (.mv (.tmp 0)),none⟩,
 ⟨(some 10),.op (.nilck (.tmp 8)),none⟩,
 ⟨(some 11),.op (.faddr 2 (.tmp 10)),none⟩,
 ⟨(some 12),.op (.iaddrA true 3 1 (.tmp 11) (.tmp 9)),none⟩,
 ⟨(some 13),.op (.load (.int .i32) 1 (.tmp 12)),none⟩,
 ⟨(some 7),.op (.mv (.tmp 13)),none⟩]
def x82_2:List XOper:=[⟨(some 14),.op (.mv (.tmp 7)),none⟩,
 ⟨(some 15),.op (.bin .gtr (.tmp 14) (.const (.int .i32 1114111))),none⟩]
def x82_3:List XOper:=[⟨(some 16),.op (.mv (.tmp 2)),none⟩,
 ⟨(some 17),.op (.nilck (.tmp 16)),none⟩,
 ⟨(some 18),.op (.faddr 0 (.tmp 17)),none⟩,
 ⟨(some 19),.op (.load (.int .u32) 1 (.tmp 18)),none⟩,
 ⟨(some 20),.op (.conv .i32 (.tmp 19)),none⟩,
 ⟨(some 21),.op (.mv (.tmp 1)),none⟩,
 ⟨(some 22),.op (.mv (.tmp 2)),none⟩,
 ⟨(some 23),.op (.nilck (.tmp 22)),none⟩,
 ⟨(some 24),.op (.faddr 0 (.tmp 23)),none⟩,
 ⟨(some 25),.op (.load (.int .u32) 1 (.tmp 24)),none⟩,
 ⟨(some 26),.op (.conv .i32 (.tmp 25)),none⟩,
 ⟨(some 27),.op (.bin .sub (.tmp 21) (.tmp 26)),none⟩,
 ⟨(some 28),.op (.bin .andNot (.tmp 27) (.const (.int .i32 1))),none⟩,
 ⟨(some 29),.op (.mv (.tmp 0)),none⟩,
 ⟨(some 30),.op (.bin .and (.tmp 29) (.const (.int .i64 1))),none⟩,
 ⟨(some 31),.op (.conv .i32 (.tmp 30)),none⟩,
 ⟨(some 32),.op (.bin .or (.tmp 28) (.tmp 31)),none⟩,
 ⟨(some 33),.op (.bin .add (.tmp 20) (.tmp 32)),none⟩,
 ⟨(some 6),.op (.mv (.tmp 33)),none⟩]
def x82_4:XCode:=.seq (.draw x82_3 [[],[0],[0,1],[0,1,2],[0,1,2,3],[],[],[6],[6,7],[6,7,8],[6,7,8,9],[5,6,7,8,9,10],[5,6,7,8,9,10,11],[],[13],[13,14],[5,6,7,8,9,10,11,12,13,14,15],[0,1,2,3,4,5,6,7,8,9,10,11,12,13,14,15,16],[0,1,2,3,4,5,6,7,8,9,10,11,12,13,14,15,16,17]]) .ret
def x82_5:XCode:=.cnd (.tmp 15) x82_4 .skip
def x82_6:XCode:=.seq (.region x82_2) x82_5
def x82_7:List XOper:=[⟨(some 34),.op (.mv (.tmp 1)),none⟩,
 ⟨(some 35),.op (.mv (.tmp 7)),none⟩,
 ⟨(some 36),.op (.bin .add (.tmp 34) (.tmp 35)),none⟩,
 ⟨(some 6),.op (.mv (.tmp 36)),none⟩]
def x82_8:XCode:=.seq (.region x82_7) .ret
def x82_9:XCode:=.seq x82_6 x82_8
def x82_10:XCode:=.seq (.region x82_1) x82_9
def x82_11:XCode:=.seq (.region x82_0) x82_10
def x82:XCode:=x82_11
theorem fx82:fnx Tryd.prog 82=some (37,[(6,none)],x82):=by kernel_rfl
def x84_0:List XOper:=[⟨(some 4),.op (.mv (.const (.bool false))),none⟩]
def x84_1:List XOper:=[⟨(some 11),.op (.mv (.tmp 0)),none⟩,
 ⟨(some 12),.op (.lenS (.tmp 11)),none⟩,
 ⟨(some 13),.op (.bin .leq (.tmp 12) (.const (.int .i64 18))),none⟩,
 ⟨(some 14),.op (.mv (.tmp 13)),none⟩,
 ⟨(some 15),.op (.mv (.tmp 1)),(some (14,false))⟩,
 ⟨(some 16),.op (.bin .leq (.tmp 15) (.const (.int .u16 255))),(some (14,false))⟩,
 ⟨(some 17),.pick (.tmp 14) (.const (.bool true)) (.tmp 16),none⟩]
def x84_2:List XOper:=[⟨(some 18),.op (.mv (.tmp 0)),none⟩,
 ⟨(some 19),.op (.lenS (.tmp 18)),none⟩,
 ⟨(some 20),.op (.mv (.const (.int .i64 0))),none⟩]
def x84_3:List XOper:=[⟨(some 21),.op (.bin .lss (.tmp 20) (.tmp 19)),none⟩]
def x84_4:XCode:=.cnd (.tmp 21) .skip (.exit 0)
def x84_5:List XOper:=[⟨(some 22),.op (.mv (.tmp 20)),none⟩,
 ⟨(some 5),.op (.mv (.tmp 22)),none⟩]
def x84_6:List XOper:=[⟨(some 23),.op (.mv (.tmp 0)),none⟩,
 ⟨(some 24),.op (.mv (.tmp 5)),none⟩,
 ⟨(some 25),.op (.iaddrS 3 (.tmp 23) (.tmp 24)),none⟩,
 ⟨(some 6),.op (.mv (.tmp 25)),none⟩]
def x84_7:List XOper:=[⟨(some 26),.op (.mv (.tmp 1)),none⟩,
 ⟨(some 27),.op (.mv (.tmp 6)),none⟩,
 ⟨(some 28),.op (.nilck (.tmp 27)),none⟩,
 ⟨(some 29),.op (.faddr 0 (.tmp 28)),none⟩,
 ⟨(some 30),.op (.load (.int .u16) 1 (.tmp 29)),none⟩,
 ⟨(some 31),.op (.bin .lss (.tmp 26) (.tmp 30)),none⟩]
def x84_8:List XOper:=[⟨(some 4),.op (.mv (.const (.bool false))),none⟩]
def x84_9:XCode:=.seq (.region x84_8) .ret
def x84_10:XCode:=.cnd (.tmp 31) x84_9 .skip
def x84_11:XCode:=.seq (.region x84_7) x84_10
def x84_12:List XOper:=[⟨(some 32),.op (.mv (.tmp 1)),none⟩,
 ⟨(some 33),.op (.mv (.tmp 6)),none⟩,
 ⟨(some 34),.op (.nilck (.tmp 33)),none⟩,
 ⟨(some 35),.op (.faddr 1 (.tmp 34)),none⟩,
 ⟨(some 36),.op (.load (.int .u16) 1 (.tmp 35)),none⟩,
 ⟨(some 37),.op (.bin .leq (.tmp 32) (.tmp 36)),none⟩]
def x84_13:List XOper:=[⟨(some 38),.op (.mv (.tmp 6)),none⟩,
 ⟨(some 39),.op (.nilck (.tmp 38)),none⟩,
 ⟨(some 40),.op (.faddr 2 (.tmp 39)),none⟩,
 ⟨(some 41),.op (.load (.int .u16) 1 (.tmp 40)),none⟩,
 ⟨(some 42),.op (.bin .eql (.tmp 41) (.const (.int .u16 1))),none⟩,
 ⟨(some 43),.op (.mv (.tmp 42)),none⟩,
 ⟨(some 44),.op (.mv (.tmp 1)),(some (43,false))⟩,
 ⟨(some 45),.op (.mv (.tmp 6)),(some (43,false))⟩,
 ⟨(some 46),.op (.nilck (.tmp 45)),(some (43,false))⟩,
 ⟨(some 47),.op (.faddr 0 (.tmp 46)),(some (43,false))⟩,
 ⟨(some 48),.op (.load (.int .u16) 1 (.tmp 47)),(some (43,false))⟩,
 ⟨(some 49),.op (.bin .sub (.tmp 44) (.tmp 48)),(some (43,false))⟩,
 ⟨(some 50),.op (.mv (.tmp 6)),(some (43,false))⟩,
 ⟨(some 51),.op (.nilck (.tmp 50)),(some (43,false))⟩,
 ⟨(some 52),.op (.faddr 2 (.tmp 51)),(some (43,false))⟩,
 ⟨(some 53),.op (.load (.int .u16) 1 (.tmp 52)),(some (43,false))⟩,
 ⟨(some 54),.op (.bin .rem (.tmp 49) (.tmp 53)),(some (43,false))⟩,
 ⟨(some 55),.op (.bin .eql (.tmp 54) (.const (.int .u16 0))),(some (43,false))⟩,
 ⟨(some 56),.pick (.tmp 43) (.const (.bool true)) (.tmp 55),none⟩,
 ⟨(some 4),.op (.mv (.tmp 56)),none⟩]
def x84_14:XCode:=.seq (.draw x84_13 [[],[0],[0,1],[0,1,2],[0,1,2,3],[0,1,2,3,4],[0,1,2,3,4,5],[0,1,2,3,4,5],[0,1,2,3,4,5,7],[0,1,2,3,4,5,7,8],[0,1,2,3,4,5,7,8,9],[0,1,2,3,4,5,6,7,8,9,10],[0,1,2,3,4,5],[0,1,2,3,4,5,12],[0,1,2,3,4,5,12,13],[0,1,2,3,4,5,12,13,14],[0,1,2,3,4,5,6,7,8,9,10,11,12,13,14,15],[0,1,2,3,4,5,6,7,8,9,10,11,12,13,14,15,16],[0,1,2,3,4,5,6,7,8,9,10,11,12,13,14,15,16,17],[0,1,2,3,4,5,6,7,8,9,10,11,12,13,14,15,16,17,18]]) .ret
def x84_15:XCode:=.cnd (.tmp 37) x84_14 .skip
def x84_16:XCode:=.seq (.region x84_12) x84_15
def x84_17:XCode:=.seq x84_11 x84_16
def x84_18:XCode:=.seq (.region x84_6) x84_17
def x84_19:XCode:=.seq (.region x84_5) x84_18
def x84_20:XCode:=.block 1 x84_19
def x84_21:List XOper:=[⟨(some 57),.op (.bin .add (.tmp 20) (.const (.int .i64 1))),none⟩,
 ⟨(some 20),.op (.mv (.tmp 57)),none⟩]
def x84_22:XCode:=.seq x84_20 (.region x84_21)
def x84_23:XCode:=.seq x84_4 x84_22
def x84_24:XCode:=.seq (.region x84_3) x84_23
def x84_25:XCode:=.loop x84_24
def x84_26:XCode:=.block 0 x84_25
def x84_27:XCode:=.seq (.region x84_2) x84_26
def x84_28:List XOper:=[⟨(some 4),.op (.mv (.const (.bool false))),none⟩]
def x84_29:XCode:=.seq (.region x84_28) .ret
def x84_30:XCode:=.seq x84_27 x84_29
def x84_31:XCode:=.cnd (.tmp 17) x84_30 .skip
def x84_32:XCode:=.seq (.region x84_1) x84_31
def x84_33:List XOper:=[⟨(some 7),.op (.mv (.const (.int .i64 0))),none⟩]
def x84_34:List XOper:=[⟨(some 58),.op (.mv (.tmp 0)),none⟩,
 ⟨(some 59),.op (.lenS (.tmp 58)),none⟩,
 ⟨(some 8),.op (.mv (.tmp 59)),none⟩]
def x84_35:List XOper:=[⟨(some 60),.op (.mv (.tmp 7)),none⟩,
 ⟨(some 61),.op (.mv (.tmp 8)),none⟩,
 ⟨(some 62),.op (.bin .lss (.tmp 60) (.tmp 61)),none⟩]
def x84_36:XCode:=.cnd (.tmp 62) .skip (.exit 2)
def x84_37:XCode:=.seq (.region x84_35) x84_36
def x84_38:List XOper:=[⟨(some 63),.op (.mv (.tmp 7)),none⟩,
 ⟨(some 64),.op (.mv (.tmp 8)),none⟩,
 ⟨(some 65),.op (.bin .add (.tmp 63) (.tmp 64)),none⟩,
 ⟨(some 66),.op (.conv .u64 (.tmp 65)),none⟩,
 ⟨(some 67),.op (.bin .shr (.tmp 66) (.const (.int .u64 1))),none⟩,
 ⟨(some 68),.op (.conv .i64 (.tmp 67)),none⟩,
 ⟨(some 9),.op (.mv (.tmp 68)),none⟩]
def x84_39:List XOper:=[⟨(some 69),.op (.mv (.tmp 0)),none⟩,
 ⟨(some 70),.op (.mv (.tmp 9)),none⟩,
 ⟨(some 71),.op (.iaddrS 3 (.tmp 69) (.tmp 70)),none⟩,
 ⟨(some 10),.op (.mv (.tmp 71)),none⟩]
def x84_40:List XOper:=[⟨(some 72),.op (.mv (.tmp 10)),none⟩,
 ⟨(some 73),.op (.nilck (.tmp 72)),none⟩,
 ⟨(some 74),.op (.faddr 0 (.tmp 73)),none⟩,
 ⟨(some 75),.op (.load (.int .u16) 1 (.tmp 74)),none⟩,
 ⟨(some 76),.op (.mv (.tmp 1)),none⟩,
 ⟨(some 77),.op (.bin .leq (.tmp 75) (.tmp 76)),none⟩,
 ⟨(some 78),.op (.mv (.tmp 77)),none⟩,
 ⟨(some 79),.op (.mv (.tmp 1)),(some (78,true))⟩,
 ⟨(some 80),.op (.mv (.tmp 10)),(some (78,true))⟩,
 ⟨(some 81),.op (.nilck (.tmp 80)),(some (78,true))⟩,
 ⟨(some 82),.op (.faddr 1 (.tmp 81)),(some (78,true))⟩,
 ⟨(some 83),.op (.load (.int .u16) 1 (.tmp 82)),(some (78,true))⟩,
 ⟨(some 84),.op (.bin .leq (.tmp 79) (.tmp 83)),(some (78,true))⟩,
 ⟨(some 85),.pick (.tmp 78) (.tmp 84) (.const (.bool false)),none⟩]
def x84_41:List XOper:=[⟨(some 86),.op (.mv (.tmp 10)),none⟩,
 ⟨(some 87),.op (.nilck (.tmp 86)),none⟩,
 ⟨(some 88),.op (.faddr 2 (.tmp 87)),none⟩,
 ⟨(some 89),.op (.load (.int .u16) 1 (.tmp 88)),none⟩,
 ⟨(some 90),.op (.bin .eql (.tmp 89) (.const (.int .u16 1))),none⟩,
 ⟨(some 91),.op (.mv (.tmp 90)),none⟩,
 ⟨(some 92),.op (.mv (.tmp 1)),(some (91,false))⟩,
 ⟨(some 93),.op (.mv (.tmp 10)),(some (91,false))⟩,
 ⟨(some 94),.op (.nilck (.tmp 93)),(some (91,false))⟩,
 ⟨(some 95),.op (.faddr 0 (.tmp 94)),(some (91,false))⟩,
 ⟨(some 96),.op (.load (.int .u16) 1 (.tmp 95)),(some (91,false))⟩,
 ⟨(some 97),.op (.bin .sub (.tmp 92) (.tmp 96)),(some (91,false))⟩,
 ⟨(some 98),.op (.mv (.tmp 10)),(some (91,false))⟩,
 ⟨(some 99),.op (.nilck (.tmp 98)),(some (91,false))⟩,
 ⟨(some 100),.op (.faddr 2 (.tmp 99)),(some (91,false))⟩,
 ⟨(some 101),.op (.load (.int .u16) 1 (.tmp 100)),(some (91,false))⟩,
 ⟨(some 102),.op (.bin .rem (.tmp 97) (.tmp 101)),(some (91,false))⟩,
 ⟨(some 103),.op (.bin .eql (.tmp 102) (.const (.int .u16 0))),(some (91,false))⟩,
 ⟨(some 104),.pick (.tmp 91) (.const (.bool true)) (.tmp 103),none⟩,
 ⟨(some 4),.op (.mv (.tmp 104)),none⟩]
def x84_42:XCode:=.seq (.draw x84_41 [[],[0],[0,1],[0,1,2],[0,1,2,3],[0,1,2,3,4],[0,1,2,3,4,5],[0,1,2,3,4,5],[0,1,2,3,4,5,7],[0,1,2,3,4,5,7,8],[0,1,2,3,4,5,7,8,9],[0,1,2,3,4,5,6,7,8,9,10],[0,1,2,3,4,5],[0,1,2,3,4,5,12],[0,1,2,3,4,5,12,13],[0,1,2,3,4,5,12,13,14],[0,1,2,3,4,5,6,7,8,9,10,11,12,13,14,15],[0,1,2,3,4,5,6,7,8,9,10,11,12,13,14,15,16],[0,1,2,3,4,5,6,7,8,9,10,11,12,13,14,15,16,17],[0,1,2,3,4,5,6,7,8,9,10,11,12,13,14,15,16,17,18]]) .ret
def x84_43:XCode:=.cnd (.tmp 85) x84_42 .skip
def x84_44:XCode:=.seq (.region x84_40) x84_43
def x84_45:List XOper:=[⟨(some 105),.op (.mv (.tmp 1)),none⟩,
 ⟨(some 106),.op (.mv (.tmp 10)),none⟩,
 ⟨(some 107),.op (.nilck (.tmp 106)),none⟩,
 ⟨(some 108),.op (.faddr 0 (.tmp 107)),none⟩,
 ⟨(some 109),.op (.load (.int .u16) 1 (.tmp 108)),none⟩,
 ⟨(some 110),.op (.bin .lss (.tmp 105) (.tmp 109)),none⟩]
def x84_46:List XOper:=[⟨(some 111),.op (.mv (.tmp 9)),none⟩,
 ⟨(some 8),.op (.mv (.tmp 111)),none⟩]
def x84_47:List XOper:=[⟨(some 112),.op (.mv (.tmp 9)),none⟩,
 ⟨(some 113),.op (.bin .add (.tmp 112) (.const (.int .i64 1))),none⟩,
 ⟨(some 7),.op (.mv (.tmp 113)),none⟩]
def x84_48:XCode:=.cnd (.tmp 110) (.region x84_46) (.region x84_47)
def x84_49:XCode:=.seq (.region x84_45) x84_48
def x84_50:XCode:=.seq x84_44 x84_49
def x84_51:XCode:=.seq (.region x84_39) x84_50
def x84_52:XCode:=.seq (.region x84_38) x84_51
def x84_53:XCode:=.block 3 x84_52
def x84_54:XCode:=.seq x84_37 x84_53
def x84_55:XCode:=.loop x84_54
def x84_56:XCode:=.block 2 x84_55
def x84_57:List XOper:=[⟨(some 4),.op (.mv (.const (.bool false))),none⟩]
def x84_58:XCode:=.seq (.region x84_57) .ret
def x84_59:XCode:=.seq x84_56 x84_58
def x84_60:XCode:=.seq (.region x84_34) x84_59
def x84_61:XCode:=.seq (.region x84_33) x84_60
def x84_62:XCode:=.seq x84_32 x84_61
def x84_63:XCode:=.seq (.region x84_0) x84_62
def x84:XCode:=x84_63
theorem fx84:fnx Tryd.prog 84=some (114,[(4,none)],x84):=by kernel_rfl
def x85_0:List XOper:=[⟨(some 4),.op (.mv (.const (.bool false))),none⟩]
def x85_1:List XOper:=[⟨(some 11),.op (.mv (.tmp 0)),none⟩,
 ⟨(some 12),.op (.lenS (.tmp 11)),none⟩,
 ⟨(some 13),.op (.bin .leq (.tmp 12) (.const (.int .i64 18))),none⟩]
def x85_2:List XOper:=[⟨(some 14),.op (.mv (.tmp 0)),none⟩,
 ⟨(some 15),.op (.lenS (.tmp 14)),none⟩,
 ⟨(some 16),.op (.mv (.const (.int .i64 0))),none⟩]
def x85_3:List XOper:=[⟨(some 17),.op (.bin .lss (.tmp 16) (.tmp 15)),none⟩]
def x85_4:XCode:=.cnd (.tmp 17) .skip (.exit 0)
def x85_5:List XOper:=[⟨(some 18),.op (.mv (.tmp 16)),none⟩,
 ⟨(some 5),.op (.mv (.tmp 18)),none⟩]
def x85_6:List XOper:=[⟨(some 19),.op (.mv (.tmp 0)),none⟩,
 ⟨(some 20),.op (.mv (.tmp 5)),none⟩,
 ⟨(some 21),.op (.iaddrS 3 (.tmp 19) (.tmp 20)),none⟩,
 ⟨(some 6),.op (.mv (.tmp 21)),none⟩]
def x85_7:List XOper:=[⟨(some 22),.op (.mv (.tmp 1)),none⟩,
 ⟨(some 23),.op (.mv (.tmp 6)),none⟩,
 ⟨(some 24),.op (.nilck (.tmp 23)),none⟩,
 ⟨(some 25),.op (.faddr 0 (.tmp 24)),none⟩,
 ⟨(some 26),.op (.load (.int .u32) 1 (.tmp 25)),none⟩,
 ⟨(some 27),.op (.bin .lss (.tmp 22) (.tmp 26)),none⟩]
def x85_8:List XOper:=[⟨(some 4),.op (.mv (.const (.bool false))),none⟩]
def x85_9:XCode:=.seq (.region x85_8) .ret
def x85_10:XCode:=.cnd (.tmp 27) x85_9 .skip
def x85_11:XCode:=.seq (.region x85_7) x85_10
def x85_12:List XOper:=[⟨(some 28),.op (.mv (.tmp 1)),none⟩,
 ⟨(some 29),.op (.mv (.tmp 6)),none⟩,
 ⟨(some 30),.op (.nilck (.tmp 29)),none⟩,
 ⟨(some 31),.op (.faddr 1 (.tmp 30)),none⟩,
 ⟨(some 32),.op (.load (.int .u32) 1 (.tmp 31)),none⟩,
 ⟨(some 33),.op (.bin .leq (.tmp 28) (.tmp 32)),none⟩]
def x85_13:List XOper:=[⟨(some 34),.op (.mv (.tmp 6)),none⟩,
 ⟨(some 35),.op (.nilck (.tmp 34)),none⟩,
 ⟨(some 36),.op (.faddr 2 (.tmp 35)),none⟩,
 ⟨(some 37),.op (.load (.int .u32) 1 (.tmp 36)),none⟩,
 ⟨(some 38),.op (.bin .eql (.tmp 37) (.const (.int .u32 1))),none⟩,
 ⟨(some 39),.op (.mv (.tmp 38)),none⟩,
 ⟨(some 40),.op (.mv (.tmp 1)),(some (39,false))⟩,
 ⟨(some 41),.op (.mv (.tmp 6)),(some (39,false))⟩,
 ⟨(some 42),.op (.nilck (.tmp 41)),(some (39,false))⟩,
 ⟨(some 43),.op (.faddr 0 (.tmp 42)),(some (39,false))⟩,
 ⟨(some 44),.op (.load (.int .u32) 1 (.tmp 43)),(some (39,false))⟩,
 ⟨(some 45),.op (.bin .sub (.tmp 40) (.tmp 44)),(some (39,false))⟩,
 ⟨(some 46),.op (.mv (.tmp 6)),(some (39,false))⟩,
 ⟨(some 47),.op (.nilck (.tmp 46)),(some (39,false))⟩,
 ⟨(some 48),.op (.faddr 2 (.tmp 47)),(some (39,false))⟩,
 ⟨(some 49),.op (.load (.int .u32) 1 (.tmp 48)),(some (39,false))⟩,
 ⟨(some 50),.op (.bin .rem (.tmp 45) (.tmp 49)),(some (39,false))⟩,
 ⟨(some 51),.op (.bin .eql (.tmp 50) (.const (.int .u32 0))),(some (39,false))⟩,
 ⟨(some 52),.pick (.tmp 39) (.const (.bool true)) (.tmp 51),none⟩,
 ⟨(some 4),.op (.mv (.tmp 52)),none⟩]
def x85_14:XCode:=.seq (.draw x85_13 [[],[0],[0,1],[0,1,2],[0,1,2,3],[0,1,2,3,4],[0,1,2,3,4,5],[0,1,2,3,4,5],[0,1,2,3,4,5,7],[0,1,2,3,4,5,7,8],[0,1,2,3,4,5,7,8,9],[0,1,2,3,4,5,6,7,8,9,10],[0,1,2,3,4,5],[0,1,2,3,4,5,12],[0,1,2,3,4,5,12,13],[0,1,2,3,4,5,12,13,14],[0,1,2,3,4,5,6,7,8,9,10,11,12,13,14,15],[0,1,2,3,4,5,6,7,8,9,10,11,12,13,14,15,16],[0,1,2,3,4,5,6,7,8,9,10,11,12,13,14,15,16,17],[0,1,2,3,4,5,6,7,8,9,10,11,12,13,14,15,16,17,18]]) .ret
def x85_15:XCode:=.cnd (.tmp 33) x85_14 .skip
def x85_16:XCode:=.seq (.region x85_12) x85_15
def x85_17:XCode:=.seq x85_11 x85_16
def x85_18:XCode:=.seq (.region x85_6) x85_17
def x85_19:XCode:=.seq (.region x85_5) x85_18
def x85_20:XCode:=.block 1 x85_19
def x85_21:List XOper:=[⟨(some 53),.op (.bin .add (.tmp 16) (.const (.int .i64 1))),none⟩,
 ⟨(some 16),.op (.mv (.tmp 53)),none⟩]
def x85_22:XCode:=.seq x85_20 (.region x85_21)
def x85_23:XCode:=.seq x85_4 x85_22
def x85_24:XCode:=.seq (.region x85_3) x85_23
def x85_25:XCode:=.loop x85_24
def x85_26:XCode:=.block 0 x85_25
def x85_27:XCode:=.seq (.region x85_2) x85_26
def x85_28:List XOper:=[⟨(some 4),.op (.mv (.const (.bool false))),none⟩]
def x85_29:XCode:=.seq (.region x85_28) .ret
def x85_30:XCode:=.seq x85_27 x85_29
def x85_31:XCode:=.cnd (.tmp 13) x85_30 .skip
def x85_32:XCode:=.seq (.region x85_1) x85_31
def x85_33:List XOper:=[⟨(some 7),.op (.mv (.const (.int .i64 0))),none⟩]
def x85_34:List XOper:=[⟨(some 54),.op (.mv (.tmp 0)),none⟩,
 ⟨(some 55),.op (.lenS (.tmp 54)),none⟩,
 ⟨(some 8),.op (.mv (.tmp 55)),none⟩]
def x85_35:List XOper:=[⟨(some 56),.op (.mv (.tmp 7)),none⟩,
 ⟨(some 57),.op (.mv (.tmp 8)),none⟩,
 ⟨(some 58),.op (.bin .lss (.tmp 56) (.tmp 57)),none⟩]
def x85_36:XCode:=.cnd (.tmp 58) .skip (.exit 2)
def x85_37:XCode:=.seq (.region x85_35) x85_36
def x85_38:List XOper:=[⟨(some 59),.op (.mv (.tmp 7)),none⟩,
 ⟨(some 60),.op (.mv (.tmp 8)),none⟩,
 ⟨(some 61),.op (.bin .add (.tmp 59) (.tmp 60)),none⟩,
 ⟨(some 62),.op (.conv .u64 (.tmp 61)),none⟩,
 ⟨(some 63),.op (.bin .shr (.tmp 62) (.const (.int .u64 1))),none⟩,
 ⟨(some 64),.op (.conv .i64 (.tmp 63)),none⟩,
 ⟨(some 9),.op (.mv (.tmp 64)),none⟩]
def x85_39:List XOper:=[⟨(some 65),.op (.mv (.tmp 0)),none⟩,
 ⟨(some 66),.op (.mv (.tmp 9)),none⟩,
 ⟨(some 67),.op (.iaddrS 3 (.tmp 65) (.tmp 66)),none⟩,
 ⟨(some 68),.op (.load .agg 3 (.tmp 67)),none⟩,
 ⟨(some 10),.op (.new [(.int .u32 0),(.int .u32 0),(.int .u32 0)]),none⟩,
 ⟨none,.op (.store 3 (.tmp 10) (.tmp 68)),none⟩]
def x85_40:List XOper:=[⟨(some 69),.op (.faddr 0 (.tmp 10)),none⟩,
 ⟨(some 70),.op (.load (.int .u32) 1 (.tmp 69)),none⟩,
 ⟨(some 71),.op (.mv (.tmp 1)),none⟩,
 ⟨(some 72),.op (.bin .leq (.tmp 70) (.tmp 71)),none⟩,
 ⟨(some 73),.op (.mv (.tmp 72)),none⟩,
 ⟨(some 74),.op (.mv (.tmp 1)),(some (73,true))⟩,
 ⟨(some 75),.op (.faddr 1 (.tmp 10)),(some (73,true))⟩,
 ⟨(some 76),.op (.load (.int .u32) 1 (.tmp 75)),(some (73,true))⟩,
 ⟨(some 77),.op (.bin .leq (.tmp 74) (.tmp 76)),(some (73,true))⟩,
 ⟨(some 78),.pick (.tmp 73) (.tmp 77) (.const (.bool false)),none⟩]
def x85_41:List XOper:=[⟨(some 79),.op (.faddr 2 (.tmp 10)),none⟩,
 ⟨(some 80),.op (.load (.int .u32) 1 (.tmp 79)),none⟩,
 ⟨(some 81),.op (.bin .eql (.tmp 80) (.const (.int .u32 1))),none⟩,
 ⟨(some 82),.op (.mv (.tmp 81)),none⟩,
 ⟨(some 83),.op (.mv (.tmp 1)),(some (82,false))⟩,
 ⟨(some 84),.op (.faddr 0 (.tmp 10)),(some (82,false))⟩,
 ⟨(some 85),.op (.load (.int .u32) 1 (.tmp 84)),(some (82,false))⟩,
 ⟨(some 86),.op (.bin .sub (.tmp 83) (.tmp 85)),(some (82,false))⟩,
 ⟨(some 87),.op (.faddr 2 (.tmp 10)),(some (82,false))⟩,
 ⟨(some 88),.op (.load (.int .u32) 1 (.tmp 87)),(some (82,false))⟩,
 ⟨(some 89),.op (.bin .rem (.tmp 86) (.tmp 88)),(some (82,false))⟩,
 ⟨(some 90),.op (.bin .eql (.tmp 89) (.const (.int .u32 0))),(some (82,false))⟩,
 ⟨(some 91),.pick (.tmp 82) (.const (.bool true)) (.tmp 90),none⟩,
 ⟨(some 4),.op (.mv (.tmp 91)),none⟩]
def x85_42:XCode:=.seq (.region x85_41) .ret
def x85_43:XCode:=.cnd (.tmp 78) x85_42 .skip
def x85_44:XCode:=.seq (.region x85_40) x85_43
def x85_45:List XOper:=[⟨(some 92),.op (.mv (.tmp 1)),none⟩,
 ⟨(some 93),.op (.faddr 0 (.tmp 10)),none⟩,
 ⟨(some 94),.op (.load (.int .u32) 1 (.tmp 93)),none⟩,
 ⟨(some 95),.op (.bin .lss (.tmp 92) (.tmp 94)),none⟩]
def x85_46:List XOper:=[⟨(some 96),.op (.mv (.tmp 9)),none⟩,
 ⟨(some 8),.op (.mv (.tmp 96)),none⟩]
def x85_47:List XOper:=[⟨(some 97),.op (.mv (.tmp 9)),none⟩,
 ⟨(some 98),.op (.bin .add (.tmp 97) (.const (.int .i64 1))),none⟩,
 ⟨(some 7),.op (.mv (.tmp 98)),none⟩]
def x85_48:XCode:=.cnd (.tmp 95) (.region x85_46) (.region x85_47)
def x85_49:XCode:=.seq (.region x85_45) x85_48
def x85_50:XCode:=.seq x85_44 x85_49
def x85_51:XCode:=.seq (.region x85_39) x85_50
def x85_52:XCode:=.seq (.region x85_38) x85_51
def x85_53:XCode:=.block 3 x85_52
def x85_54:XCode:=.seq x85_37 x85_53
def x85_55:XCode:=.loop x85_54
def x85_56:XCode:=.block 2 x85_55
def x85_57:List XOper:=[⟨(some 4),.op (.mv (.const (.bool false))),none⟩]
def x85_58:XCode:=.seq (.region x85_57) .ret
def x85_59:XCode:=.seq x85_56 x85_58
def x85_60:XCode:=.seq (.region x85_34) x85_59
def x85_61:XCode:=.seq (.region x85_33) x85_60
def x85_62:XCode:=.seq x85_32 x85_61
def x85_63:XCode:=.seq (.region x85_0) x85_62
def x85:XCode:=x85_63
theorem fx85:fnx Tryd.prog 85=some (99,[(4,none)],x85):=by kernel_rfl
end Go.X
