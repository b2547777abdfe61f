import Derived.Test.YtkghggngmpmigaaD30
import Derived.Test.YtkghggngmpmigaaD22
import Derived.Maps.RangeRun
set_option linter.all false
namespace Go.X
open Go Go.Proofs
def r20_0:List XOper:=[⟨(some 2),.op (.new [(.int .i64 0),(.int .i64 0),(.int .i64 0),(.int .i64 0),(.int .i64 0)]),none⟩,
 ⟨(some 3),.op (.mv (.const (.int .i64 0))),none⟩]
def r20_1:List XOper:=[⟨(some 18),.callF 41 [],none⟩]
def r20_2:List XOper:=[⟨(some 21),.op (.ext (.tmp 20) 0),none⟩]
def r20_3:List XOper:=[⟨(some 23),.op (.ext (.tmp 22) 0),none⟩,
 ⟨(some 24),.op (.ext (.tmp 22) 1),none⟩,
 ⟨(some 5),.op (.new [(.int .u8 0),(.int .u32 0),(.int .u32 0),(.int .u32 0)]),none⟩,
 ⟨(some 4),.op (.mv (.tmp 23)),none⟩,
 ⟨none,.op (.store 4 (.tmp 5) (.tmp 24)),none⟩]
def y20_0:List XOper:=[⟨(some 25),.op (.faddr 1 (.tmp 5)),none⟩,
 ⟨(some 26),.op (.faddr 0 (.tmp 25)),none⟩,
 ⟨(some 27),.op (.load (.int .u32) 1 (.tmp 26)),none⟩,
 ⟨(some 28),.op (.mv (.tmp 0)),none⟩,
 ⟨(some 29),.op (.bin .and (.tmp 28) (.const (.int .u32 127))),none⟩,
 ⟨(some 30),.op (.bin .neq (.tmp 27) (.tmp 29)),none⟩]
def y20_1:XCode:=.cnd (.tmp 30) (.exit 1) .skip
def y20_2:XCode:=.seq (.region y20_0) y20_1
def y20_3:List XOper:=[⟨(some 31),.op (.mv (.tmp 4)),none⟩,
 ⟨(some 32),.op (.build [(.int .i64 0),(.int .i64 0),(.int .i64 0),(.int .i64 0),(.int .i64 0)] [(0,1,(.tmp 31))]),none⟩,
 ⟨(some 6),.op (.new [(.int .i64 0),(.int .i64 0),(.int .i64 0),(.int .i64 0),(.int .i64 0)]),none⟩,
 ⟨none,.op (.store 5 (.tmp 6) (.tmp 32)),none⟩]
def y20_4:List XOper:=[⟨(some 33),.op (.faddr 0 (.tmp 5)),none⟩,
 ⟨(some 34),.op (.load (.int .u8) 1 (.tmp 33)),none⟩,
 ⟨(some 35),.callF 43 [(.tmp 34)],none⟩,
 ⟨(some 7),.op (.new [(.bool false),(.bool false),(.bool false)]),none⟩,
 ⟨none,.op (.store 3 (.tmp 7) (.tmp 35)),none⟩]
def y20_5:List XOper:=[⟨(some 36),.op (.faddr 1 (.tmp 6)),none⟩,
 ⟨(some 37),.op (.faddr 2 (.tmp 6)),none⟩,
 ⟨(some 38),.op (.faddr 3 (.tmp 6)),none⟩,
 ⟨(some 39),.op (.build [(.pointer none),(.pointer none),(.pointer none)] [(0,1,(.tmp 36)),(1,1,(.tmp 37)),(2,1,(.tmp 38))]),none⟩,
 ⟨(some 40),.op (.mv (.const (.int .i64 0))),none⟩]
def y20_6:List XOper:=[⟨(some 41),.op (.bin .lss (.tmp 40) (.const (.int .i64 3))),none⟩]
def y20_7:XCode:=.cnd (.tmp 41) .skip (.exit 2)
def y20_8:List XOper:=[⟨(some 42),.op (.mv (.tmp 40)),none⟩,
 ⟨(some 43),.op (.idxA 3 1 .one (.tmp 39) (.tmp 40)),none⟩,
 ⟨(some 8),.op (.mv (.tmp 42)),none⟩,
 ⟨(some 9),.op (.mv (.tmp 43)),none⟩]
def y20_9:List XOper:=[⟨(some 44),.op (.mv (.tmp 8)),none⟩,
 ⟨(some 45),.op (.iaddrA true 3 1 (.tmp 7) (.tmp 44)),none⟩,
 ⟨(some 46),.op (.load .bool 1 (.tmp 45)),none⟩]
def y20_10:List XOper:=[⟨(some 47),.op (.mv (.tmp 9)),none⟩,
 ⟨(some 48),.op (.mv (.tmp 0)),none⟩,
 ⟨(some 49),.op (.build [(.int .u64 0),(.int .u64 0),(.int .u64 0)] [(0,1,(.const (.int .u64 7))),(1,1,(.const (.int .u64 15))),(2,1,(.const (.int .u64 20)))]),none⟩,
 ⟨(some 50),.op (.mv (.tmp 8)),none⟩,
 ⟨(some 51),.op (.idxA 3 1 (.int .u64) (.tmp 49) (.tmp 50)),none⟩,
 ⟨(some 52),.op (.bin .shr (.tmp 48) (.tmp 51)),none⟩,
 ⟨(some 53),.op (.bin .and (.tmp 52) (.const (.int .u32 31))),none⟩,
 ⟨(some 54),.op (.conv .i64 (.tmp 53)),none⟩,
 ⟨(some 55),.op (.nilck (.tmp 47)),none⟩,
 ⟨none,.op (.store 1 (.tmp 55) (.tmp 54)),none⟩]
def y20_11:XCode:=.cnd (.tmp 46) (.region y20_10) .skip
def y20_12:XCode:=.seq (.region y20_9) y20_11
def y20_13:XCode:=.seq (.region y20_8) y20_12
def y20_14:XCode:=.block 3 y20_13
def y20_15:List XOper:=[⟨(some 56),.op (.bin .add (.tmp 40) (.const (.int .i64 1))),none⟩,
 ⟨(some 40),.op (.mv (.tmp 56)),none⟩]
def y20_16:XCode:=.seq y20_14 (.region y20_15)
def y20_17:XCode:=.seq y20_7 y20_16
def y20_18:XCode:=.seq (.region y20_6) y20_17
def y20_19:XCode:=.loop y20_18
def y20_20:XCode:=.block 2 y20_19
def y20_21:XCode:=.seq (.region y20_5) y20_20
def y20_22:List XOper:=[⟨(some 57),.op (.faddr 0 (.tmp 5)),none⟩,
 ⟨(some 58),.op (.load (.int .u8) 1 (.tmp 57)),none⟩,
 ⟨(some 59),.callF 44 [(.tmp 58)],none⟩,
 ⟨(some 60),.op (.lenS (.tmp 59)),none⟩,
 ⟨(some 61),.op (.mv (.const (.int .i64 0))),none⟩]
def y20_23:List XOper:=[⟨(some 62),.op (.bin .lss (.tmp 61) (.tmp 60)),none⟩]
def y20_24:XCode:=.cnd (.tmp 62) .skip (.exit 4)
def y20_25:List XOper:=[⟨(some 63),.op (.iaddrS 3 (.tmp 59) (.tmp 61)),none⟩,
 ⟨(some 64),.op (.load .agg 3 (.tmp 63)),none⟩,
 ⟨(some 11),.op (.new [(.int .u64 0),(.int .u64 0),(.int .u64 0)]),none⟩,
 ⟨none,.op (.store 3 (.tmp 11) (.tmp 64)),none⟩]
def y20_26:List XOper:=[⟨(some 65),.op (.faddr 4 (.tmp 6)),none⟩,
 ⟨(some 66),.op (.load (.int .i64) 1 (.tmp 65)),none⟩,
 ⟨(some 67),.op (.mv (.tmp 0)),none⟩,
 ⟨(some 68),.op (.faddr 2 (.tmp 11)),none⟩,
 ⟨(some 69),.op (.load (.int .u64) 1 (.tmp 68)),none⟩,
 ⟨(some 70),.op (.bin .shr (.tmp 67) (.tmp 69)),none⟩,
 ⟨(some 71),.op (.faddr 1 (.tmp 11)),none⟩,
 ⟨(some 72),.op (.load (.int .u64) 1 (.tmp 71)),none⟩,
 ⟨(some 73),.op (.bin .shl (.const (.int .u32 1)) (.tmp 72)),none⟩,
 ⟨(some 74),.op (.bin .sub (.tmp 73) (.const (.int .u32 1))),none⟩,
 ⟨(some 75),.op (.bin .and (.tmp 70) (.tmp 74)),none⟩,
 ⟨(some 76),.op (.conv .i64 (.tmp 75)),none⟩,
 ⟨(some 77),.op (.faddr 0 (.tmp 11)),none⟩,
 ⟨(some 78),.op (.load (.int .u64) 1 (.tmp 77)),none⟩,
 ⟨(some 79),.op (.bin .shl (.tmp 76) (.tmp 78)),none⟩,
 ⟨(some 80),.op (.bin .or (.tmp 66) (.tmp 79)),none⟩,
 ⟨(some 81),.op (.faddr 4 (.tmp 6)),none⟩,
 ⟨none,.op (.store 1 (.tmp 81) (.tmp 80)),none⟩]
def y20_27:XCode:=.seq (.region y20_25) (.region y20_26)
def y20_28:XCode:=.block 5 y20_27
def y20_29:List XOper:=[⟨(some 82),.op (.bin .add (.tmp 61) (.const (.int .i64 1))),none⟩,
 ⟨(some 61),.op (.mv (.tmp 82)),none⟩]
def y20_30:XCode:=.seq y20_28 (.region y20_29)
def y20_31:XCode:=.seq y20_24 y20_30
def y20_32:XCode:=.seq (.region y20_23) y20_31
def y20_33:XCode:=.loop y20_32
def y20_34:XCode:=.block 4 y20_33
def y20_35:XCode:=.seq (.region y20_22) y20_34
def y20_36:List XOper:=[⟨(some 84),.op (.faddr 0 (.tmp 5)),none⟩,
 ⟨(some 85),.op (.load (.int .u8) 1 (.tmp 84)),none⟩,
 ⟨(some 86),.callF 42 [(.tmp 85)],none⟩,
 ⟨(some 83),.op (.mv (.tmp 86)),none⟩,
 ⟨(some 87),.op (.ext (.tmp 83) 0),none⟩,
 ⟨(some 88),.op (.ext (.tmp 83) 1),none⟩,
 ⟨(some 12),.op (.mv (.tmp 87)),none⟩,
 ⟨(some 13),.op (.mv (.tmp 88)),none⟩]
def y20_37:List XOper:=[⟨(some 89),.op (.faddr 0 (.tmp 5)),none⟩,
 ⟨(some 90),.op (.load (.int .u8) 1 (.tmp 89)),none⟩,
 ⟨(some 91),.op (.bin .neq (.tmp 90) (.const (.int .u8 84))),none⟩,
 ⟨(some 92),.op (.mv (.tmp 91)),none⟩,
 ⟨(some 93),.op (.faddr 4 (.tmp 6)),(some (92,true))⟩,
 ⟨(some 94),.op (.load (.int .i64) 1 (.tmp 93)),(some (92,true))⟩,
 ⟨(some 95),.op (.mv (.tmp 13)),(some (92,true))⟩,
 ⟨(some 96),.op (.bin .gtr (.tmp 94) (.tmp 95)),(some (92,true))⟩,
 ⟨(some 97),.pick (.tmp 92) (.tmp 96) (.const (.bool false)),none⟩]
def y20_38:List XOper:=[⟨(some 99),.op (.faddr 0 (.tmp 5)),none⟩,
 ⟨(some 100),.op (.load (.int .u8) 1 (.tmp 99)),none⟩,
 ⟨(some 101),.callF 42 [(.tmp 100)],none⟩,
 ⟨(some 98),.op (.mv (.tmp 101)),none⟩,
 ⟨(some 102),.op (.ext (.tmp 98) 0),none⟩,
 ⟨(some 103),.op (.ext (.tmp 98) 1),none⟩,
 ⟨(some 14),.op (.mv (.tmp 102)),none⟩,
 ⟨(some 15),.op (.mv (.tmp 103)),none⟩]
def y20_39:List XOper:=[⟨(some 104),.op (.faddr 4 (.tmp 6)),none⟩,
 ⟨(some 105),.op (.load (.int .i64) 1 (.tmp 104)),none⟩,
 ⟨(some 106),.op (.mv (.tmp 14)),none⟩,
 ⟨(some 107),.op (.bin .mul (.const (.int .i64 2)) (.tmp 106)),none⟩,
 ⟨(some 108),.op (.bin .add (.tmp 105) (.tmp 107)),none⟩,
 ⟨(some 109),.op (.faddr 4 (.tmp 6)),none⟩,
 ⟨none,.op (.store 1 (.tmp 109) (.tmp 108)),none⟩]
def y20_40:XCode:=.seq (.region y20_38) (.region y20_39)
def y20_41:XCode:=.cnd (.tmp 97) y20_40 .skip
def y20_42:XCode:=.seq (.region y20_37) y20_41
def y20_43:XCode:=.seq (.region y20_36) y20_42
def y20_44:List XOper:=[⟨(some 111),.op (.load .agg 5 (.tmp 6)),none⟩,
 ⟨(some 112),.callF 25 [(.tmp 111)],none⟩,
 ⟨(some 110),.op (.mv (.tmp 112)),none⟩,
 ⟨(some 113),.op (.ext (.tmp 110) 0),none⟩,
 ⟨(some 114),.op (.ext (.tmp 110) 1),none⟩,
 ⟨(some 16),.op (.mv (.tmp 113)),none⟩,
 ⟨(some 17),.op (.mv (.tmp 114)),none⟩]
def y20_45:List XOper:=[⟨(some 115),.op (.mv (.tmp 17)),none⟩,
 ⟨(some 116),.op (.bin .eql (.tmp 115) (.const (.int .i64 0))),none⟩,
 ⟨(some 117),.op (.mv (.tmp 116)),none⟩,
 ⟨(some 118),.op (.mv (.tmp 16)),(some (117,true))⟩,
 ⟨(some 119),.op (.mv (.tmp 0)),(some (117,true))⟩,
 ⟨(some 120),.op (.bin .eql (.tmp 118) (.tmp 119)),(some (117,true))⟩,
 ⟨(some 121),.pick (.tmp 117) (.tmp 120) (.const (.bool false)),none⟩]
def y20_46:List XOper:=[⟨(some 122),.op (.load .agg 5 (.tmp 6)),none⟩,
 ⟨none,.op (.store 5 (.tmp 2) (.tmp 122)),none⟩,
 ⟨(some 3),.op (.mv (.const (.int .i64 0))),none⟩]
def y20_47:XCode:=.seq (.region y20_46) .ret
def y20_48:XCode:=.cnd (.tmp 121) y20_47 .skip
def y20_49:XCode:=.seq (.region y20_45) y20_48
def y20_50:XCode:=.seq (.region y20_44) y20_49
def y20_51:XCode:=.seq y20_43 y20_50
def y20_52:XCode:=.seq y20_35 y20_51
def y20_53:XCode:=.seq y20_21 y20_52
def y20_54:XCode:=.seq (.region y20_4) y20_53
def y20_55:XCode:=.seq (.region y20_3) y20_54
def y20_56:XCode:=.seq y20_2 y20_55
def y20:XCode:=y20_56
def z20_0:List XOper:=[⟨(some 123),.op (.build [(.int .i64 0),(.int .i64 0),(.int .i64 0),(.int .i64 0),(.int .i64 0)] []),none⟩,
 ⟨none,.op (.store 5 (.tmp 2) (.tmp 123)),none⟩,
 ⟨(some 3),.op (.mv (.const (.int .i64 2))),none⟩]
def z20_1:XCode:=.seq (.region z20_0) .ret
def z20:XCode:=z20_1
def rts20:List Rx:=[(2,(some (.agg,5))),(3,none)]
noncomputable def ops20_0:Array Oper:=opsC (fstC body20)
noncomputable def ops20_1:Array Oper:=opsC (fstC mid20)
noncomputable def ops20_2:Array Oper:=opsC (fstC round20)
noncomputable def ops20_3:Array Oper:=opsC (fstC (inC (sndC (sndC round20))))
noncomputable def rest20:Code:=sndC (inC (sndC (sndC round20)))
noncomputable def tail20:Code:=sndC (sndC body20)
theorem shape3:body20=.seq (.region 0 ops20_0 false) (.seq (.seq (.region 1 ops20_1 false) (.block 0 (.loop round20))) tail20):=by kernel_rfl
theorem shape4:round20=.seq (.region 2 ops20_2 false) (.seq (.cond (.tmp 21) .skip (.exit 0)) (.block 1 (.seq (.region 3 ops20_3 false) rest20))):=by kernel_rfl
theorem comp20_0:comp Try.prog 124 (.region 0 ops20_0 false)=some (.region r20_0):=by kernel_rfl
theorem comp20_r:comp Try.prog 124 rest20=some y20:=by kernel_rfl
theorem comp20_t:comp Try.prog 124 tail20=some z20:=by kernel_rfl
def opIs (o:Option Oper):Option (Option Nat × Op × Option (Nat × Bool)):=match o with
 |some o=>some (o.dst,o.op,o.guard)
 |none=>none
theorem op20_1:opIs ops20_1[1]?=some (some 19,.range 101 (.tmp 18),none):=by kernel_rfl
theorem op20_2:opIs ops20_2[0]?=some (some 20,.next (.tmp 19) false,none):=by kernel_rfl
theorem op20_3:opIs ops20_3[0]?=some (some 22,.entry (.tmp 19),none):=by kernel_rfl
theorem opIs_some {o:Option Oper}{d:Option Nat}{p:Op}{g:Option (Nat × Bool)} (h:opIs o=some (d,p,g)):∃ x,o=some x/\x.dst=d/\x.op=p/\x.guard=g:=by
 cases o with
 |none=>cases h
 |some x=>simp only[opIs,Option.some.injEq,Prod.mk.injEq]at h;exact⟨x,rfl,h.1,h.2.1,h.2.2⟩
theorem size20:ops20_1.size=2/\ops20_2.size=2/\ops20_3.size=6:=by refine⟨?_,?_,?_⟩<;>kernel_rfl
def CmpAt (P:Program) (N:Nat) (ops:Array Oper):Nat->List XOper->Prop
 |_,[]=>True
 |i,x :: l=>(match ops[i]? with
  |some o=>compOper P N ops o
  |none=>none)=some x/\CmpAt P N ops (i+1) l
theorem cmpAt_get {P:Program}{N:Nat}{ops:Array Oper}:∀ {l:List XOper}{i:Nat},CmpAt P N ops i l->∀ (k:Nat) xo,l[k]?=some xo->∃ o,ops[i+k]?=some o/\compOper P N ops o=some xo
 |[],i,_,k,xo,hk=>by simp at hk
 |x :: l,i,h,0,xo,hk=>by
  simp only[List.getElem?_cons_zero,Option.some.injEq]at hk
  subst hk
  have h1:=h.1
  split at h1
  ·rename_i o ho;exact⟨o,ho,h1⟩
  ·cases h1
 |x :: l,i,h,k+1,xo,hk=>by
  obtain⟨o,ho,hc⟩:=cmpAt_get h.2 k xo (by simpa using hk)
  exact⟨o,by rw[<- ho];congr 1;omega,hc⟩
theorem cmp20_1:CmpAt Try.prog 124 ops20_1 0 r20_1:=by refine⟨?_,trivial⟩;kernel_rfl
theorem cmp20_2:CmpAt Try.prog 124 ops20_2 1 r20_2:=by refine⟨?_,trivial⟩;kernel_rfl
theorem cmp20_3:CmpAt Try.prog 124 ops20_3 1 r20_3:=by refine⟨?_,?_,?_,?_,?_,trivial⟩<;>kernel_rfl
def fW (w d m:Int):Int:=IntKind.i64.wrap (bits2 .and .u32 (w.fdiv d) m)
def pW (w d m k:Int):Int:=IntKind.i64.wrap (fW w d m*k)
def oW (a b:Int):Int:=bits2 .or .i64 a b
def fixW (x most less:Int):Int:=bif decide (x>most)then IntKind.i64.wrap (x+less)else x
structure Cand where
 rd:Int
 rs1:Int
 rs2:Int
 imm:Int
def candF (F w:Int):Cand :=
 match F with
 |82=>⟨fW w 128 31,fW w 32768 31,fW w 1048576 31,0⟩
 |73=>⟨fW w 128 31,fW w 32768 31,0,fixW (oW 0 (pW w 1048576 4095 1)) 2047 (-4096)⟩
 |84=>⟨fW w 128 31,fW w 32768 31,0,oW 0 (pW w 1048576 63 1)⟩
 |83=>⟨0,fW w 32768 31,fW w 1048576 31,fixW (oW (oW 0 (pW w 128 31 1)) (pW w 33554432 127 32)) 2047 (-4096)⟩
 |66=>⟨0,fW w 32768 31,fW w 1048576 31,fixW (oW (oW (oW (oW 0 (pW w 128 1 2048)) (pW w 256 15 2)) (pW w 33554432 63 32)) (pW w 2147483648 1 4096)) 4094 (-8192)⟩
 |85=>⟨fW w 128 31,0,0,fixW (oW 0 (pW w 4096 1048575 1)) 524287 (-1048576)⟩
 |74=>⟨fW w 128 31,0,0,fixW (oW (oW (oW (oW 0 (pW w 4096 255 4096)) (pW w 1048576 1 2048)) (pW w 2097152 1023 2)) (pW w 2147483648 1 1048576)) 1048574 (-2097152)⟩
 |_=>⟨0,0,0,0⟩
def var0:Blk:=.var [.int .i64 0,.int .i64 0,.int .i64 0,.int .i64 0,.int .i64 0]
def tA (q w:Int):Tm:=mkT [0,2,3,19,4,5] [.int .u32 w,.pointer (some ⟨100,0,some 0⟩),.int .i64 0,.pointer (some ⟨102,0,some 0⟩),.int .i64 q,.pointer (some ⟨103,0,some 0⟩)]
def hA (F o f3 f7:Int):Hp:=mkH [(100,var0),(103,.var [.int .u8 F,.int .u32 o,.int .u32 f3,.int .u32 f7])]
def leafA (q w:Int) (c:Cand) (n:Nat):Leaf:=⟨[some (true,.int .u32 w),some (true,.pointer (some ⟨100,0,some 0⟩)),some (true,.int .i64 0),some (true,.pointer (some ⟨102,0,some 0⟩)),some (true,.pointer (some ⟨104,0,some 0⟩))],
 [(100,some var0),(104,some (iB q c.rd c.rs1 c.rs2 c.imm))],.normal,n⟩
abbrev runA (q F o f3 f7 w:Int):Option Leaf:=execL (lookF FL) scB 1000 [.region y20_3,.region y20_4,y20_21,y20_35,y20_43] (tA q w) (hA F o f3 f7) 104 (prjK [0,2,3,19,6] [.id 100,.tmp 6])
theorem a20R (q o f3 f7 w:Int):runA q 82 o f3 f7 w=some (leafA q w (candF 82 w) 107):=by kernel_rfl
theorem a20T (q o f3 f7 w:Int):runA q 84 o f3 f7 w=some (leafA q w (candF 84 w) 109):=by kernel_rfl
theorem a20N (q o f3 f7 w:Int):runA q 78 o f3 f7 w=some (leafA q w (candF 78 w) 107):=by kernel_rfl
theorem fix_leaf (q w rd rs1 rs2 x most less:Int) (n:Nat):(bif decide (x>most)then some (leafA q w ⟨rd,rs1,rs2,IntKind.i64.wrap (x+less)⟩ n)else some (leafA q w ⟨rd,rs1,rs2,x⟩ n))=some (leafA q w ⟨rd,rs1,rs2,fixW x most less⟩ n):=by
 unfold fixW;cases decide (x>most)<;>rfl
theorem a20I (q o f3 f7 w:Int):runA q 73 o f3 f7 w=some (leafA q w (candF 73 w) 109):=by
 refine Eq.trans ?_ (fix_leaf q w (fW w 128 31) (fW w 32768 31) 0 (oW 0 (pW w 1048576 4095 1)) 2047 (-4096) 109)
 kernel_rfl
theorem a20S (q o f3 f7 w:Int):runA q 83 o f3 f7 w=some (leafA q w (candF 83 w) 110):=by
 refine Eq.trans ?_ (fix_leaf q w 0 (fW w 32768 31) (fW w 1048576 31) (oW (oW 0 (pW w 128 31 1)) (pW w 33554432 127 32)) 2047 (-4096) 110)
 kernel_rfl
theorem a20B (q o f3 f7 w:Int):runA q 66 o f3 f7 w=some (leafA q w (candF 66 w) 112):=by
 refine Eq.trans ?_ (fix_leaf q w 0 (fW w 32768 31) (fW w 1048576 31) (oW (oW (oW (oW 0 (pW w 128 1 2048)) (pW w 256 15 2)) (pW w 33554432 63 32)) (pW w 2147483648 1 4096)) 4094 (-8192) 112)
 kernel_rfl
theorem a20U (q o f3 f7 w:Int):runA q 85 o f3 f7 w=some (leafA q w (candF 85 w) 109):=by
 refine Eq.trans ?_ (fix_leaf q w (fW w 128 31) 0 0 (oW 0 (pW w 4096 1048575 1)) 524287 (-1048576) 109)
 kernel_rfl
theorem a20J (q o f3 f7 w:Int):runA q 74 o f3 f7 w=some (leafA q w (candF 74 w) 112):=by
 refine Eq.trans ?_ (fix_leaf q w (fW w 128 31) 0 0 (oW (oW (oW (oW 0 (pW w 4096 255 4096)) (pW w 1048576 1 2048)) (pW w 2097152 1023 2)) (pW w 2147483648 1 1048576)) 1048574 (-2097152) 112)
 kernel_rfl
def isForm (F:Int):Bool:=F==82||(F==73||(F==84||(F==83||(F==66||(F==85||(F==74||F==78))))))
theorem runA_is (q F o f3 f7 w:Int) (h:isForm F=true):∃ n,104<=n/\runA q F o f3 f7 w=some (leafA q w (candF F w) n):=by
 simp only[isForm,Bool.or_eq_true,beq_iff_eq]at h
 rcases h with rfl|rfl|rfl|rfl|rfl|rfl|rfl|rfl
 ·exact⟨_,by omega,a20R q o f3 f7 w⟩
 ·exact⟨_,by omega,a20I q o f3 f7 w⟩
 ·exact⟨_,by omega,a20T q o f3 f7 w⟩
 ·exact⟨_,by omega,a20S q o f3 f7 w⟩
 ·exact⟨_,by omega,a20B q o f3 f7 w⟩
 ·exact⟨_,by omega,a20U q o f3 f7 w⟩
 ·exact⟨_,by omega,a20J q o f3 f7 w⟩
 ·exact⟨_,by omega,a20N q o f3 f7 w⟩
def tB (w:Int):Tm:=mkT [0,2,3,19,6] [.int .u32 w,.pointer (some ⟨100,0,some 0⟩),.int .i64 0,.pointer (some ⟨102,0,some 0⟩),.pointer (some ⟨103,0,some 0⟩)]
def hB (q:Int) (c:Cand):Hp:=mkH [(100,var0),(103,iB q c.rd c.rs1 c.rs2 c.imm)]
open Go.ChangeMaps (setBlock)
theorem ops_run {E:FEnv}{F:Fns}{sc:Short} (hF:FnsOK E.P F sc) (k:Nat){ops:Array Oper}{l:List XOper}{i:Nat}{s:St}{t:Tm}{h:Hp}{n:Nat}{ok:Bool}{pr:Prop}{tr:List Foot} (hc:CmpAt E.P E.N ops i l)
  (hx:xrun (callE F sc (exec F sc k [])) [] l i s.t s.h s.n true True []=some ⟨t,h,n,ok,pr,tr⟩) (hok:ok=true){Q:Exit->Act->World->Prop}{a:Act}{w:World} (hr:E.rel s a w)
  (hQ:∀ a' w',E.rel ⟨t,h,n⟩ a' w'->Q .normal a' w'):wpOps E.P ops Q (List.range' i l.length) a w:=by
 have hce:CEok E.P (callE F sc (exec F sc k [])):=callE_ok hF (exec_sound hF k)
 have hpr:=xrun_pr callE_pr hx trivial
 obtain⟨rs,h1,h2,h3,h4,h5⟩:=xrun_recs hce hx hok hpr
 simp only at h2 h3 h4
 subst h2;subst h3;subst h4
 exact region_plain hce l i rs s a w (cmpAt_get hc) h1 (fun id h1 _=>E.dom id (Nat.le_trans hr.1 h1)) ⟨_,Nat.le_refl _,E.dom _ (Nat.le_trans hr.1 (newsOf_le rs s.n))⟩ hr hQ
theorem core_comp {P:Program}{N:Nat}{B:Base}{n:Nat}{ρ ρ1:Rn}{t t1:Tm}{g g1:G}{a a1:Act}{w w1:World} (hn:B.n<=n) (hc:Core P N B ρ t g a w) (c1:Core P N ⟨ρ,n,Own ρ g,w⟩ ρ1 t1 g1 a1 w1):Core P N B ρ1 t1 g1 a1 w1 where
 tm:=c1.tm
 sz:=c1.sz
 df:=c1.df
 rel:=c1.rel
 fr:=hc.fr.then c1.fr fun i hi ho=>by
  rcases hc.own i ho with h|h
  ·exact h
  ·omega
 own:=fun k hk=>by
  rcases c1.own k hk with h|h
  ·exact hc.own k h
  ·exact .inr (Nat.le_trans hc.fr.size h)
 le:=hc.le.trans c1.le
 new:=fun id h0 h1=>by
  by_cases hx:ρ id=none
  ·exact Nat.le_trans hn (c1.new id hx h1)
  ·exact hc.new id h0 hx
theorem core_put {P:Program}{N:Nat}{B:Base}{ρ:Rn}{t:Tm}{g:G}{a:Act}{w:World}{d:Nat}{v c:Value} (h:Core P N B ρ t g a w) (hd:d<N) (hv:V ρ v c):Core P N B ρ ((d,true,v) :: t) g (a.put (some d) c) w where
 tm:=fun k b u hl=>by
  simp only[look]at hl
  cases hb:Nat.beq d k with
  |true =>
   rw[hb]at hl
   simp only[cond_true,Option.some.injEq,Prod.mk.injEq]at hl
   obtain⟨rfl,rfl⟩:=hl
   have e:=Nat.eq_of_beq_eq_true hb
   subst e
   have:d<a.tmps.size:=by rw[h.sz];exact hd
   exact⟨c,by simp[Act.put,this],fun _=>hv,fun e=>by cases e⟩
  |false =>
   rw[hb]at hl
   obtain⟨x,hx,hxv⟩:=h.tm k b u hl
   refine⟨x,?_,hxv⟩
   have:d≠k:=by rintro rfl;simp at hb
   simp[Act.put,Array.getElem?_setIfInBounds,this,hx]
 sz:=by rw[put_size];exact h.sz
 df:=by rw[put_defers];exact h.df
 rel:=h.rel
 fr:=h.fr
 own:=h.own
 le:=h.le
 new:=h.new
theorem setBlock_get (w:World) (r k:Nat) (o:Obj) (h:k≠r):(setBlock w r o).heap[k]?=w.heap[k]?:=by
 unfold setBlock
 simp[Array.getElem?_setIfInBounds,Ne.symm h]
theorem setBlock_same (w:World) (r:Nat) (o:Obj) (h:r<w.heap.size):(setBlock w r o).heap[r]?=some o:=by
 unfold setBlock
 simp[Array.getElem?_setIfInBounds,h]
theorem core_iter {P:Program}{N:Nat}{B:Base}{ρ:Rn}{t:Tm}{g:G}{a:Act}{w w1:World}{r:Nat}{o:Obj} (h:Core P N B ρ t g a w) (hr:B.w.heap.size<=r)
  (nr:∀ id b l,g id=some b->b.touch->ρ id=some l->l.addr.block≠r) (hw:w1=w\/w1=w.drew):Core P N B ρ t g a (setBlock w1 r o):=by
 have hh:w1.heap=w.heap:=by rcases hw with rfl|rfl<;>rfl
 have hk:∀ k,k≠r->(setBlock w1 r o).heap[k]?=w.heap[k]?:=fun k e=>by rw[setBlock_get _ _ _ _ e,hh]
 refine { h with rel:=⟨fun id b hb=>?_,h.rel.sep⟩,fr:=?_ }
 ·obtain⟨l,hl,hx⟩:=h.rel.holds id b hb
  exact⟨l,hl,hx.stay (Le.refl _) fun ht=>hk _ (nr id b l hb ht hl)⟩
 ·refine⟨?_,?_,?_,?_,fun k h1 h2=>?_⟩
  ·rcases hw with rfl|rfl<;>exact h.fr.os
  ·rcases hw with rfl|rfl<;>exact h.fr.tape
  ·rcases hw with rfl|rfl<;>exact h.fr.output
  ·have:(setBlock w1 r o).heap.size=w.heap.size:=by simp[setBlock,hh]
   rw[this];exact h.fr.size
  ·rw[hk k (by omega)];exact h.fr.block k h1 h2
def RI (E:FEnv) (S:St) (it r bm:Nat) (es:Array MapEntry) (clock:Nat) (T:MapEntry->Prop) (k:Nat) (a:Act) (w:World):Prop :=
 ∃ ρ seen,E.B.n<=S.n/\Core E.P E.N E.B ρ S.t (hget S.h) a w/\(∀ id,S.n<=id->ρ id=E.B.ρ id)/\ρ it=some ⟨⟨r,0,none⟩,0,0⟩/\w.heap[r]?=some (.mapIter (some bm) clock seen clock)/\w.heap[bm]?=some (.map es clock) /\
  (∀ id b l,hget S.h id=some b->b.touch->ρ id=some l->l.addr.block≠r)/\(∀ id b l,hget S.h id=some b->b.ro=false->ρ id=some l->l.addr.block≠bm)/\(leftOf es seen).size=k/\∀ x∈es.toList,seen.contains x.born=true->T x
def roundK (E:FEnv) (S:St) (T:MapEntry->Prop) (Qr:St->Prop) (cont:Nat) (e:MapEntry):Post:=fun e' s'=>((e'=.normal\/e'=.exit cont)/\T e/\Wk E.toEnv s' S)\/(e'=.ret/\∃ s2,Wk E.toEnv s' s2/\Qr s2)
def rsP:Option RS->Prop
 |some s=>s.pr
 |none=>True
def rsR:Option RS->List Foot
 |some s=>s.tr
 |none=>[]
end Go.X
namespace Go.X
open Go Go.Proofs
open Go.ChangeMaps (setBlock)
section
variable {E:FEnv}{F:Fns}{sc:Short}{S:St}{it r bm:Nat}{es:Array MapEntry}{clock:Nat}{T:MapEntry->Prop}{Qr:St->Prop}
theorem ext20 (F:Fns) (sc:Short) (t:Tm) (h:Hp) (n:Nat) (b:Bool) (vs:List Value) :
  xrun (callE F sc (exec F sc 1 [])) [] r20_2 1 ((20,true,.tuple ⟨.bool b :: vs⟩) :: t) h n true True []=some ⟨(21,true,.bool b) :: (20,true,.tuple ⟨.bool b :: vs⟩) :: t,h,n,true,
   rsP (xrun (callE F sc (exec F sc 1 [])) [] r20_2 1 ((20,true,.tuple ⟨.bool b :: vs⟩) :: t) h n true True []),rsR (xrun (callE F sc (exec F sc 1 [])) [] r20_2 1 ((20,true,.tuple ⟨.bool b :: vs⟩) :: t) h n true True [])⟩:=by kernel_rfl
theorem at_of {ρ:Rn}{t:Tm}{a:Act}{k:Nat}{v:Value} (h:TmR ρ t a.tmps) (hl:look t k=some (true,v)):V ρ v (a.eval (.tmp k)) :=
 ev_sound (t:=t) (x:=.tmp k) hl fun k _ v hl=>h.at hl
theorem tm_drop {ρ:Rn}{t:Tm}{tmps:Array Value}{d:Nat}{v:Value} (h:TmR ρ ((d,true,v) :: t) tmps) (hd:look t d=none):TmR ρ t tmps:=fun j b u hl=>by
 refine h j b u ?_
 simp only[look]
 cases hb:Nat.beq d j with
 |true=>rw[Nat.eq_of_beq_eq_true hb]at hd;rw[hd]at hl;cases hl
 |false=>exact hl
theorem wp_rangeMap (hF:FnsOK E.P F sc) (k:Nat){rest:Code}{y:XCode}{l3:List XOper}{i2 i3:Nat}{ops2 ops3:Array Oper}
  (hS2:look S.t 20=none/\look S.t 21=none) (hS:look S.t 19=some (true,.pointer (some ⟨it,0,some 0⟩))) (hr:E.B.w.heap.size<=r) (hnd:(es.toList.map (·.born)).Nodup) (hold:∀ x∈es.toList,x.born<clock) (hN:22<E.N)
  (o2:opIs ops2[0]?=some (some 20,.next (.tmp 19) false,none)) (z2:ops2.size=2) (c2:CmpAt E.P E.N ops2 1 r20_2)
  (o3:opIs ops3[0]?=some (some 22,.entry (.tmp 19),none)) (z3:ops3.size=l3.length+1) (c3:CmpAt E.P E.N ops3 1 l3) (hy:comp E.P E.N rest=some y)
  (hcl:∀ e∈es.toList,∀ ρ,V ρ e.key e.key/\V ρ e.val e.val)
  (round:∀ e∈es.toList,∀ E':FEnv,E'.P=E.P->E'.N=E.N->E'.B.n=S.n->∃ t h n pr tr,
   xrun (callE F sc (exec F sc k [])) [] l3 1 ((22,true,.tuple ⟨[e.key,e.val]⟩) :: (21,true,.bool true) :: (20,true,.tuple ⟨[.bool true,e.key,e.val]⟩) :: S.t) S.h S.n true True []=some ⟨t,h,n,true,pr,tr⟩/\XWP E'.toEnv y (roundK E' S T Qr 1 e) ⟨t,h,n⟩)
  {m:Nat}{a:Act}{w:World} (h:RI E S it r bm es clock T m a w) :
  (Code.loop (.seq (.region i2 ops2 false) (.seq (.cond (.tmp 21) .skip (.exit 0)) (.block 1 (.seq (.region i3 ops3 false) rest))))).wp E.P
   (fun e a w=>(e=.exit 0/\E.toEnv.rel S a w/\∀ x∈es.toList,T x)\/(e=.ret/\∃ s2,Qr s2/\E.toEnv.rel s2 a w)) a w:=by
 refine wp_loopC (R:=RI E S it r bm es clock T) (μ:=id) (fun m a w hR=>?_) m a w h
 obtain⟨ρ,seen,hBn,hcore,hfree,hit,hwr,hwb,nr,nb,hm,hT⟩:=hR
 have hrlt:r<w.heap.size:=by
  rcases Nat.lt_or_ge r w.heap.size with h|h
  ·exact h
  ·simp[Array.getElem?_eq_none h]at hwr
 have hev:a.eval (.tmp 19)=.pointer (some ⟨r,0,none⟩):=by
  have:=at_of hcore.tm hS
  generalize a.eval (.tmp 19)=c at this
  cases this with
  |ptr h=>rw[hit]at h;cases h;rfl
 obtain⟨x2,hx2,d2,p2,g2⟩:=opIs_some o2
 obtain⟨x3,hx3,d3,p3,g3⟩:=opIs_some o3
 refine wp_seq (wp_region ?_)
 rw[z2,show List.range 2=0 :: List.range' 1 r20_2.length from rfl,wpOps_cons]
 rcases run_next_at (P:=E.P) w x2.type r bm clock clock seen es clock hwr hwb hold (Nat.le_refl _)with⟨h0,hrun⟩|⟨e,he,w1,hw1,hrun⟩
 ·-- nothing is left
  have hexec:(execOp a.eval x2).run E.P w=.ok (.value (.tuple #[.bool false])) w:=exec_next p2 (by rw[hev];exact hrun)
  refine wpOp_ok hx2 g2 hexec ?_
  rw[d2]
  have hrel:E.toEnv.rel ⟨(20,true,.tuple ⟨[.bool false]⟩) :: S.t,S.h,S.n⟩ (a.put (some 20) (.tuple #[.bool false])) w :=
   ⟨hBn,ρ,core_put hcore (by omega) (VL.tuple (xs:=#[.bool false]) (ys:=#[.bool false]) ⟨.bool false,trivial⟩),hfree⟩
  refine ops_run hF 1 c2 (ext20 F sc S.t S.h S.n false []) rfl hrel fun a' w' hr'=>?_
  refine wp_seq (wp_cond (t:=false) ?_ (wp_exit ?_))
  ·obtain⟨_,ρ',hc',_⟩:=hr'
   exact v_bool (at_of hc'.tm (k:=21) rfl)
  ·refine .inl ⟨rfl,?_,fun x hx=>hT x hx (all_seen es seen h0 x hx)⟩
   obtain⟨q1,ρ',hc',q3⟩:=hr'
   exact⟨q1,ρ',{ hc' with tm:=tm_drop (tm_drop hc'.tm (by simp only[look];exact hS2.2)) hS2.1 },q3⟩
 ·-- one that is left
  obtain⟨hes,hns⟩:=mem_left he
  have hexec:(execOp a.eval x2).run E.P w=.ok (.value (.tuple #[.bool true,e.key,e.val])) (setBlock w1 r (.mapIter (some bm) clock (seen.push e.born) clock)):=exec_next p2 (by rw[hev];exact hrun)
  refine wpOp_ok hx2 g2 hexec ?_
  rw[d2]
  have hh1:w1.heap=w.heap:=by rcases hw1 with rfl|rfl<;>rfl
  have hcore1:=core_put (d:=20) (v:=.tuple ⟨[.bool true,e.key,e.val]⟩) (c:=.tuple #[.bool true,e.key,e.val]) (core_iter (o:=.mapIter (some bm) clock (seen.push e.born) clock) hcore hr nr hw1) (by omega)
   (VL.tuple (xs:=#[.bool true,e.key,e.val]) (ys:=#[.bool true,e.key,e.val]) ⟨.bool true,(hcl e hes ρ).1,(hcl e hes ρ).2,trivial⟩)
  have hr1:(setBlock w1 r (.mapIter (some bm) clock (seen.push e.born) clock)).heap[r]?=some (.mapIter (some bm) clock (seen.push e.born) clock):=setBlock_same _ _ _ (by rw[hh1];exact hrlt)
  have hbr:bm≠r:=by rintro rfl;rw[hwr]at hwb;cases hwb
  have hb1:(setBlock w1 r (.mapIter (some bm) clock (seen.push e.born) clock)).heap[bm]?=some (.map es clock):=by rw[setBlock_get _ _ _ _ hbr,hh1];exact hwb
  generalize setBlock w1 r (.mapIter (some bm) clock (seen.push e.born) clock)=w2 at hcore1 hr1 hb1
  generalize a.put (some 20) (.tuple #[.bool true,e.key,e.val])=a2 at hcore1
  have hlt1:r<w2.heap.size/\bm<w2.heap.size:=by
   constructor
   ·rcases Nat.lt_or_ge r w2.heap.size with h|h
    ·exact h
    ·simp[Array.getElem?_eq_none h]at hr1
   ·rcases Nat.lt_or_ge bm w2.heap.size with h|h
    ·exact h
    ·simp[Array.getElem?_eq_none h]at hb1
  have nOr:¬ Own ρ (hget S.h) r:=fun ⟨id,b,l,h1,h2,h3,h4⟩=>nr id b l h1 (touch_of_rw h2) h3 h4
  have nOb:¬ Own ρ (hget S.h) bm:=fun ⟨id,b,l,h1,h2,h3,h4⟩=>nb id b l h1 h2 h3 h4
  let E1:FEnv:=⟨⟨E.P,E.N,⟨ρ,S.n,Own ρ (hget S.h),w2⟩,E.mix⟩,fun id hid=>(hfree id hid).trans (E.dom id (Nat.le_trans hBn hid))⟩
  have keep:∀ {s:St} {a':Act} {w':World},E1.toEnv.rel s a' w'->w'.heap[r]?=some (.mapIter (some bm) clock (seen.push e.born) clock)/\w'.heap[bm]?=some (.map es clock):=by
   rintro s a' w' ⟨_,ρ',hc',_⟩
   exact⟨(hc'.fr.block r hlt1.1 nOr).trans hr1,(hc'.fr.block bm hlt1.2 nOb).trans hb1⟩
  have hrel:E1.toEnv.rel ⟨(20,true,.tuple ⟨[.bool true,e.key,e.val]⟩) :: S.t,S.h,S.n⟩ a2 w2 :=
   ⟨Nat.le_refl _,ρ,⟨hcore1.tm,hcore1.sz,hcore1.df,hcore1.rel,Fr.refl _ _,fun k hk=>.inl hk,Le.refl _,fun id h0 h1=>absurd h0 h1⟩,fun _ _=>rfl⟩
  refine ops_run (E:=E1) hF 1 c2 (ext20 F sc S.t S.h S.n true [e.key,e.val]) rfl hrel fun a3 w3 hr3=>?_
  obtain⟨hk3r,hk3b⟩:=keep hr3
  refine wp_seq (wp_cond (t:=true) ?_ (wp_skip (wp_block (wp_seq (wp_region ?_)))))
  ·obtain⟨_,ρ',hc',_⟩:=hr3
   exact v_bool (at_of hc'.tm (k:=21) rfl)
  rw[z3,show List.range (l3.length+1)=0 :: List.range' 1 l3.length from by rw[List.range_eq_range',List.range'_succ],wpOps_cons]
  obtain⟨q1,ρ3,hc3,q3⟩:=hr3
  have hev3:a3.eval (.tmp 19)=.pointer (some ⟨r,0,none⟩):=by
   have:=at_of hc3.tm (k:=19) (v:=.pointer (some ⟨it,0,some 0⟩)) (by simp only[look];exact hS)
   generalize a3.eval (.tmp 19)=c at this
   cases this with
   |ptr h=>rw[hc3.le it _ hit]at h;cases h;rfl
  have hexec3:(execOp a3.eval x3).run E.P w3=.ok (.value (.tuple #[e.key,e.val])) w3:=exec_entry p3 (by rw[hev3];exact run_entry_at w3 r bm clock seen es clock e hk3r hk3b hes hnd)
  refine wpOp_ok hx3 g3 hexec3 ?_
  rw[d3]
  have hc4:=core_put (d:=22) (v:=.tuple ⟨[e.key,e.val]⟩) (c:=.tuple #[e.key,e.val]) hc3 hN (VL.tuple (xs:=#[e.key,e.val]) (ys:=#[e.key,e.val]) ⟨(hcl e hes ρ3).1,(hcl e hes ρ3).2,trivial⟩)
  obtain⟨t,h,n,pr,tr,hx,hxw⟩:=round e hes E1 rfl rfl rfl
  refine ops_run (E:=E1) hF k c3 (s:=⟨_,S.h,S.n⟩) hx rfl ⟨q1,ρ3,hc4,q3⟩ fun a5 w5 hr5=>?_
  refine wp_mono (hxw rest hy a5 w5 hr5) ?_
  rintro e' a6 w6 ⟨s6,hq,hr6⟩
  rcases hq with⟨he',hTe,hwk⟩|⟨rfl,s2,hwk,hq2⟩
  ·have hr7:=hwk a6 w6 hr6
   have hnext:RI E S it r bm es clock T ((leftOf es (seen.push e.born)).size) a6 w6:=by
    obtain⟨hkr,hkb⟩:=keep hr7
    obtain⟨g1,ρ7,hc7,g3⟩:=hr7
    have hback:∀ id b l,hget S.h id=some b->ρ7 id=some l->ρ id=some l:=fun id b l h1 h2=>by
     obtain⟨l0,hl0,_⟩:=hcore.rel.holds id b h1
     rw[hc7.le id l0 hl0]at h2;cases h2;exact hl0
    refine⟨ρ7,seen.push e.born,hBn,core_comp hBn hcore1 hc7,fun id hid=>(g3 id hid).trans (hfree id hid),hc7.le it _ hit,hkr,hkb,
     fun id b l h1 h2 h3=>nr id b l h1 h2 (hback id b l h1 h3),fun id b l h1 h2 h3=>nb id b l h1 h2 (hback id b l h1 h3),rfl,fun x hx hs=>?_⟩
    rw[contains_push]at hs
    cases hc:seen.contains x.born with
    |true=>exact hT x hx hc
    |false =>
     rw[hc,Bool.false_or,beq_iff_eq]at hs
     have:x=e:=by
      obtain⟨i,hi⟩:=List.mem_iff_getElem?.1 hx
      obtain⟨j,hj⟩:=List.mem_iff_getElem?.1 hes
      have hij:i=j:=by
       have hil:i<(es.toList.map (·.born)).length:=by rw[List.length_map];exact(List.getElem?_eq_some_iff.1 hi).1
       refine(List.getElem?_inj hil hnd).1 ?_
       rw[List.getElem?_map,List.getElem?_map,hi,hj]
       simp[hs]
      subst hij
      rw[hi]at hj
      exact Option.some.inj hj
     rw[this];exact hTe
   have hlt:(leftOf es (seen.push e.born)).size<m:=by rw[<- hm];exact left_shrinks es seen e he
   rcases he' with rfl|rfl
   ·exact⟨_,hlt,hnext⟩
   ·exact⟨_,hlt,hnext⟩
  ·refine .inr ⟨rfl,s2,hq2,?_⟩
   obtain⟨g1,ρ7,hc7,g3⟩:=hwk a6 w6 hr6
   exact⟨Nat.le_trans hBn g1,ρ7,core_comp hBn hcore1 hc7,fun id hid=>(g3 id hid).trans (hfree id (Nat.le_trans g1 hid))⟩
end
end Go.X
