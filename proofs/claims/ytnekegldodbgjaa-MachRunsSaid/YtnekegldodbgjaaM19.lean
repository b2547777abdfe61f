import Derived.Test.YtnekegldodbgjaaM15
import Derived.Test.YtnekegldodbgjaaProg
import Derived.KernelRfl
set_option linter.all false
namespace Go.X
open Go Go.Proofs
instance (n:Nat):OfNat Operand n:=⟨.tmp n⟩
abbrev L_:=List XOper
abbrev C_:=XCode
abbrev r_ (l:L_):C_:=.region l
def zs_ (k:IntKind) (n:Nat):List Value:=List.replicate n (.int k 0)
def ck_ (k:IntKind) (n:Int):Operand:=.const (.int k n)
def bt_:Operand:=.const (.bool true)
def bf_:Operand:=.const (.bool false)
def mi_ (n:Int):XOp:=.mv (.const (.int .i64 n))
def se_:Value:=.string ⟨#[]⟩
def ci_ (n:Int):Operand:=.const (.int .i64 n)
def m_ (n:Nat):XOp:=.mv (.tmp n)
def q_ (d:Nat) (o:XOp):XOper:=⟨some d,.op o,none⟩
def og_ (d c:Nat) (b:Bool) (o:XOp):XOper:=⟨some d,.op o,some (c,b)⟩
def oc_ (d f:Nat) (l:List Operand):XOper:=⟨some d,.callF f l,none⟩
def on_ (o:XOp):XOper:=⟨none,.op o,none⟩
def s_:Nat->List XK->L_->L_
 |_,[],r=>r
 |d,k :: l,r=>⟨some d,k,none⟩ :: s_ (d+1) l r
def sg_:Nat->Nat->Bool->List XK->L_->L_
 |_,_,_,[],r=>r
 |d,c,b,k :: l,r=>⟨some d,k,some (c,b)⟩ :: sg_ (d+1) c b l r
def a_ (n:Nat):XK:=.op (.mv (.tmp n))
def k_ (n:Operand):XK:=.op (.nilck n)
def f_ (o:Nat) (n:Operand):XK:=.op (.faddr o n)
def l_ (n:Operand):XK:=.op (.load .one 1 n)
def li_ (n:Operand):XK:=.op (.load (.int .i64) 1 n)
def lu_ (n:Operand):XK:=.op (.load (.int .u64) 1 n)
def g_ (k:Nat) (n:Operand):XK:=.op (.load .agg k n)
def b_ (o:BinOp) (x y:Operand):XK:=.op (.bin o x y)
def e_ (x:Operand) (i:Nat):XK:=.op (.ext x i)
def n_ (x:Operand):XK:=.op (.lenS x)
def i_ (n:Int):XK:=.op (.mv (.const (.int .i64 n)))
def v_ (x:Operand):XK:=.op (.mv x)
def o_ (o:XOp):XK:=.op o
def c_ (f:Nat) (l:List Operand):XK:=.callF f l
def x11_0:L_:=s_ 5 [o_ (.box 2),v_ bf_] []
def x11_1:L_:=s_ 20 [c_ 21 [],o_ (.un .not 20),a_ 21] (sg_ 23 22 false [a_ 0,n_ 23,b_ .gtr 24 (ci_ 2000)] ((⟨(some 26),.pick 22 bt_ 25,none⟩) :: (q_ 27 (m_ 26)) :: sg_ 28 27 false [a_ 1,n_ 28,b_ .gtr 29 (ci_ 40)] [⟨(some 31),.pick 27 bt_ 30,none⟩]))
def x11_2:L_:=[oc_ 32 21 [],
 q_ 6 (m_ 32)]
def x11_5:C_:=.seq (r_ x11_1) (.cnd 31 (.seq (r_ x11_2) .ret) .skip)
def x11_6:L_:=s_ 33 [a_ 0,n_ 33,o_ (.iaddrA false 3 1 5 (ci_ 0)),li_ 35,o_ (.conv .u64 36),b_ .rem 37 (ck_ .u64 300),o_ (.conv .i64 38),b_ .add 34 39] [q_ 7 (m_ 40)]
def x11_7:L_:=s_ 41 [o_ (.mkslice [(.int .u8 0)] 0 []),a_ 0,o_ (.app 1 1 41 42)] [q_ 8 (m_ 43)]
def x11_8:L_:=s_ 45 [a_ 8,a_ 7,c_ 22 [45,46]] ((q_ 44 (m_ 47)) :: s_ 48 [e_ 44 0,e_ 44 1] (s_ 9 [a_ 48,a_ 49] []))
def x11_9:L_:=s_ 51 [a_ 0,a_ 7,c_ 32 [51,52]] ((q_ 50 (m_ 53)) :: s_ 54 [e_ 50 0,e_ 50 1] [q_ 11 (.new [(.slice none 0 0),(.int .u64 0),(.int .u64 0),(.int .u64 0),(.int .u64 0),(.int .u64 0),(.int .u64 0),(.int .u64 0),(.int .u64 0),(.int .u64 0),(.int .u64 0),(.int .u64 0),(.int .u64 0),(.int .u64 0),(.int .u64 0),(.int .u64 0),(.int .u64 0),(.int .u64 0),(.int .u64 0),(.int .u64 0),(.int .u64 0),(.int .u64 0),(.int .u64 0),(.int .u64 0),(.int .u64 0),(.int .u64 0),(.int .u64 0),(.int .u64 0),(.int .u64 0),(.int .u64 0),(.int .u64 0),(.int .u64 0),(.int .u64 0),(.int .u64 0),(.int .i64 0),(.int .u8 0)]),on_ (.store 36 11 54),q_ 12 (m_ 55)])
def x11_10:L_:=s_ 56 [a_ 10,b_ .neq 56 (ci_ 0),a_ 57] (sg_ 59 58 false [a_ 12,o_ (.un .not 59)] ((⟨(some 61),.pick 58 bt_ 60,none⟩) :: (q_ 62 (m_ 61)) :: sg_ 63 62 false [a_ 9,o_ (.eqnil 0 false 63 (.const (.pointer none)))] [⟨(some 65),.pick 62 bt_ 64,none⟩]))
def x11_11:L_:=[q_ 6 (.mv bf_)]
def x11_14:C_:=.seq (r_ x11_10) (.cnd 65 (.seq (r_ x11_11) .ret) .skip)
def x11_15:L_:=s_ 66 [a_ 8,n_ 66,i_ 0] []
def x11_16:L_:=[q_ 69 (.bin .lss 68 67)]
def x11_18:L_:=[q_ 70 (m_ 68),
 q_ 13 (m_ 70)]
def x11_19:L_:=s_ 71 [a_ 8,a_ 13,o_ (.iaddrS 1 71 72),o_ (.load (.int .u8) 1 73),b_ .add 74 (ck_ .u8 1),o_ (.iaddrS 1 71 72)] [on_ (.store 1 76 75)]
def x11_22:L_:=[q_ 77 (.bin .add 68 (ci_ 1)),
 q_ 68 (m_ 77)]
def x11_25:C_:=.seq (r_ x11_16) (.seq (.cnd 69 .skip (.exit 0)) (.seq (.block 1 (.seq (r_ x11_18) (r_ x11_19))) (r_ x11_22)))
def x11_29:L_:=s_ 78 [a_ 9,g_ 36 11,a_ 1,c_ 34 [78,79,80]] [on_ (.store 36 11 81)]
def x11_30:L_:=[q_ 14 (mi_ 1)]
def x11_31:L_:=s_ 82 [a_ 14,b_ .leq 82 (ci_ 2)] []
def x11_33:C_:=.seq (r_ x11_31) (.cnd 83 .skip (.exit 2))
def x11_34:L_:=s_ 86 [a_ 14,o_ (.iaddrA true 3 1 5 86),li_ 87,o_ (.minmax false [88,(ci_ 300)])] [q_ 15 (m_ 89)]
def x11_35:L_:=[q_ 90 (.mkslice [(.int .u8 0)] 2 [(0,(ck_ .u8 5)),(1,(ck_ .u8 200))]),
 q_ 16 (m_ 90)]
def x11_36:L_:=s_ 91 [a_ 9,a_ 16,a_ 15,c_ 24 [91,92,93]] [q_ 17 (.new [(.int .i64 0),(.int .u8 0),(.int .i64 0),(.slice none 0 0),(.int .i64 0),(.int .i64 0)]),on_ (.store 6 17 94)]
def x11_37:L_:=[q_ 18 (.new [(.int .i64 0),(.int .u8 0),(.int .i64 0),(.slice none 0 0),(.int .i64 0),(.int .i64 0)])]
def x11_38:L_:=s_ 96 [g_ 36 11,o_ (.mkslice [(.int .u8 0)] 2 [(0,(ck_ .u8 5)),(1,(ck_ .u8 200))]),a_ 15,c_ 35 [96,97,98]] ((q_ 95 (m_ 99)) :: s_ 100 [e_ 95 0,e_ 95 1,e_ 95 2] [on_ (.store 36 11 100),on_ (.store 6 18 101)])
def x11_39:L_:=s_ 103 [g_ 6 17,g_ 6 18,c_ 28 [103,104],o_ (.un .not 105),a_ 106] (sg_ 108 107 false [a_ 9,g_ 36 11] ((⟨(some 110),.callF 33 [108,109],(some (107,false))⟩) :: (og_ 111 107 false (.un .not 110)) :: (⟨(some 112),.pick 107 bt_ 111,none⟩) :: (q_ 113 (m_ 112)) :: sg_ 114 113 false [a_ 16,o_ (.iaddrS 1 114 (ci_ 0)),o_ (.load (.int .u8) 1 115),b_ .neq 116 (ck_ .u8 5)] [⟨(some 118),.pick 113 bt_ 117,none⟩]))
def x11_40:L_:=[q_ 6 (.mv bf_)]
def x11_43:C_:=.seq (r_ x11_39) (.cnd 118 (.seq (r_ x11_40) .ret) .skip)
def x11_44:L_:=s_ 119 [f_ 3 17,l_ 119,n_ 120,i_ 0] []
def x11_45:L_:=[q_ 123 (.bin .lss 122 121)]
def x11_47:L_:=[q_ 124 (m_ 122),
 q_ 19 (m_ 124)]
def x11_48:L_:=s_ 125 [f_ 3 17,l_ 125,a_ 19,o_ (.iaddrS 1 126 127),o_ (.load (.int .u8) 1 128),b_ .add 129 (ck_ .u8 1),o_ (.iaddrS 1 126 127)] [on_ (.store 1 131 130)]
def x11_51:L_:=[q_ 132 (.bin .add 122 (ci_ 1)),
 q_ 122 (m_ 132)]
def x11_54:C_:=.seq (r_ x11_45) (.seq (.cnd 123 .skip (.exit 4)) (.seq (.block 5 (.seq (r_ x11_47) (r_ x11_48))) (r_ x11_51)))
def x11_58:L_:=s_ 133 [a_ 9,o_ (.iaddrA false 3 1 5 (ci_ 0)),li_ 134,o_ (.conv .u64 135),c_ 31 [133,136]] []
def x11_59:L_:=s_ 138 [o_ (.iaddrA false 3 1 5 (ci_ 0)),li_ 138,o_ (.conv .u64 139),f_ 33 11] [on_ (.store 1 141 140)]
def x11_60:C_:=.seq (r_ x11_58) (r_ x11_59)
def x11_61:C_:=.seq (.seq (r_ x11_44) (.block 4 (.loop x11_54))) x11_60
def x11_62:C_:=.seq x11_43 x11_61
def x11_63:C_:=.seq (r_ x11_38) x11_62
def x11_64:C_:=.seq (r_ x11_37) x11_63
def x11_65:C_:=.seq (r_ x11_36) x11_64
def x11_66:C_:=.seq (r_ x11_35) x11_65
def x11_67:C_:=.seq (r_ x11_34) x11_66
def x11_69:L_:=s_ 84 [a_ 14,b_ .add 84 (ci_ 1)] [q_ 14 (m_ 85)]
def x11_71:C_:=.seq x11_33 (.seq (.block 3 x11_67) (r_ x11_69))
def x11_75:L_:=[q_ 6 (.mv bt_)]
def x11_76:C_:=.seq (r_ x11_75) .ret
def x11_77:C_:=.seq (.seq (r_ x11_30) (.block 2 (.loop x11_71))) x11_76
def x11_78:C_:=.seq (r_ x11_29) x11_77
def x11_79:C_:=.seq (.seq (r_ x11_15) (.block 0 (.loop x11_25))) x11_78
def x11_80:C_:=.seq x11_14 x11_79
def x11_81:C_:=.seq (r_ x11_9) x11_80
def x11_82:C_:=.seq (r_ x11_8) x11_81
def x11_83:C_:=.seq (r_ x11_7) x11_82
def x11_84:C_:=.seq (r_ x11_6) x11_83
def x11_86:C_:=.seq (r_ x11_0) (.seq x11_5 x11_84)
def x11:C_:=x11_86
theorem fx11:fnx Try.prog 11=some (142,[(6,none)],x11):=by kernel_rfl
def x18_0:L_:=s_ 1 [o_ (.box 0),v_ (ck_ .u32 0),i_ 0] []
def x18_1:L_:=s_ 18 [c_ 43 [],f_ 0 1,li_ 19,o_ (.lookup 3 104 (.int .i64) (.agg #[(.int .u8 0),(.int .u32 0),(.int .u32 0),(.int .u32 0)]) true 18 20)] ((q_ 17 (m_ 21)) :: s_ 22 [e_ 17 0,e_ 17 1] [q_ 4 (.new [(.int .u8 0),(.int .u32 0),(.int .u32 0),(.int .u32 0)]),on_ (.store 4 4 22),q_ 5 (m_ 23)])
def x18_2:L_:=s_ 25 [f_ 0 4,o_ (.load (.int .u8) 1 25),c_ 44 [26]] ((q_ 24 (m_ 27)) :: s_ 28 [e_ 24 0,e_ 24 1] (s_ 6 [a_ 28,a_ 29] []))
def x18_3:L_:=s_ 30 [f_ 1 1,li_ 30,f_ 2 1,li_ 32,f_ 3 1,li_ 34,o_ (.build (zs_ .i64 3) [(0,1,31),(1,1,33),(2,1,35)])] [q_ 8 (.new (zs_ .i64 3)),on_ (.store 3 8 36)]
def x18_4:L_:=s_ 37 [f_ 0 4,o_ (.load (.int .u8) 1 37),c_ 45 [38],i_ 0] []
def x18_5:L_:=[q_ 41 (.bin .lss 40 (ci_ 3))]
def x18_7:L_:=s_ 42 [a_ 40,o_ (.idxA 3 1 .bool 39 40)] (s_ 9 [a_ 42,a_ 43] [])
def x18_8:L_:=s_ 44 [a_ 5,a_ 44] (sg_ 46 45 true [a_ 10,a_ 46] (sg_ 48 47 false [a_ 9,o_ (.iaddrA true 3 1 8 48),li_ 49,b_ .eql 50 (ci_ 0)] [⟨(some 52),.pick 47 bt_ 51,(some (45,true))⟩,⟨(some 53),.pick 45 52 bf_,none⟩,q_ 5 (m_ 53)]))
def x18_11:L_:=[q_ 54 (.bin .add 40 (ci_ 1)),
 q_ 40 (m_ 54)]
def x18_18:L_:=s_ 55 [a_ 5,o_ (.un .not 55),a_ 56] (sg_ 58 57 false [a_ 6,a_ 7,b_ .gtr 58 59,a_ 60] (sg_ 62 61 true [f_ 4 1,li_ 62,b_ .neq 63 (ci_ 0)] [⟨(some 65),.pick 61 64 bf_,(some (57,false))⟩,⟨(some 66),.pick 57 bt_ 65,none⟩]))
def x18_19:L_:=s_ 2 [v_ (ck_ .u32 0),i_ 2] []
def x18_23:L_:=s_ 67 [f_ 1 4,f_ 0 67,o_ (.load (.int .u32) 1 68),f_ 1 4,f_ 1 70,o_ (.load (.int .u32) 1 71),b_ .shl 72 (ck_ .u64 12),b_ .or 69 73,f_ 1 4,f_ 2 75,o_ (.load (.int .u32) 1 76),b_ .shl 77 (ck_ .u64 25),b_ .or 74 78] [q_ 11 (m_ 79)]
def x18_24:L_:=s_ 80 [g_ 3 8,i_ 0] []
def x18_25:L_:=[q_ 82 (.bin .lss 81 (ci_ 3))]
def x18_27:L_:=s_ 83 [a_ 81,o_ (.idxA 3 1 (.int .i64) 80 81)] (s_ 12 [a_ 83,a_ 84] [])
def x18_28:L_:=s_ 85 [a_ 13,b_ .lss 85 (ci_ 0),a_ 86] (sg_ 88 87 false [a_ 13,b_ .gtr 88 (ci_ 31)] [⟨(some 90),.pick 87 bt_ 89,none⟩])
def x18_29:L_:=s_ 2 [v_ (ck_ .u32 0),i_ 1] []
def x18_33:L_:=s_ 91 [a_ 11,a_ 13,o_ (.conv .u32 92),o_ (.build (zs_ .u64 3) [(0,1,(ck_ .u64 7)),(1,1,(ck_ .u64 15)),(2,1,(ck_ .u64 20))]),a_ 12,o_ (.idxA 3 1 (.int .u64) 94 95),b_ .shl 93 96,b_ .or 91 97] [q_ 11 (m_ 98)]
def x18_37:L_:=[q_ 99 (.bin .add 81 (ci_ 1)),
 q_ 81 (m_ 99)]
def x18_41:C_:=.loop (.seq (r_ x18_25) (.seq (.cnd 82 .skip (.exit 2)) (.seq (.block 3 (.seq (r_ x18_27) (.seq (.seq (r_ x18_28) (.cnd 90 (.seq (r_ x18_29) .ret) .skip)) (r_ x18_33)))) (r_ x18_37))))
def x18_44:L_:=s_ 100 [f_ 0 4,o_ (.load (.int .u8) 1 100),b_ .eql 101 (ck_ .u8 66),a_ 102] (sg_ 104 103 false [f_ 0 4,o_ (.load (.int .u8) 1 104),b_ .eql 105 (ck_ .u8 74)] ((⟨(some 107),.pick 103 bt_ 106,none⟩) :: (q_ 108 (m_ 107)) :: sg_ 109 108 true [f_ 4 1,li_ 109,b_ .and 110 (ci_ 1),b_ .eql 111 (ci_ 1)] [⟨(some 113),.pick 108 112 bf_,none⟩,q_ 14 (m_ 113)]))
def x18_45:L_:=s_ 114 [a_ 6,a_ 7,b_ .leq 114 115,a_ 116] (sg_ 118 117 true [f_ 4 1,li_ 118,a_ 6,b_ .lss 119 120,a_ 121] (sg_ 123 122 false [f_ 4 1,li_ 123,a_ 7,b_ .gtr 124 125] [⟨(some 127),.pick 122 bt_ 126,(some (117,true))⟩,og_ 128 117 true (m_ 127),og_ 129 128 false (m_ 14),⟨(some 130),.pick 128 bt_ 129,(some (117,true))⟩,⟨(some 131),.pick 117 130 bf_,none⟩]))
def x18_46:L_:=s_ 2 [v_ (ck_ .u32 0),i_ 1] []
def x18_50:L_:=s_ 132 [f_ 0 4,o_ (.load (.int .u8) 1 132),c_ 46 [133],n_ 134,i_ 0] []
def x18_51:L_:=[q_ 137 (.bin .lss 136 135)]
def x18_53:L_:=s_ 138 [o_ (.iaddrS 3 134 136),g_ 3 138] [q_ 16 (.new (zs_ .u64 3)),on_ (.store 3 16 139)]
def x18_54:L_:=s_ 140 [a_ 11,f_ 4 1,li_ 141,o_ (.conv .u32 142),f_ 0 16,lu_ 144,b_ .shr 143 145,f_ 1 16,lu_ 147,b_ .shl (ck_ .u32 1) 148,b_ .sub 149 (ck_ .u32 1),b_ .and 146 150,f_ 2 16,lu_ 152,b_ .shl 151 153,b_ .or 140 154] [q_ 11 (m_ 155)]
def x18_57:L_:=[q_ 156 (.bin .add 136 (ci_ 1)),
 q_ 136 (m_ 156)]
def x18_64:L_:=(q_ 157 (m_ 11)) :: s_ 2 [a_ 157,i_ 0] []
def x18_67:C_:=.seq (.seq (r_ x18_45) (.cnd 131 (.seq (r_ x18_46) .ret) .skip)) (.seq (.seq (r_ x18_50) (.block 4 (.loop (.seq (r_ x18_51) (.seq (.cnd 137 .skip (.exit 4)) (.seq (.block 5 (.seq (r_ x18_53) (r_ x18_54))) (r_ x18_57))))))) (.seq (r_ x18_64) .ret))
def x18_73:C_:=.seq (r_ x18_3) (.seq (.seq (r_ x18_4) (.block 0 (.loop (.seq (r_ x18_5) (.seq (.cnd 41 .skip (.exit 0)) (.seq (.block 1 (.seq (r_ x18_7) (r_ x18_8))) (r_ x18_11))))))) (.seq (.seq (r_ x18_18) (.cnd 66 (.seq (r_ x18_19) .ret) .skip)) (.seq (r_ x18_23) (.seq (.seq (r_ x18_24) (.block 2 x18_41)) (.seq (r_ x18_44) x18_67)))))
def x18_74:C_:=.seq (r_ x18_2) x18_73
def x18_76:C_:=.seq (r_ x18_0) (.seq (.draw x18_1 [[],[],[1],[0,1,2],[0,1,2,3],[0,1,2,3,4],[0,1,2,3,4],[],[0,1,2,3,4,5,7],[0,1,2,3,4,5,6,7,8]]) x18_74)
def x18:C_:=x18_76
theorem fx18:fnx Try.prog 18=some (158,[(2,none),(3,none)],x18):=by kernel_rfl
def x21_0:L_:=[q_ 0 (.mv bf_)]
def x21_1:L_:=s_ 5 [o_ (.build (zs_ .i64 5) [(0,1,(ci_ 28)),(1,1,(ci_ 17)),(4,1,(ci_ 3))]),o_ (.build (zs_ .i64 5) [(0,1,(ci_ 55))]),o_ (.mkslice (zs_ .i64 5) 2 [(0,5),(1,6)]),c_ 23 [7],c_ 22 [8,(ci_ 64)]] ((q_ 4 (m_ 9)) :: s_ 10 [e_ 4 0,e_ 4 1] (s_ 1 [a_ 10,a_ 11] []))
def x21_2:L_:=s_ 12 [a_ 2,b_ .neq 12 (ci_ 0),a_ 13] (sg_ 15 14 false [a_ 1,o_ (.eqnil 0 false 15 (.const (.pointer none)))] [⟨(some 17),.pick 14 bt_ 16,none⟩])
def x21_3:L_:=[q_ 0 (.mv bf_)]
def x21_7:L_:=s_ 18 [a_ 1,c_ 24 [18,(.const (.slice none 0 0)),(ci_ 9)]] [q_ 3 (.new [(.int .i64 0),(.int .u8 0),(.int .i64 0),(.slice none 0 0),(.int .i64 0),(.int .i64 0)]),on_ (.store 6 3 19)]
def x21_8:L_:=s_ 20 [f_ 0 3,li_ 20,b_ .eql 21 (ci_ 1),a_ 22] (sg_ 24 23 true [f_ 1 3,o_ (.load (.int .u8) 1 24),b_ .eql 25 (ck_ .u8 0)] ((⟨(some 27),.pick 23 26 bf_,none⟩) :: (q_ 28 (m_ 27)) :: sg_ 29 28 true [f_ 4 3,li_ 29,b_ .eql 30 (ci_ 2)] [⟨(some 32),.pick 28 31 bf_,none⟩,q_ 0 (m_ 32)]))
def x21_13:C_:=.seq (r_ x21_0) (.seq (r_ x21_1) (.seq (.seq (r_ x21_2) (.cnd 17 (.seq (r_ x21_3) .ret) .skip)) (.seq (r_ x21_7) (.seq (r_ x21_8) .ret))))
def x21:C_:=x21_13
theorem fx21:fnx Try.prog 21=some (33,[(0,none)],x21):=by kernel_rfl
def x22_0:L_:=s_ 4 [v_ (.const (.pointer none)),i_ 0] []
def x22_1:L_:=s_ 7 [a_ 1,a_ 0,n_ 8,b_ .lss 7 9,a_ 10] (sg_ 12 11 false [a_ 1,b_ .gtr 12 (ci_ 4194304)] [⟨(some 14),.pick 11 bt_ 13,none⟩])
def x22_2:L_:=s_ 4 [v_ (.const (.pointer none)),i_ 1] []
def x22_6:L_:=s_ 15 [a_ 1,o_ (.mks [(.int .u8 0)] 1 15 15),o_ (.mkmap 35 26 (.agg #[(.int .i64 0),(.int .i64 0),(.int .i64 0),(.int .i64 0),(.int .i64 0)])),o_ (.build [(.slice none 0 0),(.int .u64 0),(.int .u64 0),(.int .u64 0),(.int .u64 0),(.int .u64 0),(.int .u64 0),(.int .u64 0),(.int .u64 0),(.int .u64 0),(.int .u64 0),(.int .u64 0),(.int .u64 0),(.int .u64 0),(.int .u64 0),(.int .u64 0),(.int .u64 0),(.int .u64 0),(.int .u64 0),(.int .u64 0),(.int .u64 0),(.int .u64 0),(.int .u64 0),(.int .u64 0),(.int .u64 0),(.int .u64 0),(.int .u64 0),(.int .u64 0),(.int .u64 0),(.int .u64 0),(.int .u64 0),(.int .u64 0),(.int .u64 0),(.int .u64 0),(.int .i64 0),(.int .u8 0),(.map none)] [(0,1,16),(36,1,17)]),o_ (.box 18)] [q_ 6 (m_ 19)]
def x22_7:L_:=s_ 20 [a_ 6,k_ 20,f_ 0 21,l_ 22,a_ 0,o_ (.cpy 1 23 24)] []
def x22_8:L_:=(q_ 26 (m_ 6)) :: s_ 4 [a_ 26,i_ 0] []
def x22_13:C_:=.seq (r_ x22_0) (.seq (.seq (r_ x22_1) (.cnd 14 (.seq (r_ x22_2) .ret) .skip)) (.seq (r_ x22_6) (.seq (r_ x22_7) (.seq (r_ x22_8) .ret))))
def x22:C_:=x22_13
theorem fx22:fnx Try.prog 22=some (27,[(4,none),(5,none)],x22):=by kernel_rfl
def x23_0:L_:=[q_ 2 (.mv (.const (.slice none 0 0)))]
def x23_1:L_:=[q_ 3 (.mv (.const (.slice none 0 0)))]
def x23_2:L_:=s_ 8 [a_ 0,n_ 8,i_ 0] []
def x23_3:L_:=[q_ 11 (.bin .lss 10 9)]
def x23_5:L_:=s_ 12 [o_ (.iaddrS 5 8 10),g_ 5 12] [q_ 5 (.new (zs_ .i64 5)),on_ (.store 5 5 13)]
def x23_6:L_:=s_ 15 [g_ 5 5,c_ 47 [15]] ((q_ 14 (m_ 16)) :: s_ 17 [e_ 14 0,e_ 14 1] (s_ 6 [a_ 17,a_ 18] []))
def x23_7:L_:=s_ 19 [a_ 7,b_ .eql 19 (ci_ 0)] []
def x23_8:L_:=s_ 21 [a_ 3,a_ 6,o_ (.conv .u8 22),a_ 6,b_ .shr 24 (ck_ .u64 8),o_ (.conv .u8 25),a_ 6,b_ .shr 27 (ck_ .u64 16),o_ (.conv .u8 28),a_ 6,b_ .shr 30 (ck_ .u64 24),o_ (.conv .u8 31),o_ (.mkslice [(.int .u8 0)] 4 [(0,23),(1,26),(2,29),(3,32)]),o_ (.app 1 1 21 33)] [q_ 3 (m_ 34)]
def x23_14:L_:=[q_ 35 (.bin .add 10 (ci_ 1)),
 q_ 10 (m_ 35)]
def x23_19:C_:=.block 0 (.loop (.seq (r_ x23_3) (.seq (.cnd 11 .skip (.exit 0)) (.seq (.block 1 (.seq (r_ x23_5) (.seq (r_ x23_6) (.seq (r_ x23_7) (.cnd 20 (r_ x23_8) .skip))))) (r_ x23_14)))))
def x23_21:L_:=[q_ 36 (m_ 3),
 q_ 2 (m_ 36)]
def x23_25:C_:=.seq (r_ x23_0) (.seq (r_ x23_1) (.seq (.seq (r_ x23_2) x23_19) (.seq (r_ x23_21) .ret)))
def x23:C_:=x23_25
theorem fx23:fnx Try.prog 23=some (37,[(2,none)],x23):=by kernel_rfl
def x24_0:L_:=[q_ 6 (.new [(.int .i64 0),(.int .u8 0),(.int .i64 0),(.slice none 0 0),(.int .i64 0),(.int .i64 0)])]
def x24_1:L_:=s_ 10 [a_ 0,a_ 1,a_ 2,c_ 48 [10,11,12,bf_]] ((q_ 9 (m_ 13)) :: s_ 14 [e_ 9 0,e_ 9 1] [q_ 7 (.new [(.int .i64 0),(.int .u8 0),(.int .i64 0),(.slice none 0 0),(.int .i64 0),(.int .i64 0)]),on_ (.store 6 7 14),q_ 8 (m_ 15)])
def x24_2:L_:=[q_ 16 (.load .agg 6 7),
 on_ (.store 6 6 16)]
def x24_5:C_:=.seq (r_ x24_0) (.seq (r_ x24_1) (.seq (r_ x24_2) .ret))
def x24:C_:=x24_5
theorem fx24:fnx Try.prog 24=some (17,[(6,(some (.agg,6)))],x24):=by kernel_rfl
def x25_0:L_:=[q_ 4 (.mv (ck_ .u64 0))]
def x25_1:L_:=s_ 5 [a_ 1,b_ .lss 5 (ci_ 0),a_ 6] (sg_ 8 7 false [a_ 1,b_ .gtr 8 (ci_ 31)] [⟨(some 10),.pick 7 bt_ 9,none⟩])
def x25_2:L_:=[q_ 4 (.mv (ck_ .u64 0))]
def x25_6:L_:=s_ 11 [a_ 0,a_ 1,k_ 11,f_ 1 13,o_ (.iaddrA true 32 1 14 12),lu_ 15] [q_ 4 (m_ 16)]
def x25_9:C_:=.seq (r_ x25_0) (.seq (.seq (r_ x25_1) (.cnd 10 (.seq (r_ x25_2) .ret) .skip)) (.seq (r_ x25_6) .ret))
def x25:C_:=x25_9
theorem fx25:fnx Try.prog 25=some (17,[(4,none)],x25):=by kernel_rfl
def x26_0:L_:=s_ 6 [a_ 1,b_ .gtr 6 (ci_ 0),a_ 7] (sg_ 9 8 true [a_ 1,b_ .lss 9 (ci_ 32)] [⟨(some 11),.pick 8 10 bf_,none⟩])
def x26_1:L_:=s_ 12 [a_ 0,a_ 1,a_ 2,k_ 12,f_ 1 15,o_ (.iaddrA true 32 1 16 13)] [on_ (.store 1 17 14)]
def x26_3:C_:=.seq (r_ x26_0) (.cnd 11 (r_ x26_1) .skip)
def x26:C_:=x26_3
theorem fx26:fnx Try.prog 26=some (18,[],x26):=by kernel_rfl
def x28_0:L_:=s_ 2 [o_ (.box 0),o_ (.box 1),v_ bf_] []
def x28_1:L_:=s_ 5 [f_ 0 2,li_ 5,f_ 0 3,li_ 7,b_ .eql 6 8,a_ 9] (sg_ 11 10 true [f_ 1 2,o_ (.load (.int .u8) 1 11),f_ 1 3,o_ (.load (.int .u8) 1 13),b_ .eql 12 14] ((⟨(some 16),.pick 10 15 bf_,none⟩) :: (q_ 17 (m_ 16)) :: sg_ 18 17 true [f_ 2 2,li_ 18,f_ 2 3,li_ 20,b_ .eql 19 21] ((⟨(some 23),.pick 17 22 bf_,none⟩) :: (q_ 24 (m_ 23)) :: sg_ 25 24 true [f_ 3 2,l_ 25,o_ (.b2s 26),f_ 3 3,l_ 28,o_ (.b2s 29),b_ .eql 27 30] ((⟨(some 32),.pick 24 31 bf_,none⟩) :: (q_ 33 (m_ 32)) :: sg_ 34 33 true [f_ 4 2,li_ 34,f_ 4 3,li_ 36,b_ .eql 35 37] ((⟨(some 39),.pick 33 38 bf_,none⟩) :: (q_ 40 (m_ 39)) :: sg_ 41 40 true [f_ 5 2,li_ 41,f_ 5 3,li_ 43,b_ .eql 42 44] [⟨(some 46),.pick 40 45 bf_,none⟩,q_ 4 (m_ 46)])))))
def x28_3:C_:=.seq (r_ x28_0) (.seq (r_ x28_1) .ret)
def x28:C_:=x28_3
theorem fx28:fnx Try.prog 28=some (47,[(4,none)],x28):=by kernel_rfl
def x30_0:L_:=[q_ 2 (.mv (ck_ .u64 0))]
def x30_1:L_:=s_ 3 [a_ 0,k_ 3,f_ 33 4,lu_ 5] [q_ 2 (m_ 6)]
def x30_3:C_:=.seq (r_ x30_0) (.seq (r_ x30_1) .ret)
def x30:C_:=x30_3
theorem fx30:fnx Try.prog 30=some (7,[(2,none)],x30):=by kernel_rfl
def x31_0:L_:=s_ 4 [a_ 0,a_ 1,k_ 4,f_ 33 6] [on_ (.store 1 7 5)]
def x31:C_:=(r_ x31_0)
theorem fx31:fnx Try.prog 31=some (8,[],x31):=by kernel_rfl
def x32_0:L_:=s_ 4 [o_ (.new [(.slice none 0 0),(.int .u64 0),(.int .u64 0),(.int .u64 0),(.int .u64 0),(.int .u64 0),(.int .u64 0),(.int .u64 0),(.int .u64 0),(.int .u64 0),(.int .u64 0),(.int .u64 0),(.int .u64 0),(.int .u64 0),(.int .u64 0),(.int .u64 0),(.int .u64 0),(.int .u64 0),(.int .u64 0),(.int .u64 0),(.int .u64 0),(.int .u64 0),(.int .u64 0),(.int .u64 0),(.int .u64 0),(.int .u64 0),(.int .u64 0),(.int .u64 0),(.int .u64 0),(.int .u64 0),(.int .u64 0),(.int .u64 0),(.int .u64 0),(.int .u64 0),(.int .i64 0),(.int .u8 0)]),v_ bf_] []
def x32_1:L_:=s_ 8 [a_ 1,a_ 0,n_ 9,b_ .lss 8 10,a_ 11] (sg_ 13 12 false [a_ 1,b_ .gtr 13 (ci_ 4194304)] [⟨(some 15),.pick 12 bt_ 14,none⟩])
def x32_2:L_:=[q_ 16 (.build [(.slice none 0 0),(.int .u64 0),(.int .u64 0),(.int .u64 0),(.int .u64 0),(.int .u64 0),(.int .u64 0),(.int .u64 0),(.int .u64 0),(.int .u64 0),(.int .u64 0),(.int .u64 0),(.int .u64 0),(.int .u64 0),(.int .u64 0),(.int .u64 0),(.int .u64 0),(.int .u64 0),(.int .u64 0),(.int .u64 0),(.int .u64 0),(.int .u64 0),(.int .u64 0),(.int .u64 0),(.int .u64 0),(.int .u64 0),(.int .u64 0),(.int .u64 0),(.int .u64 0),(.int .u64 0),(.int .u64 0),(.int .u64 0),(.int .u64 0),(.int .u64 0),(.int .i64 0),(.int .u8 0)] []),
 on_ (.store 36 4 16),
 q_ 5 (.mv bf_)]
def x32_5:C_:=.seq (r_ x32_1) (.cnd 15 (.seq (r_ x32_2) .ret) .skip)
def x32_6:L_:=s_ 17 [a_ 1,o_ (.mks [(.int .u8 0)] 1 17 17),o_ (.build [(.slice none 0 0),(.int .u64 0),(.int .u64 0),(.int .u64 0),(.int .u64 0),(.int .u64 0),(.int .u64 0),(.int .u64 0),(.int .u64 0),(.int .u64 0),(.int .u64 0),(.int .u64 0),(.int .u64 0),(.int .u64 0),(.int .u64 0),(.int .u64 0),(.int .u64 0),(.int .u64 0),(.int .u64 0),(.int .u64 0),(.int .u64 0),(.int .u64 0),(.int .u64 0),(.int .u64 0),(.int .u64 0),(.int .u64 0),(.int .u64 0),(.int .u64 0),(.int .u64 0),(.int .u64 0),(.int .u64 0),(.int .u64 0),(.int .u64 0),(.int .u64 0),(.int .i64 0),(.int .u8 0)] [(0,1,18)])] [q_ 6 (.new [(.slice none 0 0),(.int .u64 0),(.int .u64 0),(.int .u64 0),(.int .u64 0),(.int .u64 0),(.int .u64 0),(.int .u64 0),(.int .u64 0),(.int .u64 0),(.int .u64 0),(.int .u64 0),(.int .u64 0),(.int .u64 0),(.int .u64 0),(.int .u64 0),(.int .u64 0),(.int .u64 0),(.int .u64 0),(.int .u64 0),(.int .u64 0),(.int .u64 0),(.int .u64 0),(.int .u64 0),(.int .u64 0),(.int .u64 0),(.int .u64 0),(.int .u64 0),(.int .u64 0),(.int .u64 0),(.int .u64 0),(.int .u64 0),(.int .u64 0),(.int .u64 0),(.int .i64 0),(.int .u8 0)]),on_ (.store 36 6 19)]
def x32_7:L_:=s_ 20 [a_ 0,n_ 20,i_ 0] []
def x32_8:L_:=[q_ 23 (.bin .lss 22 21)]
def x32_10:L_:=[q_ 24 (m_ 22),
 q_ 7 (m_ 24)]
def x32_11:L_:=s_ 25 [f_ 0 6,l_ 25,a_ 7,a_ 0,a_ 7,o_ (.iaddrS 1 28 29),o_ (.load (.int .u8) 1 30),o_ (.iaddrS 1 26 27)] [on_ (.store 1 32 31)]
def x32_14:L_:=[q_ 33 (.bin .add 22 (ci_ 1)),
 q_ 22 (m_ 33)]
def x32_17:C_:=.seq (r_ x32_8) (.seq (.cnd 23 .skip (.exit 0)) (.seq (.block 1 (.seq (r_ x32_10) (.draw x32_11 [[],[0],[],[],[],[3,4],[3,4,5],[0,1,2,3,4,5,6],[0,1,2,3,4,5,6,7]]))) (r_ x32_14)))
def x32_21:L_:=[q_ 34 (.load .agg 36 6),
 on_ (.store 36 4 34),
 q_ 5 (.mv bt_)]
def x32_22:C_:=.seq (r_ x32_21) .ret
def x32_24:C_:=.seq (r_ x32_6) (.seq (.seq (r_ x32_7) (.block 0 (.loop x32_17))) x32_22)
def x32_26:C_:=.seq (r_ x32_0) (.seq x32_5 x32_24)
def x32:C_:=x32_26
theorem fx32:fnx Try.prog 32=some (35,[(4,(some (.agg,36))),(5,none)],x32):=by kernel_rfl
def x33_0:L_:=s_ 3 [o_ (.box 1),v_ bf_] []
def x33_1:L_:=[q_ 5 (.mv (ci_ (-1)))]
def x33_2:L_:=s_ 13 [a_ 5,b_ .leq 13 (ci_ 32)] []
def x33_5:L_:=[q_ 6 (.mv (ck_ .u64 0))]
def x33_6:L_:=s_ 17 [a_ 5,b_ .geq 17 (ci_ 0),a_ 18] (sg_ 20 19 true [a_ 5,b_ .lss 20 (ci_ 32)] [⟨(some 22),.pick 19 21 bf_,none⟩])
def x33_7:L_:=s_ 23 [a_ 5,f_ 1 3,o_ (.iaddrA true 32 1 24 23),lu_ 25] [q_ 6 (m_ 26)]
def x33_10:L_:=s_ 27 [a_ 0,a_ 5,c_ 25 [27,28],a_ 6,b_ .neq 29 30] []
def x33_11:L_:=[q_ 4 (.mv bf_)]
def x33_18:L_:=s_ 15 [a_ 5,b_ .add 15 (ci_ 1)] [q_ 5 (m_ 16)]
def x33_20:C_:=.seq (.seq (r_ x33_2) (.cnd 14 .skip (.exit 0))) (.seq (.block 1 (.seq (r_ x33_5) (.seq (.seq (r_ x33_6) (.cnd 22 (r_ x33_7) .skip)) (.seq (r_ x33_10) (.cnd 31 (.seq (r_ x33_11) .ret) .skip))))) (r_ x33_18))
def x33_24:L_:=s_ 33 [a_ 0,f_ 0 3,l_ 34,n_ 35,c_ 37 [33,(ci_ 0),36]] ((q_ 32 (m_ 37)) :: s_ 38 [e_ 32 0,e_ 32 1] (s_ 7 [a_ 38,a_ 39] []))
def x33_25:L_:=s_ 41 [a_ 0,f_ 0 3,l_ 42,n_ 43,b_ .add 44 (ci_ 1),c_ 37 [41,(ci_ 0),45]] ((q_ 40 (m_ 46)) :: s_ 47 [e_ 40 0,e_ 40 1] (s_ 9 [a_ 47,a_ 48] []))
def x33_26:L_:=s_ 50 [a_ 0,c_ 37 [50,(ci_ (-1)),(ci_ 1)]] ((q_ 49 (m_ 51)) :: s_ 52 [e_ 49 0,e_ 49 1] (s_ 11 [a_ 52,a_ 53] []))
def x33_27:L_:=s_ 54 [a_ 0,c_ 30 [54],f_ 33 3,lu_ 56,b_ .eql 55 57,a_ 58] (sg_ 60 59 true [a_ 8,b_ .eql 60 (ci_ 0)] ((⟨(some 62),.pick 59 61 bf_,none⟩) :: (q_ 63 (m_ 62)) :: sg_ 64 63 true [a_ 7,o_ (.b2s 64),f_ 0 3,l_ 66,o_ (.b2s 67),b_ .eql 65 68] ((⟨(some 70),.pick 63 69 bf_,none⟩) :: (q_ 71 (m_ 70)) :: sg_ 72 71 true [a_ 10,b_ .eql 72 (ci_ 1)] ((⟨(some 74),.pick 71 73 bf_,none⟩) :: (q_ 75 (m_ 74)) :: sg_ 76 75 true [a_ 12,b_ .eql 76 (ci_ 1)] [⟨(some 78),.pick 75 77 bf_,none⟩,q_ 4 (m_ 78)]))))
def x33_28:C_:=.seq (.draw x33_27 [[],[0],[],[2],[0,1,2,3],[0,1,2,3,4],[0,1,2,3,4,5],[0,1,2,3,4,5,6],[0,1,2,3,4,5,6,7],[0,1,2,3,4,5,6,7,8],[0,1,2,3,4,5,6,7,8,9],[0,1,2,3,4,5,6,7,8,9,10],[0,1,2,3,4,5,6,7,8,9],[0,1,2,3,4,5,6,7,8,9,12],[0,1,2,3,4,5,6,7,8,9,12,13],[0,1,2,3,4,5,6,7,8,9,10,11,12,13,14],[0,1,2,3,4,5,6,7,8,9,10,11,12,13,14,15],[0,1,2,3,4,5,6,7,8,9,10,11,12,13,14,15,16],[0,1,2,3,4,5,6,7,8,9,10,11,12,13,14,15,16,17],[0,1,2,3,4,5,6,7,8,9,10,11,12,13,14,15,16,17,18],[0,1,2,3,4,5,6,7,8,9,10,11,12,13,14,15,16,17,18,19],[0,1,2,3,4,5,6,7,8,9,10,11,12,13,14,15,16,17,18,19,20],[0,1,2,3,4,5,6,7,8,9,10,11,12,13,14,15,16,17,18,19,20,21],[0,1,2,3,4,5,6,7,8,9,10,11,12,13,14,15,16,17,18,19,20,21,22],[0,1,2,3,4,5,6,7,8,9,10,11,12,13,14,15,16,17,18,19,20,21,22,23],[0,1,2,3,4,5,6,7,8,9,10,11,12,13,14,15,16,17,18,19,20,21,22,23,24]]) .ret
def x33_29:C_:=.seq (r_ x33_26) x33_28
def x33_30:C_:=.seq (r_ x33_25) x33_29
def x33_31:C_:=.seq (r_ x33_24) x33_30
def x33_33:C_:=.seq (r_ x33_0) (.seq (.seq (r_ x33_1) (.block 0 (.loop x33_20))) x33_31)
def x33:C_:=x33_33
theorem fx33:fnx Try.prog 33=some (79,[(4,none)],x33):=by kernel_rfl
def x34_0:L_:=[q_ 4 (.box 1),
 q_ 6 (.new [(.slice none 0 0),(.int .u64 0),(.int .u64 0),(.int .u64 0),(.int .u64 0),(.int .u64 0),(.int .u64 0),(.int .u64 0),(.int .u64 0),(.int .u64 0),(.int .u64 0),(.int .u64 0),(.int .u64 0),(.int .u64 0),(.int .u64 0),(.int .u64 0),(.int .u64 0),(.int .u64 0),(.int .u64 0),(.int .u64 0),(.int .u64 0),(.int .u64 0),(.int .u64 0),(.int .u64 0),(.int .u64 0),(.int .u64 0),(.int .u64 0),(.int .u64 0),(.int .u64 0),(.int .u64 0),(.int .u64 0),(.int .u64 0),(.int .u64 0),(.int .u64 0),(.int .i64 0),(.int .u8 0)])]
def x34_1:L_:=s_ 9 [a_ 2,n_ 9,i_ 0] []
def x34_2:L_:=[q_ 12 (.bin .lss 11 10)]
def x34_4:L_:=s_ 13 [a_ 11,o_ (.iaddrS 1 9 11),lu_ 14] (s_ 7 [a_ 13,a_ 15] [])
def x34_5:L_:=s_ 16 [a_ 0,a_ 7,a_ 8,c_ 26 [16,17,18]] []
def x34_6:L_:=s_ 20 [a_ 7,b_ .gtr 20 (ci_ 0),a_ 21] (sg_ 23 22 true [a_ 7,b_ .lss 23 (ci_ 32)] [⟨(some 25),.pick 22 24 bf_,none⟩])
def x34_7:L_:=s_ 26 [a_ 7,a_ 8,f_ 1 4,o_ (.iaddrA true 32 1 28 26)] [on_ (.store 1 29 27)]
def x34_13:L_:=[q_ 30 (.bin .add 11 (ci_ 1)),
 q_ 11 (m_ 30)]
def x34_16:C_:=.seq (r_ x34_2) (.seq (.cnd 12 .skip (.exit 0)) (.seq (.block 1 (.seq (r_ x34_4) (.seq (r_ x34_5) (.seq (r_ x34_6) (.cnd 25 (r_ x34_7) .skip))))) (r_ x34_13)))
def x34_20:L_:=[q_ 31 (.load .agg 36 4),
 on_ (.store 36 6 31)]
def x34_21:C_:=.seq (r_ x34_20) .ret
def x34_23:C_:=.seq (r_ x34_0) (.seq (.seq (r_ x34_1) (.block 0 (.loop x34_16))) x34_21)
def x34:C_:=x34_23
theorem fx34:fnx Try.prog 34=some (32,[(6,(some (.agg,36)))],x34):=by kernel_rfl
def x35_0:L_:=(q_ 3 (.box 0)) :: s_ 6 [o_ (.new [(.slice none 0 0),(.int .u64 0),(.int .u64 0),(.int .u64 0),(.int .u64 0),(.int .u64 0),(.int .u64 0),(.int .u64 0),(.int .u64 0),(.int .u64 0),(.int .u64 0),(.int .u64 0),(.int .u64 0),(.int .u64 0),(.int .u64 0),(.int .u64 0),(.int .u64 0),(.int .u64 0),(.int .u64 0),(.int .u64 0),(.int .u64 0),(.int .u64 0),(.int .u64 0),(.int .u64 0),(.int .u64 0),(.int .u64 0),(.int .u64 0),(.int .u64 0),(.int .u64 0),(.int .u64 0),(.int .u64 0),(.int .u64 0),(.int .u64 0),(.int .u64 0),(.int .i64 0),(.int .u8 0)]),o_ (.new [(.int .i64 0),(.int .u8 0),(.int .i64 0),(.slice none 0 0),(.int .i64 0),(.int .i64 0)]),v_ (.const (.slice none 0 0))] []
def x35_1:L_:=s_ 12 [a_ 1,o_ (.build [(.slice none 0 0),(.slice none 0 0),(.int .i64 0),(.slice none 0 0)] [(0,1,12)])] [q_ 9 (.new [(.slice none 0 0),(.slice none 0 0),(.int .i64 0),(.slice none 0 0)]),on_ (.store 4 9 13)]
def x35_2:L_:=[q_ 10 (mi_ 0)]
def x35_3:L_:=s_ 14 [a_ 10,a_ 2,b_ .lss 14 15,a_ 16] (sg_ 18 17 true [f_ 34 3,li_ 18,b_ .eql 19 (ci_ 0)] [⟨(some 21),.pick 17 20 bf_,none⟩])
def x35_5:C_:=.seq (r_ x35_3) (.cnd 21 .skip (.exit 0))
def x35_6:L_:=[q_ 11 (.mv bf_)]
def x35_7:L_:=s_ 23 [g_ 36 3,g_ 4 9,c_ 49 [23,24]] ((q_ 22 (m_ 25)) :: s_ 26 [e_ 22 0,e_ 22 1,e_ 22 2] [on_ (.store 36 3 26),on_ (.store 4 9 27),q_ 11 (m_ 28)])
def x35_8:L_:=[q_ 29 (m_ 11)]
def x35_9:L_:=s_ 30 [a_ 10,b_ .add 30 (ci_ 1)] [q_ 10 (m_ 31)]
def x35_10:L_:=[q_ 32 (.faddr 34 3),
 on_ (.store 1 32 (ci_ 4))]
def x35_15:C_:=.block 1 (.seq (r_ x35_6) (.seq (r_ x35_7) (.seq (r_ x35_8) (.cnd 29 (r_ x35_9) (r_ x35_10)))))
def x35_16:C_:=.seq x35_5 x35_15
def x35_19:L_:=s_ 33 [g_ 36 3,f_ 34 3,li_ 34,f_ 35 3,o_ (.load (.int .u8) 1 36),f_ 1 9,l_ 38,a_ 10,f_ 2 9,li_ 41,o_ (.build [(.int .i64 0),(.int .u8 0),(.int .i64 0),(.slice none 0 0),(.int .i64 0),(.int .i64 0)] [(0,1,35),(1,1,37),(3,1,39),(4,1,40),(5,1,42)]),f_ 3 9,l_ 44] [on_ (.store 36 6 33),on_ (.store 6 7 43),q_ 8 (m_ 45)]
def x35_20:C_:=.seq (.draw x35_19 [[],[],[1],[],[3],[],[5],[],[],[8],[1,2,3,4,5,6,7,8,9],[],[11],[0],[0,1,2,3,4,5,6,7,8,9,10,13],[0,1,2,3,4,5,6,7,8,9,10,11,12,13,14]]) .ret
def x35_24:C_:=.seq (r_ x35_0) (.seq (r_ x35_1) (.seq (r_ x35_2) (.seq (.block 0 (.loop x35_16)) x35_20)))
def x35:C_:=x35_24
theorem fx35:fnx Try.prog 35=some (46,[(6,(some (.agg,36))),(7,(some (.agg,6))),(8,none)],x35):=by kernel_rfl
def x36_0:L_:=s_ 6 [v_ (ck_ .u64 0),i_ 0] []
def x36_1:L_:=s_ 9 [a_ 1,b_ .lss 9 (ci_ 1),a_ 10] (sg_ 12 11 false [a_ 1,b_ .gtr 12 (ci_ 64)] [⟨(some 14),.pick 11 bt_ 13,none⟩])
def x36_2:L_:=s_ 6 [v_ (ck_ .u64 0),i_ 1] []
def x36_6:L_:=s_ 15 [a_ 1,b_ .sub (ci_ 64) 15] [q_ 8 (m_ 16)]
def x36_7:L_:=[q_ 17 (m_ 2)]
def x36_8:L_:=s_ 18 [a_ 0,a_ 8,b_ .shl 18 19,o_ (.conv .i64 20),a_ 8,b_ .shr 21 22,o_ (.conv .u64 23)] (s_ 6 [a_ 24,i_ 0] [])
def x36_12:L_:=s_ 25 [a_ 0,a_ 8,b_ .shl 25 26,a_ 8,b_ .shr 27 28] (s_ 6 [a_ 29,i_ 0] [])
def x36_17:C_:=.seq (r_ x36_0) (.seq (.seq (r_ x36_1) (.cnd 14 (.seq (r_ x36_2) .ret) .skip)) (.seq (r_ x36_6) (.seq (.seq (r_ x36_7) (.cnd 17 (.seq (r_ x36_8) .ret) .skip)) (.seq (r_ x36_12) .ret))))
def x36:C_:=x36_17
theorem fx36:fnx Try.prog 36=some (30,[(6,none),(7,none)],x36):=by kernel_rfl
def x37_0:L_:=s_ 6 [v_ (.const (.slice none 0 0)),i_ 0] []
def x37_1:L_:=s_ 8 [a_ 1,b_ .lss 8 (ci_ 0),a_ 9] (sg_ 11 10 false [a_ 2,b_ .lss 11 (ci_ 0)] ((⟨(some 13),.pick 10 bt_ 12,none⟩) :: (q_ 14 (m_ 13)) :: sg_ 15 14 false [a_ 1,a_ 0,k_ 16,f_ 0 17,l_ 18,n_ 19,b_ .gtr 15 20] ((⟨(some 22),.pick 14 bt_ 21,none⟩) :: (q_ 23 (m_ 22)) :: sg_ 24 23 false [a_ 2,a_ 0,k_ 25,f_ 0 26,l_ 27,n_ 28,a_ 1,b_ .sub 29 30,b_ .gtr 24 31] [⟨(some 33),.pick 23 bt_ 32,none⟩])))
def x37_2:L_:=s_ 6 [v_ (.const (.slice none 0 0)),i_ 1] []
def x37_5:C_:=.seq (r_ x37_1) (.cnd 33 (.seq (r_ x37_2) .ret) .skip)
def x37_6:L_:=s_ 34 [a_ 0,k_ 34,f_ 0 35,l_ 36,a_ 1,a_ 1,a_ 2,b_ .add 39 40,o_ (.slS 1 37 (some 38) (some 41)),c_ 50 [42]] (s_ 6 [a_ 43,i_ 0] [])
def x37_7:C_:=.seq (r_ x37_6) .ret
def x37_9:C_:=.seq (r_ x37_0) (.seq x37_5 x37_7)
def x37:C_:=x37_9
theorem fx37:fnx Try.prog 37=some (44,[(6,none),(7,none)],x37):=by kernel_rfl
def x43_0:L_:=[q_ 0 (.mv (.const (.map none)))]
def x43_1:L_:=[q_ 3 (.mkmap 3 104 (.agg #[(.int .u8 0),(.int .u32 0),(.int .u32 0),(.int .u32 0)])),
 q_ 1 (.new [(.map none)]),
 on_ (.store 1 1 3)]
def x43_2:L_:=[q_ 4 (.mkfunc (.func 57) 0 [1]),
 q_ 2 (m_ 4)]
def x43_3:L_:=s_ 5 [a_ 2,o_ (.build (zs_ .u32 3) [(0,1,(ck_ .u32 1))]),o_ (.build (zs_ .u32 3) [(0,1,(ck_ .u32 2)),(1,1,(ck_ .u32 0)),(2,1,(ck_ .u32 32))]),o_ (.build (zs_ .u32 3) [(0,1,(ck_ .u32 3)),(1,1,(ck_ .u32 1))]),o_ (.build (zs_ .u32 3) [(0,1,(ck_ .u32 4)),(1,1,(ck_ .u32 2))]),o_ (.build (zs_ .u32 3) [(0,1,(ck_ .u32 5)),(1,1,(ck_ .u32 3))]),o_ (.build (zs_ .u32 3) [(0,1,(ck_ .u32 6)),(1,1,(ck_ .u32 4))]),o_ (.build (zs_ .u32 3) [(0,1,(ck_ .u32 7)),(1,1,(ck_ .u32 5))]),o_ (.build (zs_ .u32 3) [(0,1,(ck_ .u32 8)),(1,1,(ck_ .u32 5)),(2,1,(ck_ .u32 32))]),o_ (.build (zs_ .u32 3) [(0,1,(ck_ .u32 9)),(1,1,(ck_ .u32 6))]),o_ (.build (zs_ .u32 3) [(0,1,(ck_ .u32 10)),(1,1,(ck_ .u32 7))]),o_ (.mkslice (zs_ .u32 3) 10 [(0,6),(1,7),(2,8),(3,9),(4,10),(5,11),(6,12),(7,13),(8,14),(9,15)])] [⟨(some 17),.callV 5 [(ck_ .u8 82),(ck_ .u32 51),16],none⟩]
def x43_4:L_:=s_ 18 [a_ 2,o_ (.build (zs_ .u32 3) [(0,1,(ck_ .u32 11)),(1,1,(ck_ .u32 0)),(2,1,(ck_ .u32 1))]),o_ (.build (zs_ .u32 3) [(0,1,(ck_ .u32 12)),(1,1,(ck_ .u32 1)),(2,1,(ck_ .u32 1))]),o_ (.build (zs_ .u32 3) [(0,1,(ck_ .u32 13)),(1,1,(ck_ .u32 3)),(2,1,(ck_ .u32 1))]),o_ (.build (zs_ .u32 3) [(0,1,(ck_ .u32 14)),(1,1,(ck_ .u32 4)),(2,1,(ck_ .u32 1))]),o_ (.build (zs_ .u32 3) [(0,1,(ck_ .u32 15)),(1,1,(ck_ .u32 5)),(2,1,(ck_ .u32 1))]),o_ (.build (zs_ .u32 3) [(0,1,(ck_ .u32 16)),(1,1,(ck_ .u32 6)),(2,1,(ck_ .u32 1))]),o_ (.build (zs_ .u32 3) [(0,1,(ck_ .u32 17)),(1,1,(ck_ .u32 7)),(2,1,(ck_ .u32 1))]),o_ (.mkslice (zs_ .u32 3) 7 [(0,19),(1,20),(2,21),(3,22),(4,23),(5,24),(6,25)])] [⟨(some 27),.callV 18 [(ck_ .u8 82),(ck_ .u32 51),26],none⟩]
def x43_5:L_:=s_ 28 [a_ 2,o_ (.build (zs_ .u32 3) [(0,1,(ck_ .u32 18))]),o_ (.build (zs_ .u32 3) [(0,1,(ck_ .u32 19)),(1,1,(ck_ .u32 0)),(2,1,(ck_ .u32 32))]),o_ (.build (zs_ .u32 3) [(0,1,(ck_ .u32 20)),(1,1,(ck_ .u32 1))]),o_ (.build (zs_ .u32 3) [(0,1,(ck_ .u32 21)),(1,1,(ck_ .u32 5))]),o_ (.build (zs_ .u32 3) [(0,1,(ck_ .u32 22)),(1,1,(ck_ .u32 5)),(2,1,(ck_ .u32 32))]),o_ (.build (zs_ .u32 3) [(0,1,(ck_ .u32 23)),(1,1,(ck_ .u32 0)),(2,1,(ck_ .u32 1))]),o_ (.build (zs_ .u32 3) [(0,1,(ck_ .u32 24)),(1,1,(ck_ .u32 4)),(2,1,(ck_ .u32 1))]),o_ (.build (zs_ .u32 3) [(0,1,(ck_ .u32 25)),(1,1,(ck_ .u32 5)),(2,1,(ck_ .u32 1))]),o_ (.build (zs_ .u32 3) [(0,1,(ck_ .u32 26)),(1,1,(ck_ .u32 6)),(2,1,(ck_ .u32 1))]),o_ (.build (zs_ .u32 3) [(0,1,(ck_ .u32 27)),(1,1,(ck_ .u32 7)),(2,1,(ck_ .u32 1))]),o_ (.mkslice (zs_ .u32 3) 10 [(0,29),(1,30),(2,31),(3,32),(4,33),(5,34),(6,35),(7,36),(8,37),(9,38)])] [⟨(some 40),.callV 28 [(ck_ .u8 82),(ck_ .u32 59),39],none⟩]
def x43_6:L_:=s_ 41 [a_ 2,o_ (.build (zs_ .u32 3) [(0,1,(ck_ .u32 28))]),o_ (.build (zs_ .u32 3) [(0,1,(ck_ .u32 29)),(1,1,(ck_ .u32 2))]),o_ (.build (zs_ .u32 3) [(0,1,(ck_ .u32 30)),(1,1,(ck_ .u32 3))]),o_ (.build (zs_ .u32 3) [(0,1,(ck_ .u32 31)),(1,1,(ck_ .u32 4))]),o_ (.build (zs_ .u32 3) [(0,1,(ck_ .u32 32)),(1,1,(ck_ .u32 6))]),o_ (.build (zs_ .u32 3) [(0,1,(ck_ .u32 33)),(1,1,(ck_ .u32 7))]),o_ (.mkslice (zs_ .u32 3) 6 [(0,42),(1,43),(2,44),(3,45),(4,46),(5,47)])] [⟨(some 49),.callV 41 [(ck_ .u8 73),(ck_ .u32 19),48],none⟩]
def x43_7:L_:=s_ 50 [a_ 2,o_ (.build (zs_ .u32 3) [(0,1,(ck_ .u32 34)),(1,1,(ck_ .u32 1))]),o_ (.build (zs_ .u32 3) [(0,1,(ck_ .u32 35)),(1,1,(ck_ .u32 5))]),o_ (.build (zs_ .u32 3) [(0,1,(ck_ .u32 36)),(1,1,(ck_ .u32 5)),(2,1,(ck_ .u32 32))]),o_ (.mkslice (zs_ .u32 3) 3 [(0,51),(1,52),(2,53)])] [⟨(some 55),.callV 50 [(ck_ .u8 84),(ck_ .u32 19),54],none⟩]
def x43_8:L_:=s_ 56 [a_ 2,o_ (.build (zs_ .u32 3) [(0,1,(ck_ .u32 37))]),o_ (.mkslice (zs_ .u32 3) 1 [(0,57)])] [⟨(some 59),.callV 56 [(ck_ .u8 73),(ck_ .u32 27),58],none⟩]
def x43_9:L_:=s_ 60 [a_ 2,o_ (.build (zs_ .u32 3) [(0,1,(ck_ .u32 38))]),o_ (.build (zs_ .u32 3) [(0,1,(ck_ .u32 40)),(1,1,(ck_ .u32 2))]),o_ (.build (zs_ .u32 3) [(0,1,(ck_ .u32 41)),(1,1,(ck_ .u32 3))]),o_ (.build (zs_ .u32 3) [(0,1,(ck_ .u32 39)),(1,1,(ck_ .u32 4))]),o_ (.mkslice (zs_ .u32 3) 4 [(0,61),(1,62),(2,63),(3,64)])] [⟨(some 66),.callV 60 [(ck_ .u8 73),(ck_ .u32 3),65],none⟩]
def x43_10:L_:=s_ 67 [a_ 2,o_ (.build (zs_ .u32 3) [(0,1,(ck_ .u32 42))]),o_ (.build (zs_ .u32 3) [(0,1,(ck_ .u32 43)),(1,1,(ck_ .u32 2))]),o_ (.build (zs_ .u32 3) [(0,1,(ck_ .u32 44)),(1,1,(ck_ .u32 3))]),o_ (.mkslice (zs_ .u32 3) 3 [(0,68),(1,69),(2,70)])] [⟨(some 72),.callV 67 [(ck_ .u8 83),(ck_ .u32 35),71],none⟩]
def x43_11:L_:=s_ 73 [a_ 2,o_ (.build (zs_ .u32 3) [(0,1,(ck_ .u32 45))]),o_ (.build (zs_ .u32 3) [(0,1,(ck_ .u32 46)),(1,1,(ck_ .u32 1))]),o_ (.build (zs_ .u32 3) [(0,1,(ck_ .u32 47)),(1,1,(ck_ .u32 4))]),o_ (.build (zs_ .u32 3) [(0,1,(ck_ .u32 48)),(1,1,(ck_ .u32 5))]),o_ (.build (zs_ .u32 3) [(0,1,(ck_ .u32 49)),(1,1,(ck_ .u32 6))]),o_ (.build (zs_ .u32 3) [(0,1,(ck_ .u32 50)),(1,1,(ck_ .u32 7))]),o_ (.mkslice (zs_ .u32 3) 6 [(0,74),(1,75),(2,76),(3,77),(4,78),(5,79)])] [⟨(some 81),.callV 73 [(ck_ .u8 66),(ck_ .u32 99),80],none⟩]
def x43_12:L_:=s_ 82 [a_ 2,o_ (.build (zs_ .u32 3) [(0,1,(ck_ .u32 51))]),o_ (.mkslice (zs_ .u32 3) 1 [(0,83)])] [⟨(some 85),.callV 82 [(ck_ .u8 85),(ck_ .u32 55),84],none⟩]
def x43_13:L_:=s_ 86 [a_ 2,o_ (.build (zs_ .u32 3) [(0,1,(ck_ .u32 52))]),o_ (.mkslice (zs_ .u32 3) 1 [(0,87)])] [⟨(some 89),.callV 86 [(ck_ .u8 85),(ck_ .u32 23),88],none⟩]
def x43_14:L_:=s_ 90 [a_ 2,o_ (.build (zs_ .u32 3) [(0,1,(ck_ .u32 53))]),o_ (.mkslice (zs_ .u32 3) 1 [(0,91)])] [⟨(some 93),.callV 90 [(ck_ .u8 74),(ck_ .u32 111),92],none⟩]
def x43_15:L_:=s_ 94 [a_ 2,o_ (.build (zs_ .u32 3) [(0,1,(ck_ .u32 54))]),o_ (.mkslice (zs_ .u32 3) 1 [(0,95)])] [⟨(some 97),.callV 94 [(ck_ .u8 73),(ck_ .u32 103),96],none⟩]
def x43_16:L_:=s_ 98 [a_ 2,o_ (.build (zs_ .u32 3) [(0,1,(ck_ .u32 55))]),o_ (.mkslice (zs_ .u32 3) 1 [(0,99)])] [⟨(some 101),.callV 98 [(ck_ .u8 78),(ck_ .u32 115),100],none⟩]
def x43_17:L_:=[q_ 102 (.load .one 1 1),
 q_ 0 (m_ 102)]
def x43_27:C_:=.seq (r_ x43_8) (.seq (r_ x43_9) (.seq (r_ x43_10) (.seq (r_ x43_11) (.seq (r_ x43_12) (.seq (r_ x43_13) (.seq (r_ x43_14) (.seq (r_ x43_15) (.seq (r_ x43_16) (.seq (r_ x43_17) .ret)))))))))
def x43_35:C_:=.seq (r_ x43_0) (.seq (r_ x43_1) (.seq (r_ x43_2) (.seq (r_ x43_3) (.seq (r_ x43_4) (.seq (r_ x43_5) (.seq (r_ x43_6) (.seq (r_ x43_7) x43_27)))))))
def x43:C_:=x43_35
theorem fx43:fnx Try.prog 43=some (103,[(0,none)],x43):=by kernel_rfl
def x44_0:L_:=s_ 2 [i_ 0,i_ 0] []
def x44_1:L_:=[q_ 4 (m_ 0)]
def x44_2:L_:=[q_ 6 (.bin .eql 4 (ck_ .u8 73)),
 q_ 5 (m_ 6)]
def x44_3:L_:=[q_ 7 (.bin .eql 4 (ck_ .u8 83)),
 q_ 5 (m_ 7)]
def x44_6:L_:=s_ 2 [v_ (ci_ (-2048)),i_ 2047] []
def x44_8:L_:=[q_ 9 (.bin .eql 4 (ck_ .u8 84)),
 q_ 8 (m_ 9)]
def x44_9:L_:=s_ 2 [i_ 0,i_ 63] []
def x44_11:L_:=[q_ 11 (.bin .eql 4 (ck_ .u8 66)),
 q_ 10 (m_ 11)]
def x44_12:L_:=s_ 2 [v_ (ci_ (-4096)),i_ 4094] []
def x44_14:L_:=[q_ 13 (.bin .eql 4 (ck_ .u8 85)),
 q_ 12 (m_ 13)]
def x44_15:L_:=s_ 2 [v_ (ci_ (-524288)),i_ 524287] []
def x44_17:L_:=[q_ 15 (.bin .eql 4 (ck_ .u8 74)),
 q_ 14 (m_ 15)]
def x44_18:L_:=s_ 2 [v_ (ci_ (-1048576)),i_ 1048574] []
def x44_28:C_:=.cnd 5 (.seq (r_ x44_6) .ret) (.seq (r_ x44_8) (.cnd 8 (.seq (r_ x44_9) .ret) (.seq (r_ x44_11) (.cnd 10 (.seq (r_ x44_12) .ret) (.seq (r_ x44_14) (.cnd 12 (.seq (r_ x44_15) .ret) (.seq (r_ x44_17) (.cnd 14 (.seq (r_ x44_18) .ret) .skip))))))))
def x44_32:L_:=s_ 2 [i_ 1,i_ 0] []
def x44_35:C_:=.seq (r_ x44_0) (.seq (.seq (r_ x44_1) (.block 0 (.seq (.seq (r_ x44_2) (.cnd 5 .skip (r_ x44_3))) x44_28))) (.seq (r_ x44_32) .ret))
def x44:C_:=x44_35
theorem fx44:fnx Try.prog 44=some (16,[(2,none),(3,none)],x44):=by kernel_rfl
def x45_0:L_:=[q_ 2 (.new [(.bool false),(.bool false),(.bool false)])]
def x45_1:L_:=[q_ 3 (m_ 0)]
def x45_2:L_:=[q_ 5 (.bin .eql 3 (ck_ .u8 82)),
 q_ 4 (m_ 5)]
def x45_3:L_:=[q_ 6 (.build [(.bool false),(.bool false),(.bool false)] [(0,1,bt_),(1,1,bt_),(2,1,bt_)]),
 on_ (.store 3 2 6)]
def x45_5:L_:=[q_ 8 (.bin .eql 3 (ck_ .u8 73)),
 q_ 7 (m_ 8)]
def x45_6:L_:=[q_ 9 (.bin .eql 3 (ck_ .u8 84)),
 q_ 7 (m_ 9)]
def x45_9:L_:=[q_ 10 (.build [(.bool false),(.bool false),(.bool false)] [(0,1,bt_),(1,1,bt_),(2,1,bf_)]),
 on_ (.store 3 2 10)]
def x45_11:L_:=[q_ 12 (.bin .eql 3 (ck_ .u8 83)),
 q_ 11 (m_ 12)]
def x45_12:L_:=[q_ 13 (.bin .eql 3 (ck_ .u8 66)),
 q_ 11 (m_ 13)]
def x45_15:L_:=[q_ 14 (.build [(.bool false),(.bool false),(.bool false)] [(0,1,bf_),(1,1,bt_),(2,1,bt_)]),
 on_ (.store 3 2 14)]
def x45_17:L_:=[q_ 16 (.bin .eql 3 (ck_ .u8 85)),
 q_ 15 (m_ 16)]
def x45_18:L_:=[q_ 17 (.bin .eql 3 (ck_ .u8 74)),
 q_ 15 (m_ 17)]
def x45_21:L_:=[q_ 18 (.build [(.bool false),(.bool false),(.bool false)] [(0,1,bt_),(1,1,bf_),(2,1,bf_)]),
 on_ (.store 3 2 18)]
def x45_31:C_:=.block 0 (.seq (r_ x45_2) (.cnd 4 (.seq (r_ x45_3) .ret) (.seq (.seq (r_ x45_5) (.cnd 7 .skip (r_ x45_6))) (.cnd 7 (.seq (r_ x45_9) .ret) (.seq (.seq (r_ x45_11) (.cnd 11 .skip (r_ x45_12))) (.cnd 11 (.seq (r_ x45_15) .ret) (.seq (.seq (r_ x45_17) (.cnd 15 .skip (r_ x45_18))) (.cnd 15 (.seq (r_ x45_21) .ret) .skip))))))))
def x45_33:L_:=[q_ 19 (.build [(.bool false),(.bool false),(.bool false)] []),
 on_ (.store 3 2 19)]
def x45_36:C_:=.seq (r_ x45_0) (.seq (.seq (r_ x45_1) x45_31) (.seq (r_ x45_33) .ret))
def x45:C_:=x45_36
theorem fx45:fnx Try.prog 45=some (20,[(2,(some (.agg,3)))],x45):=by kernel_rfl
def x46_0:L_:=[q_ 2 (.mv (.const (.slice none 0 0)))]
def x46_1:L_:=[q_ 3 (m_ 0)]
def x46_2:L_:=[q_ 5 (.bin .eql 3 (ck_ .u8 73)),
 q_ 4 (m_ 5)]
def x46_3:L_:=s_ 6 [o_ (.build (zs_ .u64 3) [(0,1,(ck_ .u64 0)),(1,1,(ck_ .u64 12)),(2,1,(ck_ .u64 20))]),o_ (.mkslice (zs_ .u64 3) 1 [(0,6)])] [q_ 2 (m_ 7)]
def x46_5:L_:=[q_ 9 (.bin .eql 3 (ck_ .u8 84)),
 q_ 8 (m_ 9)]
def x46_6:L_:=s_ 10 [o_ (.build (zs_ .u64 3) [(0,1,(ck_ .u64 0)),(1,1,(ck_ .u64 6)),(2,1,(ck_ .u64 20))]),o_ (.mkslice (zs_ .u64 3) 1 [(0,10)])] [q_ 2 (m_ 11)]
def x46_8:L_:=[q_ 13 (.bin .eql 3 (ck_ .u8 83)),
 q_ 12 (m_ 13)]
def x46_9:L_:=s_ 14 [o_ (.build (zs_ .u64 3) [(0,1,(ck_ .u64 0)),(1,1,(ck_ .u64 5)),(2,1,(ck_ .u64 7))]),o_ (.build (zs_ .u64 3) [(0,1,(ck_ .u64 5)),(1,1,(ck_ .u64 7)),(2,1,(ck_ .u64 25))]),o_ (.mkslice (zs_ .u64 3) 2 [(0,14),(1,15)])] [q_ 2 (m_ 16)]
def x46_11:L_:=[q_ 18 (.bin .eql 3 (ck_ .u8 66)),
 q_ 17 (m_ 18)]
def x46_12:L_:=s_ 19 [o_ (.build (zs_ .u64 3) [(0,1,(ck_ .u64 11)),(1,1,(ck_ .u64 1)),(2,1,(ck_ .u64 7))]),o_ (.build (zs_ .u64 3) [(0,1,(ck_ .u64 1)),(1,1,(ck_ .u64 4)),(2,1,(ck_ .u64 8))]),o_ (.build (zs_ .u64 3) [(0,1,(ck_ .u64 5)),(1,1,(ck_ .u64 6)),(2,1,(ck_ .u64 25))]),o_ (.build (zs_ .u64 3) [(0,1,(ck_ .u64 12)),(1,1,(ck_ .u64 1)),(2,1,(ck_ .u64 31))]),o_ (.mkslice (zs_ .u64 3) 4 [(0,19),(1,20),(2,21),(3,22)])] [q_ 2 (m_ 23)]
def x46_14:L_:=[q_ 25 (.bin .eql 3 (ck_ .u8 85)),
 q_ 24 (m_ 25)]
def x46_15:L_:=s_ 26 [o_ (.build (zs_ .u64 3) [(0,1,(ck_ .u64 0)),(1,1,(ck_ .u64 20)),(2,1,(ck_ .u64 12))]),o_ (.mkslice (zs_ .u64 3) 1 [(0,26)])] [q_ 2 (m_ 27)]
def x46_17:L_:=[q_ 29 (.bin .eql 3 (ck_ .u8 74)),
 q_ 28 (m_ 29)]
def x46_18:L_:=s_ 30 [o_ (.build (zs_ .u64 3) [(0,1,(ck_ .u64 12)),(1,1,(ck_ .u64 8)),(2,1,(ck_ .u64 12))]),o_ (.build (zs_ .u64 3) [(0,1,(ck_ .u64 11)),(1,1,(ck_ .u64 1)),(2,1,(ck_ .u64 20))]),o_ (.build (zs_ .u64 3) [(0,1,(ck_ .u64 1)),(1,1,(ck_ .u64 10)),(2,1,(ck_ .u64 21))]),o_ (.build (zs_ .u64 3) [(0,1,(ck_ .u64 20)),(1,1,(ck_ .u64 1)),(2,1,(ck_ .u64 31))]),o_ (.mkslice (zs_ .u64 3) 4 [(0,30),(1,31),(2,32),(3,33)])] [q_ 2 (m_ 34)]
def x46_28:C_:=.cnd 8 (.seq (r_ x46_6) .ret) (.seq (r_ x46_8) (.cnd 12 (.seq (r_ x46_9) .ret) (.seq (r_ x46_11) (.cnd 17 (.seq (r_ x46_12) .ret) (.seq (r_ x46_14) (.cnd 24 (.seq (r_ x46_15) .ret) (.seq (r_ x46_17) (.cnd 28 (.seq (r_ x46_18) .ret) .skip))))))))
def x46_34:L_:=[q_ 2 (.mv (.const (.slice none 0 0)))]
def x46_37:C_:=.seq (r_ x46_0) (.seq (.seq (r_ x46_1) (.block 0 (.seq (r_ x46_2) (.cnd 4 (.seq (r_ x46_3) .ret) (.seq (r_ x46_5) x46_28))))) (.seq (r_ x46_34) .ret))
def x46:C_:=x46_37
theorem fx46:fnx Try.prog 46=some (35,[(2,none)],x46):=by kernel_rfl
def x47_0:L_:=s_ 1 [o_ (.box 0),v_ (ck_ .u32 0),i_ 0] []
def x47_1:L_:=s_ 14 [f_ 0 1,li_ 14,c_ 58 [15]] [q_ 4 (.new [(.int .u8 0),(.int .i64 0),(.int .i64 0),(.int .i64 0)]),on_ (.store 4 4 16)]
def x47_2:L_:=s_ 17 [f_ 0 4,o_ (.load (.int .u8) 1 17),b_ .neq 18 (ck_ .u8 83),a_ 19] (sg_ 21 20 true [f_ 0 4,o_ (.load (.int .u8) 1 21),b_ .neq 22 (ck_ .u8 66)] ((⟨(some 24),.pick 20 23 bf_,none⟩) :: s_ 25 [f_ 0 4,o_ (.load (.int .u8) 1 25),b_ .neq 26 (ck_ .u8 85),a_ 27] (sg_ 29 28 true [f_ 0 4,o_ (.load (.int .u8) 1 29),b_ .neq 30 (ck_ .u8 74)] ((⟨(some 32),.pick 28 31 bf_,none⟩) :: s_ 33 [f_ 0 4,o_ (.load (.int .u8) 1 33),b_ .eql 34 (ck_ .u8 82),a_ 35] (sg_ 37 36 false [f_ 0 4,o_ (.load (.int .u8) 1 37),b_ .eql 38 (ck_ .u8 83)] ((⟨(some 40),.pick 36 bt_ 39,none⟩) :: (q_ 41 (m_ 40)) :: sg_ 42 41 false [f_ 0 4,o_ (.load (.int .u8) 1 42),b_ .eql 43 (ck_ .u8 66)] ((⟨(some 45),.pick 41 bt_ 44,none⟩) :: s_ 5 [a_ 24,a_ 32,a_ 45] [])))))))
def x47_3:L_:=s_ 47 [f_ 0 4,o_ (.load (.int .u8) 1 47),c_ 59 [48]] ((q_ 46 (m_ 49)) :: s_ 50 [e_ 46 0,e_ 46 1] (s_ 8 [a_ 50,a_ 51] []))
def x47_4:L_:=s_ 52 [f_ 0 4,o_ (.load (.int .u8) 1 52),b_ .eql 53 (ck_ .u8 0)] []
def x47_5:L_:=s_ 2 [v_ (ck_ .u32 0),i_ 2] []
def x47_9:L_:=s_ 55 [f_ 0 4,o_ (.load (.int .u8) 1 55),b_ .eql 56 (ck_ .u8 78)] []
def x47_10:L_:=[q_ 5 (.mv bf_)]
def x47_11:L_:=[q_ 6 (.mv bf_)]
def x47_15:L_:=s_ 58 [a_ 5,o_ (.un .not 58),a_ 59] (sg_ 61 60 true [f_ 1 1,li_ 61,b_ .neq 62 (ci_ 0)] ((⟨(some 64),.pick 60 63 bf_,none⟩) :: (q_ 65 (m_ 64)) :: sg_ 66 65 false [a_ 6,o_ (.un .not 66),a_ 67] (sg_ 69 68 true [f_ 2 1,li_ 69,b_ .neq 70 (ci_ 0)] ((⟨(some 72),.pick 68 71 bf_,(some (65,false))⟩) :: (⟨(some 73),.pick 65 bt_ 72,none⟩) :: (q_ 74 (m_ 73)) :: sg_ 75 74 false [a_ 7,o_ (.un .not 75),a_ 76] (sg_ 78 77 true [f_ 3 1,li_ 78,b_ .neq 79 (ci_ 0)] ((⟨(some 81),.pick 77 80 bf_,(some (74,false))⟩) :: (⟨(some 82),.pick 74 bt_ 81,none⟩) :: (q_ 83 (m_ 82)) :: sg_ 84 83 false [a_ 8,a_ 9,b_ .gtr 84 85,a_ 86] (sg_ 88 87 true [f_ 4 1,li_ 88,b_ .neq 89 (ci_ 0)] [⟨(some 91),.pick 87 90 bf_,(some (83,false))⟩,⟨(some 92),.pick 83 bt_ 91,none⟩])))))))
def x47_16:L_:=s_ 2 [v_ (ck_ .u32 0),i_ 2] []
def x47_20:L_:=s_ 93 [f_ 1 1,li_ 93,b_ .lss 94 (ci_ 0),a_ 95] (sg_ 97 96 false [f_ 1 1,li_ 97,b_ .gtr 98 (ci_ 31)] ((⟨(some 100),.pick 96 bt_ 99,none⟩) :: (q_ 101 (m_ 100)) :: sg_ 102 101 false [f_ 2 1,li_ 102,b_ .lss 103 (ci_ 0)] ((⟨(some 105),.pick 101 bt_ 104,none⟩) :: (q_ 106 (m_ 105)) :: sg_ 107 106 false [f_ 2 1,li_ 107,b_ .gtr 108 (ci_ 31)] ((⟨(some 110),.pick 106 bt_ 109,none⟩) :: (q_ 111 (m_ 110)) :: sg_ 112 111 false [f_ 3 1,li_ 112,b_ .lss 113 (ci_ 0)] ((⟨(some 115),.pick 111 bt_ 114,none⟩) :: (q_ 116 (m_ 115)) :: sg_ 117 116 false [f_ 3 1,li_ 117,b_ .gtr 118 (ci_ 31)] [⟨(some 120),.pick 116 bt_ 119,none⟩])))))
def x47_21:L_:=s_ 2 [v_ (ck_ .u32 0),i_ 1] []
def x47_25:L_:=s_ 121 [a_ 8,a_ 9,b_ .leq 121 122,a_ 123] (sg_ 125 124 true [f_ 4 1,li_ 125,a_ 8,b_ .lss 126 127,a_ 128] (sg_ 130 129 false [f_ 4 1,li_ 130,a_ 9,b_ .gtr 131 132] ((⟨(some 134),.pick 129 bt_ 133,(some (124,true))⟩) :: (og_ 135 124 true (m_ 134)) :: sg_ 136 135 false [f_ 0 4,o_ (.load (.int .u8) 1 136),b_ .eql 137 (ck_ .u8 66),a_ 138] (sg_ 140 139 false [f_ 0 4,o_ (.load (.int .u8) 1 140),b_ .eql 141 (ck_ .u8 74)] ((⟨(some 143),.pick 139 bt_ 142,(some (135,false))⟩) :: (og_ 144 135 false (m_ 143)) :: sg_ 145 144 true [f_ 4 1,li_ 145,b_ .rem 146 (ci_ 2),b_ .neq 147 (ci_ 0)] [⟨(some 149),.pick 144 148 bf_,(some (135,false))⟩,⟨(some 150),.pick 135 bt_ 149,(some (124,true))⟩,⟨(some 151),.pick 124 150 bf_,none⟩])))))
def x47_26:L_:=s_ 2 [v_ (ck_ .u32 0),i_ 1] []
def x47_30:L_:=s_ 152 [f_ 4 1,li_ 152] [q_ 10 (m_ 153)]
def x47_31:L_:=s_ 154 [f_ 1 1,li_ 154,f_ 3 4,li_ 156] (s_ 11 [a_ 155,a_ 157] [])
def x47_32:L_:=s_ 158 [f_ 3 1,li_ 158] [q_ 13 (m_ 159)]
def x47_33:L_:=s_ 160 [f_ 0 4,o_ (.load (.int .u8) 1 160)] []
def x47_34:L_:=[q_ 163 (.bin .eql 161 (ck_ .u8 73)),
 q_ 162 (m_ 163)]
def x47_35:L_:=s_ 164 [a_ 10,c_ 60 [164,(ci_ 0),(ci_ 5)]] [q_ 13 (m_ 165)]
def x47_36:L_:=s_ 166 [a_ 10,c_ 60 [166,(ci_ 5),(ci_ 7)]] [q_ 12 (m_ 167)]
def x47_38:L_:=[q_ 169 (.bin .eql 161 (ck_ .u8 84)),
 q_ 168 (m_ 169)]
def x47_39:L_:=s_ 170 [a_ 10,b_ .rem 170 (ci_ 32)] [q_ 13 (m_ 171)]
def x47_40:L_:=s_ 172 [f_ 3 4,li_ 172,a_ 10,b_ .quo 174 (ci_ 32),b_ .add 173 175] [q_ 12 (m_ 176)]
def x47_42:L_:=[q_ 178 (.bin .eql 161 (ck_ .u8 83)),
 q_ 177 (m_ 178)]
def x47_43:L_:=s_ 179 [a_ 10,c_ 60 [179,(ci_ 0),(ci_ 5)]] [q_ 11 (m_ 180)]
def x47_44:L_:=s_ 181 [a_ 10,c_ 60 [181,(ci_ 5),(ci_ 7)]] [q_ 12 (m_ 182)]
def x47_46:L_:=[q_ 184 (.bin .eql 161 (ck_ .u8 66)),
 q_ 183 (m_ 184)]
def x47_47:L_:=s_ 185 [a_ 10,c_ 60 [185,(ci_ 11),(ci_ 1)],a_ 10,c_ 60 [187,(ci_ 1),(ci_ 4)],b_ .mul (ci_ 2) 188,b_ .add 186 189] [q_ 11 (m_ 190)]
def x47_48:L_:=s_ 191 [a_ 10,c_ 60 [191,(ci_ 5),(ci_ 6)],a_ 10,c_ 60 [193,(ci_ 12),(ci_ 1)],b_ .mul (ci_ 64) 194,b_ .add 192 195] [q_ 12 (m_ 196)]
def x47_50:L_:=[q_ 198 (.bin .eql 161 (ck_ .u8 85)),
 q_ 197 (m_ 198)]
def x47_51:L_:=s_ 199 [f_ 1 4,li_ 199,f_ 1 1,li_ 201,b_ .mul (ci_ 128) 202,b_ .add 200 203,a_ 10,c_ 60 [205,(ci_ 0),(ci_ 20)],b_ .mul (ci_ 4096) 206,b_ .add 204 207,o_ (.conv .u32 208)] (s_ 2 [a_ 209,i_ 0] [])
def x47_53:L_:=[q_ 211 (.bin .eql 161 (ck_ .u8 74)),
 q_ 210 (m_ 211)]
def x47_54:L_:=s_ 212 [f_ 1 4,li_ 212,f_ 1 1,li_ 214,b_ .mul (ci_ 128) 215,b_ .add 213 216,a_ 10,c_ 60 [218,(ci_ 12),(ci_ 8)],b_ .mul (ci_ 4096) 219,b_ .add 217 220,a_ 10,c_ 60 [222,(ci_ 11),(ci_ 1)],b_ .mul (ci_ 1048576) 223,b_ .add 221 224,a_ 10,c_ 60 [226,(ci_ 1),(ci_ 10)],b_ .mul (ci_ 2097152) 227,b_ .add 225 228,a_ 10,c_ 60 [230,(ci_ 20),(ci_ 1)],b_ .mul (ci_ 2147483648) 231,b_ .add 229 232,o_ (.conv .u32 233)] (s_ 2 [a_ 234,i_ 0] [])
def x47_64:C_:=.cnd 168 (.seq (r_ x47_39) (r_ x47_40)) (.seq (r_ x47_42) (.cnd 177 (.seq (r_ x47_43) (r_ x47_44)) (.seq (r_ x47_46) (.cnd 183 (.seq (r_ x47_47) (r_ x47_48)) (.seq (r_ x47_50) (.cnd 197 (.seq (.draw x47_51 [[],[0],[],[2],[2,3],[0,1,2,3,4],[],[6],[6,7],[0,1,2,3,4,5,6,7,8],[0,1,2,3,4,5,6,7,8,9],[0,1,2,3,4,5,6,7,8,9,10],[0,1,2,3,4,5,6,7,8,9,10,11]]) .ret) (.seq (r_ x47_53) (.cnd 210 (.seq (.draw x47_54 [[],[0],[],[2],[2,3],[0,1,2,3,4],[],[6],[6,7],[0,1,2,3,4,5,6,7,8],[],[6,7,10],[6,7,10,11],[0,1,2,3,4,5,6,7,8,9,10,11,12],[],[6,7,10,11,14],[6,7,10,11,14,15],[0,1,2,3,4,5,6,7,8,9,10,11,12,13,14,15,16],[],[6,7,10,11,14,15,18],[6,7,10,11,14,15,18,19],[0,1,2,3,4,5,6,7,8,9,10,11,12,13,14,15,16,17,18,19,20],[0,1,2,3,4,5,6,7,8,9,10,11,12,13,14,15,16,17,18,19,20,21],[0,1,2,3,4,5,6,7,8,9,10,11,12,13,14,15,16,17,18,19,20,21,22],[0,1,2,3,4,5,6,7,8,9,10,11,12,13,14,15,16,17,18,19,20,21,22,23]]) .ret) .skip))))))))
def x47_70:L_:=s_ 235 [f_ 1 4,li_ 235,a_ 11,b_ .mul (ci_ 128) 237,b_ .add 236 238,f_ 2 4,li_ 240,b_ .mul (ci_ 4096) 241,b_ .add 239 242,f_ 2 1,li_ 244,b_ .mul (ci_ 32768) 245,b_ .add 243 246,a_ 13,b_ .mul (ci_ 1048576) 248,b_ .add 247 249,a_ 12,b_ .mul (ci_ 33554432) 251,b_ .add 250 252,o_ (.conv .u32 253)] (s_ 2 [a_ 254,i_ 0] [])
def x47_76:C_:=.seq (.seq (r_ x47_25) (.cnd 151 (.seq (r_ x47_26) .ret) .skip)) (.seq (r_ x47_30) (.seq (.draw x47_31 [[],[0],[],[2],[0,1],[0,1,2,3,4]]) (.seq (r_ x47_32) (.seq (.seq (r_ x47_33) (.block 0 (.seq (r_ x47_34) (.cnd 162 (.seq (r_ x47_35) (r_ x47_36)) (.seq (r_ x47_38) x47_64))))) (.seq (r_ x47_70) .ret)))))
def x47_83:C_:=.seq (r_ x47_1) (.seq (.draw x47_2 [[],[0],[0,1],[0,1,2],[0,1,2,3],[0,1,2,3,4],[0,1,2,3,4,5],[0,1,2,3,4,5,6],[],[8],[8,9],[0,1,2,3,8,9,10],[0,1,2,3,8,9,10,11],[0,1,2,3,8,9,10,11,12],[0,1,2,3,8,9,10,11,12,13],[0,1,2,3,8,9,10,11,12,13,14],[],[16],[16,17],[0,1,2,3,8,9,10,11,16,17,18],[0,1,2,3,8,9,10,11,16,17,18,19],[0,1,2,3,8,9,10,11,16,17,18,19,20],[0,1,2,3,8,9,10,11,16,17,18,19,20,21],[0,1,2,3,8,9,10,11,16,17,18,19,20,21,22],[0,1,2,3,8,9,10,11,16,17,18,19,20,21,22,23],[0,1,2,3,8,9,10,11,16,17,18,19,20,21,22,23,24],[0,1,2,3,8,9,10,11,16,17,18,19,20,21,22,23,24,25],[0,1,2,3,8,9,10,11,16,17,18,19,20,21,22,23,24,25,26],[0,1,2,3,8,9,10,11,16,17,18,19,20,21,22,23,24,25,26,27],[0,1,2,3,4,5,6,7,8,9,10,11,16,17,18,19,20,21,22,23,24],[0,1,2,3,4,5,6,7,8,9,10,11,12,13,14,15,16,17,18,19,20,21,22,23,24,29],[0,1,2,3,4,5,6,7,8,9,10,11,12,13,14,15,16,17,18,19,20,21,22,23,24,25,26,27,28,29,30]]) (.seq (r_ x47_3) (.seq (.seq (r_ x47_4) (.cnd 54 (.seq (r_ x47_5) .ret) .skip)) (.seq (.seq (r_ x47_9) (.cnd 57 (.seq (r_ x47_10) (r_ x47_11)) .skip)) (.seq (.seq (r_ x47_15) (.cnd 92 (.seq (r_ x47_16) .ret) .skip)) (.seq (.seq (r_ x47_20) (.cnd 120 (.seq (r_ x47_21) .ret) .skip)) x47_76))))))
def x47_84:C_:=.seq (r_ x47_0) x47_83
def x47:C_:=x47_84
theorem fx47:fnx Try.prog 47=some (255,[(2,none),(3,none)],x47):=by kernel_rfl
def x48_0:L_:=s_ 8 [o_ (.new [(.int .i64 0),(.int .u8 0),(.int .i64 0),(.slice none 0 0),(.int .i64 0),(.int .i64 0)]),v_ (.const (.slice none 0 0))] []
def x48_1:L_:=s_ 12 [a_ 0,a_ 1,a_ 3,o_ (.build [(.pointer none),(.slice none 0 0),(.slice none 0 0),(.int .i64 0),(.bool false),(.slice none 0 0)] [(0,1,12),(1,1,13),(4,1,14)]),o_ (.box 15)] [q_ 10 (m_ 16)]
def x48_2:L_:=[q_ 11 (mi_ 0)]
def x48_3:L_:=s_ 17 [a_ 11,a_ 2,b_ .lss 17 18,a_ 19] (sg_ 21 20 true [a_ 0,k_ 21,f_ 34 22,li_ 23,b_ .eql 24 (ci_ 0)] [⟨(some 26),.pick 20 25 bf_,none⟩])
def x48_5:C_:=.seq (r_ x48_3) (.cnd 26 .skip (.exit 0))
def x48_6:L_:=s_ 27 [a_ 10,c_ 61 [27],o_ (.un .not 28)] []
def x48_7:L_:=s_ 30 [a_ 0,k_ 30,f_ 34 31] [on_ (.store 1 32 (ci_ 4))]
def x48_11:L_:=s_ 33 [a_ 11,b_ .add 33 (ci_ 1)] [q_ 11 (m_ 34)]
def x48_13:C_:=.block 1 (.seq (.seq (r_ x48_6) (.cnd 29 (.seq (r_ x48_7) (.exit 0)) .skip)) (r_ x48_11))
def x48_14:C_:=.seq x48_5 x48_13
def x48_17:L_:=s_ 35 [a_ 0,k_ 35,f_ 34 36,li_ 37,a_ 0,k_ 39,f_ 35 40,o_ (.load (.int .u8) 1 41),a_ 10,k_ 43,f_ 2 44,l_ 45,a_ 11,a_ 10,k_ 48,f_ 3 49,li_ 50,o_ (.build [(.int .i64 0),(.int .u8 0),(.int .i64 0),(.slice none 0 0),(.int .i64 0),(.int .i64 0)] [(0,1,38),(1,1,42),(3,1,46),(4,1,47),(5,1,51)]),a_ 10,k_ 53,f_ 5 54,l_ 55] [on_ (.store 6 8 52),q_ 9 (m_ 56)]
def x48_18:C_:=.seq (.draw x48_17 [[],[0],[0,1],[0,1,2],[],[4],[4,5],[4,5,6],[],[8],[8,9],[8,9,10],[],[],[13],[13,14],[13,14,15],[0,1,2,3,4,5,6,7,8,9,10,11,12,13,14,15,16],[],[18],[18,19],[18,19,20],[0,1,2,3,4,5,6,7,8,9,10,11,12,13,14,15,16,17],[0,1,2,3,4,5,6,7,8,9,10,11,12,13,14,15,16,17,18,19,20,21,22]]) .ret
def x48_22:C_:=.seq (r_ x48_0) (.seq (r_ x48_1) (.seq (r_ x48_2) (.seq (.block 0 (.loop x48_14)) x48_18)))
def x48:C_:=x48_22
theorem fx48:fnx Try.prog 48=some (57,[(8,(some (.agg,6))),(9,none)],x48):=by kernel_rfl
def x49_0:L_:=s_ 2 [o_ (.box 0),o_ (.box 1),o_ (.new [(.slice none 0 0),(.int .u64 0),(.int .u64 0),(.int .u64 0),(.int .u64 0),(.int .u64 0),(.int .u64 0),(.int .u64 0),(.int .u64 0),(.int .u64 0),(.int .u64 0),(.int .u64 0),(.int .u64 0),(.int .u64 0),(.int .u64 0),(.int .u64 0),(.int .u64 0),(.int .u64 0),(.int .u64 0),(.int .u64 0),(.int .u64 0),(.int .u64 0),(.int .u64 0),(.int .u64 0),(.int .u64 0),(.int .u64 0),(.int .u64 0),(.int .u64 0),(.int .u64 0),(.int .u64 0),(.int .u64 0),(.int .u64 0),(.int .u64 0),(.int .u64 0),(.int .i64 0),(.int .u8 0)]),o_ (.new [(.slice none 0 0),(.slice none 0 0),(.int .i64 0),(.slice none 0 0)]),v_ bf_] []
def x49_1:L_:=s_ 14 [g_ 36 2,f_ 33 2,lu_ 15,c_ 62 [14,16,(ci_ 4)],o_ (.un .not 17)] []
def x49_2:L_:=s_ 19 [g_ 36 2,g_ 4 3] [on_ (.store 36 4 19),on_ (.store 4 5 20),q_ 6 (.mv bf_)]
def x49_6:L_:=s_ 22 [g_ 36 2,f_ 33 2,lu_ 23,c_ 64 [22,24,(ci_ 4)],o_ (.conv .u32 25),c_ 63 [26]] ((q_ 21 (m_ 27)) :: s_ 28 [e_ 21 0,e_ 21 1] [q_ 7 (.new (zs_ .i64 5)),on_ (.store 5 7 28),q_ 8 (m_ 29)])
def x49_7:L_:=s_ 30 [a_ 8,o_ (.un .not 30)] []
def x49_8:L_:=s_ 32 [g_ 36 2,g_ 4 3] [on_ (.store 36 4 32),on_ (.store 4 5 33),q_ 6 (.mv bf_)]
def x49_12:L_:=s_ 34 [f_ 2 7,li_ 34,f_ 1 2,o_ (.iaddrA true 32 1 36 35),lu_ 37,f_ 3 7,li_ 39,f_ 1 2,o_ (.iaddrA true 32 1 41 40),lu_ 42,f_ 4 7,li_ 44,c_ 65 [45]] (s_ 9 [a_ 38,a_ 43,a_ 46] [])
def x49_13:L_:=s_ 47 [f_ 33 2,lu_ 47,b_ .add 48 (ck_ .u64 4)] [q_ 12 (m_ 49)]
def x49_14:L_:=[q_ 50 (.build (zs_ .i64 10) [(0,1,(ci_ 1)),(1,1,(ci_ 4)),(2,1,(ci_ 5)),(3,1,(ci_ 6)),(4,1,(ci_ 9)),(5,1,(ci_ 10)),(6,1,(ci_ 3)),(7,1,(ci_ 7)),(8,1,(ci_ 8)),(9,1,(ci_ 18))]),
 q_ 13 (.new (zs_ .i64 10)),
 on_ (.store 10 13 50)]
def x49_15:L_:=s_ 59 [f_ 0 7,li_ 59,b_ .leq 60 (ci_ 27)] [q_ 58 (m_ 61)]
def x49_16:L_:=s_ 62 [g_ 36 2,f_ 1 7,li_ 63,f_ 0 7,li_ 65,a_ 9,a_ 10,c_ 67 [66,67,68],c_ 66 [62,64,69]] [on_ (.store 36 2 70)]
def x49_17:L_:=s_ 72 [f_ 0 7,li_ 72,b_ .leq 73 (ci_ 37)] [q_ 71 (m_ 74)]
def x49_18:L_:=s_ 75 [g_ 36 2,f_ 1 7,li_ 76,f_ 0 7,li_ 78,b_ .sub 79 (ci_ 28),o_ (.iaddrA true 10 1 13 80),li_ 81,a_ 9,a_ 11,c_ 67 [82,83,84],c_ 66 [75,77,85]] [on_ (.store 36 2 86)]
def x49_19:L_:=s_ 87 [f_ 0 7,li_ 87,b_ .eql 88 (ci_ 28),a_ 89] (sg_ 91 90 true [f_ 1 7,li_ 91,b_ .eql 92 (ci_ 0)] ((⟨(some 94),.pick 90 93 bf_,none⟩) :: (q_ 95 (m_ 94)) :: sg_ 96 95 true [f_ 2 7,li_ 96,b_ .eql 97 (ci_ 0)] ((⟨(some 99),.pick 95 98 bf_,none⟩) :: (q_ 100 (m_ 99)) :: sg_ 101 100 true [f_ 4 7,li_ 101,b_ .eql 102 (ci_ 1)] [⟨(some 104),.pick 100 103 bf_,none⟩])))
def x49_20:L_:=s_ 105 [f_ 2 3,li_ 105,b_ .add 106 (ci_ 1),f_ 2 3] [on_ (.store 1 108 107)]
def x49_24:L_:=s_ 110 [f_ 0 7,li_ 110,b_ .leq 111 (ci_ 44)] [q_ 109 (m_ 112)]
def x49_25:L_:=s_ 114 [g_ 36 2,g_ 4 3,g_ 5 7,c_ 68 [114,115,116]] ((q_ 113 (m_ 117)) :: s_ 118 [e_ 113 0,e_ 113 1,e_ 113 2] [on_ (.store 36 2 118),on_ (.store 4 3 119),q_ 8 (m_ 120)])
def x49_26:L_:=s_ 122 [f_ 0 7,li_ 122,b_ .leq 123 (ci_ 50)] [q_ 121 (m_ 124)]
def x49_27:L_:=s_ 125 [f_ 0 7,li_ 125,a_ 9,a_ 10,c_ 69 [126,127,128]] []
def x49_28:L_:=s_ 130 [f_ 33 2,lu_ 130,a_ 11,b_ .add 131 132] [q_ 12 (m_ 133)]
def x49_31:L_:=s_ 135 [f_ 0 7,li_ 135,b_ .eql 136 (ci_ 51)] [q_ 134 (m_ 137)]
def x49_32:L_:=s_ 138 [g_ 36 2,f_ 1 7,li_ 139,a_ 11,b_ .mul 141 (ck_ .u64 4096),c_ 66 [138,140,142]] [on_ (.store 36 2 143)]
def x49_33:L_:=s_ 145 [f_ 0 7,li_ 145,b_ .eql 146 (ci_ 52)] [q_ 144 (m_ 147)]
def x49_34:L_:=s_ 148 [g_ 36 2,f_ 1 7,li_ 149,a_ 11,b_ .mul 151 (ck_ .u64 4096),f_ 33 2,lu_ 153,b_ .add 152 154,c_ 66 [148,150,155]] [on_ (.store 36 2 156)]
def x49_35:L_:=s_ 158 [f_ 0 7,li_ 158,b_ .eql 159 (ci_ 53)] [q_ 157 (m_ 160)]
def x49_36:L_:=s_ 161 [g_ 36 2,f_ 1 7,li_ 162,a_ 12,c_ 66 [161,163,164]] [on_ (.store 36 2 165)]
def x49_37:L_:=s_ 166 [f_ 33 2,lu_ 166,a_ 11,b_ .add 167 168] [q_ 12 (m_ 169)]
def x49_39:L_:=s_ 171 [f_ 0 7,li_ 171,b_ .eql 172 (ci_ 54)] [q_ 170 (m_ 173)]
def x49_40:L_:=s_ 174 [g_ 36 2,f_ 1 7,li_ 175,a_ 12,c_ 66 [174,176,177]] [on_ (.store 36 2 178)]
def x49_41:L_:=s_ 179 [a_ 9,a_ 11,b_ .add 179 180,b_ .quo 181 (ck_ .u64 2),b_ .mul 182 (ck_ .u64 2)] [q_ 12 (m_ 183)]
def x49_43:L_:=s_ 52 [g_ 36 2,g_ 4 3,c_ 70 [52,53]] ((q_ 51 (m_ 54)) :: s_ 55 [e_ 51 0,e_ 51 1,e_ 51 2] [on_ (.store 36 2 55),on_ (.store 4 3 56),q_ 8 (m_ 57)])
def x49_52:C_:=.cnd 121 (.seq (r_ x49_27) (.cnd 129 (r_ x49_28) .skip)) (.seq (r_ x49_31) (.cnd 134 (r_ x49_32) (.seq (r_ x49_33) (.cnd 144 (r_ x49_34) (.seq (r_ x49_35) (.cnd 157 (.seq (r_ x49_36) (r_ x49_37)) (.seq (r_ x49_39) (.cnd 170 (.seq (r_ x49_40) (r_ x49_41)) (r_ x49_43)))))))))
def x49_61:L_:=[q_ 184 (m_ 8)]
def x49_62:L_:=s_ 185 [a_ 12,f_ 33 2] [on_ (.store 1 186 185)]
def x49_65:L_:=s_ 187 [g_ 36 2,g_ 4 3,a_ 8] [on_ (.store 36 4 187),on_ (.store 4 5 188),q_ 6 (m_ 189)]
def x49_69:C_:=.seq (r_ x49_14) (.seq (.block 0 (.seq (r_ x49_15) (.cnd 58 (.draw x49_16 [[],[],[1],[],[3],[],[],[3,4,5,6],[0,1,2,3,4,5,6,7],[0,1,2,3,4,5,6,7,8]]) (.seq (r_ x49_17) (.cnd 71 (.seq (.draw x49_18 [[],[],[1],[],[3],[3,4],[3,4,5],[3,4,5,6],[],[],[3,4,5,6,7,8,9],[0,1,2,3,4,5,6,7,8,9,10],[0,1,2,3,4,5,6,7,8,9,10,11]]) (.seq (r_ x49_19) (.cnd 104 (r_ x49_20) .skip))) (.seq (r_ x49_24) (.cnd 109 (r_ x49_25) (.seq (r_ x49_26) x49_52)))))))) (.seq (.seq (r_ x49_61) (.cnd 184 (r_ x49_62) .skip)) (.seq (.draw x49_65 [[],[],[],[0],[0,1,3],[0,1,2,3,4]]) .ret)))
def x49_75:C_:=.seq (r_ x49_0) (.seq (.seq (r_ x49_1) (.cnd 18 (.seq (.draw x49_2 [[],[],[0],[0,1,2],[0,1,2,3]]) .ret) .skip)) (.seq (r_ x49_6) (.seq (.seq (r_ x49_7) (.cnd 31 (.seq (.draw x49_8 [[],[],[0],[0,1,2],[0,1,2,3]]) .ret) .skip)) (.seq (.draw x49_12 [[],[0],[],[0,1,2],[0,1,2,3],[],[5],[],[5,6,7],[5,6,7,8],[],[10],[10,11],[0,1,2,3,4,10,11,12],[0,1,2,3,4,5,6,7,8,9,10,11,12,13],[0,1,2,3,4,5,6,7,8,9,10,11,12,13,14]]) (.seq (r_ x49_13) x49_69)))))
def x49:C_:=x49_75
theorem fx49:fnx Try.prog 49=some (190,[(4,(some (.agg,36))),(5,(some (.agg,4))),(6,none)],x49):=by kernel_rfl
def x50_0:L_:=[q_ 2 (.mv (.const (.slice none 0 0)))]
def x50_1:L_:=s_ 3 [a_ 0,o_ (.eqnil 1 false 3 (.const (.slice none 0 0)))] []
def x50_2:L_:=[q_ 2 (.mv (.const (.slice none 0 0)))]
def x50_6:L_:=s_ 5 [o_ (.mkslice [(.int .u8 0)] 0 []),a_ 0,o_ (.app 1 1 5 6)] [q_ 2 (m_ 7)]
def x50_9:C_:=.seq (r_ x50_0) (.seq (.seq (r_ x50_1) (.cnd 4 (.seq (r_ x50_2) .ret) .skip)) (.seq (r_ x50_6) .ret))
def x50:C_:=x50_9
theorem fx50:fnx Try.prog 50=some (8,[(2,none)],x50):=by kernel_rfl
def x52_0:L_:=[q_ 2 (.mv bf_)]
def x52_1:L_:=s_ 3 [a_ 0,b_ .geq 3 (ci_ 45),a_ 4] (sg_ 6 5 true [a_ 0,b_ .leq 6 (ci_ 50)] [⟨(some 8),.pick 5 7 bf_,none⟩,q_ 2 (m_ 8)])
def x52_3:C_:=.seq (r_ x52_0) (.seq (r_ x52_1) .ret)
def x52:C_:=x52_3
theorem fx52:fnx Try.prog 52=some (9,[(2,none)],x52):=by kernel_rfl
def x54_0:L_:=[q_ 2 (mi_ 0)]
def x54_1:L_:=s_ 3 [a_ 0,a_ 0,c_ 55 [4],b_ .sub 3 5,b_ .shr 6 (ck_ .u64 12)] [q_ 2 (m_ 7)]
def x54_3:C_:=.seq (r_ x54_0) (.seq (r_ x54_1) .ret)
def x54:C_:=x54_3
theorem fx54:fnx Try.prog 54=some (8,[(2,none)],x54):=by kernel_rfl
def x55_0:L_:=[q_ 2 (mi_ 0)]
def x55_1:L_:=s_ 3 [a_ 0,b_ .and 3 (ci_ 4095),b_ .xor 4 (ci_ 2048),b_ .sub 5 (ci_ 2048)] [q_ 2 (m_ 6)]
def x55_3:C_:=.seq (r_ x55_0) (.seq (r_ x55_1) .ret)
def x55:C_:=x55_3
theorem fx55:fnx Try.prog 55=some (7,[(2,none)],x55):=by kernel_rfl
def x56_0:L_:=[q_ 2 (mi_ 0)]
def x56_1:L_:=s_ 3 [a_ 0,b_ .sub 3 (ci_ 45),b_ .xor 4 (ci_ 1),b_ .add 5 (ci_ 45)] [q_ 2 (m_ 6)]
def x56_3:C_:=.seq (r_ x56_0) (.seq (r_ x56_1) .ret)
def x56:C_:=x56_3
theorem fx56:fnx Try.prog 56=some (7,[(2,none)],x56):=by kernel_rfl
def x57_0:L_:=s_ 9 [a_ 2,n_ 9,i_ 0] []
def x57_1:L_:=[q_ 12 (.bin .lss 11 10)]
def x57_3:L_:=s_ 13 [o_ (.iaddrS 3 9 11),g_ 3 13] [q_ 8 (.new (zs_ .u32 3)),on_ (.store 3 8 14)]
def x57_4:L_:=s_ 15 [l_ 3,o_ (.iaddrA false 3 1 8 (ci_ 0)),o_ (.load (.int .u32) 1 16),o_ (.conv .i64 17),a_ 0,a_ 1,o_ (.iaddrA false 3 1 8 (ci_ 1)),o_ (.load (.int .u32) 1 21),o_ (.iaddrA false 3 1 8 (ci_ 2)),o_ (.load (.int .u32) 1 23),o_ (.build (zs_ .u32 3) [(0,1,20),(1,1,22),(2,1,24)]),o_ (.build [(.int .u8 0),(.int .u32 0),(.int .u32 0),(.int .u32 0)] [(0,1,19),(1,3,25)])] [on_ (.mapupd 3 104 (.int .i64) 15 18 26)]
def x57_7:L_:=[q_ 27 (.bin .add 11 (ci_ 1)),
 q_ 11 (m_ 27)]
def x57_13:C_:=.seq (r_ x57_0) (.block 0 (.loop (.seq (r_ x57_1) (.seq (.cnd 12 .skip (.exit 0)) (.seq (.block 1 (.seq (r_ x57_3) (r_ x57_4))) (r_ x57_7))))))
def x57:C_:=x57_13
theorem fx57:fnx Try.prog 57=some (28,[],x57):=by kernel_rfl
def x58_0:L_:=[q_ 2 (.new [(.int .u8 0),(.int .i64 0),(.int .i64 0),(.int .i64 0)])]
def x58_1:L_:=s_ 6 [o_ (.build [(.int .i64 0),(.int .i64 0)] []),o_ (.build [(.int .i64 0),(.int .i64 0)] [(0,1,(ci_ 0)),(1,1,(ci_ 0))]),o_ (.build [(.int .i64 0),(.int .i64 0)] [(0,1,(ci_ 0)),(1,1,(ci_ 32))]),o_ (.build [(.int .i64 0),(.int .i64 0)] [(0,1,(ci_ 1)),(1,1,(ci_ 0))]),o_ (.build [(.int .i64 0),(.int .i64 0)] [(0,1,(ci_ 2)),(1,1,(ci_ 0))]),o_ (.build [(.int .i64 0),(.int .i64 0)] [(0,1,(ci_ 3)),(1,1,(ci_ 0))]),o_ (.build [(.int .i64 0),(.int .i64 0)] [(0,1,(ci_ 4)),(1,1,(ci_ 0))]),o_ (.build [(.int .i64 0),(.int .i64 0)] [(0,1,(ci_ 5)),(1,1,(ci_ 0))]),o_ (.build [(.int .i64 0),(.int .i64 0)] [(0,1,(ci_ 5)),(1,1,(ci_ 32))]),o_ (.build [(.int .i64 0),(.int .i64 0)] [(0,1,(ci_ 6)),(1,1,(ci_ 0))]),o_ (.build [(.int .i64 0),(.int .i64 0)] [(0,1,(ci_ 7)),(1,1,(ci_ 0))]),o_ (.build [(.int .i64 0),(.int .i64 0)] [(0,1,(ci_ 0)),(1,1,(ci_ 1))]),o_ (.build [(.int .i64 0),(.int .i64 0)] [(0,1,(ci_ 1)),(1,1,(ci_ 1))]),o_ (.build [(.int .i64 0),(.int .i64 0)] [(0,1,(ci_ 3)),(1,1,(ci_ 1))]),o_ (.build [(.int .i64 0),(.int .i64 0)] [(0,1,(ci_ 4)),(1,1,(ci_ 1))]),o_ (.build [(.int .i64 0),(.int .i64 0)] [(0,1,(ci_ 5)),(1,1,(ci_ 1))]),o_ (.build [(.int .i64 0),(.int .i64 0)] [(0,1,(ci_ 6)),(1,1,(ci_ 1))]),o_ (.build [(.int .i64 0),(.int .i64 0)] [(0,1,(ci_ 7)),(1,1,(ci_ 1))]),o_ (.build [(.int .i64 0),(.int .i64 0)] [(0,1,(ci_ 0)),(1,1,(ci_ 0))]),o_ (.build [(.int .i64 0),(.int .i64 0)] [(0,1,(ci_ 0)),(1,1,(ci_ 32))]),o_ (.build [(.int .i64 0),(.int .i64 0)] [(0,1,(ci_ 1)),(1,1,(ci_ 0))]),o_ (.build [(.int .i64 0),(.int .i64 0)] [(0,1,(ci_ 5)),(1,1,(ci_ 0))]),o_ (.build [(.int .i64 0),(.int .i64 0)] [(0,1,(ci_ 5)),(1,1,(ci_ 32))]),o_ (.build [(.int .i64 0),(.int .i64 0)] [(0,1,(ci_ 0)),(1,1,(ci_ 1))]),o_ (.build [(.int .i64 0),(.int .i64 0)] [(0,1,(ci_ 4)),(1,1,(ci_ 1))]),o_ (.build [(.int .i64 0),(.int .i64 0)] [(0,1,(ci_ 5)),(1,1,(ci_ 1))]),o_ (.build [(.int .i64 0),(.int .i64 0)] [(0,1,(ci_ 6)),(1,1,(ci_ 1))]),o_ (.build [(.int .i64 0),(.int .i64 0)] [(0,1,(ci_ 7)),(1,1,(ci_ 1))]),o_ (.build (zs_ .i64 56) [(0,2,6),(2,2,7),(4,2,8),(6,2,9),(8,2,10),(10,2,11),(12,2,12),(14,2,13),(16,2,14),(18,2,15),(20,2,16),(22,2,17),(24,2,18),(26,2,19),(28,2,20),(30,2,21),(32,2,22),(34,2,23),(36,2,24),(38,2,25),(40,2,26),(42,2,27),(44,2,28),(46,2,29),(48,2,30),(50,2,31),(52,2,32),(54,2,33)])] [q_ 3 (.new (zs_ .i64 56)),on_ (.store 56 3 34)]
def x58_2:L_:=s_ 35 [a_ 0,b_ .geq 35 (ci_ 1),a_ 36] (sg_ 38 37 true [a_ 0,b_ .leq 38 (ci_ 17)] [⟨(some 40),.pick 37 39 bf_,none⟩])
def x58_3:L_:=s_ 41 [a_ 0,o_ (.iaddrA true 28 2 3 41),o_ (.iaddrA false 2 1 42 (ci_ 0)),li_ 43,a_ 0,o_ (.iaddrA true 28 2 3 45),o_ (.iaddrA false 2 1 46 (ci_ 1)),li_ 47,o_ (.build [(.int .u8 0),(.int .i64 0),(.int .i64 0),(.int .i64 0)] [(0,1,(ck_ .u8 82)),(1,1,(ci_ 51)),(2,1,44),(3,1,48)])] [on_ (.store 4 2 49)]
def x58_5:C_:=.cnd 40 (.seq (.draw x58_3 [[],[0],[0,1],[0,1,2],[],[4],[4,5],[4,5,6],[0,1,2,3,4,5,6,7],[0,1,2,3,4,5,6,7,8]]) .ret) .skip
def x58_6:C_:=.seq (r_ x58_2) x58_5
def x58_7:L_:=s_ 50 [a_ 0,b_ .geq 50 (ci_ 18),a_ 51] (sg_ 53 52 true [a_ 0,b_ .leq 53 (ci_ 27)] [⟨(some 55),.pick 52 54 bf_,none⟩])
def x58_8:L_:=s_ 56 [a_ 0,o_ (.iaddrA true 28 2 3 56),o_ (.iaddrA false 2 1 57 (ci_ 0)),li_ 58,a_ 0,o_ (.iaddrA true 28 2 3 60),o_ (.iaddrA false 2 1 61 (ci_ 1)),li_ 62,o_ (.build [(.int .u8 0),(.int .i64 0),(.int .i64 0),(.int .i64 0)] [(0,1,(ck_ .u8 82)),(1,1,(ci_ 59)),(2,1,59),(3,1,63)])] [on_ (.store 4 2 64)]
def x58_10:C_:=.cnd 55 (.seq (.draw x58_8 [[],[0],[0,1],[0,1,2],[],[4],[4,5],[4,5,6],[0,1,2,3,4,5,6,7],[0,1,2,3,4,5,6,7,8]]) .ret) .skip
def x58_11:C_:=.seq (r_ x58_7) x58_10
def x58_12:L_:=[q_ 65 (.build (zs_ .i64 28) [(0,1,(ci_ 0)),(1,1,(ci_ 2)),(2,1,(ci_ 3)),(3,1,(ci_ 4)),(4,1,(ci_ 6)),(5,1,(ci_ 7)),(6,1,(ci_ 1)),(7,1,(ci_ 5)),(8,1,(ci_ 5)),(9,1,(ci_ 0)),(10,1,(ci_ 0)),(11,1,(ci_ 4)),(12,1,(ci_ 2)),(13,1,(ci_ 3)),(14,1,(ci_ 0)),(15,1,(ci_ 2)),(16,1,(ci_ 3)),(17,1,(ci_ 0)),(18,1,(ci_ 1)),(19,1,(ci_ 4)),(20,1,(ci_ 5)),(21,1,(ci_ 6)),(22,1,(ci_ 7)),(23,1,(ci_ 0)),(24,1,(ci_ 0)),(25,1,(ci_ 0)),(26,1,(ci_ 0)),(27,1,(ci_ 0))]),
 q_ 4 (.new (zs_ .i64 28)),
 on_ (.store 28 4 65)]
def x58_13:L_:=s_ 66 [a_ 0,b_ .lss 66 (ci_ 28),a_ 67] (sg_ 69 68 false [a_ 0,b_ .gtr 69 (ci_ 55)] [⟨(some 71),.pick 68 bt_ 70,none⟩])
def x58_14:L_:=[q_ 72 (.build [(.int .u8 0),(.int .i64 0),(.int .i64 0),(.int .i64 0)] []),
 on_ (.store 4 2 72)]
def x58_16:C_:=.cnd 71 (.seq (r_ x58_14) .ret) .skip
def x58_17:C_:=.seq (r_ x58_13) x58_16
def x58_18:L_:=s_ 73 [a_ 0,b_ .sub 73 (ci_ 28),o_ (.iaddrA true 28 1 4 74),li_ 75] [q_ 5 (m_ 76)]
def x58_19:L_:=s_ 78 [a_ 0,b_ .leq 78 (ci_ 33)] [q_ 77 (m_ 79)]
def x58_20:L_:=s_ 80 [a_ 5,o_ (.build [(.int .u8 0),(.int .i64 0),(.int .i64 0),(.int .i64 0)] [(0,1,(ck_ .u8 73)),(1,1,(ci_ 19)),(2,1,80),(3,1,(ci_ 0))])] [on_ (.store 4 2 81)]
def x58_22:L_:=s_ 83 [a_ 0,b_ .eql 83 (ci_ 36)] [q_ 82 (m_ 84)]
def x58_23:L_:=s_ 85 [a_ 5,o_ (.build [(.int .u8 0),(.int .i64 0),(.int .i64 0),(.int .i64 0)] [(0,1,(ck_ .u8 84)),(1,1,(ci_ 19)),(2,1,85),(3,1,(ci_ 32))])] [on_ (.store 4 2 86)]
def x58_25:L_:=s_ 88 [a_ 0,b_ .leq 88 (ci_ 35)] [q_ 87 (m_ 89)]
def x58_26:L_:=s_ 90 [a_ 5,o_ (.build [(.int .u8 0),(.int .i64 0),(.int .i64 0),(.int .i64 0)] [(0,1,(ck_ .u8 84)),(1,1,(ci_ 19)),(2,1,90),(3,1,(ci_ 0))])] [on_ (.store 4 2 91)]
def x58_28:L_:=s_ 93 [a_ 0,b_ .eql 93 (ci_ 37)] [q_ 92 (m_ 94)]
def x58_29:L_:=s_ 95 [a_ 5,o_ (.build [(.int .u8 0),(.int .i64 0),(.int .i64 0),(.int .i64 0)] [(0,1,(ck_ .u8 73)),(1,1,(ci_ 27)),(2,1,95),(3,1,(ci_ 0))])] [on_ (.store 4 2 96)]
def x58_31:L_:=s_ 98 [a_ 0,b_ .leq 98 (ci_ 41)] [q_ 97 (m_ 99)]
def x58_32:L_:=s_ 100 [a_ 5,o_ (.build [(.int .u8 0),(.int .i64 0),(.int .i64 0),(.int .i64 0)] [(0,1,(ck_ .u8 73)),(1,1,(ci_ 3)),(2,1,100),(3,1,(ci_ 0))])] [on_ (.store 4 2 101)]
def x58_34:L_:=s_ 103 [a_ 0,b_ .leq 103 (ci_ 44)] [q_ 102 (m_ 104)]
def x58_35:L_:=s_ 105 [a_ 5,o_ (.build [(.int .u8 0),(.int .i64 0),(.int .i64 0),(.int .i64 0)] [(0,1,(ck_ .u8 83)),(1,1,(ci_ 35)),(2,1,105),(3,1,(ci_ 0))])] [on_ (.store 4 2 106)]
def x58_37:L_:=s_ 108 [a_ 0,b_ .leq 108 (ci_ 50)] [q_ 107 (m_ 109)]
def x58_38:L_:=s_ 110 [a_ 5,o_ (.build [(.int .u8 0),(.int .i64 0),(.int .i64 0),(.int .i64 0)] [(0,1,(ck_ .u8 66)),(1,1,(ci_ 99)),(2,1,110),(3,1,(ci_ 0))])] [on_ (.store 4 2 111)]
def x58_40:L_:=s_ 113 [a_ 0,b_ .eql 113 (ci_ 51)] [q_ 112 (m_ 114)]
def x58_41:L_:=[q_ 115 (.build [(.int .u8 0),(.int .i64 0),(.int .i64 0),(.int .i64 0)] [(0,1,(ck_ .u8 85)),(1,1,(ci_ 55)),(2,1,(ci_ 0)),(3,1,(ci_ 0))]),
 on_ (.store 4 2 115)]
def x58_43:L_:=s_ 117 [a_ 0,b_ .eql 117 (ci_ 52)] [q_ 116 (m_ 118)]
def x58_44:L_:=[q_ 119 (.build [(.int .u8 0),(.int .i64 0),(.int .i64 0),(.int .i64 0)] [(0,1,(ck_ .u8 85)),(1,1,(ci_ 23)),(2,1,(ci_ 0)),(3,1,(ci_ 0))]),
 on_ (.store 4 2 119)]
def x58_46:L_:=s_ 121 [a_ 0,b_ .eql 121 (ci_ 53)] [q_ 120 (m_ 122)]
def x58_47:L_:=[q_ 123 (.build [(.int .u8 0),(.int .i64 0),(.int .i64 0),(.int .i64 0)] [(0,1,(ck_ .u8 74)),(1,1,(ci_ 111)),(2,1,(ci_ 0)),(3,1,(ci_ 0))]),
 on_ (.store 4 2 123)]
def x58_49:L_:=s_ 125 [a_ 0,b_ .eql 125 (ci_ 54)] [q_ 124 (m_ 126)]
def x58_50:L_:=[q_ 127 (.build [(.int .u8 0),(.int .i64 0),(.int .i64 0),(.int .i64 0)] [(0,1,(ck_ .u8 73)),(1,1,(ci_ 103)),(2,1,(ci_ 0)),(3,1,(ci_ 0))]),
 on_ (.store 4 2 127)]
def x58_60:C_:=.cnd 107 (.seq (r_ x58_38) .ret) (.seq (r_ x58_40) (.cnd 112 (.seq (r_ x58_41) .ret) (.seq (r_ x58_43) (.cnd 116 (.seq (r_ x58_44) .ret) (.seq (r_ x58_46) (.cnd 120 (.seq (r_ x58_47) .ret) (.seq (r_ x58_49) (.cnd 124 (.seq (r_ x58_50) .ret) .skip))))))))
def x58_70:C_:=.cnd 82 (.seq (r_ x58_23) .ret) (.seq (r_ x58_25) (.cnd 87 (.seq (r_ x58_26) .ret) (.seq (r_ x58_28) (.cnd 92 (.seq (r_ x58_29) .ret) (.seq (r_ x58_31) (.cnd 97 (.seq (r_ x58_32) .ret) (.seq (r_ x58_34) (.cnd 102 (.seq (r_ x58_35) .ret) (.seq (r_ x58_37) x58_60)))))))))
def x58_75:L_:=[q_ 128 (.build [(.int .u8 0),(.int .i64 0),(.int .i64 0),(.int .i64 0)] [(0,1,(ck_ .u8 78)),(1,1,(ci_ 115)),(2,1,(ci_ 0)),(3,1,(ci_ 0))]),
 on_ (.store 4 2 128)]
def x58_78:C_:=.seq (r_ x58_18) (.seq (.block 0 (.seq (r_ x58_19) (.cnd 77 (.seq (r_ x58_20) .ret) (.seq (r_ x58_22) x58_70)))) (.seq (r_ x58_75) .ret))
def x58_79:C_:=.seq x58_17 x58_78
def x58_80:C_:=.seq (r_ x58_12) x58_79
def x58_81:C_:=.seq x58_11 x58_80
def x58_84:C_:=.seq (r_ x58_0) (.seq (r_ x58_1) (.seq x58_6 x58_81))
def x58:C_:=x58_84
theorem fx58:fnx Try.prog 58=some (129,[(2,(some (.agg,4)))],x58):=by kernel_rfl
def x59_0:L_:=s_ 2 [i_ 0,i_ 0] []
def x59_1:L_:=[q_ 4 (m_ 0)]
def x59_2:L_:=[q_ 6 (.bin .eql 4 (ck_ .u8 73)),
 q_ 5 (m_ 6)]
def x59_3:L_:=[q_ 7 (.bin .eql 4 (ck_ .u8 83)),
 q_ 5 (m_ 7)]
def x59_6:L_:=s_ 2 [v_ (ci_ (-2048)),i_ 2047] []
def x59_8:L_:=[q_ 9 (.bin .eql 4 (ck_ .u8 84)),
 q_ 8 (m_ 9)]
def x59_9:L_:=s_ 2 [i_ 0,i_ 63] []
def x59_11:L_:=[q_ 11 (.bin .eql 4 (ck_ .u8 66)),
 q_ 10 (m_ 11)]
def x59_12:L_:=s_ 2 [v_ (ci_ (-4096)),i_ 4094] []
def x59_14:L_:=[q_ 13 (.bin .eql 4 (ck_ .u8 85)),
 q_ 12 (m_ 13)]
def x59_15:L_:=s_ 2 [v_ (ci_ (-524288)),i_ 524287] []
def x59_17:L_:=[q_ 15 (.bin .eql 4 (ck_ .u8 74)),
 q_ 14 (m_ 15)]
def x59_18:L_:=s_ 2 [v_ (ci_ (-1048576)),i_ 1048574] []
def x59_28:C_:=.cnd 5 (.seq (r_ x59_6) .ret) (.seq (r_ x59_8) (.cnd 8 (.seq (r_ x59_9) .ret) (.seq (r_ x59_11) (.cnd 10 (.seq (r_ x59_12) .ret) (.seq (r_ x59_14) (.cnd 12 (.seq (r_ x59_15) .ret) (.seq (r_ x59_17) (.cnd 14 (.seq (r_ x59_18) .ret) .skip))))))))
def x59_32:L_:=s_ 2 [i_ 1,i_ 0] []
def x59_35:C_:=.seq (r_ x59_0) (.seq (.seq (r_ x59_1) (.block 0 (.seq (.seq (r_ x59_2) (.cnd 5 .skip (r_ x59_3))) x59_28))) (.seq (r_ x59_32) .ret))
def x59:C_:=x59_35
theorem fx59:fnx Try.prog 59=some (16,[(2,none),(3,none)],x59):=by kernel_rfl
def x60_0:L_:=[q_ 6 (mi_ 0)]
def x60_1:L_:=s_ 10 [a_ 0,b_ .lss 10 (ci_ 0)] []
def x60_2:L_:=s_ 12 [a_ 0,b_ .add 12 (ci_ 2097152)] [q_ 0 (m_ 13)]
def x60_5:L_:=[q_ 7 (mi_ 0)]
def x60_6:L_:=s_ 14 [a_ 7,a_ 1,b_ .lss 14 15] []
def x60_9:L_:=s_ 19 [a_ 0,b_ .quo 19 (ci_ 2)] [q_ 0 (m_ 20)]
def x60_11:L_:=s_ 17 [a_ 7,b_ .add 17 (ci_ 1)] [q_ 7 (m_ 18)]
def x60_13:C_:=.seq (.seq (r_ x60_6) (.cnd 16 .skip (.exit 0))) (.seq (.block 1 (r_ x60_9)) (r_ x60_11))
def x60_17:L_:=[q_ 8 (mi_ 1)]
def x60_18:L_:=[q_ 9 (mi_ 0)]
def x60_19:L_:=s_ 21 [a_ 9,a_ 2,b_ .lss 21 22] []
def x60_22:L_:=s_ 26 [a_ 8,b_ .mul 26 (ci_ 2)] [q_ 8 (m_ 27)]
def x60_24:L_:=s_ 24 [a_ 9,b_ .add 24 (ci_ 1)] [q_ 9 (m_ 25)]
def x60_26:C_:=.seq (.seq (r_ x60_19) (.cnd 23 .skip (.exit 2))) (.seq (.block 3 (r_ x60_22)) (r_ x60_24))
def x60_30:L_:=s_ 28 [a_ 0,a_ 8,b_ .rem 28 29] [q_ 6 (m_ 30)]
def x60_31:C_:=.seq (r_ x60_30) .ret
def x60_33:C_:=.seq (r_ x60_17) (.seq (.seq (r_ x60_18) (.block 2 (.loop x60_26))) x60_31)
def x60_36:C_:=.seq (r_ x60_0) (.seq (.seq (r_ x60_1) (.cnd 11 (r_ x60_2) .skip)) (.seq (.seq (r_ x60_5) (.block 0 (.loop x60_13))) x60_33))
def x60:C_:=x60_36
theorem fx60:fnx Try.prog 60=some (31,[(6,none)],x60):=by kernel_rfl
def x61_0:L_:=[q_ 2 (.mv bf_)]
def x61_1:L_:=s_ 10 [a_ 0,k_ 10,f_ 0 11,l_ 12,c_ 72 [13]] ((q_ 9 (m_ 14)) :: s_ 15 [e_ 9 0,e_ 9 1] [q_ 3 (.new (zs_ .i64 5)),on_ (.store 5 3 15),q_ 4 (m_ 16)])
def x61_2:L_:=s_ 17 [a_ 4,o_ (.un .not 17)] []
def x61_3:L_:=[q_ 2 (.mv bf_)]
def x61_7:L_:=s_ 19 [a_ 0,k_ 19,f_ 0 20,l_ 21,f_ 2 3,li_ 23,k_ 22,f_ 1 25,o_ (.iaddrA true 32 1 26 24),lu_ 27,f_ 4 3,li_ 29,c_ 73 [30]] (s_ 5 [a_ 28,a_ 31] [])
def x61_8:L_:=s_ 32 [a_ 0,k_ 32,f_ 0 33,l_ 34,k_ 35,f_ 33 36,lu_ 37,b_ .add 38 (ck_ .u64 4)] [q_ 7 (m_ 39)]
def x61_9:L_:=s_ 40 [f_ 0 3,li_ 40] [q_ 8 (m_ 41)]
def x61_10:L_:=s_ 45 [a_ 8,b_ .leq 45 (ci_ 27)] [q_ 44 (m_ 46)]
def x61_11:L_:=s_ 48 [a_ 0,k_ 48,f_ 0 49,l_ 50,f_ 1 3,li_ 52,a_ 8,a_ 5,a_ 0,k_ 56,f_ 0 57,l_ 58,f_ 3 3,li_ 60,k_ 59,f_ 1 62,o_ (.iaddrA true 32 1 63 61),lu_ 64,c_ 74 [54,55,65]] ((q_ 47 (m_ 66)) :: s_ 67 [e_ 47 0,e_ 47 1,k_ 51,f_ 1 69,o_ (.iaddrA true 32 1 70 53)] [on_ (.store 1 71 67)])
def x61_12:L_:=s_ 73 [a_ 8,b_ .leq 73 (ci_ 37)] [q_ 72 (m_ 74)]
def x61_13:L_:=s_ 75 [g_ 5 3,o_ (.build (zs_ .i64 5) [(0,1,(ci_ 28)),(4,1,(ci_ 1))]),o_ (.eqagg false [0,0,0,0,0] 75 76)] []
def x61_14:L_:=s_ 78 [a_ 0,k_ 78,f_ 3 79,li_ 80,b_ .add 81 (ci_ 1),k_ 78,f_ 3 83] [on_ (.store 1 84 82)]
def x61_17:L_:=s_ 86 [a_ 0,k_ 86,f_ 0 87,l_ 88,f_ 1 3,li_ 90,a_ 8,c_ 75 [92],a_ 5,a_ 6,c_ 74 [93,94,95]] ((q_ 85 (m_ 96)) :: s_ 97 [e_ 85 0,e_ 85 1,k_ 89,f_ 1 99,o_ (.iaddrA true 32 1 100 91)] [on_ (.store 1 101 97)])
def x61_19:L_:=s_ 103 [a_ 8,b_ .leq 103 (ci_ 44)] [q_ 102 (m_ 104)]
def x61_20:L_:=s_ 105 [a_ 0,g_ 5 3,c_ 76 [105,106]] [q_ 4 (m_ 107)]
def x61_21:L_:=s_ 109 [a_ 8,b_ .leq 109 (ci_ 50)] [q_ 108 (m_ 110)]
def x61_22:L_:=s_ 111 [a_ 8,a_ 5,a_ 0,k_ 113,f_ 0 114,l_ 115,f_ 3 3,li_ 117,k_ 116,f_ 1 119,o_ (.iaddrA true 32 1 120 118),lu_ 121,c_ 77 [111,112,122]] []
def x61_23:L_:=s_ 124 [a_ 0,k_ 124,f_ 0 125,l_ 126,k_ 127,f_ 33 128,lu_ 129,a_ 6,b_ .add 130 131] [q_ 7 (m_ 132)]
def x61_26:L_:=s_ 134 [a_ 8,b_ .eql 134 (ci_ 51)] [q_ 133 (m_ 135)]
def x61_27:L_:=s_ 136 [a_ 0,k_ 136,f_ 0 137,l_ 138,f_ 1 3,li_ 140,a_ 6,b_ .shl 142 (ck_ .u64 12),k_ 139,f_ 1 144,o_ (.iaddrA true 32 1 145 141)] [on_ (.store 1 146 143)]
def x61_28:L_:=s_ 148 [a_ 8,b_ .eql 148 (ci_ 52)] [q_ 147 (m_ 149)]
def x61_29:L_:=s_ 150 [a_ 0,k_ 150,f_ 0 151,l_ 152,f_ 1 3,li_ 154,a_ 6,b_ .shl 156 (ck_ .u64 12),a_ 0,k_ 158,f_ 0 159,l_ 160,k_ 161,f_ 33 162,lu_ 163,b_ .add 157 164,k_ 153,f_ 1 166,o_ (.iaddrA true 32 1 167 155)] [on_ (.store 1 168 165)]
def x61_30:L_:=s_ 170 [a_ 8,b_ .eql 170 (ci_ 53)] [q_ 169 (m_ 171)]
def x61_31:L_:=s_ 172 [a_ 0,k_ 172,f_ 0 173,l_ 174,f_ 1 3,li_ 176,a_ 7,a_ 0,k_ 179,f_ 0 180,l_ 181,k_ 182,f_ 33 183,lu_ 184,a_ 6,b_ .add 185 186,k_ 175,f_ 1 188,o_ (.iaddrA true 32 1 189 177)] [on_ (.store 1 190 178),q_ 7 (m_ 187)]
def x61_32:L_:=s_ 192 [a_ 8,b_ .eql 192 (ci_ 54)] [q_ 191 (m_ 193)]
def x61_33:L_:=s_ 194 [a_ 0,k_ 194,f_ 0 195,l_ 196,f_ 1 3,li_ 198,a_ 7,a_ 5,a_ 6,b_ .add 201 202,b_ .andNot 203 (ck_ .u64 1),k_ 197,f_ 1 205,o_ (.iaddrA true 32 1 206 199)] [on_ (.store 1 207 200),q_ 7 (m_ 204)]
def x61_34:L_:=s_ 42 [a_ 0,c_ 78 [42]] [q_ 4 (m_ 43)]
def x61_44:C_:=.seq (r_ x61_21) (.cnd 108 (.seq (.draw x61_22 [[],[],[],[2],[2,3],[2,3,4],[],[6],[2,3,4,5],[2,3,4,5,8],[2,3,4,5,6,7,8,9],[2,3,4,5,6,7,8,9,10],[0,1,2,3,4,5,6,7,8,9,10,11]]) (.cnd 123 (r_ x61_23) .skip)) (.seq (r_ x61_26) (.cnd 133 (.draw x61_27 [[],[0],[0,1],[0,1,2],[],[4],[],[6],[0,1,2,3],[0,1,2,3,8],[0,1,2,3,4,5,6,7,8,9],[0,1,2,3,4,5,6,7,8,9,10]]) (.seq (r_ x61_28) (.cnd 147 (.draw x61_29 [[],[0],[0,1],[0,1,2],[],[4],[],[6],[],[8],[8,9],[8,9,10],[8,9,10,11],[8,9,10,11,12],[8,9,10,11,12,13],[6,7,8,9,10,11,12,13,14],[0,1,2,3],[0,1,2,3,16],[0,1,2,3,4,5,6,7,8,9,10,11,12,13,14,15,16,17],[0,1,2,3,4,5,6,7,8,9,10,11,12,13,14,15,16,17,18]]) (.seq (r_ x61_30) (.cnd 169 (.draw x61_31 [[],[0],[0,1],[0,1,2],[],[4],[],[],[7],[7,8],[7,8,9],[7,8,9,10],[7,8,9,10,11],[7,8,9,10,11,12],[],[7,8,9,10,11,12,13,14],[0,1,2,3],[0,1,2,3,16],[0,1,2,3,4,5,6,7,8,9,10,11,12,13,16,17],[0,1,2,3,4,5,6,7,8,9,10,11,12,13,16,17,18],[0,1,2,3,4,5,6,7,8,9,10,11,12,13,14,15,16,17,18,19]]) (.seq (r_ x61_32) (.cnd 191 (.draw x61_33 [[],[0],[0,1],[0,1,2],[],[4],[],[],[],[7,8],[7,8,9],[0,1,2,3],[0,1,2,3,11],[0,1,2,3,4,5,6,11,12],[0,1,2,3,4,5,6,11,12,13],[0,1,2,3,4,5,6,7,8,9,10,11,12,13,14]]) (r_ x61_34))))))))))
def x61_53:L_:=[q_ 208 (m_ 4)]
def x61_54:L_:=s_ 209 [a_ 0,k_ 209,f_ 0 210,l_ 211,k_ 212,f_ 1 213,o_ (.iaddrA false 32 1 214 (ci_ 0))] [on_ (.store 1 215 (ck_ .u64 0))]
def x61_55:L_:=s_ 216 [a_ 0,k_ 216,f_ 0 217,l_ 218,a_ 7,k_ 219,f_ 33 221] [on_ (.store 1 222 220)]
def x61_59:L_:=[q_ 223 (m_ 4),
 q_ 2 (m_ 223)]
def x61_62:C_:=.seq (.seq (r_ x61_9) (.block 0 (.seq (r_ x61_10) (.cnd 44 (.draw x61_11 [[],[0],[0,1],[0,1,2],[],[4],[],[],[],[8],[8,9],[8,9,10],[],[12],[8,9,10,11],[8,9,10,11,14],[8,9,10,11,12,13,14,15],[8,9,10,11,12,13,14,15,16],[6,7,8,9,10,11,12,13,14,15,16,17],[6,7,8,9,10,11,12,13,14,15,16,17,18],[6,7,8,9,10,11,12,13,14,15,16,17,18,19],[6,7,8,9,10,11,12,13,14,15,16,17,18,19],[0,1,2,3],[0,1,2,3,22],[0,1,2,3,4,5,6,7,8,9,10,11,12,13,14,15,16,17,18,19,20,22,23],[0,1,2,3,4,5,6,7,8,9,10,11,12,13,14,15,16,17,18,19,20,22,23,24]]) (.seq (r_ x61_12) (.cnd 72 (.seq (.seq (r_ x61_13) (.cnd 77 (r_ x61_14) .skip)) (.draw x61_17 [[],[0],[0,1],[0,1,2],[],[4],[],[6],[],[],[6,7,8,9],[6,7,8,9,10],[6,7,8,9,10,11],[6,7,8,9,10,11],[0,1,2,3],[0,1,2,3,14],[0,1,2,3,4,5,6,7,8,9,10,11,12,14,15],[0,1,2,3,4,5,6,7,8,9,10,11,12,14,15,16]])) (.seq (r_ x61_19) (.cnd 102 (r_ x61_20) x61_44)))))))) (.seq (.seq (r_ x61_53) (.cnd 208 (.seq (r_ x61_54) (r_ x61_55)) .skip)) (.seq (r_ x61_59) .ret))
def x61_67:C_:=.seq (r_ x61_0) (.seq (r_ x61_1) (.seq (.seq (r_ x61_2) (.cnd 18 (.seq (r_ x61_3) .ret) .skip)) (.seq (.draw x61_7 [[],[0],[0,1],[0,1,2],[],[4],[0,1,2,3],[0,1,2,3,6],[0,1,2,3,4,5,6,7],[0,1,2,3,4,5,6,7,8],[],[10],[10,11],[0,1,2,3,4,5,6,7,8,9,10,11,12],[0,1,2,3,4,5,6,7,8,9,10,11,12,13]]) (.seq (r_ x61_8) x61_62))))
def x61:C_:=x61_67
theorem fx61:fnx Try.prog 61=some (224,[(2,none)],x61):=by kernel_rfl
def x62_0:L_:=[q_ 3 (.box 0),
 q_ 6 (.mv bf_)]
def x62_1:L_:=s_ 7 [a_ 1,a_ 2,o_ (.conv .u64 8),b_ .rem 7 9,b_ .eql 10 (ck_ .u64 0),a_ 11] (sg_ 13 12 true [a_ 1,f_ 0 3,l_ 14,n_ 15,o_ (.conv .u64 16),b_ .lss 13 17] ((⟨(some 19),.pick 12 18 bf_,none⟩) :: (q_ 20 (m_ 19)) :: sg_ 21 20 true [a_ 1,o_ (.conv .i64 21),a_ 2,b_ .add 22 23,f_ 0 3,l_ 25,n_ 26,b_ .leq 24 27] [⟨(some 29),.pick 20 28 bf_,none⟩,q_ 6 (m_ 29)]))
def x62_3:C_:=.seq (r_ x62_0) (.seq (r_ x62_1) .ret)
def x62:C_:=x62_3
theorem fx62:fnx Try.prog 62=some (30,[(6,none)],x62):=by kernel_rfl
def x63_0:L_:=s_ 2 [o_ (.new (zs_ .i64 5)),v_ bf_] []
def x63_1:L_:=s_ 13 [a_ 0,o_ (.conv .i64 13)] [q_ 4 (m_ 14)]
def x63_2:L_:=s_ 15 [a_ 4,b_ .quo 15 (ci_ 128),b_ .rem 16 (ci_ 32),a_ 4,b_ .quo 18 (ci_ 32768),b_ .rem 19 (ci_ 32),a_ 4,b_ .quo 21 (ci_ 1048576),b_ .rem 22 (ci_ 32)] (s_ 5 [a_ 17,a_ 20,a_ 23] [])
def x63_3:L_:=[q_ 8 (mi_ 1)]
def x63_4:L_:=s_ 24 [a_ 8,b_ .leq 24 (ci_ 55)] []
def x63_7:L_:=s_ 28 [a_ 8,c_ 58 [28]] [q_ 9 (.new [(.int .u8 0),(.int .i64 0),(.int .i64 0),(.int .i64 0)]),on_ (.store 4 9 29)]
def x63_8:L_:=s_ 30 [a_ 8,a_ 5,a_ 6,o_ (.build (zs_ .i64 5) [(0,1,30),(1,1,31),(2,1,32)])] [q_ 10 (.new (zs_ .i64 5)),on_ (.store 5 10 33)]
def x63_9:L_:=s_ 34 [f_ 0 9,o_ (.load (.int .u8) 1 34)] []
def x63_10:L_:=[q_ 39 (.bin .eql 35 (ck_ .u8 82)),
 q_ 38 (m_ 39)]
def x63_11:L_:=s_ 40 [a_ 7,f_ 3 10] [on_ (.store 1 41 40)]
def x63_12:L_:=[q_ 43 (.bin .eql 35 (ck_ .u8 73)),
 q_ 42 (m_ 43)]
def x63_13:L_:=s_ 44 [a_ 4,b_ .quo 44 (ci_ 1048576),c_ 79 [45,(ci_ 4096)],f_ 4 10] [on_ (.store 1 47 46)]
def x63_14:L_:=[q_ 49 (.bin .eql 35 (ck_ .u8 84)),
 q_ 48 (m_ 49)]
def x63_15:L_:=s_ 50 [a_ 4,b_ .quo 50 (ci_ 1048576),b_ .rem 51 (ci_ 64),f_ 4 10] [on_ (.store 1 53 52)]
def x63_16:L_:=[q_ 55 (.bin .eql 35 (ck_ .u8 83)),
 q_ 54 (m_ 55)]
def x63_17:L_:=s_ 56 [a_ 8,a_ 6,a_ 7,a_ 5,a_ 4,b_ .quo 60 (ci_ 33554432),b_ .mul (ci_ 32) 61,b_ .add 59 62,c_ 79 [63,(ci_ 4096)],o_ (.build (zs_ .i64 5) [(0,1,56),(2,1,57),(3,1,58),(4,1,64)])] [on_ (.store 5 10 65)]
def x63_18:L_:=[q_ 67 (.bin .eql 35 (ck_ .u8 66)),
 q_ 66 (m_ 67)]
def x63_19:L_:=s_ 68 [a_ 8,a_ 6,a_ 7,a_ 5,b_ .quo 71 (ci_ 2),b_ .mul 72 (ci_ 2),a_ 4,b_ .quo 74 (ci_ 33554432),b_ .rem 75 (ci_ 64),b_ .mul (ci_ 32) 76,b_ .add 73 77,a_ 5,b_ .rem 79 (ci_ 2),b_ .mul (ci_ 2048) 80,b_ .add 78 81,a_ 4,b_ .quo 83 (ci_ 2147483648),b_ .mul (ci_ 4096) 84,b_ .add 82 85,c_ 79 [86,(ci_ 8192)],o_ (.build (zs_ .i64 5) [(0,1,68),(2,1,69),(3,1,70),(4,1,87)])] [on_ (.store 5 10 88)]
def x63_20:L_:=[q_ 90 (.bin .eql 35 (ck_ .u8 85)),
 q_ 89 (m_ 90)]
def x63_21:L_:=s_ 91 [a_ 8,a_ 5,a_ 4,b_ .quo 93 (ci_ 4096),c_ 79 [94,(ci_ 1048576)],o_ (.build (zs_ .i64 5) [(0,1,91),(1,1,92),(4,1,95)])] [on_ (.store 5 10 96)]
def x63_22:L_:=[q_ 98 (.bin .eql 35 (ck_ .u8 74)),
 q_ 97 (m_ 98)]
def x63_23:L_:=s_ 99 [a_ 8,a_ 5,a_ 4,b_ .quo 101 (ci_ 2097152),b_ .rem 102 (ci_ 1024),b_ .mul (ci_ 2) 103,a_ 4,b_ .quo 105 (ci_ 1048576),b_ .rem 106 (ci_ 2),b_ .mul (ci_ 2048) 107,b_ .add 104 108,a_ 4,b_ .quo 110 (ci_ 4096),b_ .rem 111 (ci_ 256),b_ .mul (ci_ 4096) 112,b_ .add 109 113,a_ 4,b_ .quo 115 (ci_ 2147483648),b_ .mul (ci_ 1048576) 116,b_ .add 114 117,c_ 79 [118,(ci_ 2097152)],o_ (.build (zs_ .i64 5) [(0,1,99),(1,1,100),(4,1,119)])] [on_ (.store 5 10 120)]
def x63_24:L_:=s_ 36 [a_ 8,o_ (.build (zs_ .i64 5) [(0,1,36)])] [on_ (.store 5 10 37)]
def x63_34:C_:=.seq (r_ x63_14) (.cnd 48 (r_ x63_15) (.seq (r_ x63_16) (.cnd 54 (r_ x63_17) (.seq (r_ x63_18) (.cnd 66 (r_ x63_19) (.seq (r_ x63_20) (.cnd 89 (r_ x63_21) (.seq (r_ x63_22) (.cnd 97 (r_ x63_23) (r_ x63_24))))))))))
def x63_41:L_:=s_ 122 [g_ 5 10,c_ 47 [122]] ((q_ 121 (m_ 123)) :: s_ 124 [e_ 121 0,e_ 121 1] (s_ 11 [a_ 124,a_ 125] []))
def x63_42:L_:=s_ 126 [a_ 12,b_ .eql 126 (ci_ 0),a_ 127] (sg_ 129 128 true [a_ 11,a_ 0,b_ .eql 129 130] [⟨(some 132),.pick 128 131 bf_,none⟩])
def x63_43:L_:=[q_ 133 (.load .agg 5 10),
 on_ (.store 5 2 133),
 q_ 3 (.mv bt_)]
def x63_51:C_:=.block 1 (.seq (r_ x63_7) (.seq (r_ x63_8) (.seq (.seq (r_ x63_9) (.block 2 (.seq (r_ x63_10) (.cnd 38 (r_ x63_11) (.seq (r_ x63_12) (.cnd 42 (r_ x63_13) x63_34)))))) (.seq (r_ x63_41) (.seq (r_ x63_42) (.cnd 132 (.seq (r_ x63_43) .ret) .skip))))))
def x63_52:L_:=s_ 26 [a_ 8,b_ .add 26 (ci_ 1)] [q_ 8 (m_ 27)]
def x63_54:C_:=.seq (.seq (r_ x63_4) (.cnd 25 .skip (.exit 0))) (.seq x63_51 (r_ x63_52))
def x63_58:L_:=[q_ 134 (.build (zs_ .i64 5) []),
 on_ (.store 5 2 134),
 q_ 3 (.mv bf_)]
def x63_59:C_:=.seq (r_ x63_58) .ret
def x63_63:C_:=.seq (r_ x63_0) (.seq (r_ x63_1) (.seq (r_ x63_2) (.seq (.seq (r_ x63_3) (.block 0 (.loop x63_54))) x63_59)))
def x63:C_:=x63_63
theorem fx63:fnx Try.prog 63=some (135,[(2,(some (.agg,5))),(3,none)],x63):=by kernel_rfl
def x64_0:L_:=[q_ 3 (.box 0),
 q_ 6 (.mv (ck_ .u64 0))]
def x64_1:L_:=[q_ 7 (.mv (ck_ .u64 0))]
def x64_2:L_:=s_ 9 [a_ 2,b_ .sub 9 (ci_ 1)] [q_ 8 (m_ 10)]
def x64_3:L_:=s_ 11 [a_ 8,b_ .geq 11 (ci_ 0)] []
def x64_6:L_:=s_ 15 [a_ 7,b_ .mul 15 (ck_ .u64 256),f_ 0 3,l_ 17,a_ 1,o_ (.conv .i64 19),a_ 8,b_ .add 20 21,o_ (.iaddrS 1 18 22),o_ (.load (.int .u8) 1 23),o_ (.conv .u64 24),b_ .add 16 25] [q_ 7 (m_ 26)]
def x64_8:L_:=s_ 13 [a_ 8,b_ .sub 13 (ci_ 1)] [q_ 8 (m_ 14)]
def x64_10:C_:=.seq (.seq (r_ x64_3) (.cnd 12 .skip (.exit 0))) (.seq (.block 1 (r_ x64_6)) (r_ x64_8))
def x64_14:L_:=[q_ 27 (m_ 7),
 q_ 6 (m_ 27)]
def x64_15:C_:=.seq (r_ x64_14) .ret
def x64_18:C_:=.seq (r_ x64_0) (.seq (r_ x64_1) (.seq (.seq (r_ x64_2) (.block 0 (.loop x64_10))) x64_15))
def x64:C_:=x64_18
theorem fx64:fnx Try.prog 64=some (28,[(6,none)],x64):=by kernel_rfl
def x65_0:L_:=[q_ 2 (.mv (ck_ .u64 0))]
def x65_1:L_:=s_ 3 [a_ 0,b_ .lss 3 (ci_ 0)] []
def x65_2:L_:=s_ 5 [a_ 0,o_ (.un .neg 5),o_ (.conv .u64 6),b_ .sub (ck_ .u64 0) 7] [q_ 2 (m_ 8)]
def x65_6:L_:=s_ 9 [a_ 0,o_ (.conv .u64 9)] [q_ 2 (m_ 10)]
def x65_9:C_:=.seq (r_ x65_0) (.seq (.seq (r_ x65_1) (.cnd 4 (.seq (r_ x65_2) .ret) .skip)) (.seq (r_ x65_6) .ret))
def x65:C_:=x65_9
theorem fx65:fnx Try.prog 65=some (11,[(2,none)],x65):=by kernel_rfl
def x66_0:L_:=[q_ 3 (.box 0),
 q_ 6 (.new [(.slice none 0 0),(.int .u64 0),(.int .u64 0),(.int .u64 0),(.int .u64 0),(.int .u64 0),(.int .u64 0),(.int .u64 0),(.int .u64 0),(.int .u64 0),(.int .u64 0),(.int .u64 0),(.int .u64 0),(.int .u64 0),(.int .u64 0),(.int .u64 0),(.int .u64 0),(.int .u64 0),(.int .u64 0),(.int .u64 0),(.int .u64 0),(.int .u64 0),(.int .u64 0),(.int .u64 0),(.int .u64 0),(.int .u64 0),(.int .u64 0),(.int .u64 0),(.int .u64 0),(.int .u64 0),(.int .u64 0),(.int .u64 0),(.int .u64 0),(.int .u64 0),(.int .i64 0),(.int .u8 0)])]
def x66_1:L_:=s_ 7 [a_ 1,b_ .gtr 7 (ci_ 0)] []
def x66_2:L_:=s_ 9 [a_ 1,a_ 2,f_ 1 3,o_ (.iaddrA true 32 1 11 9)] [on_ (.store 1 12 10)]
def x66_5:L_:=[q_ 13 (.load .agg 36 3),
 on_ (.store 36 6 13)]
def x66_8:C_:=.seq (r_ x66_0) (.seq (.seq (r_ x66_1) (.cnd 8 (r_ x66_2) .skip)) (.seq (r_ x66_5) .ret))
def x66:C_:=x66_8
theorem fx66:fnx Try.prog 66=some (14,[(6,(some (.agg,36)))],x66):=by kernel_rfl
def x67_0:L_:=[q_ 6 (.mv (ck_ .u64 0))]
def x67_1:L_:=s_ 10 [a_ 0,a_ 1,a_ 2,c_ 80 [10,11,12]] ((q_ 9 (m_ 13)) :: s_ 14 [e_ 9 0,e_ 9 1] (s_ 7 [a_ 14,a_ 15] []))
def x67_2:L_:=[q_ 16 (m_ 7),
 q_ 6 (m_ 16)]
def x67_5:C_:=.seq (r_ x67_0) (.seq (r_ x67_1) (.seq (r_ x67_2) .ret))
def x67:C_:=x67_5
theorem fx67:fnx Try.prog 67=some (17,[(6,none)],x67):=by kernel_rfl
def x68_0:L_:=s_ 3 [o_ (.box 0),o_ (.box 1),o_ (.box 2),o_ (.new [(.slice none 0 0),(.int .u64 0),(.int .u64 0),(.int .u64 0),(.int .u64 0),(.int .u64 0),(.int .u64 0),(.int .u64 0),(.int .u64 0),(.int .u64 0),(.int .u64 0),(.int .u64 0),(.int .u64 0),(.int .u64 0),(.int .u64 0),(.int .u64 0),(.int .u64 0),(.int .u64 0),(.int .u64 0),(.int .u64 0),(.int .u64 0),(.int .u64 0),(.int .u64 0),(.int .u64 0),(.int .u64 0),(.int .u64 0),(.int .u64 0),(.int .u64 0),(.int .u64 0),(.int .u64 0),(.int .u64 0),(.int .u64 0),(.int .u64 0),(.int .u64 0),(.int .i64 0),(.int .u8 0)]),o_ (.new [(.slice none 0 0),(.slice none 0 0),(.int .i64 0),(.slice none 0 0)]),v_ bf_] []
def x68_1:L_:=[q_ 9 (mi_ 1)]
def x68_2:L_:=s_ 15 [f_ 0 5,li_ 15,b_ .eql 16 (ci_ 40),a_ 17] (sg_ 19 18 false [f_ 0 5,li_ 19,b_ .eql 20 (ci_ 43)] [⟨(some 22),.pick 18 bt_ 21,none⟩])
def x68_3:L_:=[q_ 9 (mi_ 4)]
def x68_6:L_:=s_ 23 [f_ 0 5,li_ 23,b_ .eql 24 (ci_ 41),a_ 25] (sg_ 27 26 false [f_ 0 5,li_ 27,b_ .eql 28 (ci_ 44)] [⟨(some 30),.pick 26 bt_ 29,none⟩])
def x68_7:L_:=[q_ 9 (mi_ 8)]
def x68_10:L_:=s_ 31 [f_ 2 5,li_ 31,f_ 1 3,o_ (.iaddrA true 32 1 33 32),lu_ 34,f_ 4 5,li_ 36,c_ 65 [37],b_ .add 35 38] [q_ 10 (m_ 39)]
def x68_11:L_:=s_ 40 [g_ 36 3,a_ 10,a_ 9,c_ 62 [40,41,42],o_ (.un .not 43)] []
def x68_12:L_:=s_ 45 [g_ 36 3,g_ 4 4] [on_ (.store 36 6 45),on_ (.store 4 7 46),q_ 8 (.mv bf_)]
def x68_16:L_:=s_ 47 [f_ 3 4,l_ 47,f_ 33 3,lu_ 49,a_ 10,a_ 9,f_ 0 5,li_ 53,b_ .geq 54 (ci_ 42),o_ (.build [(.int .u64 0),(.int .u64 0),(.int .i64 0),(.bool false)] [(0,1,50),(1,1,51),(2,1,52),(3,1,55)]),o_ (.mkslice [(.int .u64 0),(.int .u64 0),(.int .i64 0),(.bool false)] 1 [(0,56)]),o_ (.app 4 32 48 57),f_ 3 4] [on_ (.store 1 59 58)]
def x68_17:L_:=s_ 60 [f_ 0 5,li_ 60,b_ .geq 61 (ci_ 42)] []
def x68_18:L_:=s_ 63 [f_ 3 5,li_ 63,f_ 1 3,o_ (.iaddrA true 32 1 65 64),lu_ 66] [q_ 11 (m_ 67)]
def x68_19:L_:=[q_ 12 (mi_ 0)]
def x68_20:L_:=s_ 68 [a_ 12,a_ 9,b_ .lss 68 69] []
def x68_23:L_:=s_ 73 [f_ 0 3,l_ 73,a_ 10,o_ (.conv .i64 75),a_ 12,b_ .add 76 77,a_ 11,b_ .rem 79 (ck_ .u64 256),o_ (.conv .u8 80),o_ (.iaddrS 1 74 78)] [on_ (.store 1 82 81)]
def x68_24:L_:=s_ 83 [a_ 11,b_ .quo 83 (ck_ .u64 256)] [q_ 11 (m_ 84)]
def x68_27:L_:=s_ 71 [a_ 12,b_ .add 71 (ci_ 1)] [q_ 12 (m_ 72)]
def x68_29:C_:=.seq (.seq (r_ x68_20) (.cnd 70 .skip (.exit 0))) (.seq (.block 1 (.seq (r_ x68_23) (r_ x68_24))) (r_ x68_27))
def x68_33:L_:=s_ 85 [g_ 36 3,g_ 4 4] [on_ (.store 36 6 85),on_ (.store 4 7 86),q_ 8 (.mv bt_)]
def x68_34:C_:=.seq (.draw x68_33 [[],[],[0],[0,1,2],[0,1,2,3]]) .ret
def x68_39:L_:=s_ 88 [g_ 36 3,a_ 10,a_ 9,c_ 64 [88,89,90],a_ 9,b_ .mul (ci_ 8) 92,f_ 0 5,li_ 94,b_ .neq 95 (ci_ 39),c_ 81 [91,93,96]] ((q_ 87 (m_ 97)) :: s_ 98 [e_ 87 0,e_ 87 1] (s_ 13 [a_ 98,a_ 99] []))
def x68_40:L_:=s_ 100 [g_ 36 3,f_ 1 5,li_ 101,a_ 13,c_ 66 [100,102,103],g_ 4 4] [on_ (.store 36 6 104),on_ (.store 4 7 105),q_ 8 (.mv bt_)]
def x68_42:C_:=.seq (.draw x68_39 [[],[],[],[0,1,2],[],[4],[],[6],[6,7],[0,1,2,3,4,5,6,7,8],[0,1,2,3,4,5,6,7,8,9],[0,1,2,3,4,5,6,7,8,9,10],[0,1,2,3,4,5,6,7,8,9,10],[0,1,2,3,4,5,6,7,8,9,10,11],[0,1,2,3,4,5,6,7,8,9,10,11,12,13]]) (.seq (.draw x68_40 [[],[],[1],[],[0,1,2,3],[],[0,1,2,3,4],[0,1,2,3,4,5,6],[0,1,2,3,4,5,6,7]]) .ret)
def x68_45:C_:=.seq (.seq (r_ x68_11) (.cnd 44 (.seq (.draw x68_12 [[],[],[0],[0,1,2],[0,1,2,3]]) .ret) .skip)) (.seq (r_ x68_16) (.seq (.seq (r_ x68_17) (.cnd 62 (.seq (r_ x68_18) (.seq (.seq (r_ x68_19) (.block 0 (.loop x68_29))) x68_34)) .skip)) x68_42))
def x68_50:C_:=.seq (r_ x68_0) (.seq (r_ x68_1) (.seq (.seq (r_ x68_2) (.cnd 22 (r_ x68_3) .skip)) (.seq (.seq (r_ x68_6) (.cnd 30 (r_ x68_7) .skip)) (.seq (.draw x68_10 [[],[0],[],[0,1,2],[0,1,2,3],[],[5],[5,6],[0,1,2,3,4,5,6,7],[0,1,2,3,4,5,6,7,8]]) x68_45))))
def x68:C_:=x68_50
theorem fx68:fnx Try.prog 68=some (106,[(6,(some (.agg,36))),(7,(some (.agg,4))),(8,none)],x68):=by kernel_rfl
def x69_0:L_:=[q_ 6 (.mv bf_)]
def x69_1:L_:=[q_ 7 (m_ 0)]
def x69_2:L_:=[q_ 9 (.bin .eql 7 (ci_ 45)),
 q_ 8 (m_ 9)]
def x69_3:L_:=s_ 10 [a_ 1,a_ 2,b_ .eql 10 11] [q_ 6 (m_ 12)]
def x69_5:L_:=[q_ 14 (.bin .eql 7 (ci_ 46)),
 q_ 13 (m_ 14)]
def x69_6:L_:=s_ 15 [a_ 1,a_ 2,b_ .neq 15 16] [q_ 6 (m_ 17)]
def x69_8:L_:=[q_ 19 (.bin .eql 7 (ci_ 47)),
 q_ 18 (m_ 19)]
def x69_9:L_:=s_ 20 [a_ 1,a_ 2,c_ 82 [20,21]] [q_ 6 (m_ 22)]
def x69_11:L_:=[q_ 24 (.bin .eql 7 (ci_ 48)),
 q_ 23 (m_ 24)]
def x69_12:L_:=s_ 25 [a_ 1,a_ 2,c_ 82 [25,26],o_ (.un .not 27)] [q_ 6 (m_ 28)]
def x69_14:L_:=[q_ 30 (.bin .eql 7 (ci_ 49)),
 q_ 29 (m_ 30)]
def x69_15:L_:=s_ 31 [a_ 1,a_ 2,b_ .lss 31 32] [q_ 6 (m_ 33)]
def x69_25:C_:=.cnd 8 (.seq (r_ x69_3) .ret) (.seq (r_ x69_5) (.cnd 13 (.seq (r_ x69_6) .ret) (.seq (r_ x69_8) (.cnd 18 (.seq (r_ x69_9) .ret) (.seq (r_ x69_11) (.cnd 23 (.seq (r_ x69_12) .ret) (.seq (r_ x69_14) (.cnd 29 (.seq (r_ x69_15) .ret) .skip))))))))
def x69_29:L_:=s_ 34 [a_ 1,a_ 2,b_ .geq 34 35] [q_ 6 (m_ 36)]
def x69_32:C_:=.seq (r_ x69_0) (.seq (.seq (r_ x69_1) (.block 0 (.seq (r_ x69_2) x69_25))) (.seq (r_ x69_29) .ret))
def x69:C_:=x69_32
theorem fx69:fnx Try.prog 69=some (37,[(6,none)],x69):=by kernel_rfl
def x70_0:L_:=s_ 2 [o_ (.box 0),o_ (.box 1),o_ (.new [(.slice none 0 0),(.int .u64 0),(.int .u64 0),(.int .u64 0),(.int .u64 0),(.int .u64 0),(.int .u64 0),(.int .u64 0),(.int .u64 0),(.int .u64 0),(.int .u64 0),(.int .u64 0),(.int .u64 0),(.int .u64 0),(.int .u64 0),(.int .u64 0),(.int .u64 0),(.int .u64 0),(.int .u64 0),(.int .u64 0),(.int .u64 0),(.int .u64 0),(.int .u64 0),(.int .u64 0),(.int .u64 0),(.int .u64 0),(.int .u64 0),(.int .u64 0),(.int .u64 0),(.int .u64 0),(.int .u64 0),(.int .u64 0),(.int .u64 0),(.int .u64 0),(.int .i64 0),(.int .u8 0)]),o_ (.new [(.slice none 0 0),(.slice none 0 0),(.int .i64 0),(.slice none 0 0)]),v_ bf_] []
def x70_1:L_:=s_ 7 [f_ 1 2,o_ (.iaddrA false 32 1 7 (ci_ 17)),lu_ 8] []
def x70_2:L_:=[q_ 13 (.bin .eql 9 (ck_ .u64 1)),
 q_ 12 (m_ 13)]
def x70_3:L_:=s_ 14 [f_ 1 3,l_ 14,f_ 1 2,o_ (.iaddrA false 32 1 16 (ci_ 10)),lu_ 17,b_ .rem 18 (ck_ .u64 256),o_ (.conv .u8 19),o_ (.mkslice [(.int .u8 0)] 1 [(0,20)]),o_ (.app 1 1 15 21),f_ 1 3] [on_ (.store 1 23 22)]
def x70_4:L_:=[q_ 25 (.bin .eql 9 (ck_ .u64 2)),
 q_ 24 (m_ 25)]
def x70_5:L_:=s_ 26 [c_ 65 [(ci_ (-1))],f_ 1 2,o_ (.iaddrA false 32 1 27 (ci_ 10))] [on_ (.store 1 28 26)]
def x70_6:L_:=s_ 29 [f_ 0 3,l_ 29,n_ 30,b_ .gtr 31 (ci_ 0)] []
def x70_7:L_:=s_ 33 [f_ 0 3,l_ 33,o_ (.iaddrS 1 34 (ci_ 0)),o_ (.load (.int .u8) 1 35),o_ (.conv .u64 36),f_ 1 2,o_ (.iaddrA false 32 1 38 (ci_ 10))] [on_ (.store 1 39 37)]
def x70_8:L_:=s_ 40 [f_ 0 3,l_ 40,o_ (.slS 1 41 (some (ci_ 1)) none),f_ 0 3] [on_ (.store 1 43 42)]
def x70_13:L_:=[q_ 45 (.bin .eql 9 (ck_ .u64 3)),
 q_ 44 (m_ 45)]
def x70_14:L_:=[q_ 46 (.faddr 34 2),
 on_ (.store 1 46 (ci_ 1))]
def x70_15:L_:=s_ 47 [f_ 1 2,o_ (.iaddrA false 32 1 47 (ci_ 10)),lu_ 48,b_ .rem 49 (ck_ .u64 256),o_ (.conv .u8 50),f_ 35 2] [on_ (.store 1 52 51)]
def x70_17:L_:=[q_ 54 (.bin .eql 9 (ck_ .u64 4)),
 q_ 53 (m_ 54)]
def x70_18:L_:=[q_ 55 (.faddr 34 2),
 on_ (.store 1 55 (ci_ 2))]
def x70_19:L_:=[q_ 57 (.bin .eql 9 (ck_ .u64 5)),
 q_ 56 (m_ 57)]
def x70_20:L_:=[q_ 58 (.faddr 34 2),
 on_ (.store 1 58 (ci_ 3))]
def x70_21:L_:=s_ 10 [g_ 36 2,g_ 4 3] [on_ (.store 36 4 10),on_ (.store 4 5 11),q_ 6 (.mv bf_)]
def x70_31:C_:=.cnd 12 (r_ x70_3) (.seq (r_ x70_4) (.cnd 24 (.seq (r_ x70_5) (.seq (r_ x70_6) (.cnd 32 (.seq (r_ x70_7) (r_ x70_8)) .skip))) (.seq (r_ x70_13) (.cnd 44 (.seq (r_ x70_14) (r_ x70_15)) (.seq (r_ x70_17) (.cnd 53 (r_ x70_18) (.seq (r_ x70_19) (.cnd 56 (r_ x70_20) (.seq (.draw x70_21 [[],[],[0],[0,1,2],[0,1,2,3]]) .ret)))))))))
def x70_35:L_:=s_ 59 [g_ 36 2,g_ 4 3] [on_ (.store 36 4 59),on_ (.store 4 5 60),q_ 6 (.mv bt_)]
def x70_38:C_:=.seq (r_ x70_0) (.seq (.seq (r_ x70_1) (.block 0 (.seq (r_ x70_2) x70_31))) (.seq (.draw x70_35 [[],[],[0],[0,1,2],[0,1,2,3]]) .ret))
def x70:C_:=x70_38
theorem fx70:fnx Try.prog 70=some (61,[(4,(some (.agg,36))),(5,(some (.agg,4))),(6,none)],x70):=by kernel_rfl
def x72_0:L_:=s_ 2 [o_ (.new (zs_ .i64 5)),v_ bf_] []
def x72_1:L_:=s_ 11 [a_ 0,a_ 0,k_ 12,f_ 33 13,lu_ 14,c_ 83 [11,15,(ci_ 4)]] ((q_ 10 (m_ 16)) :: s_ 17 [e_ 10 0,e_ 10 1] (s_ 4 [a_ 17,a_ 18] []))
def x72_2:L_:=s_ 19 [a_ 5,o_ (.un .not 19)] []
def x72_3:L_:=[q_ 21 (.build (zs_ .i64 5) []),
 on_ (.store 5 2 21),
 q_ 3 (.mv bf_)]
def x72_7:L_:=s_ 22 [a_ 4,c_ 84 [22],o_ (.conv .u32 23)] [q_ 6 (m_ 24)]
def x72_8:L_:=s_ 26 [a_ 0,k_ 26,f_ 36 27,l_ 28,a_ 6,o_ (.lookup 35 26 (.int .u32) (.agg #[(.int .i64 0),(.int .i64 0),(.int .i64 0),(.int .i64 0),(.int .i64 0)]) true 29 30)] ((q_ 25 (m_ 31)) :: s_ 32 [e_ 25 0,e_ 25 1] [q_ 7 (.new (zs_ .i64 5)),on_ (.store 5 7 32),q_ 8 (m_ 33)])
def x72_9:L_:=s_ 34 [a_ 8,o_ (.un .not 34)] []
def x72_10:L_:=[q_ 9 (mi_ 0)]
def x72_11:L_:=s_ 37 [a_ 6,c_ 20 [37]] ((q_ 36 (m_ 38)) :: s_ 39 [e_ 36 0,e_ 36 1] [on_ (.store 5 7 39),q_ 9 (m_ 40)])
def x72_12:L_:=s_ 41 [a_ 9,b_ .neq 41 (ci_ 0)] []
def x72_13:L_:=[q_ 43 (.load .agg 5 7),
 on_ (.store 5 2 43),
 q_ 3 (.mv bf_)]
def x72_18:L_:=s_ 44 [a_ 0,k_ 44,f_ 36 45,l_ 46,a_ 6,g_ 5 7] [on_ (.mapupd 35 26 (.int .u32) 47 48 49)]
def x72_23:L_:=[q_ 50 (.load .agg 5 7),
 on_ (.store 5 2 50),
 q_ 3 (.mv bt_)]
def x72_26:C_:=.seq (r_ x72_8) (.seq (.seq (r_ x72_9) (.cnd 35 (.seq (r_ x72_10) (.seq (.seq (r_ x72_11) (.seq (r_ x72_12) (.cnd 42 (.seq (r_ x72_13) .ret) .skip))) (.draw x72_18 [[],[0],[0,1],[0,1,2],[],[],[0,1,2,3,4,5]]))) .skip)) (.seq (r_ x72_23) .ret))
def x72_30:C_:=.seq (r_ x72_0) (.seq (r_ x72_1) (.seq (.seq (r_ x72_2) (.cnd 20 (.seq (r_ x72_3) .ret) .skip)) (.seq (r_ x72_7) x72_26)))
def x72:C_:=x72_30
theorem fx72:fnx Try.prog 72=some (51,[(2,(some (.agg,5))),(3,none)],x72):=by kernel_rfl
def x73_0:L_:=[q_ 2 (.mv (ck_ .u64 0))]
def x73_1:L_:=s_ 3 [a_ 0,o_ (.conv .u64 3)] [q_ 2 (m_ 4)]
def x73_3:C_:=.seq (r_ x73_0) (.seq (r_ x73_1) .ret)
def x73:C_:=x73_3
theorem fx73:fnx Try.prog 73=some (5,[(2,none)],x73):=by kernel_rfl
def x74_0:L_:=s_ 6 [v_ (ck_ .u64 0),i_ 0] []
def x74_1:L_:=s_ 18 [a_ 0,a_ 1,a_ 2,c_ 85 [18,19,20]] ((q_ 17 (m_ 21)) :: s_ 22 [e_ 17 0,e_ 17 1] (s_ 8 [a_ 22,a_ 23] []))
def x74_2:L_:=[q_ 24 (m_ 9)]
def x74_3:L_:=(q_ 25 (m_ 8)) :: s_ 6 [a_ 25,i_ 0] []
def x74_8:L_:=s_ 27 [a_ 0,a_ 1,a_ 2,c_ 86 [27,28,29]] ((q_ 26 (m_ 30)) :: s_ 31 [e_ 26 0,e_ 26 1] (s_ 10 [a_ 31,a_ 32] []))
def x74_9:L_:=[q_ 33 (m_ 11)]
def x74_10:L_:=(q_ 34 (m_ 10)) :: s_ 6 [a_ 34,i_ 0] []
def x74_15:L_:=s_ 36 [a_ 0,c_ 87 [36]] ((q_ 35 (m_ 37)) :: s_ 38 [e_ 35 0,e_ 35 1,e_ 35 2] (s_ 12 [a_ 38,a_ 39,a_ 40] []))
def x74_16:L_:=s_ 41 [a_ 14,o_ (.un .not 41)] []
def x74_17:L_:=s_ 6 [v_ (ck_ .u64 0),i_ 1] []
def x74_21:L_:=s_ 44 [a_ 1,a_ 13,c_ 36 [44,(ci_ 32),45]] ((q_ 43 (m_ 46)) :: s_ 47 [e_ 43 0,e_ 43 1] [q_ 1 (m_ 47)])
def x74_22:L_:=s_ 50 [a_ 2,a_ 13,c_ 36 [50,(ci_ 32),51]] ((q_ 49 (m_ 52)) :: s_ 53 [e_ 49 0,e_ 49 1] [q_ 2 (m_ 53)])
def x74_23:L_:=s_ 55 [a_ 12,b_ .eql 55 (ci_ 3),a_ 56] (sg_ 58 57 false [a_ 12,b_ .eql 58 (ci_ 7)] ((⟨(some 60),.pick 57 bt_ 59,none⟩) :: (q_ 61 (m_ 60)) :: sg_ 62 61 false [a_ 12,b_ .eql 62 (ci_ 8)] [⟨(some 64),.pick 61 bt_ 63,none⟩]))
def x74_24:L_:=s_ 65 [a_ 2,b_ .and 65 (ck_ .u64 31)] [q_ 2 (m_ 66)]
def x74_27:L_:=s_ 68 [a_ 12,a_ 1,a_ 2,c_ 74 [68,69,70]] ((q_ 67 (m_ 71)) :: s_ 72 [e_ 67 0,e_ 67 1] (s_ 15 [a_ 72,a_ 73] []))
def x74_28:L_:=s_ 75 [a_ 15,c_ 36 [75,(ci_ 32),bt_]] ((q_ 74 (m_ 76)) :: s_ 77 [e_ 74 0,e_ 74 1] [q_ 15 (m_ 77)])
def x74_29:L_:=s_ 79 [a_ 15,a_ 16] (s_ 6 [a_ 79,a_ 80] [])
def x74_39:C_:=.seq (.seq (r_ x74_1) (.seq (r_ x74_2) (.cnd 24 (.seq (r_ x74_3) .ret) .skip))) (.seq (.seq (r_ x74_8) (.seq (r_ x74_9) (.cnd 33 (.seq (r_ x74_10) .ret) .skip))) (.seq (r_ x74_15) (.seq (.seq (r_ x74_16) (.cnd 42 (.seq (r_ x74_17) .ret) .skip)) (.seq (r_ x74_21) (.seq (r_ x74_22) (.seq (.seq (r_ x74_23) (.cnd 64 (r_ x74_24) .skip)) (.seq (r_ x74_27) (.seq (r_ x74_28) (.seq (r_ x74_29) .ret)))))))))
def x74_40:C_:=.seq (r_ x74_0) x74_39
def x74:C_:=x74_40
theorem fx74:fnx Try.prog 74=some (81,[(6,none),(7,none)],x74):=by kernel_rfl
def x75_0:L_:=[q_ 2 (mi_ 0)]
def x75_1:L_:=s_ 3 [o_ (.build (zs_ .i64 10) [(0,1,(ci_ 1)),(1,1,(ci_ 4)),(2,1,(ci_ 5)),(3,1,(ci_ 6)),(4,1,(ci_ 9)),(5,1,(ci_ 10)),(6,1,(ci_ 3)),(7,1,(ci_ 7)),(8,1,(ci_ 8)),(9,1,(ci_ 18))]),a_ 0,b_ .sub 4 (ci_ 28),o_ (.idxA 10 1 (.int .i64) 3 5)] [q_ 2 (m_ 6)]
def x75_3:C_:=.seq (r_ x75_0) (.seq (r_ x75_1) .ret)
def x75:C_:=x75_3
theorem fx75:fnx Try.prog 75=some (7,[(2,none)],x75):=by kernel_rfl
def x76_0:L_:=s_ 3 [o_ (.box 1),v_ bf_] []
def x76_1:L_:=s_ 11 [f_ 0 3,li_ 11,c_ 88 [12]] [q_ 5 (m_ 13)]
def x76_2:L_:=s_ 14 [a_ 0,k_ 14,f_ 0 15,l_ 16,f_ 2 3,li_ 18,k_ 17,f_ 1 20,o_ (.iaddrA true 32 1 21 19),lu_ 22,f_ 4 3,li_ 24,c_ 73 [25],b_ .add 23 26] [q_ 6 (m_ 27)]
def x76_3:L_:=s_ 29 [a_ 0,k_ 29,f_ 0 30,l_ 31,a_ 6,a_ 5,c_ 83 [32,33,34]] ((q_ 28 (m_ 35)) :: s_ 36 [e_ 28 0,e_ 28 1] (s_ 7 [a_ 36,a_ 37] []))
def x76_4:L_:=s_ 38 [a_ 8,o_ (.un .not 38)] []
def x76_5:L_:=[q_ 4 (.mv bf_)]
def x76_8:C_:=.seq (r_ x76_4) (.cnd 39 (.seq (r_ x76_5) .ret) .skip)
def x76_9:L_:=s_ 40 [f_ 0 3,li_ 40,b_ .geq 41 (ci_ 42)] [q_ 9 (m_ 42)]
def x76_10:L_:=s_ 43 [a_ 0,k_ 43,f_ 4 44,o_ (.load .bool 1 45)] []
def x76_11:L_:=s_ 47 [a_ 0,a_ 0,k_ 48,f_ 5 49,l_ 50,a_ 0,k_ 52,f_ 0 53,l_ 54,k_ 55,f_ 33 56,lu_ 57,a_ 6,a_ 5,a_ 9,o_ (.build [(.int .u64 0),(.int .u64 0),(.int .i64 0),(.bool false)] [(0,1,58),(1,1,59),(2,1,60),(3,1,61)]),o_ (.mkslice [(.int .u64 0),(.int .u64 0),(.int .i64 0),(.bool false)] 1 [(0,62)]),o_ (.app 4 32 51 63),k_ 47,f_ 5 65] [on_ (.store 1 66 64)]
def x76_13:C_:=.seq (r_ x76_10) (.cnd 46 (.draw x76_11 [[],[],[1],[1,2],[1,2,3],[],[5],[5,6],[5,6,7],[5,6,7,8],[5,6,7,8,9],[5,6,7,8,9,10],[],[],[],[5,6,7,8,9,10,11,12,13,14],[5,6,7,8,9,10,11,12,13,14,15],[1,2,3,4,5,6,7,8,9,10,11,12,13,14,15,16],[0,1,2,3,4,5,6,7,8,9,10,11,12,13,14,15,16,17],[0,1,2,3,4,5,6,7,8,9,10,11,12,13,14,15,16,17,18],[0,1,2,3,4,5,6,7,8,9,10,11,12,13,14,15,16,17,18,19]]) .skip)
def x76_14:L_:=[q_ 67 (m_ 9)]
def x76_15:L_:=s_ 68 [a_ 7,n_ 68,i_ 0] []
def x76_16:L_:=[q_ 71 (.bin .lss 70 69)]
def x76_18:L_:=[q_ 72 (m_ 70),
 q_ 10 (m_ 72)]
def x76_19:L_:=s_ 73 [a_ 7,a_ 10,a_ 0,k_ 75,f_ 0 76,l_ 77,f_ 3 3,li_ 79,k_ 78,f_ 1 81,o_ (.iaddrA true 32 1 82 80),lu_ 83,a_ 10,b_ .mul (ci_ 8) 85,b_ .shr 84 86,o_ (.conv .u8 87),o_ (.iaddrS 1 73 74)] [on_ (.store 1 89 88)]
def x76_22:L_:=[q_ 90 (.bin .add 70 (ci_ 1)),
 q_ 70 (m_ 90)]
def x76_25:C_:=.seq (r_ x76_16) (.seq (.cnd 71 .skip (.exit 0)) (.seq (.block 1 (.seq (r_ x76_18) (.draw x76_19 [[],[],[],[2],[2,3],[2,3,4],[],[6],[2,3,4,5],[2,3,4,5,8],[2,3,4,5,6,7,8,9],[2,3,4,5,6,7,8,9,10],[],[12],[2,3,4,5,6,7,8,9,10,11,12,13],[2,3,4,5,6,7,8,9,10,11,12,13,14],[0,1,2,3,4,5,6,7,8,9,10,11,12,13,14,15],[0,1,2,3,4,5,6,7,8,9,10,11,12,13,14,15,16]]))) (r_ x76_22)))
def x76_29:L_:=[q_ 4 (.mv bt_)]
def x76_30:C_:=.seq (r_ x76_29) .ret
def x76_33:C_:=.seq (r_ x76_14) (.cnd 67 (.seq (.seq (r_ x76_15) (.block 0 (.loop x76_25))) x76_30) .skip)
def x76_34:L_:=s_ 92 [a_ 0,k_ 92,f_ 0 93,l_ 94,f_ 1 3,li_ 96,a_ 7,c_ 84 [98],a_ 5,b_ .mul (ci_ 8) 100,f_ 0 3,li_ 102,b_ .neq 103 (ci_ 39),c_ 36 [99,101,104]] ((q_ 91 (m_ 105)) :: s_ 106 [e_ 91 0,e_ 91 1,k_ 95,f_ 1 108,o_ (.iaddrA true 32 1 109 97)] [on_ (.store 1 110 106)])
def x76_35:L_:=[q_ 4 (.mv bt_)]
def x76_37:C_:=.seq (.draw x76_34 [[],[0],[0,1],[0,1,2],[],[4],[],[6],[],[8],[],[10],[10,11],[6,7,8,9,10,11,12],[6,7,8,9,10,11,12,13],[6,7,8,9,10,11,12,13,14],[6,7,8,9,10,11,12,13,14],[0,1,2,3],[0,1,2,3,17],[0,1,2,3,4,5,6,7,8,9,10,11,12,13,14,15,17,18],[0,1,2,3,4,5,6,7,8,9,10,11,12,13,14,15,17,18,19]]) (.seq (r_ x76_35) .ret)
def x76_38:C_:=.seq x76_33 x76_37
def x76_41:C_:=.seq x76_8 (.seq (r_ x76_9) (.seq x76_13 x76_38))
def x76_42:C_:=.seq (r_ x76_3) x76_41
def x76_43:C_:=.seq (.draw x76_2 [[],[0],[0,1],[0,1,2],[],[4],[0,1,2,3],[0,1,2,3,6],[0,1,2,3,4,5,6,7],[0,1,2,3,4,5,6,7,8],[],[10],[10,11],[0,1,2,3,4,5,6,7,8,9,10,11,12],[0,1,2,3,4,5,6,7,8,9,10,11,12,13]]) x76_42
def x76_45:C_:=.seq (r_ x76_0) (.seq (r_ x76_1) x76_43)
def x76:C_:=x76_45
theorem fx76:fnx Try.prog 76=some (111,[(4,none)],x76):=by kernel_rfl
def x77_0:L_:=[q_ 6 (.mv bf_)]
def x77_1:L_:=[q_ 7 (m_ 0)]
def x77_2:L_:=[q_ 9 (.bin .eql 7 (ci_ 45)),
 q_ 8 (m_ 9)]
def x77_3:L_:=[q_ 10 (.bin .eql 7 (ci_ 46)),
 q_ 8 (m_ 10)]
def x77_6:L_:=s_ 11 [a_ 1,a_ 2,b_ .eql 11 12,a_ 0,b_ .eql 14 (ci_ 45),o_ (.eqb false 13 15)] [q_ 6 (m_ 16)]
def x77_8:L_:=[q_ 18 (.bin .eql 7 (ci_ 47)),
 q_ 17 (m_ 18)]
def x77_9:L_:=[q_ 19 (.bin .eql 7 (ci_ 48)),
 q_ 17 (m_ 19)]
def x77_12:L_:=s_ 20 [a_ 1,o_ (.conv .i64 20),a_ 2,o_ (.conv .i64 22),b_ .lss 21 23,a_ 0,b_ .eql 25 (ci_ 47),o_ (.eqb false 24 26)] [q_ 6 (m_ 27)]
def x77_20:L_:=s_ 28 [a_ 1,a_ 2,b_ .lss 28 29,a_ 0,b_ .eql 31 (ci_ 49),o_ (.eqb false 30 32)] [q_ 6 (m_ 33)]
def x77_23:C_:=.seq (r_ x77_0) (.seq (.seq (r_ x77_1) (.block 0 (.seq (.seq (r_ x77_2) (.cnd 8 .skip (r_ x77_3))) (.cnd 8 (.seq (r_ x77_6) .ret) (.seq (.seq (r_ x77_8) (.cnd 17 .skip (r_ x77_9))) (.cnd 17 (.seq (r_ x77_12) .ret) .skip)))))) (.seq (r_ x77_20) .ret))
def x77:C_:=x77_23
theorem fx77:fnx Try.prog 77=some (34,[(6,none)],x77):=by kernel_rfl
def x78_0:L_:=[q_ 2 (.mv bf_)]
def x78_1:L_:=s_ 3 [a_ 0,k_ 3,f_ 0 4,l_ 5,k_ 6,f_ 1 7,o_ (.iaddrA false 32 1 8 (ci_ 17)),lu_ 9] []
def x78_2:L_:=[q_ 12 (.bin .eql 10 (ck_ .u64 1)),
 q_ 11 (m_ 12)]
def x78_3:L_:=s_ 13 [a_ 0,a_ 0,k_ 14,f_ 2 15,l_ 16,a_ 0,k_ 18,f_ 0 19,l_ 20,k_ 21,f_ 1 22,o_ (.iaddrA false 32 1 23 (ci_ 10)),lu_ 24,o_ (.conv .u8 25),o_ (.mkslice [(.int .u8 0)] 1 [(0,26)]),o_ (.app 1 1 17 27),k_ 13,f_ 2 29] [on_ (.store 1 30 28)]
def x78_4:L_:=[q_ 32 (.bin .eql 10 (ck_ .u64 2)),
 q_ 31 (m_ 32)]
def x78_5:L_:=s_ 33 [a_ 0,k_ 33,f_ 0 34,l_ 35,k_ 36,f_ 1 37,o_ (.iaddrA false 32 1 38 (ci_ 10))] [on_ (.store 1 39 (ck_ .u64 18446744073709551615))]
def x78_6:L_:=s_ 40 [a_ 0,k_ 40,f_ 1 41,l_ 42,n_ 43,b_ .gtr 44 (ci_ 0)] []
def x78_7:L_:=s_ 46 [a_ 0,k_ 46,f_ 0 47,l_ 48,a_ 0,a_ 0,k_ 51,f_ 1 52,l_ 53,o_ (.iaddrS 1 54 (ci_ 0)),o_ (.load (.int .u8) 1 55),o_ (.conv .u64 56),a_ 0,k_ 58,f_ 1 59,l_ 60,o_ (.slS 1 61 (some (ci_ 1)) none),k_ 49,f_ 1 63,o_ (.iaddrA false 32 1 64 (ci_ 10))] ((on_ (.store 1 65 57)) :: s_ 66 [k_ 50,f_ 1 66] [on_ (.store 1 67 62)])
def x78_11:L_:=[q_ 69 (.bin .eql 10 (ck_ .u64 3)),
 q_ 68 (m_ 69)]
def x78_12:L_:=s_ 70 [a_ 0,k_ 70,f_ 0 71,l_ 72,a_ 0,k_ 74,f_ 0 75,l_ 76,a_ 0,k_ 78,f_ 0 79,l_ 80,k_ 81,f_ 1 82,o_ (.iaddrA false 32 1 83 (ci_ 10)),lu_ 84,o_ (.conv .u8 85),k_ 73,f_ 34 87] ((on_ (.store 1 88 (ci_ 1))) :: s_ 89 [k_ 77,f_ 35 89] [on_ (.store 1 90 86)])
def x78_13:L_:=[q_ 92 (.bin .eql 10 (ck_ .u64 4)),
 q_ 91 (m_ 92)]
def x78_14:L_:=s_ 93 [a_ 0,k_ 93,f_ 0 94,l_ 95,k_ 96,f_ 34 97] [on_ (.store 1 98 (ci_ 2))]
def x78_15:L_:=[q_ 100 (.bin .eql 10 (ck_ .u64 5)),
 q_ 99 (m_ 100)]
def x78_16:L_:=s_ 101 [a_ 0,k_ 101,f_ 0 102,l_ 103,k_ 104,f_ 34 105] [on_ (.store 1 106 (ci_ 3))]
def x78_17:L_:=[q_ 2 (.mv bf_)]
def x78_27:C_:=.cnd 11 (.draw x78_3 [[],[],[1],[1,2],[1,2,3],[],[5],[5,6],[5,6,7],[5,6,7,8],[5,6,7,8,9],[5,6,7,8,9,10],[5,6,7,8,9,10,11],[5,6,7,8,9,10,11,12],[5,6,7,8,9,10,11,12,13],[1,2,3,4,5,6,7,8,9,10,11,12,13,14],[0,1,2,3,4,5,6,7,8,9,10,11,12,13,14,15],[0,1,2,3,4,5,6,7,8,9,10,11,12,13,14,15,16],[0,1,2,3,4,5,6,7,8,9,10,11,12,13,14,15,16,17]]) (.seq (r_ x78_4) (.cnd 31 (.seq (r_ x78_5) (.seq (r_ x78_6) (.cnd 45 (.draw x78_7 [[],[0],[0,1],[0,1,2],[],[],[5],[5,6],[5,6,7],[5,6,7,8],[5,6,7,8,9],[5,6,7,8,9,10],[],[12],[12,13],[12,13,14],[12,13,14,15],[0,1,2,3],[0,1,2,3,17],[0,1,2,3,5,6,7,8,9,10,11,12,13,14,15,17,18],[0,1,2,3,5,6,7,8,9,10,11,12,13,14,15,17,18,19],[0,1,2,3,4,5,6,7,8,9,10,11,12,13,14,15,16,17,18,19,20],[0,1,2,3,4,5,6,7,8,9,10,11,12,13,14,15,16,17,18,19,20,21],[0,1,2,3,4,5,6,7,8,9,10,11,12,13,14,15,16,17,18,19,20,21,22]]) .skip))) (.seq (r_ x78_11) (.cnd 68 (.draw x78_12 [[],[0],[0,1],[0,1,2],[],[4],[4,5],[4,5,6],[],[8],[8,9],[8,9,10],[8,9,10,11],[8,9,10,11,12],[8,9,10,11,12,13],[8,9,10,11,12,13,14],[8,9,10,11,12,13,14,15],[0,1,2,3,4,5,6,7,8,9,10,11,12,13,14,15],[0,1,2,3,4,5,6,7,8,9,10,11,12,13,14,15,17],[0,1,2,3,4,5,6,7,8,9,10,11,12,13,14,15,17,18],[0,1,2,3,4,5,6,7,8,9,10,11,12,13,14,15,16,17,18,19],[0,1,2,3,4,5,6,7,8,9,10,11,12,13,14,15,16,17,18,19,20],[0,1,2,3,4,5,6,7,8,9,10,11,12,13,14,15,16,17,18,19,20,21]]) (.seq (r_ x78_13) (.cnd 91 (r_ x78_14) (.seq (r_ x78_15) (.cnd 99 (r_ x78_16) (.seq (r_ x78_17) .ret)))))))))
def x78_31:L_:=[q_ 2 (.mv bt_)]
def x78_34:C_:=.seq (r_ x78_0) (.seq (.seq (r_ x78_1) (.block 0 (.seq (r_ x78_2) x78_27))) (.seq (r_ x78_31) .ret))
def x78:C_:=x78_34
theorem fx78:fnx Try.prog 78=some (107,[(2,none)],x78):=by kernel_rfl
def x79_0:L_:=[q_ 4 (mi_ 0)]
def x79_1:L_:=s_ 5 [a_ 0,a_ 1,b_ .quo 6 (ci_ 2),b_ .geq 5 7] []
def x79_2:L_:=s_ 9 [a_ 0,a_ 1,b_ .sub 9 10] [q_ 4 (m_ 11)]
def x79_6:L_:=[q_ 12 (m_ 0),
 q_ 4 (m_ 12)]
def x79_9:C_:=.seq (r_ x79_0) (.seq (.seq (r_ x79_1) (.cnd 8 (.seq (r_ x79_2) .ret) .skip)) (.seq (r_ x79_6) .ret))
def x79:C_:=x79_9
theorem fx79:fnx Try.prog 79=some (13,[(4,none)],x79):=by kernel_rfl
def x80_0:L_:=s_ 6 [v_ (ck_ .u64 0),v_ bf_] []
def x80_1:L_:=s_ 12 [a_ 2,b_ .rem 12 (ck_ .u64 64),o_ (.conv .i64 13)] [q_ 8 (m_ 14)]
def x80_2:L_:=[q_ 15 (m_ 0)]
def x80_3:L_:=[q_ 17 (.bin .eql 15 (ci_ 1)),
 q_ 16 (m_ 17)]
def x80_4:L_:=s_ 18 [a_ 1,a_ 2,b_ .add 18 19] (s_ 6 [a_ 20,v_ bt_] [])
def x80_6:L_:=[q_ 22 (.bin .eql 15 (ci_ 2)),
 q_ 21 (m_ 22)]
def x80_7:L_:=s_ 23 [a_ 1,a_ 2,b_ .sub 23 24] (s_ 6 [a_ 25,v_ bt_] [])
def x80_9:L_:=[q_ 27 (.bin .eql 15 (ci_ 3)),
 q_ 26 (m_ 27)]
def x80_10:L_:=s_ 28 [a_ 1,a_ 8,c_ 89 [(ci_ 0),28,29]] (s_ 6 [a_ 30,v_ bt_] [])
def x80_12:L_:=[q_ 32 (.bin .eql 15 (ci_ 4)),
 q_ 31 (m_ 32)]
def x80_13:L_:=s_ 33 [a_ 1,a_ 2,c_ 82 [33,34],c_ 90 [35]] (s_ 6 [a_ 36,v_ bt_] [])
def x80_15:L_:=[q_ 38 (.bin .eql 15 (ci_ 5)),
 q_ 37 (m_ 38)]
def x80_16:L_:=s_ 39 [a_ 1,a_ 2,b_ .lss 39 40,c_ 90 [41]] (s_ 6 [a_ 42,v_ bt_] [])
def x80_18:L_:=[q_ 44 (.bin .eql 15 (ci_ 6)),
 q_ 43 (m_ 44)]
def x80_19:L_:=s_ 45 [a_ 1,a_ 2,c_ 91 [(ci_ 1),45,46]] (s_ 6 [a_ 47,v_ bt_] [])
def x80_21:L_:=[q_ 49 (.bin .eql 15 (ci_ 7)),
 q_ 48 (m_ 49)]
def x80_22:L_:=s_ 50 [a_ 1,a_ 8,c_ 89 [(ci_ 1),50,51]] (s_ 6 [a_ 52,v_ bt_] [])
def x80_24:L_:=[q_ 54 (.bin .eql 15 (ci_ 8)),
 q_ 53 (m_ 54)]
def x80_25:L_:=s_ 55 [a_ 1,a_ 8,c_ 89 [(ci_ 2),55,56]] (s_ 6 [a_ 57,v_ bt_] [])
def x80_27:L_:=[q_ 59 (.bin .eql 15 (ci_ 9)),
 q_ 58 (m_ 59)]
def x80_28:L_:=s_ 60 [a_ 1,a_ 2,c_ 91 [(ci_ 2),60,61]] (s_ 6 [a_ 62,v_ bt_] [])
def x80_30:L_:=[q_ 64 (.bin .eql 15 (ci_ 10)),
 q_ 63 (m_ 64)]
def x80_31:L_:=s_ 65 [a_ 1,a_ 2,c_ 91 [(ci_ 3),65,66]] (s_ 6 [a_ 67,v_ bt_] [])
def x80_33:L_:=[q_ 69 (.bin .eql 15 (ci_ 11)),
 q_ 68 (m_ 69)]
def x80_34:L_:=s_ 70 [a_ 1,a_ 2,b_ .mul 70 71] (s_ 6 [a_ 72,v_ bt_] [])
def x80_36:L_:=[q_ 74 (.bin .eql 15 (ci_ 12)),
 q_ 73 (m_ 74)]
def x80_37:L_:=s_ 75 [a_ 1,c_ 92 [75],a_ 2,c_ 92 [77]] (s_ 9 [a_ 76,a_ 78] [])
def x80_38:L_:=s_ 79 [a_ 9,a_ 10,c_ 93 [79,80]] [q_ 11 (m_ 81)]
def x80_39:L_:=s_ 82 [a_ 1,c_ 94 [82],a_ 2,c_ 94 [84],o_ (.eqb true 83 85),a_ 86] (sg_ 88 87 true [a_ 9,a_ 10,b_ .mul 88 89,b_ .neq 90 (ck_ .u64 0)] [⟨(some 92),.pick 87 91 bf_,none⟩])
def x80_40:L_:=s_ 93 [a_ 11,b_ .sub (ck_ .u64 0) 93,b_ .sub 94 (ck_ .u64 1)] (s_ 6 [a_ 95,v_ bt_] [])
def x80_44:L_:=s_ 96 [a_ 11,a_ 1,c_ 94 [97],a_ 2,c_ 94 [99],o_ (.eqb true 98 100),c_ 95 [96,101]] (s_ 6 [a_ 102,v_ bt_] [])
def x80_49:L_:=[q_ 104 (.bin .eql 15 (ci_ 13)),
 q_ 103 (m_ 104)]
def x80_50:L_:=s_ 105 [a_ 1,a_ 2,c_ 93 [105,106]] (s_ 6 [a_ 107,v_ bt_] [])
def x80_57:C_:=.seq (r_ x80_33) (.cnd 68 (.seq (r_ x80_34) .ret) (.seq (r_ x80_36) (.cnd 73 (.seq (r_ x80_37) (.seq (r_ x80_38) (.seq (.seq (r_ x80_39) (.cnd 92 (.seq (r_ x80_40) .ret) .skip)) (.seq (r_ x80_44) .ret)))) (.seq (r_ x80_49) (.cnd 103 (.seq (r_ x80_50) .ret) .skip)))))
def x80_66:C_:=.cnd 43 (.seq (r_ x80_19) .ret) (.seq (r_ x80_21) (.cnd 48 (.seq (r_ x80_22) .ret) (.seq (r_ x80_24) (.cnd 53 (.seq (r_ x80_25) .ret) (.seq (r_ x80_27) (.cnd 58 (.seq (r_ x80_28) .ret) (.seq (r_ x80_30) (.cnd 63 (.seq (r_ x80_31) .ret) x80_57))))))))
def x80_76:C_:=.cnd 16 (.seq (r_ x80_4) .ret) (.seq (r_ x80_6) (.cnd 21 (.seq (r_ x80_7) .ret) (.seq (r_ x80_9) (.cnd 26 (.seq (r_ x80_10) .ret) (.seq (r_ x80_12) (.cnd 31 (.seq (r_ x80_13) .ret) (.seq (r_ x80_15) (.cnd 37 (.seq (r_ x80_16) .ret) (.seq (r_ x80_18) x80_66)))))))))
def x80_80:L_:=s_ 108 [a_ 0,a_ 1,a_ 2,c_ 96 [108,109,110],e_ 111 0,e_ 111 1] (s_ 6 [a_ 112,a_ 113] [])
def x80_84:C_:=.seq (r_ x80_0) (.seq (r_ x80_1) (.seq (.seq (r_ x80_2) (.block 0 (.seq (r_ x80_3) x80_76))) (.seq (r_ x80_80) .ret)))
def x80:C_:=x80_84
theorem fx80:fnx Try.prog 80=some (114,[(6,none),(7,none)],x80):=by kernel_rfl
def x81_0:L_:=s_ 6 [v_ (ck_ .u64 0),v_ bf_] []
def x81_1:L_:=s_ 9 [a_ 1,b_ .lss 9 (ci_ 1),a_ 10] (sg_ 12 11 false [a_ 1,b_ .gtr 12 (ci_ 64)] [⟨(some 14),.pick 11 bt_ 13,none⟩])
def x81_2:L_:=s_ 6 [v_ (ck_ .u64 0),v_ bf_] []
def x81_6:L_:=s_ 15 [a_ 1,b_ .eql 15 (ci_ 64)] []
def x81_7:L_:=(q_ 17 (m_ 0)) :: s_ 6 [a_ 17,v_ bt_] []
def x81_11:L_:=s_ 18 [a_ 0,a_ 1,c_ 97 [19],b_ .rem 18 20] [q_ 8 (m_ 21)]
def x81_12:L_:=s_ 22 [a_ 2,a_ 22] (sg_ 24 23 true [a_ 8,a_ 1,b_ .sub 25 (ci_ 1)] [⟨(some 27),.callF 97 [26],(some (23,true))⟩,og_ 28 23 true (.bin .geq 24 27),⟨(some 29),.pick 23 28 bf_,none⟩])
def x81_13:L_:=s_ 30 [a_ 8,a_ 1,c_ 97 [31],b_ .sub 30 32] (s_ 6 [a_ 33,v_ bt_] [])
def x81_17:L_:=(q_ 34 (m_ 8)) :: s_ 6 [a_ 34,v_ bt_] []
def x81_23:C_:=.seq (r_ x81_0) (.seq (.seq (r_ x81_1) (.cnd 14 (.seq (r_ x81_2) .ret) .skip)) (.seq (.seq (r_ x81_6) (.cnd 16 (.seq (r_ x81_7) .ret) .skip)) (.seq (r_ x81_11) (.seq (.seq (r_ x81_12) (.cnd 29 (.seq (r_ x81_13) .ret) .skip)) (.seq (r_ x81_17) .ret)))))
def x81:C_:=x81_23
theorem fx81:fnx Try.prog 81=some (35,[(6,none),(7,none)],x81):=by kernel_rfl
def x82_0:L_:=[q_ 4 (.mv bf_)]
def x82_1:L_:=s_ 5 [a_ 0,c_ 94 [5],a_ 1,c_ 94 [7],o_ (.eqb true 6 8)] []
def x82_2:L_:=s_ 10 [a_ 0,c_ 94 [10]] [q_ 4 (m_ 11)]
def x82_6:L_:=s_ 12 [a_ 0,a_ 1,b_ .lss 12 13] [q_ 4 (m_ 14)]
def x82_9:C_:=.seq (r_ x82_0) (.seq (.seq (r_ x82_1) (.cnd 9 (.seq (r_ x82_2) .ret) .skip)) (.seq (r_ x82_6) .ret))
def x82:C_:=x82_9
theorem fx82:fnx Try.prog 82=some (15,[(4,none)],x82):=by kernel_rfl
def x83_0:L_:=s_ 6 [v_ (.const (.slice none 0 0)),v_ bf_] []
def x83_1:L_:=s_ 8 [a_ 1,a_ 2,o_ (.conv .u64 9),b_ .rem 8 10,b_ .neq 11 (ck_ .u64 0),a_ 12] (sg_ 14 13 false [a_ 1,a_ 0,k_ 15,f_ 0 16,l_ 17,n_ 18,o_ (.conv .u64 19),b_ .gtr 14 20] ((⟨(some 22),.pick 13 bt_ 21,none⟩) :: (q_ 23 (m_ 22)) :: sg_ 24 23 false [a_ 0,k_ 24,f_ 0 25,l_ 26,n_ 27,o_ (.conv .u64 28),a_ 1,b_ .sub 29 30,a_ 2,o_ (.conv .u64 32),b_ .lss 31 33] [⟨(some 35),.pick 23 bt_ 34,none⟩]))
def x83_2:L_:=s_ 6 [v_ (.const (.slice none 0 0)),v_ bf_] []
def x83_6:L_:=s_ 36 [a_ 0,k_ 36,f_ 0 37,l_ 38,a_ 1,a_ 1,a_ 2,o_ (.conv .u64 42),b_ .add 41 43,o_ (.slS 1 39 (some 40) (some 44))] (s_ 6 [a_ 45,v_ bt_] [])
def x83_9:C_:=.seq (r_ x83_0) (.seq (.seq (r_ x83_1) (.cnd 35 (.seq (r_ x83_2) .ret) .skip)) (.seq (r_ x83_6) .ret))
def x83:C_:=x83_9
theorem fx83:fnx Try.prog 83=some (46,[(6,none),(7,none)],x83):=by kernel_rfl
def x84_0:L_:=[q_ 2 (.mv (ck_ .u64 0))]
def x84_1:L_:=[q_ 3 (.mv (ck_ .u64 0))]
def x84_2:L_:=s_ 6 [a_ 0,n_ 6,i_ 0] []
def x84_3:L_:=[q_ 9 (.bin .lss 8 7)]
def x84_5:L_:=s_ 10 [a_ 8,o_ (.iaddrS 1 6 8),o_ (.load (.int .u8) 1 11)] (s_ 4 [a_ 10,a_ 12] [])
def x84_6:L_:=s_ 13 [a_ 3,a_ 5,o_ (.conv .u64 14),a_ 4,b_ .mul (ci_ 8) 16,b_ .shl 15 17,b_ .or 13 18] [q_ 3 (m_ 19)]
def x84_9:L_:=[q_ 20 (.bin .add 8 (ci_ 1)),
 q_ 8 (m_ 20)]
def x84_16:L_:=[q_ 21 (m_ 3),
 q_ 2 (m_ 21)]
def x84_19:C_:=.seq (r_ x84_1) (.seq (.seq (r_ x84_2) (.block 0 (.loop (.seq (r_ x84_3) (.seq (.cnd 9 .skip (.exit 0)) (.seq (.block 1 (.seq (r_ x84_5) (r_ x84_6))) (r_ x84_9))))))) (.seq (r_ x84_16) .ret))
def x84_20:C_:=.seq (r_ x84_0) x84_19
def x84:C_:=x84_20
theorem fx84:fnx Try.prog 84=some (22,[(2,none)],x84):=by kernel_rfl
def x85_0:L_:=s_ 6 [v_ (ck_ .u64 0),v_ bf_] []
def x85_1:L_:=s_ 12 [a_ 1,o_ (.conv .i64 12),a_ 2,o_ (.conv .i64 14)] (s_ 8 [a_ 13,a_ 15] [])
def x85_2:L_:=s_ 17 [a_ 1,a_ 2,c_ 98 [17,18]] ((q_ 16 (m_ 19)) :: s_ 20 [e_ 16 0,e_ 16 1] (s_ 10 [a_ 20,a_ 21] []))
def x85_3:L_:=[q_ 22 (m_ 0)]
def x85_4:L_:=[q_ 24 (.bin .eql 22 (ci_ 1)),
 q_ 23 (m_ 24)]
def x85_5:L_:=s_ 25 [a_ 1,a_ 2,b_ .add 25 26] (s_ 6 [a_ 27,v_ bt_] [])
def x85_7:L_:=[q_ 29 (.bin .eql 22 (ci_ 2)),
 q_ 28 (m_ 29)]
def x85_8:L_:=s_ 30 [a_ 1,a_ 2,b_ .sub 30 31] (s_ 6 [a_ 32,v_ bt_] [])
def x85_10:L_:=[q_ 34 (.bin .eql 22 (ci_ 3)),
 q_ 33 (m_ 34)]
def x85_11:L_:=s_ 35 [a_ 1,a_ 2,b_ .and 36 (ck_ .u64 63),b_ .shl 35 37] (s_ 6 [a_ 38,v_ bt_] [])
def x85_13:L_:=[q_ 40 (.bin .eql 22 (ci_ 4)),
 q_ 39 (m_ 40)]
def x85_14:L_:=s_ 41 [a_ 8,a_ 9,b_ .lss 41 42,c_ 99 [43]] (s_ 6 [a_ 44,v_ bt_] [])
def x85_16:L_:=[q_ 46 (.bin .eql 22 (ci_ 5)),
 q_ 45 (m_ 46)]
def x85_17:L_:=s_ 47 [a_ 1,a_ 2,b_ .lss 47 48,c_ 99 [49]] (s_ 6 [a_ 50,v_ bt_] [])
def x85_19:L_:=[q_ 52 (.bin .eql 22 (ci_ 6)),
 q_ 51 (m_ 52)]
def x85_20:L_:=s_ 53 [a_ 1,a_ 2,b_ .xor 53 54] (s_ 6 [a_ 55,v_ bt_] [])
def x85_22:L_:=[q_ 57 (.bin .eql 22 (ci_ 7)),
 q_ 56 (m_ 57)]
def x85_23:L_:=s_ 58 [a_ 1,a_ 2,b_ .and 59 (ck_ .u64 63),b_ .shr 58 60] (s_ 6 [a_ 61,v_ bt_] [])
def x85_25:L_:=[q_ 63 (.bin .eql 22 (ci_ 8)),
 q_ 62 (m_ 63)]
def x85_26:L_:=s_ 64 [a_ 8,a_ 2,b_ .and 65 (ck_ .u64 63),b_ .shr 64 66,o_ (.conv .u64 67)] (s_ 6 [a_ 68,v_ bt_] [])
def x85_28:L_:=[q_ 70 (.bin .eql 22 (ci_ 9)),
 q_ 69 (m_ 70)]
def x85_29:L_:=s_ 71 [a_ 1,a_ 2,b_ .or 71 72] (s_ 6 [a_ 73,v_ bt_] [])
def x85_31:L_:=[q_ 75 (.bin .eql 22 (ci_ 10)),
 q_ 74 (m_ 75)]
def x85_32:L_:=s_ 76 [a_ 1,a_ 2,b_ .and 76 77] (s_ 6 [a_ 78,v_ bt_] [])
def x85_34:L_:=[q_ 80 (.bin .eql 22 (ci_ 11)),
 q_ 79 (m_ 80)]
def x85_35:L_:=(q_ 81 (m_ 11)) :: s_ 6 [a_ 81,v_ bt_] []
def x85_37:L_:=[q_ 83 (.bin .eql 22 (ci_ 13)),
 q_ 82 (m_ 83)]
def x85_38:L_:=(q_ 84 (m_ 10)) :: s_ 6 [a_ 84,v_ bt_] []
def x85_40:L_:=[q_ 86 (.bin .eql 22 (ci_ 12)),
 q_ 85 (m_ 86)]
def x85_41:L_:=s_ 87 [a_ 10,a_ 2,a_ 8,b_ .lss 89 (ci_ 0),c_ 99 [90],b_ .mul 88 91,b_ .sub 87 92,a_ 1,a_ 9,b_ .lss 95 (ci_ 0),c_ 99 [96],b_ .mul 94 97,b_ .sub 93 98] (s_ 6 [a_ 99,v_ bt_] [])
def x85_51:C_:=.cnd 69 (.seq (r_ x85_29) .ret) (.seq (r_ x85_31) (.cnd 74 (.seq (r_ x85_32) .ret) (.seq (r_ x85_34) (.cnd 79 (.seq (r_ x85_35) .ret) (.seq (r_ x85_37) (.cnd 82 (.seq (r_ x85_38) .ret) (.seq (r_ x85_40) (.cnd 85 (.seq (r_ x85_41) .ret) .skip))))))))
def x85_61:C_:=.cnd 39 (.seq (r_ x85_14) .ret) (.seq (r_ x85_16) (.cnd 45 (.seq (r_ x85_17) .ret) (.seq (r_ x85_19) (.cnd 51 (.seq (r_ x85_20) .ret) (.seq (r_ x85_22) (.cnd 56 (.seq (r_ x85_23) .ret) (.seq (r_ x85_25) (.cnd 62 (.seq (r_ x85_26) .ret) (.seq (r_ x85_28) x85_51)))))))))
def x85_71:L_:=s_ 6 [v_ (ck_ .u64 0),v_ bf_] []
def x85_73:C_:=.seq (.seq (r_ x85_3) (.block 0 (.seq (r_ x85_4) (.cnd 23 (.seq (r_ x85_5) .ret) (.seq (r_ x85_7) (.cnd 28 (.seq (r_ x85_8) .ret) (.seq (r_ x85_10) (.cnd 33 (.seq (r_ x85_11) .ret) (.seq (r_ x85_13) x85_61))))))))) (.seq (r_ x85_71) .ret)
def x85_76:C_:=.seq (r_ x85_0) (.seq (r_ x85_1) (.seq (r_ x85_2) x85_73))
def x85:C_:=x85_76
theorem fx85:fnx Try.prog 85=some (100,[(6,none),(7,none)],x85):=by kernel_rfl
def x86_0:L_:=s_ 6 [v_ (ck_ .u64 0),v_ bf_] []
def x86_1:L_:=s_ 10 [a_ 1,o_ (.conv .i64 10),a_ 2,o_ (.conv .i64 12)] (s_ 8 [a_ 11,a_ 13] [])
def x86_2:L_:=[q_ 14 (m_ 0)]
def x86_3:L_:=[q_ 16 (.bin .eql 14 (ci_ 14)),
 q_ 15 (m_ 16)]
def x86_4:L_:=[q_ 17 (.bin .eql 14 (ci_ 15)),
 q_ 15 (m_ 17)]
def x86_7:L_:=s_ 18 [a_ 2,b_ .eql 18 (ck_ .u64 0)] []
def x86_8:L_:=s_ 6 [v_ (ck_ .u64 18446744073709551615),v_ bt_] []
def x86_12:L_:=s_ 20 [a_ 0,b_ .eql 20 (ci_ 15)] []
def x86_13:L_:=s_ 22 [a_ 1,a_ 2,b_ .quo 22 23] (s_ 6 [a_ 24,v_ bt_] [])
def x86_17:L_:=s_ 25 [a_ 8,a_ 9,b_ .quo 25 26,o_ (.conv .u64 27)] (s_ 6 [a_ 28,v_ bt_] [])
def x86_21:L_:=[q_ 30 (.bin .eql 14 (ci_ 16)),
 q_ 29 (m_ 30)]
def x86_22:L_:=[q_ 31 (.bin .eql 14 (ci_ 17)),
 q_ 29 (m_ 31)]
def x86_25:L_:=s_ 32 [a_ 2,b_ .eql 32 (ck_ .u64 0)] []
def x86_26:L_:=(q_ 34 (m_ 1)) :: s_ 6 [a_ 34,v_ bt_] []
def x86_30:L_:=s_ 35 [a_ 0,b_ .eql 35 (ci_ 17)] []
def x86_31:L_:=s_ 37 [a_ 1,a_ 2,b_ .rem 37 38] (s_ 6 [a_ 39,v_ bt_] [])
def x86_35:L_:=s_ 40 [a_ 8,a_ 9,b_ .rem 40 41,o_ (.conv .u64 42)] (s_ 6 [a_ 43,v_ bt_] [])
def x86_43:C_:=.block 0 (.seq (.seq (r_ x86_3) (.cnd 15 .skip (r_ x86_4))) (.cnd 15 (.seq (.seq (r_ x86_7) (.cnd 19 (.seq (r_ x86_8) .ret) .skip)) (.seq (.seq (r_ x86_12) (.cnd 21 (.seq (r_ x86_13) .ret) .skip)) (.seq (r_ x86_17) .ret))) (.seq (.seq (r_ x86_21) (.cnd 29 .skip (r_ x86_22))) (.cnd 29 (.seq (.seq (r_ x86_25) (.cnd 33 (.seq (r_ x86_26) .ret) .skip)) (.seq (.seq (r_ x86_30) (.cnd 36 (.seq (r_ x86_31) .ret) .skip)) (.seq (r_ x86_35) .ret))) .skip))))
def x86_45:L_:=s_ 6 [v_ (ck_ .u64 0),v_ bf_] []
def x86_49:C_:=.seq (r_ x86_0) (.seq (r_ x86_1) (.seq (.seq (r_ x86_2) x86_43) (.seq (r_ x86_45) .ret)))
def x86:C_:=x86_49
theorem fx86:fnx Try.prog 86=some (44,[(6,none),(7,none)],x86):=by kernel_rfl
def x87_0:L_:=s_ 2 [i_ 0,v_ bf_,v_ bf_] []
def x87_1:L_:=[q_ 5 (m_ 0)]
def x87_2:L_:=[q_ 7 (.bin .eql 5 (ci_ 18)),
 q_ 6 (m_ 7)]
def x87_3:L_:=s_ 2 [i_ 1,v_ bt_,v_ bt_] []
def x87_5:L_:=[q_ 9 (.bin .eql 5 (ci_ 19)),
 q_ 8 (m_ 9)]
def x87_6:L_:=s_ 2 [i_ 2,v_ bt_,v_ bt_] []
def x87_8:L_:=[q_ 11 (.bin .eql 5 (ci_ 20)),
 q_ 10 (m_ 11)]
def x87_9:L_:=s_ 2 [i_ 3,v_ bt_,v_ bt_] []
def x87_11:L_:=[q_ 13 (.bin .eql 5 (ci_ 21)),
 q_ 12 (m_ 13)]
def x87_12:L_:=s_ 2 [i_ 7,v_ bf_,v_ bt_] []
def x87_14:L_:=[q_ 15 (.bin .eql 5 (ci_ 22)),
 q_ 14 (m_ 15)]
def x87_15:L_:=s_ 2 [i_ 8,v_ bt_,v_ bt_] []
def x87_17:L_:=[q_ 17 (.bin .eql 5 (ci_ 23)),
 q_ 16 (m_ 17)]
def x87_18:L_:=s_ 2 [i_ 11,v_ bt_,v_ bt_] []
def x87_20:L_:=[q_ 19 (.bin .eql 5 (ci_ 24)),
 q_ 18 (m_ 19)]
def x87_21:L_:=s_ 2 [i_ 14,v_ bt_,v_ bt_] []
def x87_23:L_:=[q_ 21 (.bin .eql 5 (ci_ 25)),
 q_ 20 (m_ 21)]
def x87_24:L_:=s_ 2 [i_ 15,v_ bf_,v_ bt_] []
def x87_26:L_:=[q_ 23 (.bin .eql 5 (ci_ 26)),
 q_ 22 (m_ 23)]
def x87_27:L_:=s_ 2 [i_ 16,v_ bt_,v_ bt_] []
def x87_29:L_:=[q_ 25 (.bin .eql 5 (ci_ 27)),
 q_ 24 (m_ 25)]
def x87_30:L_:=s_ 2 [i_ 17,v_ bf_,v_ bt_] []
def x87_40:C_:=.cnd 16 (.seq (r_ x87_18) .ret) (.seq (r_ x87_20) (.cnd 18 (.seq (r_ x87_21) .ret) (.seq (r_ x87_23) (.cnd 20 (.seq (r_ x87_24) .ret) (.seq (r_ x87_26) (.cnd 22 (.seq (r_ x87_27) .ret) (.seq (r_ x87_29) (.cnd 24 (.seq (r_ x87_30) .ret) .skip))))))))
def x87_50:C_:=.cnd 6 (.seq (r_ x87_3) .ret) (.seq (r_ x87_5) (.cnd 8 (.seq (r_ x87_6) .ret) (.seq (r_ x87_8) (.cnd 10 (.seq (r_ x87_9) .ret) (.seq (r_ x87_11) (.cnd 12 (.seq (r_ x87_12) .ret) (.seq (r_ x87_14) (.cnd 14 (.seq (r_ x87_15) .ret) (.seq (r_ x87_17) x87_40)))))))))
def x87_54:L_:=s_ 2 [i_ 0,v_ bf_,v_ bf_] []
def x87_57:C_:=.seq (r_ x87_0) (.seq (.seq (r_ x87_1) (.block 0 (.seq (r_ x87_2) x87_50))) (.seq (r_ x87_54) .ret))
def x87:C_:=x87_57
theorem fx87:fnx Try.prog 87=some (26,[(2,none),(3,none),(4,none)],x87):=by kernel_rfl
def x88_0:L_:=[q_ 2 (mi_ 0)]
def x88_1:L_:=[q_ 3 (m_ 0)]
def x88_2:L_:=[q_ 5 (.bin .eql 3 (ci_ 40)),
 q_ 4 (m_ 5)]
def x88_3:L_:=[q_ 6 (.bin .eql 3 (ci_ 43)),
 q_ 4 (m_ 6)]
def x88_6:L_:=[q_ 2 (mi_ 4)]
def x88_8:L_:=[q_ 8 (.bin .eql 3 (ci_ 41)),
 q_ 7 (m_ 8)]
def x88_9:L_:=[q_ 9 (.bin .eql 3 (ci_ 44)),
 q_ 7 (m_ 9)]
def x88_12:L_:=[q_ 2 (mi_ 8)]
def x88_20:L_:=[q_ 2 (mi_ 1)]
def x88_23:C_:=.seq (r_ x88_0) (.seq (.seq (r_ x88_1) (.block 0 (.seq (.seq (r_ x88_2) (.cnd 4 .skip (r_ x88_3))) (.cnd 4 (.seq (r_ x88_6) .ret) (.seq (.seq (r_ x88_8) (.cnd 7 .skip (r_ x88_9))) (.cnd 7 (.seq (r_ x88_12) .ret) .skip)))))) (.seq (r_ x88_20) .ret))
def x88:C_:=x88_23
theorem fx88:fnx Try.prog 88=some (10,[(2,none)],x88):=by kernel_rfl
def x89_0:L_:=[q_ 6 (.mv (ck_ .u64 0))]
def x89_1:L_:=s_ 7 [a_ 0,b_ .eql 7 (ci_ 0)] []
def x89_2:L_:=s_ 9 [a_ 1,a_ 2,c_ 97 [10],b_ .mul 9 11] [q_ 6 (m_ 12)]
def x89_6:L_:=s_ 13 [a_ 0,b_ .eql 13 (ci_ 2),a_ 14] [og_ 16 15 true (m_ 1),⟨(some 17),.callF 94 [16],(some (15,true))⟩,⟨(some 18),.pick 15 17 bf_,none⟩]
def x89_7:L_:=s_ 19 [a_ 1,b_ .sub (ck_ .u64 0) 19,a_ 2,c_ 97 [21],b_ .add 20 22,b_ .sub 23 (ck_ .u64 1),a_ 2,c_ 97 [25],b_ .quo 24 26,b_ .sub (ck_ .u64 0) 27] [q_ 6 (m_ 28)]
def x89_11:L_:=s_ 29 [a_ 2,b_ .eql 29 (ci_ 0)] []
def x89_12:L_:=[q_ 31 (m_ 1),
 q_ 6 (m_ 31)]
def x89_16:L_:=s_ 32 [a_ 1,a_ 2,c_ 97 [33],b_ .quo 32 34] [q_ 6 (m_ 35)]
def x89_21:C_:=.seq (r_ x89_0) (.seq (.seq (r_ x89_1) (.cnd 8 (.seq (r_ x89_2) .ret) .skip)) (.seq (.seq (r_ x89_6) (.cnd 18 (.seq (r_ x89_7) .ret) .skip)) (.seq (.seq (r_ x89_11) (.cnd 30 (.seq (r_ x89_12) .ret) .skip)) (.seq (r_ x89_16) .ret))))
def x89:C_:=x89_21
theorem fx89:fnx Try.prog 89=some (36,[(6,none)],x89):=by kernel_rfl
def x90_0:L_:=[q_ 2 (.mv (ck_ .u64 0))]
def x90_1:L_:=[q_ 3 (m_ 0)]
def x90_2:L_:=[q_ 2 (.mv (ck_ .u64 1))]
def x90_6:L_:=[q_ 2 (.mv (ck_ .u64 0))]
def x90_9:C_:=.seq (r_ x90_0) (.seq (.seq (r_ x90_1) (.cnd 3 (.seq (r_ x90_2) .ret) .skip)) (.seq (r_ x90_6) .ret))
def x90:C_:=x90_9
theorem fx90:fnx Try.prog 90=some (4,[(2,none)],x90):=by kernel_rfl
def x91_0:L_:=[q_ 6 (.mv (ck_ .u64 0))]
def x91_1:L_:=[q_ 7 (.mv (ck_ .u64 0))]
def x91_2:L_:=[q_ 8 (mi_ 0)]
def x91_3:L_:=s_ 10 [a_ 8,b_ .lss 10 (ci_ 64)] []
def x91_6:L_:=s_ 14 [a_ 1,a_ 8,c_ 100 [14,15],a_ 2,a_ 8,c_ 100 [17,18],b_ .add 16 19] [q_ 9 (m_ 20)]
def x91_7:L_:=s_ 21 [a_ 0,b_ .eql 21 (ci_ 1),a_ 22] (sg_ 24 23 true [a_ 9,b_ .eql 24 (ck_ .u64 1)] ((⟨(some 26),.pick 23 25 bf_,none⟩) :: (q_ 27 (m_ 26)) :: sg_ 28 27 false [a_ 0,b_ .eql 28 (ci_ 2),a_ 29] (sg_ 31 30 true [a_ 9,b_ .gtr 31 (ck_ .u64 0)] ((⟨(some 33),.pick 30 32 bf_,(some (27,false))⟩) :: (⟨(some 34),.pick 27 bt_ 33,none⟩) :: (q_ 35 (m_ 34)) :: sg_ 36 35 false [a_ 0,b_ .eql 36 (ci_ 3),a_ 37] (sg_ 39 38 true [a_ 9,b_ .eql 39 (ck_ .u64 2)] [⟨(some 41),.pick 38 40 bf_,(some (35,false))⟩,⟨(some 42),.pick 35 bt_ 41,none⟩])))))
def x91_8:L_:=s_ 43 [a_ 7,a_ 8,c_ 97 [44],b_ .add 43 45] [q_ 7 (m_ 46)]
def x91_13:L_:=s_ 12 [a_ 8,b_ .add 12 (ci_ 1)] [q_ 8 (m_ 13)]
def x91_15:C_:=.seq (.seq (r_ x91_3) (.cnd 11 .skip (.exit 0))) (.seq (.block 1 (.seq (r_ x91_6) (.seq (r_ x91_7) (.cnd 42 (r_ x91_8) .skip)))) (r_ x91_13))
def x91_19:L_:=[q_ 47 (m_ 7),
 q_ 6 (m_ 47)]
def x91_20:C_:=.seq (r_ x91_19) .ret
def x91_23:C_:=.seq (r_ x91_0) (.seq (r_ x91_1) (.seq (.seq (r_ x91_2) (.block 0 (.loop x91_15))) x91_20))
def x91:C_:=x91_23
theorem fx91:fnx Try.prog 91=some (48,[(6,none)],x91):=by kernel_rfl
def x92_0:L_:=[q_ 2 (.mv (ck_ .u64 0))]
def x92_1:L_:=s_ 3 [a_ 0,c_ 94 [3]] []
def x92_2:L_:=s_ 5 [a_ 0,b_ .sub (ck_ .u64 0) 5] [q_ 2 (m_ 6)]
def x92_6:L_:=[q_ 7 (m_ 0),
 q_ 2 (m_ 7)]
def x92_9:C_:=.seq (r_ x92_0) (.seq (.seq (r_ x92_1) (.cnd 4 (.seq (r_ x92_2) .ret) .skip)) (.seq (r_ x92_6) .ret))
def x92:C_:=x92_9
theorem fx92:fnx Try.prog 92=some (8,[(2,none)],x92):=by kernel_rfl
def x93_0:L_:=[q_ 4 (.mv (ck_ .u64 0))]
def x93_1:L_:=[q_ 5 (.mv (ck_ .u64 4294967296))]
def x93_2:L_:=s_ 12 [a_ 0,a_ 5,b_ .quo 12 13,a_ 0,a_ 5,b_ .rem 15 16,a_ 1,a_ 5,b_ .quo 18 19,a_ 1,a_ 5,b_ .rem 21 22] (s_ 6 [a_ 14,a_ 17,a_ 20,a_ 23] [])
def x93_3:L_:=s_ 24 [a_ 6,a_ 9,b_ .mul 24 25,a_ 7,a_ 9,b_ .mul 27 28,a_ 5,b_ .quo 29 30,b_ .add 26 31] [q_ 10 (m_ 32)]
def x93_4:L_:=s_ 33 [a_ 7,a_ 8,b_ .mul 33 34,a_ 10,a_ 5,b_ .rem 36 37,b_ .add 35 38] [q_ 11 (m_ 39)]
def x93_5:L_:=s_ 40 [a_ 6,a_ 8,b_ .mul 40 41,a_ 10,a_ 5,b_ .quo 43 44,b_ .add 42 45,a_ 11,a_ 5,b_ .quo 47 48,b_ .add 46 49] [q_ 4 (m_ 50)]
def x93_11:C_:=.seq (r_ x93_0) (.seq (r_ x93_1) (.seq (.draw x93_2 [[],[],[0,1],[],[],[3,4],[],[],[6,7],[],[],[9,10],[0,1,2],[0,1,2,3,4,5,12],[0,1,2,3,4,5,6,7,8,12,13],[0,1,2,3,4,5,6,7,8,9,10,11,12,13,14]]) (.seq (r_ x93_3) (.seq (r_ x93_4) (.seq (.draw x93_5 [[],[],[0,1],[],[],[3,4],[0,1,2,3,4,5],[],[],[7,8],[0,1,2,3,4,5,6,7,8,9],[0,1,2,3,4,5,6,7,8,9,10]]) .ret)))))
def x93:C_:=x93_11
theorem fx93:fnx Try.prog 93=some (51,[(4,none)],x93):=by kernel_rfl
def x94_0:L_:=[q_ 2 (.mv bf_)]
def x94_1:L_:=s_ 3 [a_ 0,b_ .geq 3 (ck_ .u64 9223372036854775808)] [q_ 2 (m_ 4)]
def x94_3:C_:=.seq (r_ x94_0) (.seq (r_ x94_1) .ret)
def x94:C_:=x94_3
theorem fx94:fnx Try.prog 94=some (5,[(2,none)],x94):=by kernel_rfl
def x95_0:L_:=[q_ 4 (.mv (ck_ .u64 0))]
def x95_1:L_:=[q_ 5 (m_ 1)]
def x95_2:L_:=s_ 6 [a_ 0,b_ .sub (ck_ .u64 0) 6] [q_ 4 (m_ 7)]
def x95_6:L_:=[q_ 8 (m_ 0),
 q_ 4 (m_ 8)]
def x95_9:C_:=.seq (r_ x95_0) (.seq (.seq (r_ x95_1) (.cnd 5 (.seq (r_ x95_2) .ret) .skip)) (.seq (r_ x95_6) .ret))
def x95:C_:=x95_9
theorem fx95:fnx Try.prog 95=some (9,[(4,none)],x95):=by kernel_rfl
def x96_0:L_:=s_ 6 [v_ (ck_ .u64 0),v_ bf_] []
def x96_1:L_:=[q_ 16 (m_ 0)]
def x96_2:L_:=[q_ 18 (.bin .eql 16 (ci_ 14)),
 q_ 17 (m_ 18)]
def x96_3:L_:=s_ 19 [a_ 2,b_ .eql 19 (ck_ .u64 0)] []
def x96_4:L_:=s_ 21 [a_ 2,b_ .sub 21 (ck_ .u64 1)] (s_ 6 [a_ 22,v_ bt_] [])
def x96_8:L_:=s_ 23 [a_ 1,c_ 92 [23],a_ 2,c_ 92 [25],b_ .quo 24 26,a_ 1,c_ 94 [28],a_ 2,c_ 94 [30],o_ (.eqb true 29 31),c_ 95 [27,32]] (s_ 6 [a_ 33,v_ bt_] [])
def x96_11:L_:=[q_ 35 (.bin .eql 16 (ci_ 15)),
 q_ 34 (m_ 35)]
def x96_12:L_:=s_ 36 [a_ 2,b_ .eql 36 (ck_ .u64 0)] []
def x96_13:L_:=s_ 38 [a_ 2,b_ .sub 38 (ck_ .u64 1)] (s_ 6 [a_ 39,v_ bt_] [])
def x96_17:L_:=s_ 40 [a_ 1,a_ 2,b_ .quo 40 41] (s_ 6 [a_ 42,v_ bt_] [])
def x96_20:L_:=[q_ 44 (.bin .eql 16 (ci_ 16)),
 q_ 43 (m_ 44)]
def x96_21:L_:=s_ 45 [a_ 2,b_ .eql 45 (ck_ .u64 0)] []
def x96_22:L_:=(q_ 47 (m_ 1)) :: s_ 6 [a_ 47,v_ bt_] []
def x96_26:L_:=s_ 48 [a_ 1,c_ 92 [48],a_ 2,c_ 92 [50],b_ .rem 49 51,a_ 1,c_ 94 [53],c_ 95 [52,54]] (s_ 6 [a_ 55,v_ bt_] [])
def x96_29:L_:=[q_ 57 (.bin .eql 16 (ci_ 17)),
 q_ 56 (m_ 57)]
def x96_30:L_:=s_ 58 [a_ 2,b_ .eql 58 (ck_ .u64 0)] []
def x96_31:L_:=(q_ 60 (m_ 1)) :: s_ 6 [a_ 60,v_ bt_] []
def x96_35:L_:=s_ 61 [a_ 1,a_ 2,b_ .rem 61 62] (s_ 6 [a_ 63,v_ bt_] [])
def x96_43:C_:=.seq (r_ x96_11) (.cnd 34 (.seq (.seq (r_ x96_12) (.cnd 37 (.seq (r_ x96_13) .ret) .skip)) (.seq (r_ x96_17) .ret)) (.seq (r_ x96_20) (.cnd 43 (.seq (.seq (r_ x96_21) (.cnd 46 (.seq (r_ x96_22) .ret) .skip)) (.seq (.draw x96_26 [[],[0],[],[0,1,2],[0,1,2,3],[],[0,1,2,3,5],[0,1,2,3,4,5,6],[0,1,2,3,4,5,6,7],[0,1,2,3,4,5,6,7,8]]) .ret)) (.seq (r_ x96_29) (.cnd 56 (.seq (.seq (r_ x96_30) (.cnd 59 (.seq (r_ x96_31) .ret) .skip)) (.seq (r_ x96_35) .ret)) .skip)))))
def x96_48:L_:=[q_ 64 (.build (zs_ .i64 10) [(0,1,(ci_ 1)),(1,1,(ci_ 2)),(2,1,(ci_ 3)),(3,1,(ci_ 7)),(4,1,(ci_ 8)),(5,1,(ci_ 11)),(6,1,(ci_ 14)),(7,1,(ci_ 15)),(8,1,(ci_ 16)),(9,1,(ci_ 17))]),
 q_ 8 (.new (zs_ .i64 10)),
 on_ (.store 10 8 64)]
def x96_49:L_:=s_ 65 [a_ 0,b_ .lss 65 (ci_ 18),a_ 66] (sg_ 68 67 false [a_ 0,b_ .gtr 68 (ci_ 27)] [⟨(some 70),.pick 67 bt_ 69,none⟩])
def x96_50:L_:=s_ 6 [v_ (ck_ .u64 0),v_ bf_] []
def x96_54:L_:=s_ 71 [a_ 0,b_ .neq 71 (ci_ 21),a_ 72] (sg_ 74 73 true [a_ 0,b_ .neq 74 (ci_ 25)] ((⟨(some 76),.pick 73 75 bf_,none⟩) :: (q_ 77 (m_ 76)) :: sg_ 78 77 true [a_ 0,b_ .neq 78 (ci_ 27)] [⟨(some 80),.pick 77 79 bf_,none⟩,q_ 9 (m_ 80)]))
def x96_55:L_:=s_ 82 [a_ 1,a_ 9,c_ 81 [82,(ci_ 32),83]] ((q_ 81 (m_ 84)) :: s_ 85 [e_ 81 0,e_ 81 1] (s_ 10 [a_ 85,a_ 86] []))
def x96_56:L_:=s_ 88 [a_ 2,a_ 9,c_ 81 [88,(ci_ 32),89]] ((q_ 87 (m_ 90)) :: s_ 91 [e_ 87 0,e_ 87 1] (s_ 12 [a_ 91,a_ 92] []))
def x96_57:L_:=s_ 93 [a_ 0,b_ .geq 93 (ci_ 20),a_ 94] (sg_ 96 95 true [a_ 0,b_ .leq 96 (ci_ 22)] [⟨(some 98),.pick 95 97 bf_,none⟩])
def x96_58:L_:=s_ 99 [a_ 2,b_ .rem 99 (ck_ .u64 32)] [q_ 12 (m_ 100)]
def x96_61:L_:=s_ 102 [a_ 0,b_ .sub 102 (ci_ 18),o_ (.iaddrA true 10 1 8 103),li_ 104,a_ 10,a_ 12,c_ 80 [105,106,107]] ((q_ 101 (m_ 108)) :: s_ 109 [e_ 101 0,e_ 101 1] (s_ 14 [a_ 109,a_ 110] []))
def x96_62:L_:=s_ 112 [a_ 14,c_ 81 [112,(ci_ 32),bt_]] ((q_ 111 (m_ 113)) :: s_ 114 [e_ 111 0,e_ 111 1] [q_ 14 (m_ 114)])
def x96_63:L_:=(q_ 116 (m_ 14)) :: s_ 6 [a_ 116,v_ bt_] []
def x96_73:C_:=.seq (.seq (r_ x96_1) (.block 0 (.seq (r_ x96_2) (.cnd 17 (.seq (.seq (r_ x96_3) (.cnd 20 (.seq (r_ x96_4) .ret) .skip)) (.seq (.draw x96_8 [[],[0],[],[0,1,2],[0,1,2,3],[],[0,1,2,3,5],[],[0,1,2,3,5,6,7],[0,1,2,3,5,6,7,8],[0,1,2,3,4,5,6,7,8,9],[0,1,2,3,4,5,6,7,8,9,10],[0,1,2,3,4,5,6,7,8,9,10,11]]) .ret)) x96_43)))) (.seq (r_ x96_48) (.seq (.seq (r_ x96_49) (.cnd 70 (.seq (r_ x96_50) .ret) .skip)) (.seq (r_ x96_54) (.seq (r_ x96_55) (.seq (r_ x96_56) (.seq (.seq (r_ x96_57) (.cnd 98 (r_ x96_58) .skip)) (.seq (r_ x96_61) (.seq (r_ x96_62) (.seq (r_ x96_63) .ret)))))))))
def x96_74:C_:=.seq (r_ x96_0) x96_73
def x96:C_:=x96_74
theorem fx96:fnx Try.prog 96=some (117,[(6,none),(7,none)],x96):=by kernel_rfl
def x97_0:L_:=[q_ 2 (.mv (ck_ .u64 0))]
def x97_1:L_:=[q_ 3 (.mv (ck_ .u64 1))]
def x97_2:L_:=s_ 4 [a_ 0,b_ .gtr 4 (ci_ 0)] []
def x97_5:L_:=s_ 8 [a_ 3,b_ .mul 8 (ck_ .u64 2)] [q_ 3 (m_ 9)]
def x97_7:L_:=s_ 6 [a_ 0,b_ .sub 6 (ci_ 1)] [q_ 0 (m_ 7)]
def x97_9:C_:=.seq (.seq (r_ x97_2) (.cnd 5 .skip (.exit 0))) (.seq (.block 1 (r_ x97_5)) (r_ x97_7))
def x97_12:L_:=[q_ 10 (m_ 3),
 q_ 2 (m_ 10)]
def x97_13:C_:=.seq (r_ x97_12) .ret
def x97_16:C_:=.seq (r_ x97_0) (.seq (r_ x97_1) (.seq (.block 0 (.loop x97_9)) x97_13))
def x97:C_:=x97_16
theorem fx97:fnx Try.prog 97=some (11,[(2,none)],x97):=by kernel_rfl
def x98_0:L_:=s_ 4 [v_ (ck_ .u64 0),v_ (ck_ .u64 0)] []
def x98_1:L_:=s_ 14 [a_ 0,b_ .and 14 (ck_ .u64 4294967295)] [q_ 6 (m_ 15)]
def x98_2:L_:=s_ 16 [a_ 0,b_ .shr 16 (ck_ .u64 32)] [q_ 7 (m_ 17)]
def x98_3:L_:=s_ 18 [a_ 1,b_ .and 18 (ck_ .u64 4294967295)] [q_ 8 (m_ 19)]
def x98_4:L_:=s_ 20 [a_ 1,b_ .shr 20 (ck_ .u64 32)] [q_ 9 (m_ 21)]
def x98_5:L_:=s_ 22 [a_ 6,a_ 8,b_ .mul 22 23] [q_ 10 (m_ 24)]
def x98_6:L_:=s_ 25 [a_ 7,a_ 8,b_ .mul 25 26,a_ 10,b_ .shr 28 (ck_ .u64 32),b_ .add 27 29] [q_ 11 (m_ 30)]
def x98_7:L_:=s_ 31 [a_ 11,b_ .and 31 (ck_ .u64 4294967295)] [q_ 12 (m_ 32)]
def x98_8:L_:=s_ 33 [a_ 11,b_ .shr 33 (ck_ .u64 32)] [q_ 13 (m_ 34)]
def x98_9:L_:=s_ 35 [a_ 12,a_ 6,a_ 9,b_ .mul 36 37,b_ .add 35 38] [q_ 12 (m_ 39)]
def x98_10:L_:=s_ 40 [a_ 7,a_ 9,b_ .mul 40 41,a_ 13,b_ .add 42 43,a_ 12,b_ .shr 45 (ck_ .u64 32),b_ .add 44 46] [q_ 4 (m_ 47)]
def x98_11:L_:=s_ 48 [a_ 0,a_ 1,b_ .mul 48 49] [q_ 5 (m_ 50)]
def x98_21:C_:=.seq (r_ x98_2) (.seq (r_ x98_3) (.seq (r_ x98_4) (.seq (r_ x98_5) (.seq (r_ x98_6) (.seq (r_ x98_7) (.seq (r_ x98_8) (.seq (r_ x98_9) (.seq (r_ x98_10) (.seq (r_ x98_11) .ret)))))))))
def x98_23:C_:=.seq (r_ x98_0) (.seq (r_ x98_1) x98_21)
def x98:C_:=x98_23
theorem fx98:fnx Try.prog 98=some (51,[(4,none),(5,none)],x98):=by kernel_rfl
def x99_0:L_:=[q_ 2 (.mv (ck_ .u64 0))]
def x99_1:L_:=[q_ 3 (m_ 0)]
def x99_2:L_:=[q_ 2 (.mv (ck_ .u64 1))]
def x99_6:L_:=[q_ 2 (.mv (ck_ .u64 0))]
def x99_9:C_:=.seq (r_ x99_0) (.seq (.seq (r_ x99_1) (.cnd 3 (.seq (r_ x99_2) .ret) .skip)) (.seq (r_ x99_6) .ret))
def x99:C_:=x99_9
theorem fx99:fnx Try.prog 99=some (4,[(2,none)],x99):=by kernel_rfl
def x100_0:L_:=[q_ 4 (.mv (ck_ .u64 0))]
def x100_1:L_:=s_ 5 [a_ 1,b_ .gtr 5 (ci_ 0)] []
def x100_4:L_:=s_ 9 [a_ 0,b_ .quo 9 (ck_ .u64 2)] [q_ 0 (m_ 10)]
def x100_6:L_:=s_ 7 [a_ 1,b_ .sub 7 (ci_ 1)] [q_ 1 (m_ 8)]
def x100_8:C_:=.seq (.seq (r_ x100_1) (.cnd 6 .skip (.exit 0))) (.seq (.block 1 (r_ x100_4)) (r_ x100_6))
def x100_11:L_:=s_ 11 [a_ 0,b_ .rem 11 (ck_ .u64 2)] [q_ 4 (m_ 12)]
def x100_12:C_:=.seq (r_ x100_11) .ret
def x100_14:C_:=.seq (r_ x100_0) (.seq (.block 0 (.loop x100_8)) x100_12)
def x100:C_:=x100_14
theorem fx100:fnx Try.prog 100=some (13,[(4,none)],x100):=by kernel_rfl
end Go.X
