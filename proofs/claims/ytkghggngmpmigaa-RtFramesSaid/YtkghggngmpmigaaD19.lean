import Derived.Test.YtkghggngmpmigaaD15
import Derived.Test.YtkghggngmpmigaaProg
import Derived.KernelRfl
set_option linter.all false
namespace Go.X
open Go Go.Proofs
instance (n:Nat):OfNat Operand n:=⟨.tmp n⟩
abbrev L_:=List XOper
abbrev C_:=XCode
abbrev r_ (l:L_):C_:=.region l
def zs_ (k:IntKind) (n:Nat):List Value:=List.replicate n (.int k 0)
def ck_ (k:IntKind) (n:Int):Operand:=.const (.int k n)
def bt_:Operand:=.const (.bool true)
def bf_:Operand:=.const (.bool false)
def mi_ (n:Int):XOp:=.mv (.const (.int .i64 n))
def se_:Value:=.string ⟨#[]⟩
def ci_ (n:Int):Operand:=.const (.int .i64 n)
def m_ (n:Nat):XOp:=.mv (.tmp n)
def q_ (d:Nat) (o:XOp):XOper:=⟨some d,.op o,none⟩
def og_ (d c:Nat) (b:Bool) (o:XOp):XOper:=⟨some d,.op o,some (c,b)⟩
def oc_ (d f:Nat) (l:List Operand):XOper:=⟨some d,.callF f l,none⟩
def on_ (o:XOp):XOper:=⟨none,.op o,none⟩
def s_:Nat->List XK->L_->L_
 |_,[],r=>r
 |d,k :: l,r=>⟨some d,k,none⟩ :: s_ (d+1) l r
def sg_:Nat->Nat->Bool->List XK->L_->L_
 |_,_,_,[],r=>r
 |d,c,b,k :: l,r=>⟨some d,k,some (c,b)⟩ :: sg_ (d+1) c b l r
def a_ (n:Nat):XK:=.op (.mv (.tmp n))
def k_ (n:Operand):XK:=.op (.nilck n)
def f_ (o:Nat) (n:Operand):XK:=.op (.faddr o n)
def l_ (n:Operand):XK:=.op (.load .one 1 n)
def li_ (n:Operand):XK:=.op (.load (.int .i64) 1 n)
def lu_ (n:Operand):XK:=.op (.load (.int .u64) 1 n)
def g_ (k:Nat) (n:Operand):XK:=.op (.load .agg k n)
def b_ (o:BinOp) (x y:Operand):XK:=.op (.bin o x y)
def e_ (x:Operand) (i:Nat):XK:=.op (.ext x i)
def n_ (x:Operand):XK:=.op (.lenS x)
def i_ (n:Int):XK:=.op (.mv (.const (.int .i64 n)))
def v_ (x:Operand):XK:=.op (.mv x)
def o_ (o:XOp):XK:=.op o
def c_ (f:Nat) (l:List Operand):XK:=.callF f l
def x17_0:L_:=s_ 4 [v_ (.const (.slice none 0 0)),v_ (.const (.map none)),i_ 0] []
def x17_1:L_:=s_ 16 [a_ 0,a_ 0,n_ 17,o_ (.mks [(.bool false)] 1 18 18),a_ 1,o_ (.mkmap 9 3 (.int .i64 0)),a_ 0,n_ 22,o_ (.mks [(.int .i64 0)] 8 23 23),o_ (.build [(.slice none 0 0),(.slice none 0 0),(.int .i64 0),(.map none),(.slice none 0 0)] [(0,1,16),(1,1,19),(2,1,20),(3,1,21),(4,1,24)]),o_ (.box 25)] [q_ 7 (m_ 26)]
def x17_2:L_:=s_ 27 [a_ 7,c_ 21 [27]] [q_ 8 (m_ 28)]
def x17_3:L_:=s_ 29 [a_ 8,b_ .neq 29 (ci_ 0)] []
def x17_4:L_:=(q_ 31 (m_ 8)) :: s_ 4 [v_ (.const (.slice none 0 0)),v_ (.const (.map none)),a_ 31] []
def x17_9:L_:=s_ 32 [a_ 7,c_ 22 [32]] []
def x17_10:L_:=s_ 34 [a_ 7,c_ 23 [34]] []
def x17_13:L_:=s_ 36 [a_ 7,c_ 22 [36]] []
def x17_15:C_:=.seq (.seq (r_ x17_10) (.cnd 35 .skip (.exit 0))) (.block 1 (r_ x17_13))
def x17_18:L_:=[q_ 9 (.mv (.const (.slice none 0 0)))]
def x17_19:L_:=s_ 38 [a_ 0,n_ 38,i_ 0] []
def x17_20:L_:=[q_ 41 (.bin .lss 40 39)]
def x17_22:L_:=s_ 42 [a_ 40,o_ (.iaddrS 8 38 40),g_ 8 43] [q_ 11 (.new [se_,(.int .i64 0),(.int .i64 0),(.int .i64 0),(.int .i64 0),(.int .i64 0),se_,(.int .i64 0)]),q_ 10 (m_ 42),on_ (.store 8 11 44)]
def x17_23:L_:=s_ 45 [f_ 0 11,o_ (.load .str 1 45),b_ .neq 46 (.const se_)] []
def x17_26:L_:=s_ 48 [a_ 7,a_ 10,c_ 24 [48,49],n_ 50,i_ 0] []
def x17_27:L_:=[q_ 53 (.bin .lss 52 51)]
def x17_29:L_:=s_ 54 [o_ (.iaddrS 5 50 52),g_ 5 54] [q_ 13 (.new (zs_ .i64 5)),on_ (.store 5 13 55)]
def x17_30:L_:=s_ 57 [g_ 5 13,c_ 25 [57]] ((q_ 56 (m_ 58)) :: s_ 59 [e_ 56 0,e_ 56 1] (s_ 14 [a_ 59,a_ 60] []))
def x17_31:L_:=s_ 61 [a_ 15,b_ .neq 61 (ci_ 0)] []
def x17_32:L_:=s_ 4 [v_ (.const (.slice none 0 0)),v_ (.const (.map none)),i_ 16] []
def x17_36:L_:=s_ 63 [a_ 9,a_ 14,o_ (.mkslice [(.int .u32 0)] 1 [(0,64)]),o_ (.app 1 4 63 65)] [q_ 9 (m_ 66)]
def x17_41:L_:=[q_ 67 (.bin .add 52 (ci_ 1)),
 q_ 52 (m_ 67)]
def x17_44:C_:=.seq (r_ x17_27) (.seq (.cnd 53 .skip (.exit 4)) (.seq (.block 5 (.seq (r_ x17_29) (.seq (r_ x17_30) (.seq (.seq (r_ x17_31) (.cnd 62 (.seq (r_ x17_32) .ret) .skip)) (r_ x17_36))))) (r_ x17_41)))
def x17_51:L_:=[q_ 68 (.bin .add 40 (ci_ 1)),
 q_ 40 (m_ 68)]
def x17_54:C_:=.seq (r_ x17_20) (.seq (.cnd 41 .skip (.exit 2)) (.seq (.block 3 (.seq (r_ x17_22) (.seq (.seq (r_ x17_23) (.cnd 47 (.exit 3) .skip)) (.seq (r_ x17_26) (.block 4 (.loop x17_44)))))) (r_ x17_51)))
def x17_58:L_:=s_ 69 [a_ 9,n_ 69,b_ .gtr 70 (ci_ 65536)] []
def x17_59:L_:=s_ 4 [v_ (.const (.slice none 0 0)),v_ (.const (.map none)),i_ 3] []
def x17_63:L_:=s_ 72 [a_ 9,a_ 7,k_ 73,f_ 3 74,l_ 75] (s_ 4 [a_ 72,a_ 76,i_ 0] [])
def x17_65:C_:=.seq (.seq (r_ x17_58) (.cnd 71 (.seq (r_ x17_59) .ret) .skip)) (.seq (.draw x17_63 [[],[],[1],[1,2],[1,2,3],[0],[0,1,2,3,4,5],[0,1,2,3,4,5,6]]) .ret)
def x17_67:C_:=.seq (r_ x17_18) (.seq (.seq (r_ x17_19) (.block 2 (.loop x17_54))) x17_65)
def x17_72:C_:=.seq (r_ x17_0) (.seq (.draw x17_1 [[],[],[1],[1,2],[],[],[],[6],[6,7],[0,1,2,3,4,5,6,7,8],[0,1,2,3,4,5,6,7,8,9],[0,1,2,3,4,5,6,7,8,9,10]]) (.seq (.seq (r_ x17_2) (.seq (r_ x17_3) (.cnd 30 (.seq (r_ x17_4) .ret) .skip))) (.seq (r_ x17_9) (.seq (.block 0 (.loop x17_15)) x17_67))))
def x17:C_:=x17_72
theorem fx17:fnx Try.prog 13=some (77,[(4,none),(5,none),(6,none)],x17):=by kernel_rfl
def x18_0:L_:=s_ 1 [o_ (.box 0),v_ (ck_ .u32 0),i_ 0] []
def x18_1:L_:=s_ 18 [c_ 41 [],f_ 0 1,li_ 19,o_ (.lookup 3 99 (.int .i64) (.agg #[(.int .u8 0),(.int .u32 0),(.int .u32 0),(.int .u32 0)]) true 18 20)] ((q_ 17 (m_ 21)) :: s_ 22 [e_ 17 0,e_ 17 1] [q_ 4 (.new [(.int .u8 0),(.int .u32 0),(.int .u32 0),(.int .u32 0)]),on_ (.store 4 4 22),q_ 5 (m_ 23)])
def x18_2:L_:=s_ 25 [f_ 0 4,o_ (.load (.int .u8) 1 25),c_ 42 [26]] ((q_ 24 (m_ 27)) :: s_ 28 [e_ 24 0,e_ 24 1] (s_ 6 [a_ 28,a_ 29] []))
def x18_3:L_:=s_ 30 [f_ 1 1,li_ 30,f_ 2 1,li_ 32,f_ 3 1,li_ 34,o_ (.build (zs_ .i64 3) [(0,1,31),(1,1,33),(2,1,35)])] [q_ 8 (.new (zs_ .i64 3)),on_ (.store 3 8 36)]
def x18_4:L_:=s_ 37 [f_ 0 4,o_ (.load (.int .u8) 1 37),c_ 43 [38],i_ 0] []
def x18_5:L_:=[q_ 41 (.bin .lss 40 (ci_ 3))]
def x18_7:L_:=s_ 42 [a_ 40,o_ (.idxA 3 1 .bool 39 40)] (s_ 9 [a_ 42,a_ 43] [])
def x18_8:L_:=s_ 44 [a_ 5,a_ 44] (sg_ 46 45 true [a_ 10,a_ 46] (sg_ 48 47 false [a_ 9,o_ (.iaddrA true 3 1 8 48),li_ 49,b_ .eql 50 (ci_ 0)] [⟨(some 52),.pick 47 bt_ 51,(some (45,true))⟩,⟨(some 53),.pick 45 52 bf_,none⟩,q_ 5 (m_ 53)]))
def x18_11:L_:=[q_ 54 (.bin .add 40 (ci_ 1)),
 q_ 40 (m_ 54)]
def x18_18:L_:=s_ 55 [a_ 5,o_ (.un .not 55),a_ 56] (sg_ 58 57 false [a_ 6,a_ 7,b_ .gtr 58 59,a_ 60] (sg_ 62 61 true [f_ 4 1,li_ 62,b_ .neq 63 (ci_ 0)] [⟨(some 65),.pick 61 64 bf_,(some (57,false))⟩,⟨(some 66),.pick 57 bt_ 65,none⟩]))
def x18_19:L_:=s_ 2 [v_ (ck_ .u32 0),i_ 2] []
def x18_23:L_:=s_ 67 [f_ 1 4,f_ 0 67,o_ (.load (.int .u32) 1 68),f_ 1 4,f_ 1 70,o_ (.load (.int .u32) 1 71),b_ .shl 72 (ck_ .u64 12),b_ .or 69 73,f_ 1 4,f_ 2 75,o_ (.load (.int .u32) 1 76),b_ .shl 77 (ck_ .u64 25),b_ .or 74 78] [q_ 11 (m_ 79)]
def x18_24:L_:=s_ 80 [g_ 3 8,i_ 0] []
def x18_25:L_:=[q_ 82 (.bin .lss 81 (ci_ 3))]
def x18_27:L_:=s_ 83 [a_ 81,o_ (.idxA 3 1 (.int .i64) 80 81)] (s_ 12 [a_ 83,a_ 84] [])
def x18_28:L_:=s_ 85 [a_ 13,b_ .lss 85 (ci_ 0),a_ 86] (sg_ 88 87 false [a_ 13,b_ .gtr 88 (ci_ 31)] [⟨(some 90),.pick 87 bt_ 89,none⟩])
def x18_29:L_:=s_ 2 [v_ (ck_ .u32 0),i_ 1] []
def x18_33:L_:=s_ 91 [a_ 11,a_ 13,o_ (.conv .u32 92),o_ (.build (zs_ .u64 3) [(0,1,(ck_ .u64 7)),(1,1,(ck_ .u64 15)),(2,1,(ck_ .u64 20))]),a_ 12,o_ (.idxA 3 1 (.int .u64) 94 95),b_ .shl 93 96,b_ .or 91 97] [q_ 11 (m_ 98)]
def x18_37:L_:=[q_ 99 (.bin .add 81 (ci_ 1)),
 q_ 81 (m_ 99)]
def x18_41:C_:=.loop (.seq (r_ x18_25) (.seq (.cnd 82 .skip (.exit 2)) (.seq (.block 3 (.seq (r_ x18_27) (.seq (.seq (r_ x18_28) (.cnd 90 (.seq (r_ x18_29) .ret) .skip)) (r_ x18_33)))) (r_ x18_37))))
def x18_44:L_:=s_ 100 [f_ 0 4,o_ (.load (.int .u8) 1 100),b_ .eql 101 (ck_ .u8 66),a_ 102] (sg_ 104 103 false [f_ 0 4,o_ (.load (.int .u8) 1 104),b_ .eql 105 (ck_ .u8 74)] ((⟨(some 107),.pick 103 bt_ 106,none⟩) :: (q_ 108 (m_ 107)) :: sg_ 109 108 true [f_ 4 1,li_ 109,b_ .and 110 (ci_ 1),b_ .eql 111 (ci_ 1)] [⟨(some 113),.pick 108 112 bf_,none⟩,q_ 14 (m_ 113)]))
def x18_45:L_:=s_ 114 [a_ 6,a_ 7,b_ .leq 114 115,a_ 116] (sg_ 118 117 true [f_ 4 1,li_ 118,a_ 6,b_ .lss 119 120,a_ 121] (sg_ 123 122 false [f_ 4 1,li_ 123,a_ 7,b_ .gtr 124 125] [⟨(some 127),.pick 122 bt_ 126,(some (117,true))⟩,og_ 128 117 true (m_ 127),og_ 129 128 false (m_ 14),⟨(some 130),.pick 128 bt_ 129,(some (117,true))⟩,⟨(some 131),.pick 117 130 bf_,none⟩]))
def x18_46:L_:=s_ 2 [v_ (ck_ .u32 0),i_ 1] []
def x18_50:L_:=s_ 132 [f_ 0 4,o_ (.load (.int .u8) 1 132),c_ 44 [133],n_ 134,i_ 0] []
def x18_51:L_:=[q_ 137 (.bin .lss 136 135)]
def x18_53:L_:=s_ 138 [o_ (.iaddrS 3 134 136),g_ 3 138] [q_ 16 (.new (zs_ .u64 3)),on_ (.store 3 16 139)]
def x18_54:L_:=s_ 140 [a_ 11,f_ 4 1,li_ 141,o_ (.conv .u32 142),f_ 0 16,lu_ 144,b_ .shr 143 145,f_ 1 16,lu_ 147,b_ .shl (ck_ .u32 1) 148,b_ .sub 149 (ck_ .u32 1),b_ .and 146 150,f_ 2 16,lu_ 152,b_ .shl 151 153,b_ .or 140 154] [q_ 11 (m_ 155)]
def x18_57:L_:=[q_ 156 (.bin .add 136 (ci_ 1)),
 q_ 136 (m_ 156)]
def x18_64:L_:=(q_ 157 (m_ 11)) :: s_ 2 [a_ 157,i_ 0] []
def x18_67:C_:=.seq (.seq (r_ x18_45) (.cnd 131 (.seq (r_ x18_46) .ret) .skip)) (.seq (.seq (r_ x18_50) (.block 4 (.loop (.seq (r_ x18_51) (.seq (.cnd 137 .skip (.exit 4)) (.seq (.block 5 (.seq (r_ x18_53) (r_ x18_54))) (r_ x18_57))))))) (.seq (r_ x18_64) .ret))
def x18_73:C_:=.seq (r_ x18_3) (.seq (.seq (r_ x18_4) (.block 0 (.loop (.seq (r_ x18_5) (.seq (.cnd 41 .skip (.exit 0)) (.seq (.block 1 (.seq (r_ x18_7) (r_ x18_8))) (r_ x18_11))))))) (.seq (.seq (r_ x18_18) (.cnd 66 (.seq (r_ x18_19) .ret) .skip)) (.seq (r_ x18_23) (.seq (.seq (r_ x18_24) (.block 2 x18_41)) (.seq (r_ x18_44) x18_67)))))
def x18_74:C_:=.seq (r_ x18_2) x18_73
def x18_76:C_:=.seq (r_ x18_0) (.seq (.draw x18_1 [[],[],[1],[0,1,2],[0,1,2,3],[0,1,2,3,4],[0,1,2,3,4],[],[0,1,2,3,4,5,7],[0,1,2,3,4,5,6,7,8]]) x18_74)
def x18:C_:=x18_76
theorem fx18:fnx Try.prog 25=some (158,[(2,none),(3,none)],x18):=by kernel_rfl
def x22_0:L_:=s_ 4 [v_ (.const (.pointer none)),i_ 0] []
def x22_1:L_:=s_ 7 [a_ 1,a_ 0,n_ 8,b_ .lss 7 9,a_ 10] (sg_ 12 11 false [a_ 1,b_ .gtr 12 (ci_ 4194304)] [⟨(some 14),.pick 11 bt_ 13,none⟩])
def x22_2:L_:=s_ 4 [v_ (.const (.pointer none)),i_ 1] []
def x22_6:L_:=s_ 15 [a_ 1,o_ (.mks [(.int .u8 0)] 1 15 15),o_ (.mkmap 83 60 (.agg #[(.int .i64 0),(.int .i64 0),(.int .i64 0),(.int .i64 0),(.int .i64 0)])),o_ (.build [(.slice none 0 0),(.int .u64 0),(.int .u64 0),(.int .u64 0),(.int .u64 0),(.int .u64 0),(.int .u64 0),(.int .u64 0),(.int .u64 0),(.int .u64 0),(.int .u64 0),(.int .u64 0),(.int .u64 0),(.int .u64 0),(.int .u64 0),(.int .u64 0),(.int .u64 0),(.int .u64 0),(.int .u64 0),(.int .u64 0),(.int .u64 0),(.int .u64 0),(.int .u64 0),(.int .u64 0),(.int .u64 0),(.int .u64 0),(.int .u64 0),(.int .u64 0),(.int .u64 0),(.int .u64 0),(.int .u64 0),(.int .u64 0),(.int .u64 0),(.int .u64 0),(.int .i64 0),(.int .u8 0),(.map none)] [(0,1,16),(36,1,17)]),o_ (.box 18)] [q_ 6 (m_ 19)]
def x22_7:L_:=s_ 20 [a_ 6,k_ 20,f_ 0 21,l_ 22,a_ 0,o_ (.cpy 1 23 24)] []
def x22_8:L_:=(q_ 26 (m_ 6)) :: s_ 4 [a_ 26,i_ 0] []
def x22_13:C_:=.seq (r_ x22_0) (.seq (.seq (r_ x22_1) (.cnd 14 (.seq (r_ x22_2) .ret) .skip)) (.seq (r_ x22_6) (.seq (r_ x22_7) (.seq (r_ x22_8) .ret))))
def x22:C_:=x22_13
theorem fx22:fnx Try.prog 15=some (27,[(4,none),(5,none)],x22):=by kernel_rfl
def x24_0:L_:=[q_ 6 (.new [(.int .i64 0),(.int .u8 0),(.int .i64 0),(.slice none 0 0),(.int .i64 0),(.int .i64 0)])]
def x24_1:L_:=s_ 10 [a_ 0,a_ 1,a_ 2,c_ 53 [10,11,12,bf_]] ((q_ 9 (m_ 13)) :: s_ 14 [e_ 9 0,e_ 9 1] [q_ 7 (.new [(.int .i64 0),(.int .u8 0),(.int .i64 0),(.slice none 0 0),(.int .i64 0),(.int .i64 0)]),on_ (.store 6 7 14),q_ 8 (m_ 15)])
def x24_2:L_:=[q_ 16 (.load .agg 6 7),
 on_ (.store 6 6 16)]
def x24_5:C_:=.seq (r_ x24_0) (.seq (r_ x24_1) (.seq (r_ x24_2) .ret))
def x24:C_:=x24_5
theorem fx24:fnx Try.prog 33=some (17,[(6,(some (.agg,6)))],x24):=by kernel_rfl
def x25_0:L_:=[q_ 4 (.mv (ck_ .u64 0))]
def x25_1:L_:=s_ 5 [a_ 1,b_ .lss 5 (ci_ 0),a_ 6] (sg_ 8 7 false [a_ 1,b_ .gtr 8 (ci_ 31)] [⟨(some 10),.pick 7 bt_ 9,none⟩])
def x25_2:L_:=[q_ 4 (.mv (ck_ .u64 0))]
def x25_6:L_:=s_ 11 [a_ 0,a_ 1,k_ 11,f_ 1 13,o_ (.iaddrA true 32 1 14 12),lu_ 15] [q_ 4 (m_ 16)]
def x25_9:C_:=.seq (r_ x25_0) (.seq (.seq (r_ x25_1) (.cnd 10 (.seq (r_ x25_2) .ret) .skip)) (.seq (r_ x25_6) .ret))
def x25:C_:=x25_9
theorem fx25:fnx Try.prog 18=some (17,[(4,none)],x25):=by kernel_rfl
def x26_0:L_:=s_ 6 [a_ 1,b_ .gtr 6 (ci_ 0),a_ 7] (sg_ 9 8 true [a_ 1,b_ .lss 9 (ci_ 32)] [⟨(some 11),.pick 8 10 bf_,none⟩])
def x26_1:L_:=s_ 12 [a_ 0,a_ 1,a_ 2,k_ 12,f_ 1 15,o_ (.iaddrA true 32 1 16 13)] [on_ (.store 1 17 14)]
def x26_3:C_:=.seq (r_ x26_0) (.cnd 11 (r_ x26_1) .skip)
def x26:C_:=x26_3
theorem fx26:fnx Try.prog 12=some (18,[],x26):=by kernel_rfl
def x30_0:L_:=[q_ 2 (.mv (ck_ .u64 0))]
def x30_1:L_:=s_ 3 [a_ 0,k_ 3,f_ 33 4,lu_ 5] [q_ 2 (m_ 6)]
def x30_3:C_:=.seq (r_ x30_0) (.seq (r_ x30_1) .ret)
def x30:C_:=x30_3
theorem fx30:fnx Try.prog 34=some (7,[(2,none)],x30):=by kernel_rfl
def x31_0:L_:=s_ 4 [a_ 0,a_ 1,k_ 4,f_ 33 6] [on_ (.store 1 7 5)]
def x31:C_:=(r_ x31_0)
theorem fx31:fnx Try.prog 19=some (8,[],x31):=by kernel_rfl
def x36_0:L_:=s_ 6 [v_ (ck_ .u64 0),i_ 0] []
def x36_1:L_:=s_ 9 [a_ 1,b_ .lss 9 (ci_ 1),a_ 10] (sg_ 12 11 false [a_ 1,b_ .gtr 12 (ci_ 64)] [⟨(some 14),.pick 11 bt_ 13,none⟩])
def x36_2:L_:=s_ 6 [v_ (ck_ .u64 0),i_ 1] []
def x36_6:L_:=s_ 15 [a_ 1,b_ .sub (ci_ 64) 15] [q_ 8 (m_ 16)]
def x36_7:L_:=[q_ 17 (m_ 2)]
def x36_8:L_:=s_ 18 [a_ 0,a_ 8,b_ .shl 18 19,o_ (.conv .i64 20),a_ 8,b_ .shr 21 22,o_ (.conv .u64 23)] (s_ 6 [a_ 24,i_ 0] [])
def x36_12:L_:=s_ 25 [a_ 0,a_ 8,b_ .shl 25 26,a_ 8,b_ .shr 27 28] (s_ 6 [a_ 29,i_ 0] [])
def x36_17:C_:=.seq (r_ x36_0) (.seq (.seq (r_ x36_1) (.cnd 14 (.seq (r_ x36_2) .ret) .skip)) (.seq (r_ x36_6) (.seq (.seq (r_ x36_7) (.cnd 17 (.seq (r_ x36_8) .ret) .skip)) (.seq (r_ x36_12) .ret))))
def x36:C_:=x36_17
theorem fx36:fnx Try.prog 70=some (30,[(6,none),(7,none)],x36):=by kernel_rfl
def x37_0:L_:=s_ 6 [v_ (.const (.slice none 0 0)),i_ 0] []
def x37_1:L_:=s_ 8 [a_ 1,b_ .lss 8 (ci_ 0),a_ 9] (sg_ 11 10 false [a_ 2,b_ .lss 11 (ci_ 0)] ((⟨(some 13),.pick 10 bt_ 12,none⟩) :: (q_ 14 (m_ 13)) :: sg_ 15 14 false [a_ 1,a_ 0,k_ 16,f_ 0 17,l_ 18,n_ 19,b_ .gtr 15 20] ((⟨(some 22),.pick 14 bt_ 21,none⟩) :: (q_ 23 (m_ 22)) :: sg_ 24 23 false [a_ 2,a_ 0,k_ 25,f_ 0 26,l_ 27,n_ 28,a_ 1,b_ .sub 29 30,b_ .gtr 24 31] [⟨(some 33),.pick 23 bt_ 32,none⟩])))
def x37_2:L_:=s_ 6 [v_ (.const (.slice none 0 0)),i_ 1] []
def x37_5:C_:=.seq (r_ x37_1) (.cnd 33 (.seq (r_ x37_2) .ret) .skip)
def x37_6:L_:=s_ 34 [a_ 0,k_ 34,f_ 0 35,l_ 36,a_ 1,a_ 1,a_ 2,b_ .add 39 40,o_ (.slS 1 37 (some 38) (some 41)),c_ 20 [42]] (s_ 6 [a_ 43,i_ 0] [])
def x37_7:C_:=.seq (r_ x37_6) .ret
def x37_9:C_:=.seq (r_ x37_0) (.seq x37_5 x37_7)
def x37:C_:=x37_9
theorem fx37:fnx Try.prog 11=some (44,[(6,none),(7,none)],x37):=by kernel_rfl
def x39_0:L_:=[q_ 2 (mi_ 0)]
def x39_1:L_:=s_ 13 [a_ 0,k_ 13,f_ 2 14,li_ 15,b_ .rem 16 (ci_ 4),b_ .neq 17 (ci_ 0),a_ 18] (sg_ 20 19 false [a_ 0,k_ 20,f_ 2 21,li_ 22,b_ .lss 23 (ci_ 0)] ((⟨(some 25),.pick 19 bt_ 24,none⟩) :: (q_ 26 (m_ 25)) :: sg_ 27 26 false [a_ 0,k_ 27,f_ 2 28,li_ 29,b_ .gtr 30 (ci_ 4194304)] [⟨(some 32),.pick 26 bt_ 31,none⟩]))
def x39_2:L_:=[q_ 2 (mi_ 1)]
def x39_6:L_:=s_ 33 [a_ 0,k_ 33,f_ 0 34,l_ 35,n_ 36,b_ .gtr 37 (ci_ 65536)] []
def x39_7:L_:=[q_ 2 (mi_ 3)]
def x39_11:L_:=s_ 39 [a_ 0,k_ 39,f_ 0 40,l_ 41,n_ 42,i_ 0] []
def x39_12:L_:=[q_ 45 (.bin .lss 44 43)]
def x39_14:L_:=s_ 46 [o_ (.iaddrS 8 42 44),g_ 8 46] [q_ 4 (.new [se_,(.int .i64 0),(.int .i64 0),(.int .i64 0),(.int .i64 0),(.int .i64 0),se_,(.int .i64 0)]),on_ (.store 8 4 47)]
def x39_15:L_:=s_ 48 [g_ 8 4,c_ 35 [48],o_ (.un .not 49)] []
def x39_16:L_:=[q_ 2 (mi_ 2)]
def x39_22:L_:=[q_ 51 (.bin .add 44 (ci_ 1)),
 q_ 44 (m_ 51)]
def x39_25:C_:=.seq (r_ x39_12) (.seq (.cnd 45 .skip (.exit 0)) (.seq (.block 1 (.seq (r_ x39_14) (.seq (r_ x39_15) (.cnd 50 (.seq (r_ x39_16) .ret) .skip)))) (r_ x39_22)))
def x39_29:L_:=s_ 52 [a_ 0,k_ 52,f_ 0 53,l_ 54,n_ 55,i_ 0] []
def x39_30:L_:=[q_ 58 (.bin .lss 57 56)]
def x39_32:L_:=s_ 59 [o_ (.iaddrS 8 55 57),g_ 8 59] [q_ 6 (.new [se_,(.int .i64 0),(.int .i64 0),(.int .i64 0),(.int .i64 0),(.int .i64 0),se_,(.int .i64 0)]),on_ (.store 8 6 60)]
def x39_33:L_:=s_ 62 [a_ 0,k_ 62,f_ 3 63,l_ 64,f_ 0 6,o_ (.load .str 1 66),o_ (.lookup 9 3 .string (.int .i64 0) true 65 67)] ((q_ 61 (m_ 68)) :: s_ 69 [e_ 61 0,e_ 61 1] (s_ 7 [a_ 69,a_ 70] []))
def x39_34:L_:=[q_ 71 (m_ 8)]
def x39_35:L_:=[q_ 2 (mi_ 18)]
def x39_40:L_:=s_ 72 [f_ 0 6,o_ (.load .str 1 72),b_ .neq 73 (.const se_)] []
def x39_41:L_:=s_ 75 [a_ 0,k_ 75,f_ 3 76,l_ 77,f_ 0 6,o_ (.load .str 1 79)] [on_ (.mapupd 9 3 .string 78 80 (ci_ 0))]
def x39_47:L_:=[q_ 81 (.bin .add 57 (ci_ 1)),
 q_ 57 (m_ 81)]
def x39_50:C_:=.seq (r_ x39_30) (.seq (.cnd 58 .skip (.exit 2)) (.seq (.block 3 (.seq (r_ x39_32) (.seq (.seq (.draw x39_33 [[],[0],[0,1],[0,1,2],[],[4],[0,1,2,3,4,5],[0,1,2,3,4,5,6],[0,1,2,3,4,5,6,7],[0,1,2,3,4,5,6,7],[0,1,2,3,4,5,6,7,8],[0,1,2,3,4,5,6,7,8,9,10]]) (.seq (r_ x39_34) (.cnd 71 (.seq (r_ x39_35) .ret) .skip))) (.seq (r_ x39_40) (.cnd 74 (.draw x39_41 [[],[0],[0,1],[0,1,2],[],[4],[0,1,2,3,4,5]]) .skip))))) (r_ x39_47)))
def x39_54:L_:=s_ 82 [a_ 0,k_ 82,f_ 0 83,l_ 84,n_ 85,i_ 0] []
def x39_55:L_:=[q_ 88 (.bin .lss 87 86)]
def x39_57:L_:=s_ 89 [o_ (.iaddrS 8 85 87),g_ 8 89] [q_ 10 (.new [se_,(.int .i64 0),(.int .i64 0),(.int .i64 0),(.int .i64 0),(.int .i64 0),se_,(.int .i64 0)]),on_ (.store 8 10 90)]
def x39_58:L_:=s_ 92 [a_ 0,k_ 92,f_ 3 93,l_ 94,f_ 6 10,o_ (.load .str 1 96),o_ (.lookup 9 3 .string (.int .i64 0) true 95 97)] ((q_ 91 (m_ 98)) :: s_ 99 [e_ 91 0,e_ 91 1] (s_ 11 [a_ 99,a_ 100] []))
def x39_59:L_:=s_ 101 [f_ 6 10,o_ (.load .str 1 101),b_ .neq 102 (.const se_),a_ 103] (sg_ 105 104 true [a_ 12,o_ (.un .not 105)] [⟨(some 107),.pick 104 106 bf_,none⟩])
def x39_60:L_:=[q_ 2 (mi_ 17)]
def x39_67:L_:=[q_ 108 (.bin .add 87 (ci_ 1)),
 q_ 87 (m_ 108)]
def x39_70:C_:=.seq (r_ x39_55) (.seq (.cnd 88 .skip (.exit 4)) (.seq (.block 5 (.seq (r_ x39_57) (.seq (.draw x39_58 [[],[0],[0,1],[0,1,2],[],[4],[0,1,2,3,4,5],[0,1,2,3,4,5,6],[0,1,2,3,4,5,6,7],[0,1,2,3,4,5,6,7],[0,1,2,3,4,5,6,7,8],[0,1,2,3,4,5,6,7,8,9,10]]) (.seq (r_ x39_59) (.cnd 107 (.seq (r_ x39_60) .ret) .skip))))) (r_ x39_67)))
def x39_74:L_:=[q_ 2 (mi_ 0)]
def x39_75:C_:=.seq (r_ x39_74) .ret
def x39_76:C_:=.seq (.seq (r_ x39_54) (.block 4 (.loop x39_70))) x39_75
def x39_77:C_:=.seq (.seq (r_ x39_29) (.block 2 (.loop x39_50))) x39_76
def x39_81:C_:=.seq (r_ x39_0) (.seq (.seq (r_ x39_1) (.cnd 32 (.seq (r_ x39_2) .ret) .skip)) (.seq (.seq (r_ x39_6) (.cnd 38 (.seq (r_ x39_7) .ret) .skip)) (.seq (.seq (r_ x39_11) (.block 0 (.loop x39_25))) x39_77)))
def x39:C_:=x39_81
theorem fx39:fnx Try.prog 21=some (109,[(2,none)],x39):=by kernel_rfl
def x40_0:L_:=s_ 5 [a_ 0,k_ 5,f_ 2 6,li_ 7] [q_ 2 (m_ 8)]
def x40_1:L_:=s_ 9 [a_ 0,k_ 9,f_ 0 10,l_ 11,n_ 12,i_ 0] []
def x40_2:L_:=[q_ 15 (.bin .lss 14 13)]
def x40_4:L_:=s_ 16 [a_ 14,o_ (.iaddrS 8 12 14),g_ 8 17] [q_ 4 (.new [se_,(.int .i64 0),(.int .i64 0),(.int .i64 0),(.int .i64 0),(.int .i64 0),se_,(.int .i64 0)]),q_ 3 (m_ 16),on_ (.store 8 4 18)]
def x40_5:L_:=s_ 19 [a_ 0,k_ 19,f_ 4 20,l_ 21,a_ 3,a_ 2,o_ (.iaddrS 1 22 23)] [on_ (.store 1 25 24)]
def x40_6:L_:=s_ 29 [f_ 0 4,o_ (.load .str 1 29),b_ .neq 30 (.const se_)] [q_ 28 (m_ 31)]
def x40_7:L_:=s_ 32 [a_ 0,k_ 32,f_ 3 33,l_ 34,f_ 0 4,o_ (.load .str 1 36),a_ 2] [on_ (.mapupd 9 3 .string 35 37 38)]
def x40_8:L_:=s_ 40 [a_ 0,k_ 40,f_ 1 41,l_ 42,a_ 3,o_ (.iaddrS 1 43 44),o_ (.load .bool 1 45)] [q_ 39 (m_ 46)]
def x40_9:L_:=s_ 47 [a_ 2,b_ .add 47 (ci_ 8)] [q_ 2 (m_ 48)]
def x40_10:L_:=s_ 26 [a_ 2,b_ .add 26 (ci_ 4)] [q_ 2 (m_ 27)]
def x40_19:L_:=[q_ 49 (.bin .add 14 (ci_ 1)),
 q_ 14 (m_ 49)]
def x40_21:C_:=.seq (.cnd 15 .skip (.exit 0)) (.seq (.block 1 (.seq (r_ x40_4) (.seq (r_ x40_5) (.block 2 (.seq (r_ x40_6) (.cnd 28 (.draw x40_7 [[],[0],[0,1],[0,1,2],[],[4],[],[0,1,2,3,4,5,6]]) (.seq (r_ x40_8) (.cnd 39 (r_ x40_9) (r_ x40_10))))))))) (r_ x40_19))
def x40_22:C_:=.seq (r_ x40_2) x40_21
def x40_26:C_:=.seq (r_ x40_0) (.seq (r_ x40_1) (.block 0 (.loop x40_22)))
def x40:C_:=x40_26
theorem fx40:fnx Try.prog 22=some (50,[],x40):=by kernel_rfl
def x41_0:L_:=[q_ 2 (.mv bf_)]
def x41_1:L_:=[q_ 3 (.mv bf_)]
def x41_2:L_:=s_ 6 [a_ 0,k_ 6,f_ 0 7,l_ 8,n_ 9,i_ 0] []
def x41_3:L_:=[q_ 12 (.bin .lss 11 10)]
def x41_5:L_:=s_ 13 [a_ 11,o_ (.iaddrS 8 9 11),g_ 8 14] [q_ 5 (.new [se_,(.int .i64 0),(.int .i64 0),(.int .i64 0),(.int .i64 0),(.int .i64 0),se_,(.int .i64 0)]),q_ 4 (m_ 13),on_ (.store 8 5 15)]
def x41_6:L_:=s_ 16 [f_ 0 5,o_ (.load .str 1 16),b_ .eql 17 (.const se_),a_ 18] (sg_ 20 19 true [f_ 1 5,f_ 0 20,li_ 21] ((⟨(some 23),.callF 36 [22],(some (19,true))⟩) :: (⟨(some 24),.pick 19 23 bf_,none⟩) :: (q_ 25 (m_ 24)) :: sg_ 26 25 true [f_ 6 5,o_ (.load .str 1 26),b_ .neq 27 (.const se_)] ((⟨(some 29),.pick 25 28 bf_,none⟩) :: (q_ 30 (m_ 29)) :: sg_ 31 30 true [a_ 0,k_ 31,f_ 1 32,l_ 33,a_ 4,o_ (.iaddrS 1 34 35),o_ (.load .bool 1 36),o_ (.un .not 37)] ((⟨(some 39),.pick 30 38 bf_,none⟩) :: (q_ 40 (m_ 39)) :: sg_ 41 40 true [f_ 1 5,f_ 0 41,li_ 42,a_ 0,k_ 44,f_ 3 45,l_ 46,f_ 6 5,o_ (.load .str 1 48),o_ (.lookup 9 3 .string (.int .i64 0) false 47 49),a_ 0,k_ 51,f_ 4 52,l_ 53,a_ 4,o_ (.iaddrS 1 54 55),li_ 56,b_ .sub 50 57] [⟨(some 59),.callF 37 [43,58],(some (40,true))⟩,og_ 60 40 true (.un .not 59),⟨(some 61),.pick 40 60 bf_,none⟩]))))
def x41_7:L_:=s_ 62 [a_ 0,k_ 62,f_ 1 63,l_ 64,a_ 4,o_ (.iaddrS 1 65 66)] [on_ (.store 1 67 bt_),q_ 3 (.mv bt_)]
def x41_9:C_:=.seq (.draw x41_6 [[],[0],[0,1],[0,1,2],[0,1,2,3],[0,1,2,3,4],[0,1,2,3,4,5],[0,1,2,3,4,5,6],[0,1,2,3,4,5,6,7],[0,1,2,3,4,5,6,7,8],[0,1,2,3,4,5,6,7,8,9],[0,1,2,3,4,5,6,7,8,9,10],[0,1,2,3,4,5,6,7,8,9,10,11],[0,1,2,3,4,5,6,7,8,9,10,11,12],[0,1,2,3,4,5,6,7,8,9,10,11,12,13],[0,1,2,3,4,5,6,7,8,9,10,11,12,13,14],[0,1,2,3,4,5,6,7,8,9,10,11,12,13,14,15],[0,1,2,3,4,5,6,7,8,9,10,11,12,13,14,15,16],[0,1,2,3,4,5,6,7,8,9,10,11,12,13,14,15,16,17],[0,1,2,3,4,5,6,7,8,9,10,11,12,13,14],[0,1,2,3,4,5,6,7,8,9,10,11,12,13,14,15,16,17,18,19],[0,1,2,3,4,5,6,7,8,9,10,11,12,13,14,15,16,17,18,19,20],[0,1,2,3,4,5,6,7,8,9,10,11,12,13,14,15,16,17,18,19,20,21],[0,1,2,3,4,5,6,7,8,9,10,11,12,13,14,15,16,17,18,19,20,21,22],[0,1,2,3,4,5,6,7,8,9,10,11,12,13,14,15,16,17,18,19,20,21,22,23],[0,1,2,3,4,5,6,7,8,9,10,11,12,13,14,15,16,17,18,19,20,21,22,23,24],[0,1,2,3,4,5,6,7,8,9,10,11,12,13,14,15,16,17,18,19,20,21,22,23,24,25],[0,1,2,3,4,5,6,7,8,9,10,11,12,13,14,15,16,17,18,19,20,21,22,23,24,25,26],[0,1,2,3,4,5,6,7,8,9,10,11,12,13,14,15,16,17,18,19,20,21,22,23,24],[0,1,2,3,4,5,6,7,8,9,10,11,12,13,14,15,16,17,18,19,20,21,22,23,24,28],[0,1,2,3,4,5,6,7,8,9,10,11,12,13,14,15,16,17,18,19,20,21,22,23,24,28,29],[0,1,2,3,4,5,6,7,8,9,10,11,12,13,14,15,16,17,18,19,20,21,22,23,24,28,29,30],[0,1,2,3,4,5,6,7,8,9,10,11,12,13,14,15,16,17,18,19,20,21,22,23,24],[0,1,2,3,4,5,6,7,8,9,10,11,12,13,14,15,16,17,18,19,20,21,22,23,24,32],[0,1,2,3,4,5,6,7,8,9,10,11,12,13,14,15,16,17,18,19,20,21,22,23,24,28,29,30,31,32,33],[0,1,2,3,4,5,6,7,8,9,10,11,12,13,14,15,16,17,18,19,20,21,22,23,24],[0,1,2,3,4,5,6,7,8,9,10,11,12,13,14,15,16,17,18,19,20,21,22,23,24,35],[0,1,2,3,4,5,6,7,8,9,10,11,12,13,14,15,16,17,18,19,20,21,22,23,24,35,36],[0,1,2,3,4,5,6,7,8,9,10,11,12,13,14,15,16,17,18,19,20,21,22,23,24,35,36,37],[0,1,2,3,4,5,6,7,8,9,10,11,12,13,14,15,16,17,18,19,20,21,22,23,24],[0,1,2,3,4,5,6,7,8,9,10,11,12,13,14,15,16,17,18,19,20,21,22,23,24,35,36,37,38,39],[0,1,2,3,4,5,6,7,8,9,10,11,12,13,14,15,16,17,18,19,20,21,22,23,24,35,36,37,38,39,40],[0,1,2,3,4,5,6,7,8,9,10,11,12,13,14,15,16,17,18,19,20,21,22,23,24,28,29,30,31,32,33,34,35,36,37,38,39,40,41],[0,1,2,3,4,5,6,7,8,9,10,11,12,13,14,15,16,17,18,19,20,21,22,23,24,25,26,27,28,29,30,31,32,33,34,35,36,37,38,39,40,41,42],[0,1,2,3,4,5,6,7,8,9,10,11,12,13,14,15,16,17,18,19,20,21,22,23,24,25,26,27,28,29,30,31,32,33,34,35,36,37,38,39,40,41,42,43],[0,1,2,3,4,5,6,7,8,9,10,11,12,13,14,15,16,17,18,19,20,21,22,23,24,25,26,27,28,29,30,31,32,33,34,35,36,37,38,39,40,41,42,43,44]]) (.cnd 61 (r_ x41_7) .skip)
def x41_12:L_:=[q_ 68 (.bin .add 11 (ci_ 1)),
 q_ 11 (m_ 68)]
def x41_15:C_:=.seq (r_ x41_3) (.seq (.cnd 12 .skip (.exit 0)) (.seq (.block 1 (.seq (r_ x41_5) x41_9)) (r_ x41_12)))
def x41_19:L_:=[q_ 69 (m_ 3),
 q_ 2 (m_ 69)]
def x41_20:C_:=.seq (r_ x41_19) .ret
def x41_23:C_:=.seq (r_ x41_0) (.seq (r_ x41_1) (.seq (.seq (r_ x41_2) (.block 0 (.loop x41_15))) x41_20))
def x41:C_:=x41_23
theorem fx41:fnx Try.prog 23=some (70,[(2,none)],x41):=by kernel_rfl
def x42_0:L_:=[q_ 4 (.mv (.const (.slice none 0 0)))]
def x42_1:L_:=s_ 8 [a_ 0,k_ 8,f_ 0 9,l_ 10,a_ 1,o_ (.iaddrS 8 11 12),f_ 1 13,g_ 5 14] [q_ 5 (.new (zs_ .i64 5)),on_ (.store 5 5 15)]
def x42_2:L_:=s_ 16 [a_ 0,k_ 16,f_ 0 17,l_ 18,a_ 1,o_ (.iaddrS 8 19 20),f_ 6 21,o_ (.load .str 1 22)] [q_ 6 (m_ 23)]
def x42_3:L_:=s_ 24 [a_ 0,k_ 24,f_ 3 25,l_ 26,a_ 6,o_ (.lookup 9 3 .string (.int .i64 0) false 27 28),a_ 0,k_ 30,f_ 4 31,l_ 32,a_ 1,o_ (.iaddrS 1 33 34),li_ 35,b_ .sub 29 36] [q_ 7 (m_ 37)]
def x42_4:L_:=s_ 41 [a_ 6,b_ .eql 41 (.const se_)] [q_ 40 (m_ 42)]
def x42_5:L_:=s_ 44 [a_ 0,k_ 44,f_ 0 45,l_ 46,a_ 1,o_ (.iaddrS 8 47 48),f_ 7 49,li_ 50,b_ .eql 51 (ci_ 1)] [q_ 43 (m_ 52)]
def x42_6:L_:=s_ 53 [a_ 0,k_ 53,f_ 3 54,l_ 55,a_ 6,o_ (.lookup 9 3 .string (.int .i64 0) false 56 57),c_ 38 [58],f_ 4 5] [on_ (.store 1 60 59)]
def x42_7:L_:=s_ 62 [a_ 0,k_ 62,f_ 0 63,l_ 64,a_ 1,o_ (.iaddrS 8 65 66),f_ 7 67,li_ 68,b_ .eql 69 (ci_ 2)] [q_ 61 (m_ 70)]
def x42_8:L_:=s_ 71 [a_ 0,k_ 71,f_ 3 72,l_ 73,a_ 6,o_ (.lookup 9 3 .string (.int .i64 0) false 74 75),c_ 39 [76],f_ 4 5] [on_ (.store 1 78 77)]
def x42_9:L_:=s_ 80 [a_ 0,k_ 80,f_ 1 81,l_ 82,a_ 1,o_ (.iaddrS 1 83 84),o_ (.load .bool 1 85)] [q_ 79 (m_ 86)]
def x42_10:L_:=s_ 87 [f_ 0 5,li_ 87,c_ 40 [88],f_ 0 5] [on_ (.store 1 90 89),q_ 91 (.faddr 4 5),on_ (.store 1 91 (ci_ 8))]
def x42_11:L_:=s_ 92 [g_ 5 5,a_ 7,b_ .sub 93 (ci_ 4),o_ (.build (zs_ .i64 5) [(0,1,(ci_ 53)),(4,1,94)]),o_ (.mkslice (zs_ .i64 5) 2 [(0,92),(1,95)])] [q_ 4 (m_ 96)]
def x42_14:L_:=s_ 38 [a_ 7,f_ 4 5] [on_ (.store 1 39 38)]
def x42_22:C_:=.seq (r_ x42_4) (.cnd 40 .skip (.seq (r_ x42_5) (.cnd 43 (r_ x42_6) (.seq (r_ x42_7) (.cnd 61 (r_ x42_8) (.seq (r_ x42_9) (.cnd 79 (.seq (r_ x42_10) (.seq (r_ x42_11) .ret)) (r_ x42_14))))))))
def x42_24:L_:=s_ 97 [g_ 5 5,o_ (.mkslice (zs_ .i64 5) 1 [(0,97)])] [q_ 4 (m_ 98)]
def x42_30:C_:=.seq (r_ x42_0) (.seq (r_ x42_1) (.seq (r_ x42_2) (.seq (.draw x42_3 [[],[0],[0,1],[0,1,2],[],[0,1,2,3,4],[],[6],[6,7],[6,7,8],[],[6,7,8,9,10],[6,7,8,9,10,11],[0,1,2,3,4,5,6,7,8,9,10,11,12],[0,1,2,3,4,5,6,7,8,9,10,11,12,13]]) (.seq (.block 0 x42_22) (.seq (r_ x42_24) .ret)))))
def x42:C_:=x42_30
theorem fx42:fnx Try.prog 24=some (99,[(4,none)],x42):=by kernel_rfl
def x43_0:L_:=[q_ 0 (.mv (.const (.map none)))]
def x43_1:L_:=[q_ 3 (.mkmap 3 99 (.agg #[(.int .u8 0),(.int .u32 0),(.int .u32 0),(.int .u32 0)])),
 q_ 1 (.new [(.map none)]),
 on_ (.store 1 1 3)]
def x43_2:L_:=[q_ 4 (.mkfunc (.func 55) 0 [1]),
 q_ 2 (m_ 4)]
def x43_3:L_:=s_ 5 [a_ 2,o_ (.build (zs_ .u32 3) [(0,1,(ck_ .u32 1))]),o_ (.build (zs_ .u32 3) [(0,1,(ck_ .u32 2)),(1,1,(ck_ .u32 0)),(2,1,(ck_ .u32 32))]),o_ (.build (zs_ .u32 3) [(0,1,(ck_ .u32 3)),(1,1,(ck_ .u32 1))]),o_ (.build (zs_ .u32 3) [(0,1,(ck_ .u32 4)),(1,1,(ck_ .u32 2))]),o_ (.build (zs_ .u32 3) [(0,1,(ck_ .u32 5)),(1,1,(ck_ .u32 3))]),o_ (.build (zs_ .u32 3) [(0,1,(ck_ .u32 6)),(1,1,(ck_ .u32 4))]),o_ (.build (zs_ .u32 3) [(0,1,(ck_ .u32 7)),(1,1,(ck_ .u32 5))]),o_ (.build (zs_ .u32 3) [(0,1,(ck_ .u32 8)),(1,1,(ck_ .u32 5)),(2,1,(ck_ .u32 32))]),o_ (.build (zs_ .u32 3) [(0,1,(ck_ .u32 9)),(1,1,(ck_ .u32 6))]),o_ (.build (zs_ .u32 3) [(0,1,(ck_ .u32 10)),(1,1,(ck_ .u32 7))]),o_ (.mkslice (zs_ .u32 3) 10 [(0,6),(1,7),(2,8),(3,9),(4,10),(5,11),(6,12),(7,13),(8,14),(9,15)])] [⟨(some 17),.callV 5 [(ck_ .u8 82),(ck_ .u32 51),16],none⟩]
def x43_4:L_:=s_ 18 [a_ 2,o_ (.build (zs_ .u32 3) [(0,1,(ck_ .u32 11)),(1,1,(ck_ .u32 0)),(2,1,(ck_ .u32 1))]),o_ (.build (zs_ .u32 3) [(0,1,(ck_ .u32 12)),(1,1,(ck_ .u32 1)),(2,1,(ck_ .u32 1))]),o_ (.build (zs_ .u32 3) [(0,1,(ck_ .u32 13)),(1,1,(ck_ .u32 3)),(2,1,(ck_ .u32 1))]),o_ (.build (zs_ .u32 3) [(0,1,(ck_ .u32 14)),(1,1,(ck_ .u32 4)),(2,1,(ck_ .u32 1))]),o_ (.build (zs_ .u32 3) [(0,1,(ck_ .u32 15)),(1,1,(ck_ .u32 5)),(2,1,(ck_ .u32 1))]),o_ (.build (zs_ .u32 3) [(0,1,(ck_ .u32 16)),(1,1,(ck_ .u32 6)),(2,1,(ck_ .u32 1))]),o_ (.build (zs_ .u32 3) [(0,1,(ck_ .u32 17)),(1,1,(ck_ .u32 7)),(2,1,(ck_ .u32 1))]),o_ (.mkslice (zs_ .u32 3) 7 [(0,19),(1,20),(2,21),(3,22),(4,23),(5,24),(6,25)])] [⟨(some 27),.callV 18 [(ck_ .u8 82),(ck_ .u32 51),26],none⟩]
def x43_5:L_:=s_ 28 [a_ 2,o_ (.build (zs_ .u32 3) [(0,1,(ck_ .u32 18))]),o_ (.build (zs_ .u32 3) [(0,1,(ck_ .u32 19)),(1,1,(ck_ .u32 0)),(2,1,(ck_ .u32 32))]),o_ (.build (zs_ .u32 3) [(0,1,(ck_ .u32 20)),(1,1,(ck_ .u32 1))]),o_ (.build (zs_ .u32 3) [(0,1,(ck_ .u32 21)),(1,1,(ck_ .u32 5))]),o_ (.build (zs_ .u32 3) [(0,1,(ck_ .u32 22)),(1,1,(ck_ .u32 5)),(2,1,(ck_ .u32 32))]),o_ (.build (zs_ .u32 3) [(0,1,(ck_ .u32 23)),(1,1,(ck_ .u32 0)),(2,1,(ck_ .u32 1))]),o_ (.build (zs_ .u32 3) [(0,1,(ck_ .u32 24)),(1,1,(ck_ .u32 4)),(2,1,(ck_ .u32 1))]),o_ (.build (zs_ .u32 3) [(0,1,(ck_ .u32 25)),(1,1,(ck_ .u32 5)),(2,1,(ck_ .u32 1))]),o_ (.build (zs_ .u32 3) [(0,1,(ck_ .u32 26)),(1,1,(ck_ .u32 6)),(2,1,(ck_ .u32 1))]),o_ (.build (zs_ .u32 3) [(0,1,(ck_ .u32 27)),(1,1,(ck_ .u32 7)),(2,1,(ck_ .u32 1))]),o_ (.mkslice (zs_ .u32 3) 10 [(0,29),(1,30),(2,31),(3,32),(4,33),(5,34),(6,35),(7,36),(8,37),(9,38)])] [⟨(some 40),.callV 28 [(ck_ .u8 82),(ck_ .u32 59),39],none⟩]
def x43_6:L_:=s_ 41 [a_ 2,o_ (.build (zs_ .u32 3) [(0,1,(ck_ .u32 28))]),o_ (.build (zs_ .u32 3) [(0,1,(ck_ .u32 29)),(1,1,(ck_ .u32 2))]),o_ (.build (zs_ .u32 3) [(0,1,(ck_ .u32 30)),(1,1,(ck_ .u32 3))]),o_ (.build (zs_ .u32 3) [(0,1,(ck_ .u32 31)),(1,1,(ck_ .u32 4))]),o_ (.build (zs_ .u32 3) [(0,1,(ck_ .u32 32)),(1,1,(ck_ .u32 6))]),o_ (.build (zs_ .u32 3) [(0,1,(ck_ .u32 33)),(1,1,(ck_ .u32 7))]),o_ (.mkslice (zs_ .u32 3) 6 [(0,42),(1,43),(2,44),(3,45),(4,46),(5,47)])] [⟨(some 49),.callV 41 [(ck_ .u8 73),(ck_ .u32 19),48],none⟩]
def x43_7:L_:=s_ 50 [a_ 2,o_ (.build (zs_ .u32 3) [(0,1,(ck_ .u32 34)),(1,1,(ck_ .u32 1))]),o_ (.build (zs_ .u32 3) [(0,1,(ck_ .u32 35)),(1,1,(ck_ .u32 5))]),o_ (.build (zs_ .u32 3) [(0,1,(ck_ .u32 36)),(1,1,(ck_ .u32 5)),(2,1,(ck_ .u32 32))]),o_ (.mkslice (zs_ .u32 3) 3 [(0,51),(1,52),(2,53)])] [⟨(some 55),.callV 50 [(ck_ .u8 84),(ck_ .u32 19),54],none⟩]
def x43_8:L_:=s_ 56 [a_ 2,o_ (.build (zs_ .u32 3) [(0,1,(ck_ .u32 37))]),o_ (.mkslice (zs_ .u32 3) 1 [(0,57)])] [⟨(some 59),.callV 56 [(ck_ .u8 73),(ck_ .u32 27),58],none⟩]
def x43_9:L_:=s_ 60 [a_ 2,o_ (.build (zs_ .u32 3) [(0,1,(ck_ .u32 38))]),o_ (.build (zs_ .u32 3) [(0,1,(ck_ .u32 40)),(1,1,(ck_ .u32 2))]),o_ (.build (zs_ .u32 3) [(0,1,(ck_ .u32 41)),(1,1,(ck_ .u32 3))]),o_ (.build (zs_ .u32 3) [(0,1,(ck_ .u32 39)),(1,1,(ck_ .u32 4))]),o_ (.mkslice (zs_ .u32 3) 4 [(0,61),(1,62),(2,63),(3,64)])] [⟨(some 66),.callV 60 [(ck_ .u8 73),(ck_ .u32 3),65],none⟩]
def x43_10:L_:=s_ 67 [a_ 2,o_ (.build (zs_ .u32 3) [(0,1,(ck_ .u32 42))]),o_ (.build (zs_ .u32 3) [(0,1,(ck_ .u32 43)),(1,1,(ck_ .u32 2))]),o_ (.build (zs_ .u32 3) [(0,1,(ck_ .u32 44)),(1,1,(ck_ .u32 3))]),o_ (.mkslice (zs_ .u32 3) 3 [(0,68),(1,69),(2,70)])] [⟨(some 72),.callV 67 [(ck_ .u8 83),(ck_ .u32 35),71],none⟩]
def x43_11:L_:=s_ 73 [a_ 2,o_ (.build (zs_ .u32 3) [(0,1,(ck_ .u32 45))]),o_ (.build (zs_ .u32 3) [(0,1,(ck_ .u32 46)),(1,1,(ck_ .u32 1))]),o_ (.build (zs_ .u32 3) [(0,1,(ck_ .u32 47)),(1,1,(ck_ .u32 4))]),o_ (.build (zs_ .u32 3) [(0,1,(ck_ .u32 48)),(1,1,(ck_ .u32 5))]),o_ (.build (zs_ .u32 3) [(0,1,(ck_ .u32 49)),(1,1,(ck_ .u32 6))]),o_ (.build (zs_ .u32 3) [(0,1,(ck_ .u32 50)),(1,1,(ck_ .u32 7))]),o_ (.mkslice (zs_ .u32 3) 6 [(0,74),(1,75),(2,76),(3,77),(4,78),(5,79)])] [⟨(some 81),.callV 73 [(ck_ .u8 66),(ck_ .u32 99),80],none⟩]
def x43_12:L_:=s_ 82 [a_ 2,o_ (.build (zs_ .u32 3) [(0,1,(ck_ .u32 51))]),o_ (.mkslice (zs_ .u32 3) 1 [(0,83)])] [⟨(some 85),.callV 82 [(ck_ .u8 85),(ck_ .u32 55),84],none⟩]
def x43_13:L_:=s_ 86 [a_ 2,o_ (.build (zs_ .u32 3) [(0,1,(ck_ .u32 52))]),o_ (.mkslice (zs_ .u32 3) 1 [(0,87)])] [⟨(some 89),.callV 86 [(ck_ .u8 85),(ck_ .u32 23),88],none⟩]
def x43_14:L_:=s_ 90 [a_ 2,o_ (.build (zs_ .u32 3) [(0,1,(ck_ .u32 53))]),o_ (.mkslice (zs_ .u32 3) 1 [(0,91)])] [⟨(some 93),.callV 90 [(ck_ .u8 74),(ck_ .u32 111),92],none⟩]
def x43_15:L_:=s_ 94 [a_ 2,o_ (.build (zs_ .u32 3) [(0,1,(ck_ .u32 54))]),o_ (.mkslice (zs_ .u32 3) 1 [(0,95)])] [⟨(some 97),.callV 94 [(ck_ .u8 73),(ck_ .u32 103),96],none⟩]
def x43_16:L_:=s_ 98 [a_ 2,o_ (.build (zs_ .u32 3) [(0,1,(ck_ .u32 55))]),o_ (.mkslice (zs_ .u32 3) 1 [(0,99)])] [⟨(some 101),.callV 98 [(ck_ .u8 78),(ck_ .u32 115),100],none⟩]
def x43_17:L_:=[q_ 102 (.load .one 1 1),
 q_ 0 (m_ 102)]
def x43_27:C_:=.seq (r_ x43_8) (.seq (r_ x43_9) (.seq (r_ x43_10) (.seq (r_ x43_11) (.seq (r_ x43_12) (.seq (r_ x43_13) (.seq (r_ x43_14) (.seq (r_ x43_15) (.seq (r_ x43_16) (.seq (r_ x43_17) .ret)))))))))
def x43_35:C_:=.seq (r_ x43_0) (.seq (r_ x43_1) (.seq (r_ x43_2) (.seq (r_ x43_3) (.seq (r_ x43_4) (.seq (r_ x43_5) (.seq (r_ x43_6) (.seq (r_ x43_7) x43_27)))))))
def x43:C_:=x43_35
theorem fx43:fnx Try.prog 41=some (103,[(0,none)],x43):=by kernel_rfl
def x44_0:L_:=s_ 2 [i_ 0,i_ 0] []
def x44_1:L_:=[q_ 4 (m_ 0)]
def x44_2:L_:=[q_ 6 (.bin .eql 4 (ck_ .u8 73)),
 q_ 5 (m_ 6)]
def x44_3:L_:=[q_ 7 (.bin .eql 4 (ck_ .u8 83)),
 q_ 5 (m_ 7)]
def x44_6:L_:=s_ 2 [v_ (ci_ (-2048)),i_ 2047] []
def x44_8:L_:=[q_ 9 (.bin .eql 4 (ck_ .u8 84)),
 q_ 8 (m_ 9)]
def x44_9:L_:=s_ 2 [i_ 0,i_ 63] []
def x44_11:L_:=[q_ 11 (.bin .eql 4 (ck_ .u8 66)),
 q_ 10 (m_ 11)]
def x44_12:L_:=s_ 2 [v_ (ci_ (-4096)),i_ 4094] []
def x44_14:L_:=[q_ 13 (.bin .eql 4 (ck_ .u8 85)),
 q_ 12 (m_ 13)]
def x44_15:L_:=s_ 2 [v_ (ci_ (-524288)),i_ 524287] []
def x44_17:L_:=[q_ 15 (.bin .eql 4 (ck_ .u8 74)),
 q_ 14 (m_ 15)]
def x44_18:L_:=s_ 2 [v_ (ci_ (-1048576)),i_ 1048574] []
def x44_28:C_:=.cnd 5 (.seq (r_ x44_6) .ret) (.seq (r_ x44_8) (.cnd 8 (.seq (r_ x44_9) .ret) (.seq (r_ x44_11) (.cnd 10 (.seq (r_ x44_12) .ret) (.seq (r_ x44_14) (.cnd 12 (.seq (r_ x44_15) .ret) (.seq (r_ x44_17) (.cnd 14 (.seq (r_ x44_18) .ret) .skip))))))))
def x44_32:L_:=s_ 2 [i_ 1,i_ 0] []
def x44_35:C_:=.seq (r_ x44_0) (.seq (.seq (r_ x44_1) (.block 0 (.seq (.seq (r_ x44_2) (.cnd 5 .skip (r_ x44_3))) x44_28))) (.seq (r_ x44_32) .ret))
def x44:C_:=x44_35
theorem fx44:fnx Try.prog 42=some (16,[(2,none),(3,none)],x44):=by kernel_rfl
def x45_0:L_:=[q_ 2 (.new [(.bool false),(.bool false),(.bool false)])]
def x45_1:L_:=[q_ 3 (m_ 0)]
def x45_2:L_:=[q_ 5 (.bin .eql 3 (ck_ .u8 82)),
 q_ 4 (m_ 5)]
def x45_3:L_:=[q_ 6 (.build [(.bool false),(.bool false),(.bool false)] [(0,1,bt_),(1,1,bt_),(2,1,bt_)]),
 on_ (.store 3 2 6)]
def x45_5:L_:=[q_ 8 (.bin .eql 3 (ck_ .u8 73)),
 q_ 7 (m_ 8)]
def x45_6:L_:=[q_ 9 (.bin .eql 3 (ck_ .u8 84)),
 q_ 7 (m_ 9)]
def x45_9:L_:=[q_ 10 (.build [(.bool false),(.bool false),(.bool false)] [(0,1,bt_),(1,1,bt_),(2,1,bf_)]),
 on_ (.store 3 2 10)]
def x45_11:L_:=[q_ 12 (.bin .eql 3 (ck_ .u8 83)),
 q_ 11 (m_ 12)]
def x45_12:L_:=[q_ 13 (.bin .eql 3 (ck_ .u8 66)),
 q_ 11 (m_ 13)]
def x45_15:L_:=[q_ 14 (.build [(.bool false),(.bool false),(.bool false)] [(0,1,bf_),(1,1,bt_),(2,1,bt_)]),
 on_ (.store 3 2 14)]
def x45_17:L_:=[q_ 16 (.bin .eql 3 (ck_ .u8 85)),
 q_ 15 (m_ 16)]
def x45_18:L_:=[q_ 17 (.bin .eql 3 (ck_ .u8 74)),
 q_ 15 (m_ 17)]
def x45_21:L_:=[q_ 18 (.build [(.bool false),(.bool false),(.bool false)] [(0,1,bt_),(1,1,bf_),(2,1,bf_)]),
 on_ (.store 3 2 18)]
def x45_31:C_:=.block 0 (.seq (r_ x45_2) (.cnd 4 (.seq (r_ x45_3) .ret) (.seq (.seq (r_ x45_5) (.cnd 7 .skip (r_ x45_6))) (.cnd 7 (.seq (r_ x45_9) .ret) (.seq (.seq (r_ x45_11) (.cnd 11 .skip (r_ x45_12))) (.cnd 11 (.seq (r_ x45_15) .ret) (.seq (.seq (r_ x45_17) (.cnd 15 .skip (r_ x45_18))) (.cnd 15 (.seq (r_ x45_21) .ret) .skip))))))))
def x45_33:L_:=[q_ 19 (.build [(.bool false),(.bool false),(.bool false)] []),
 on_ (.store 3 2 19)]
def x45_36:C_:=.seq (r_ x45_0) (.seq (.seq (r_ x45_1) x45_31) (.seq (r_ x45_33) .ret))
def x45:C_:=x45_36
theorem fx45:fnx Try.prog 43=some (20,[(2,(some (.agg,3)))],x45):=by kernel_rfl
def x46_0:L_:=[q_ 2 (.mv (.const (.slice none 0 0)))]
def x46_1:L_:=[q_ 3 (m_ 0)]
def x46_2:L_:=[q_ 5 (.bin .eql 3 (ck_ .u8 73)),
 q_ 4 (m_ 5)]
def x46_3:L_:=s_ 6 [o_ (.build (zs_ .u64 3) [(0,1,(ck_ .u64 0)),(1,1,(ck_ .u64 12)),(2,1,(ck_ .u64 20))]),o_ (.mkslice (zs_ .u64 3) 1 [(0,6)])] [q_ 2 (m_ 7)]
def x46_5:L_:=[q_ 9 (.bin .eql 3 (ck_ .u8 84)),
 q_ 8 (m_ 9)]
def x46_6:L_:=s_ 10 [o_ (.build (zs_ .u64 3) [(0,1,(ck_ .u64 0)),(1,1,(ck_ .u64 6)),(2,1,(ck_ .u64 20))]),o_ (.mkslice (zs_ .u64 3) 1 [(0,10)])] [q_ 2 (m_ 11)]
def x46_8:L_:=[q_ 13 (.bin .eql 3 (ck_ .u8 83)),
 q_ 12 (m_ 13)]
def x46_9:L_:=s_ 14 [o_ (.build (zs_ .u64 3) [(0,1,(ck_ .u64 0)),(1,1,(ck_ .u64 5)),(2,1,(ck_ .u64 7))]),o_ (.build (zs_ .u64 3) [(0,1,(ck_ .u64 5)),(1,1,(ck_ .u64 7)),(2,1,(ck_ .u64 25))]),o_ (.mkslice (zs_ .u64 3) 2 [(0,14),(1,15)])] [q_ 2 (m_ 16)]
def x46_11:L_:=[q_ 18 (.bin .eql 3 (ck_ .u8 66)),
 q_ 17 (m_ 18)]
def x46_12:L_:=s_ 19 [o_ (.build (zs_ .u64 3) [(0,1,(ck_ .u64 11)),(1,1,(ck_ .u64 1)),(2,1,(ck_ .u64 7))]),o_ (.build (zs_ .u64 3) [(0,1,(ck_ .u64 1)),(1,1,(ck_ .u64 4)),(2,1,(ck_ .u64 8))]),o_ (.build (zs_ .u64 3) [(0,1,(ck_ .u64 5)),(1,1,(ck_ .u64 6)),(2,1,(ck_ .u64 25))]),o_ (.build (zs_ .u64 3) [(0,1,(ck_ .u64 12)),(1,1,(ck_ .u64 1)),(2,1,(ck_ .u64 31))]),o_ (.mkslice (zs_ .u64 3) 4 [(0,19),(1,20),(2,21),(3,22)])] [q_ 2 (m_ 23)]
def x46_14:L_:=[q_ 25 (.bin .eql 3 (ck_ .u8 85)),
 q_ 24 (m_ 25)]
def x46_15:L_:=s_ 26 [o_ (.build (zs_ .u64 3) [(0,1,(ck_ .u64 0)),(1,1,(ck_ .u64 20)),(2,1,(ck_ .u64 12))]),o_ (.mkslice (zs_ .u64 3) 1 [(0,26)])] [q_ 2 (m_ 27)]
def x46_17:L_:=[q_ 29 (.bin .eql 3 (ck_ .u8 74)),
 q_ 28 (m_ 29)]
def x46_18:L_:=s_ 30 [o_ (.build (zs_ .u64 3) [(0,1,(ck_ .u64 12)),(1,1,(ck_ .u64 8)),(2,1,(ck_ .u64 12))]),o_ (.build (zs_ .u64 3) [(0,1,(ck_ .u64 11)),(1,1,(ck_ .u64 1)),(2,1,(ck_ .u64 20))]),o_ (.build (zs_ .u64 3) [(0,1,(ck_ .u64 1)),(1,1,(ck_ .u64 10)),(2,1,(ck_ .u64 21))]),o_ (.build (zs_ .u64 3) [(0,1,(ck_ .u64 20)),(1,1,(ck_ .u64 1)),(2,1,(ck_ .u64 31))]),o_ (.mkslice (zs_ .u64 3) 4 [(0,30),(1,31),(2,32),(3,33)])] [q_ 2 (m_ 34)]
def x46_28:C_:=.cnd 8 (.seq (r_ x46_6) .ret) (.seq (r_ x46_8) (.cnd 12 (.seq (r_ x46_9) .ret) (.seq (r_ x46_11) (.cnd 17 (.seq (r_ x46_12) .ret) (.seq (r_ x46_14) (.cnd 24 (.seq (r_ x46_15) .ret) (.seq (r_ x46_17) (.cnd 28 (.seq (r_ x46_18) .ret) .skip))))))))
def x46_34:L_:=[q_ 2 (.mv (.const (.slice none 0 0)))]
def x46_37:C_:=.seq (r_ x46_0) (.seq (.seq (r_ x46_1) (.block 0 (.seq (r_ x46_2) (.cnd 4 (.seq (r_ x46_3) .ret) (.seq (r_ x46_5) x46_28))))) (.seq (r_ x46_34) .ret))
def x46:C_:=x46_37
theorem fx46:fnx Try.prog 44=some (35,[(2,none)],x46):=by kernel_rfl
def x48_0:L_:=s_ 8 [o_ (.new [(.int .i64 0),(.int .u8 0),(.int .i64 0),(.slice none 0 0),(.int .i64 0),(.int .i64 0)]),v_ (.const (.slice none 0 0))] []
def x48_1:L_:=s_ 12 [a_ 0,a_ 1,a_ 3,o_ (.build [(.pointer none),(.slice none 0 0),(.slice none 0 0),(.int .i64 0),(.bool false),(.slice none 0 0)] [(0,1,12),(1,1,13),(4,1,14)]),o_ (.box 15)] [q_ 10 (m_ 16)]
def x48_2:L_:=[q_ 11 (mi_ 0)]
def x48_3:L_:=s_ 17 [a_ 11,a_ 2,b_ .lss 17 18,a_ 19] (sg_ 21 20 true [a_ 0,k_ 21,f_ 34 22,li_ 23,b_ .eql 24 (ci_ 0)] [⟨(some 26),.pick 20 25 bf_,none⟩])
def x48_5:C_:=.seq (r_ x48_3) (.cnd 26 .skip (.exit 0))
def x48_6:L_:=s_ 27 [a_ 10,c_ 56 [27],o_ (.un .not 28)] []
def x48_7:L_:=s_ 30 [a_ 0,k_ 30,f_ 34 31] [on_ (.store 1 32 (ci_ 4))]
def x48_11:L_:=s_ 33 [a_ 11,b_ .add 33 (ci_ 1)] [q_ 11 (m_ 34)]
def x48_13:C_:=.block 1 (.seq (.seq (r_ x48_6) (.cnd 29 (.seq (r_ x48_7) (.exit 0)) .skip)) (r_ x48_11))
def x48_14:C_:=.seq x48_5 x48_13
def x48_17:L_:=s_ 35 [a_ 0,k_ 35,f_ 34 36,li_ 37,a_ 0,k_ 39,f_ 35 40,o_ (.load (.int .u8) 1 41),a_ 10,k_ 43,f_ 2 44,l_ 45,a_ 11,a_ 10,k_ 48,f_ 3 49,li_ 50,o_ (.build [(.int .i64 0),(.int .u8 0),(.int .i64 0),(.slice none 0 0),(.int .i64 0),(.int .i64 0)] [(0,1,38),(1,1,42),(3,1,46),(4,1,47),(5,1,51)]),a_ 10,k_ 53,f_ 5 54,l_ 55] [on_ (.store 6 8 52),q_ 9 (m_ 56)]
def x48_18:C_:=.seq (.draw x48_17 [[],[0],[0,1],[0,1,2],[],[4],[4,5],[4,5,6],[],[8],[8,9],[8,9,10],[],[],[13],[13,14],[13,14,15],[0,1,2,3,4,5,6,7,8,9,10,11,12,13,14,15,16],[],[18],[18,19],[18,19,20],[0,1,2,3,4,5,6,7,8,9,10,11,12,13,14,15,16,17],[0,1,2,3,4,5,6,7,8,9,10,11,12,13,14,15,16,17,18,19,20,21,22]]) .ret
def x48_22:C_:=.seq (r_ x48_0) (.seq (r_ x48_1) (.seq (r_ x48_2) (.seq (.block 0 (.loop x48_14)) x48_18)))
def x48:C_:=x48_22
theorem fx48:fnx Try.prog 53=some (57,[(8,(some (.agg,6))),(9,none)],x48):=by kernel_rfl
def x50_0:L_:=[q_ 2 (.mv (.const (.slice none 0 0)))]
def x50_1:L_:=s_ 3 [a_ 0,o_ (.eqnil 1 false 3 (.const (.slice none 0 0)))] []
def x50_2:L_:=[q_ 2 (.mv (.const (.slice none 0 0)))]
def x50_6:L_:=s_ 5 [o_ (.mkslice [(.int .u8 0)] 0 []),a_ 0,o_ (.app 1 1 5 6)] [q_ 2 (m_ 7)]
def x50_9:C_:=.seq (r_ x50_0) (.seq (.seq (r_ x50_1) (.cnd 4 (.seq (r_ x50_2) .ret) .skip)) (.seq (r_ x50_6) .ret))
def x50:C_:=x50_9
theorem fx50:fnx Try.prog 20=some (8,[(2,none)],x50):=by kernel_rfl
def x51_0:L_:=s_ 1 [o_ (.box 0),v_ bf_] []
def x51_1:L_:=s_ 5 [f_ 0 1,o_ (.load .str 1 5),b_ .neq 6 (.const se_)] []
def x51_2:L_:=s_ 8 [f_ 1 1,g_ 5 8,o_ (.build (zs_ .i64 5) []),o_ (.eqagg false [0,0,0,0,0] 9 10),a_ 11] (sg_ 13 12 true [f_ 6 1,o_ (.load .str 1 13),b_ .eql 14 (.const se_)] ((⟨(some 16),.pick 12 15 bf_,none⟩) :: (q_ 17 (m_ 16)) :: sg_ 18 17 true [f_ 7 1,li_ 18,b_ .eql 19 (ci_ 0)] [⟨(some 21),.pick 17 20 bf_,none⟩,q_ 2 (m_ 21)]))
def x51_6:L_:=s_ 23 [f_ 1 1,g_ 5 23,c_ 25 [24]] ((q_ 22 (m_ 25)) :: s_ 26 [e_ 22 0,e_ 22 1] (s_ 3 [a_ 26,a_ 27] []))
def x51_7:L_:=s_ 28 [a_ 4,b_ .neq 28 (ci_ 0)] []
def x51_8:L_:=[q_ 2 (.mv bf_)]
def x51_13:L_:=s_ 31 [f_ 6 1,o_ (.load .str 1 31),b_ .eql 32 (.const se_)] [q_ 30 (m_ 33)]
def x51_14:L_:=s_ 34 [f_ 7 1,li_ 34,b_ .eql 35 (ci_ 0)] [q_ 2 (m_ 36)]
def x51_16:L_:=s_ 38 [f_ 1 1,f_ 0 38,li_ 39,c_ 36 [40],a_ 41] (sg_ 43 42 false [f_ 1 1,f_ 0 43,li_ 44,b_ .eql 45 (ci_ 53)] [⟨(some 47),.pick 42 bt_ 46,none⟩,q_ 37 (m_ 47)])
def x51_17:L_:=s_ 48 [f_ 7 1,li_ 48,b_ .eql 49 (ci_ 0),a_ 50] (sg_ 52 51 true [f_ 1 1,f_ 4 52,li_ 53,b_ .eql 54 (ci_ 0)] [⟨(some 56),.pick 51 55 bf_,none⟩,q_ 2 (m_ 56)])
def x51_19:L_:=s_ 58 [f_ 1 1,f_ 0 58,li_ 59,b_ .eql 60 (ci_ 51)] [q_ 57 (m_ 61)]
def x51_20:L_:=s_ 62 [f_ 7 1,li_ 62,b_ .eql 63 (ci_ 1),a_ 64] (sg_ 66 65 true [f_ 1 1,f_ 4 66,li_ 67,b_ .eql 68 (ci_ 0)] [⟨(some 70),.pick 65 69 bf_,none⟩,q_ 2 (m_ 70)])
def x51_22:L_:=s_ 72 [f_ 1 1,f_ 0 72,li_ 73,b_ .eql 74 (ci_ 28)] [q_ 71 (m_ 75)]
def x51_23:L_:=s_ 76 [f_ 7 1,li_ 76,b_ .eql 77 (ci_ 2),a_ 78] (sg_ 80 79 true [f_ 1 1,f_ 4 80,li_ 81,b_ .eql 82 (ci_ 0)] [⟨(some 84),.pick 79 83 bf_,none⟩,q_ 2 (m_ 84)])
def x51_33:C_:=.block 0 (.seq (r_ x51_13) (.cnd 30 (.seq (r_ x51_14) .ret) (.seq (r_ x51_16) (.cnd 37 (.seq (r_ x51_17) .ret) (.seq (r_ x51_19) (.cnd 57 (.seq (r_ x51_20) .ret) (.seq (r_ x51_22) (.cnd 71 (.seq (r_ x51_23) .ret) .skip))))))))
def x51_34:L_:=[q_ 2 (.mv bf_)]
def x51_39:C_:=.seq (r_ x51_0) (.seq (.seq (r_ x51_1) (.cnd 7 (.seq (r_ x51_2) .ret) .skip)) (.seq (.seq (r_ x51_6) (.seq (r_ x51_7) (.cnd 29 (.seq (r_ x51_8) .ret) .skip))) (.seq x51_33 (.seq (r_ x51_34) .ret))))
def x51:C_:=x51_39
theorem fx51:fnx Try.prog 35=some (85,[(2,none)],x51):=by kernel_rfl
def x52_0:L_:=[q_ 2 (.mv bf_)]
def x52_1:L_:=s_ 3 [a_ 0,b_ .geq 3 (ci_ 45),a_ 4] (sg_ 6 5 true [a_ 0,b_ .leq 6 (ci_ 50)] [⟨(some 8),.pick 5 7 bf_,none⟩,q_ 2 (m_ 8)])
def x52_3:C_:=.seq (r_ x52_0) (.seq (r_ x52_1) .ret)
def x52:C_:=x52_3
theorem fx52:fnx Try.prog 36=some (9,[(2,none)],x52):=by kernel_rfl
def x53_0:L_:=[q_ 4 (.mv bf_)]
def x53_1:L_:=s_ 8 [a_ 0,c_ 54 [8]] ((q_ 7 (m_ 9)) :: s_ 10 [e_ 7 0,e_ 7 1] (s_ 5 [a_ 10,a_ 11] []))
def x53_2:L_:=s_ 12 [a_ 1,a_ 5,b_ .geq 12 13,a_ 14] (sg_ 16 15 true [a_ 1,a_ 6,b_ .leq 16 17] [⟨(some 19),.pick 15 18 bf_,none⟩,q_ 4 (m_ 19)])
def x53_5:C_:=.seq (r_ x53_0) (.seq (r_ x53_1) (.seq (r_ x53_2) .ret))
def x53:C_:=x53_5
theorem fx53:fnx Try.prog 37=some (20,[(4,none)],x53):=by kernel_rfl
def x54_0:L_:=[q_ 2 (mi_ 0)]
def x54_1:L_:=s_ 3 [a_ 0,a_ 0,c_ 39 [4],b_ .sub 3 5,b_ .shr 6 (ck_ .u64 12)] [q_ 2 (m_ 7)]
def x54_3:C_:=.seq (r_ x54_0) (.seq (r_ x54_1) .ret)
def x54:C_:=x54_3
theorem fx54:fnx Try.prog 38=some (8,[(2,none)],x54):=by kernel_rfl
def x55_0:L_:=[q_ 2 (mi_ 0)]
def x55_1:L_:=s_ 3 [a_ 0,b_ .and 3 (ci_ 4095),b_ .xor 4 (ci_ 2048),b_ .sub 5 (ci_ 2048)] [q_ 2 (m_ 6)]
def x55_3:C_:=.seq (r_ x55_0) (.seq (r_ x55_1) .ret)
def x55:C_:=x55_3
theorem fx55:fnx Try.prog 39=some (7,[(2,none)],x55):=by kernel_rfl
def x56_0:L_:=[q_ 2 (mi_ 0)]
def x56_1:L_:=s_ 3 [a_ 0,b_ .sub 3 (ci_ 45),b_ .xor 4 (ci_ 1),b_ .add 5 (ci_ 45)] [q_ 2 (m_ 6)]
def x56_3:C_:=.seq (r_ x56_0) (.seq (r_ x56_1) .ret)
def x56:C_:=x56_3
theorem fx56:fnx Try.prog 40=some (7,[(2,none)],x56):=by kernel_rfl
def x57_0:L_:=s_ 9 [a_ 2,n_ 9,i_ 0] []
def x57_1:L_:=[q_ 12 (.bin .lss 11 10)]
def x57_3:L_:=s_ 13 [o_ (.iaddrS 3 9 11),g_ 3 13] [q_ 8 (.new (zs_ .u32 3)),on_ (.store 3 8 14)]
def x57_4:L_:=s_ 15 [l_ 3,o_ (.iaddrA false 3 1 8 (ci_ 0)),o_ (.load (.int .u32) 1 16),o_ (.conv .i64 17),a_ 0,a_ 1,o_ (.iaddrA false 3 1 8 (ci_ 1)),o_ (.load (.int .u32) 1 21),o_ (.iaddrA false 3 1 8 (ci_ 2)),o_ (.load (.int .u32) 1 23),o_ (.build (zs_ .u32 3) [(0,1,20),(1,1,22),(2,1,24)]),o_ (.build [(.int .u8 0),(.int .u32 0),(.int .u32 0),(.int .u32 0)] [(0,1,19),(1,3,25)])] [on_ (.mapupd 3 99 (.int .i64) 15 18 26)]
def x57_7:L_:=[q_ 27 (.bin .add 11 (ci_ 1)),
 q_ 11 (m_ 27)]
def x57_13:C_:=.seq (r_ x57_0) (.block 0 (.loop (.seq (r_ x57_1) (.seq (.cnd 12 .skip (.exit 0)) (.seq (.block 1 (.seq (r_ x57_3) (r_ x57_4))) (r_ x57_7))))))
def x57:C_:=x57_13
theorem fx57:fnx Try.prog 55=some (28,[],x57):=by kernel_rfl
def x61_0:L_:=[q_ 2 (.mv bf_)]
def x61_1:L_:=s_ 10 [a_ 0,k_ 10,f_ 0 11,l_ 12,c_ 57 [13]] ((q_ 9 (m_ 14)) :: s_ 15 [e_ 9 0,e_ 9 1] [q_ 3 (.new (zs_ .i64 5)),on_ (.store 5 3 15),q_ 4 (m_ 16)])
def x61_2:L_:=s_ 17 [a_ 4,o_ (.un .not 17)] []
def x61_3:L_:=[q_ 2 (.mv bf_)]
def x61_7:L_:=s_ 19 [a_ 0,k_ 19,f_ 0 20,l_ 21,f_ 2 3,li_ 23,k_ 22,f_ 1 25,o_ (.iaddrA true 32 1 26 24),lu_ 27,f_ 4 3,li_ 29,c_ 58 [30]] (s_ 5 [a_ 28,a_ 31] [])
def x61_8:L_:=s_ 32 [a_ 0,k_ 32,f_ 0 33,l_ 34,k_ 35,f_ 33 36,lu_ 37,b_ .add 38 (ck_ .u64 4)] [q_ 7 (m_ 39)]
def x61_9:L_:=s_ 40 [f_ 0 3,li_ 40] [q_ 8 (m_ 41)]
def x61_10:L_:=s_ 45 [a_ 8,b_ .leq 45 (ci_ 27)] [q_ 44 (m_ 46)]
def x61_11:L_:=s_ 48 [a_ 0,k_ 48,f_ 0 49,l_ 50,f_ 1 3,li_ 52,a_ 8,a_ 5,a_ 0,k_ 56,f_ 0 57,l_ 58,f_ 3 3,li_ 60,k_ 59,f_ 1 62,o_ (.iaddrA true 32 1 63 61),lu_ 64,c_ 59 [54,55,65]] ((q_ 47 (m_ 66)) :: s_ 67 [e_ 47 0,e_ 47 1,k_ 51,f_ 1 69,o_ (.iaddrA true 32 1 70 53)] [on_ (.store 1 71 67)])
def x61_12:L_:=s_ 73 [a_ 8,b_ .leq 73 (ci_ 37)] [q_ 72 (m_ 74)]
def x61_13:L_:=s_ 75 [g_ 5 3,o_ (.build (zs_ .i64 5) [(0,1,(ci_ 28)),(4,1,(ci_ 1))]),o_ (.eqagg false [0,0,0,0,0] 75 76)] []
def x61_14:L_:=s_ 78 [a_ 0,k_ 78,f_ 3 79,li_ 80,b_ .add 81 (ci_ 1),k_ 78,f_ 3 83] [on_ (.store 1 84 82)]
def x61_17:L_:=s_ 86 [a_ 0,k_ 86,f_ 0 87,l_ 88,f_ 1 3,li_ 90,a_ 8,c_ 60 [92],a_ 5,a_ 6,c_ 59 [93,94,95]] ((q_ 85 (m_ 96)) :: s_ 97 [e_ 85 0,e_ 85 1,k_ 89,f_ 1 99,o_ (.iaddrA true 32 1 100 91)] [on_ (.store 1 101 97)])
def x61_19:L_:=s_ 103 [a_ 8,b_ .leq 103 (ci_ 44)] [q_ 102 (m_ 104)]
def x61_20:L_:=s_ 105 [a_ 0,g_ 5 3,c_ 61 [105,106]] [q_ 4 (m_ 107)]
def x61_21:L_:=s_ 109 [a_ 8,b_ .leq 109 (ci_ 50)] [q_ 108 (m_ 110)]
def x61_22:L_:=s_ 111 [a_ 8,a_ 5,a_ 0,k_ 113,f_ 0 114,l_ 115,f_ 3 3,li_ 117,k_ 116,f_ 1 119,o_ (.iaddrA true 32 1 120 118),lu_ 121,c_ 62 [111,112,122]] []
def x61_23:L_:=s_ 124 [a_ 0,k_ 124,f_ 0 125,l_ 126,k_ 127,f_ 33 128,lu_ 129,a_ 6,b_ .add 130 131] [q_ 7 (m_ 132)]
def x61_26:L_:=s_ 134 [a_ 8,b_ .eql 134 (ci_ 51)] [q_ 133 (m_ 135)]
def x61_27:L_:=s_ 136 [a_ 0,k_ 136,f_ 0 137,l_ 138,f_ 1 3,li_ 140,a_ 6,b_ .shl 142 (ck_ .u64 12),k_ 139,f_ 1 144,o_ (.iaddrA true 32 1 145 141)] [on_ (.store 1 146 143)]
def x61_28:L_:=s_ 148 [a_ 8,b_ .eql 148 (ci_ 52)] [q_ 147 (m_ 149)]
def x61_29:L_:=s_ 150 [a_ 0,k_ 150,f_ 0 151,l_ 152,f_ 1 3,li_ 154,a_ 6,b_ .shl 156 (ck_ .u64 12),a_ 0,k_ 158,f_ 0 159,l_ 160,k_ 161,f_ 33 162,lu_ 163,b_ .add 157 164,k_ 153,f_ 1 166,o_ (.iaddrA true 32 1 167 155)] [on_ (.store 1 168 165)]
def x61_30:L_:=s_ 170 [a_ 8,b_ .eql 170 (ci_ 53)] [q_ 169 (m_ 171)]
def x61_31:L_:=s_ 172 [a_ 0,k_ 172,f_ 0 173,l_ 174,f_ 1 3,li_ 176,a_ 7,a_ 0,k_ 179,f_ 0 180,l_ 181,k_ 182,f_ 33 183,lu_ 184,a_ 6,b_ .add 185 186,k_ 175,f_ 1 188,o_ (.iaddrA true 32 1 189 177)] [on_ (.store 1 190 178),q_ 7 (m_ 187)]
def x61_32:L_:=s_ 192 [a_ 8,b_ .eql 192 (ci_ 54)] [q_ 191 (m_ 193)]
def x61_33:L_:=s_ 194 [a_ 0,k_ 194,f_ 0 195,l_ 196,f_ 1 3,li_ 198,a_ 7,a_ 5,a_ 6,b_ .add 201 202,b_ .andNot 203 (ck_ .u64 1),k_ 197,f_ 1 205,o_ (.iaddrA true 32 1 206 199)] [on_ (.store 1 207 200),q_ 7 (m_ 204)]
def x61_34:L_:=s_ 42 [a_ 0,c_ 63 [42]] [q_ 4 (m_ 43)]
def x61_44:C_:=.seq (r_ x61_21) (.cnd 108 (.seq (.draw x61_22 [[],[],[],[2],[2,3],[2,3,4],[],[6],[2,3,4,5],[2,3,4,5,8],[2,3,4,5,6,7,8,9],[2,3,4,5,6,7,8,9,10],[0,1,2,3,4,5,6,7,8,9,10,11]]) (.cnd 123 (r_ x61_23) .skip)) (.seq (r_ x61_26) (.cnd 133 (.draw x61_27 [[],[0],[0,1],[0,1,2],[],[4],[],[6],[0,1,2,3],[0,1,2,3,8],[0,1,2,3,4,5,6,7,8,9],[0,1,2,3,4,5,6,7,8,9,10]]) (.seq (r_ x61_28) (.cnd 147 (.draw x61_29 [[],[0],[0,1],[0,1,2],[],[4],[],[6],[],[8],[8,9],[8,9,10],[8,9,10,11],[8,9,10,11,12],[8,9,10,11,12,13],[6,7,8,9,10,11,12,13,14],[0,1,2,3],[0,1,2,3,16],[0,1,2,3,4,5,6,7,8,9,10,11,12,13,14,15,16,17],[0,1,2,3,4,5,6,7,8,9,10,11,12,13,14,15,16,17,18]]) (.seq (r_ x61_30) (.cnd 169 (.draw x61_31 [[],[0],[0,1],[0,1,2],[],[4],[],[],[7],[7,8],[7,8,9],[7,8,9,10],[7,8,9,10,11],[7,8,9,10,11,12],[],[7,8,9,10,11,12,13,14],[0,1,2,3],[0,1,2,3,16],[0,1,2,3,4,5,6,7,8,9,10,11,12,13,16,17],[0,1,2,3,4,5,6,7,8,9,10,11,12,13,16,17,18],[0,1,2,3,4,5,6,7,8,9,10,11,12,13,14,15,16,17,18,19]]) (.seq (r_ x61_32) (.cnd 191 (.draw x61_33 [[],[0],[0,1],[0,1,2],[],[4],[],[],[],[7,8],[7,8,9],[0,1,2,3],[0,1,2,3,11],[0,1,2,3,4,5,6,11,12],[0,1,2,3,4,5,6,11,12,13],[0,1,2,3,4,5,6,7,8,9,10,11,12,13,14]]) (r_ x61_34))))))))))
def x61_53:L_:=[q_ 208 (m_ 4)]
def x61_54:L_:=s_ 209 [a_ 0,k_ 209,f_ 0 210,l_ 211,k_ 212,f_ 1 213,o_ (.iaddrA false 32 1 214 (ci_ 0))] [on_ (.store 1 215 (ck_ .u64 0))]
def x61_55:L_:=s_ 216 [a_ 0,k_ 216,f_ 0 217,l_ 218,a_ 7,k_ 219,f_ 33 221] [on_ (.store 1 222 220)]
def x61_59:L_:=[q_ 223 (m_ 4),
 q_ 2 (m_ 223)]
def x61_62:C_:=.seq (.seq (r_ x61_9) (.block 0 (.seq (r_ x61_10) (.cnd 44 (.draw x61_11 [[],[0],[0,1],[0,1,2],[],[4],[],[],[],[8],[8,9],[8,9,10],[],[12],[8,9,10,11],[8,9,10,11,14],[8,9,10,11,12,13,14,15],[8,9,10,11,12,13,14,15,16],[6,7,8,9,10,11,12,13,14,15,16,17],[6,7,8,9,10,11,12,13,14,15,16,17,18],[6,7,8,9,10,11,12,13,14,15,16,17,18,19],[6,7,8,9,10,11,12,13,14,15,16,17,18,19],[0,1,2,3],[0,1,2,3,22],[0,1,2,3,4,5,6,7,8,9,10,11,12,13,14,15,16,17,18,19,20,22,23],[0,1,2,3,4,5,6,7,8,9,10,11,12,13,14,15,16,17,18,19,20,22,23,24]]) (.seq (r_ x61_12) (.cnd 72 (.seq (.seq (r_ x61_13) (.cnd 77 (r_ x61_14) .skip)) (.draw x61_17 [[],[0],[0,1],[0,1,2],[],[4],[],[6],[],[],[6,7,8,9],[6,7,8,9,10],[6,7,8,9,10,11],[6,7,8,9,10,11],[0,1,2,3],[0,1,2,3,14],[0,1,2,3,4,5,6,7,8,9,10,11,12,14,15],[0,1,2,3,4,5,6,7,8,9,10,11,12,14,15,16]])) (.seq (r_ x61_19) (.cnd 102 (r_ x61_20) x61_44)))))))) (.seq (.seq (r_ x61_53) (.cnd 208 (.seq (r_ x61_54) (r_ x61_55)) .skip)) (.seq (r_ x61_59) .ret))
def x61_67:C_:=.seq (r_ x61_0) (.seq (r_ x61_1) (.seq (.seq (r_ x61_2) (.cnd 18 (.seq (r_ x61_3) .ret) .skip)) (.seq (.draw x61_7 [[],[0],[0,1],[0,1,2],[],[4],[0,1,2,3],[0,1,2,3,6],[0,1,2,3,4,5,6,7],[0,1,2,3,4,5,6,7,8],[],[10],[10,11],[0,1,2,3,4,5,6,7,8,9,10,11,12],[0,1,2,3,4,5,6,7,8,9,10,11,12,13]]) (.seq (r_ x61_8) x61_62))))
def x61:C_:=x61_67
theorem fx61:fnx Try.prog 56=some (224,[(2,none)],x61):=by kernel_rfl
def x71_0:L_:=s_ 2 [i_ 0,i_ 0] []
def x71_1:L_:=s_ 4 [c_ 41 [],a_ 0,o_ (.lookup 3 99 (.int .i64) (.agg #[(.int .u8 0),(.int .u32 0),(.int .u32 0),(.int .u32 0)]) false 4 5),o_ (.field (.int .u8) 0 1 6),c_ 42 [7],e_ 8 0,e_ 8 1] (s_ 2 [a_ 9,a_ 10] [])
def x71_3:C_:=.seq (r_ x71_0) (.seq (r_ x71_1) .ret)
def x71:C_:=x71_3
theorem fx71:fnx Try.prog 54=some (11,[(2,none),(3,none)],x71):=by kernel_rfl
def x72_0:L_:=s_ 2 [o_ (.new (zs_ .i64 5)),v_ bf_] []
def x72_1:L_:=s_ 11 [a_ 0,a_ 0,k_ 12,f_ 33 13,lu_ 14,c_ 64 [11,15,(ci_ 4)]] ((q_ 10 (m_ 16)) :: s_ 17 [e_ 10 0,e_ 10 1] (s_ 4 [a_ 17,a_ 18] []))
def x72_2:L_:=s_ 19 [a_ 5,o_ (.un .not 19)] []
def x72_3:L_:=[q_ 21 (.build (zs_ .i64 5) []),
 on_ (.store 5 2 21),
 q_ 3 (.mv bf_)]
def x72_7:L_:=s_ 22 [a_ 4,c_ 65 [22],o_ (.conv .u32 23)] [q_ 6 (m_ 24)]
def x72_8:L_:=s_ 26 [a_ 0,k_ 26,f_ 36 27,l_ 28,a_ 6,o_ (.lookup 83 60 (.int .u32) (.agg #[(.int .i64 0),(.int .i64 0),(.int .i64 0),(.int .i64 0),(.int .i64 0)]) true 29 30)] ((q_ 25 (m_ 31)) :: s_ 32 [e_ 25 0,e_ 25 1] [q_ 7 (.new (zs_ .i64 5)),on_ (.store 5 7 32),q_ 8 (m_ 33)])
def x72_9:L_:=s_ 34 [a_ 8,o_ (.un .not 34)] []
def x72_10:L_:=[q_ 9 (mi_ 0)]
def x72_11:L_:=s_ 37 [a_ 6,c_ 66 [37]] ((q_ 36 (m_ 38)) :: s_ 39 [e_ 36 0,e_ 36 1] [on_ (.store 5 7 39),q_ 9 (m_ 40)])
def x72_12:L_:=s_ 41 [a_ 9,b_ .neq 41 (ci_ 0)] []
def x72_13:L_:=[q_ 43 (.load .agg 5 7),
 on_ (.store 5 2 43),
 q_ 3 (.mv bf_)]
def x72_18:L_:=s_ 44 [a_ 0,k_ 44,f_ 36 45,l_ 46,a_ 6,g_ 5 7] [on_ (.mapupd 83 60 (.int .u32) 47 48 49)]
def x72_23:L_:=[q_ 50 (.load .agg 5 7),
 on_ (.store 5 2 50),
 q_ 3 (.mv bt_)]
def x72_26:C_:=.seq (r_ x72_8) (.seq (.seq (r_ x72_9) (.cnd 35 (.seq (r_ x72_10) (.seq (.seq (r_ x72_11) (.seq (r_ x72_12) (.cnd 42 (.seq (r_ x72_13) .ret) .skip))) (.draw x72_18 [[],[0],[0,1],[0,1,2],[],[],[0,1,2,3,4,5]]))) .skip)) (.seq (r_ x72_23) .ret))
def x72_30:C_:=.seq (r_ x72_0) (.seq (r_ x72_1) (.seq (.seq (r_ x72_2) (.cnd 20 (.seq (r_ x72_3) .ret) .skip)) (.seq (r_ x72_7) x72_26)))
def x72:C_:=x72_30
theorem fx72:fnx Try.prog 57=some (51,[(2,(some (.agg,5))),(3,none)],x72):=by kernel_rfl
def x73_0:L_:=[q_ 2 (.mv (ck_ .u64 0))]
def x73_1:L_:=s_ 3 [a_ 0,o_ (.conv .u64 3)] [q_ 2 (m_ 4)]
def x73_3:C_:=.seq (r_ x73_0) (.seq (r_ x73_1) .ret)
def x73:C_:=x73_3
theorem fx73:fnx Try.prog 58=some (5,[(2,none)],x73):=by kernel_rfl
def x74_0:L_:=s_ 6 [v_ (ck_ .u64 0),i_ 0] []
def x74_1:L_:=s_ 18 [a_ 0,a_ 1,a_ 2,c_ 67 [18,19,20]] ((q_ 17 (m_ 21)) :: s_ 22 [e_ 17 0,e_ 17 1] (s_ 8 [a_ 22,a_ 23] []))
def x74_2:L_:=[q_ 24 (m_ 9)]
def x74_3:L_:=(q_ 25 (m_ 8)) :: s_ 6 [a_ 25,i_ 0] []
def x74_8:L_:=s_ 27 [a_ 0,a_ 1,a_ 2,c_ 68 [27,28,29]] ((q_ 26 (m_ 30)) :: s_ 31 [e_ 26 0,e_ 26 1] (s_ 10 [a_ 31,a_ 32] []))
def x74_9:L_:=[q_ 33 (m_ 11)]
def x74_10:L_:=(q_ 34 (m_ 10)) :: s_ 6 [a_ 34,i_ 0] []
def x74_15:L_:=s_ 36 [a_ 0,c_ 69 [36]] ((q_ 35 (m_ 37)) :: s_ 38 [e_ 35 0,e_ 35 1,e_ 35 2] (s_ 12 [a_ 38,a_ 39,a_ 40] []))
def x74_16:L_:=s_ 41 [a_ 14,o_ (.un .not 41)] []
def x74_17:L_:=s_ 6 [v_ (ck_ .u64 0),i_ 1] []
def x74_21:L_:=s_ 44 [a_ 1,a_ 13,c_ 70 [44,(ci_ 32),45]] ((q_ 43 (m_ 46)) :: s_ 47 [e_ 43 0,e_ 43 1] [q_ 1 (m_ 47)])
def x74_22:L_:=s_ 50 [a_ 2,a_ 13,c_ 70 [50,(ci_ 32),51]] ((q_ 49 (m_ 52)) :: s_ 53 [e_ 49 0,e_ 49 1] [q_ 2 (m_ 53)])
def x74_23:L_:=s_ 55 [a_ 12,b_ .eql 55 (ci_ 3),a_ 56] (sg_ 58 57 false [a_ 12,b_ .eql 58 (ci_ 7)] ((⟨(some 60),.pick 57 bt_ 59,none⟩) :: (q_ 61 (m_ 60)) :: sg_ 62 61 false [a_ 12,b_ .eql 62 (ci_ 8)] [⟨(some 64),.pick 61 bt_ 63,none⟩]))
def x74_24:L_:=s_ 65 [a_ 2,b_ .and 65 (ck_ .u64 31)] [q_ 2 (m_ 66)]
def x74_27:L_:=s_ 68 [a_ 12,a_ 1,a_ 2,c_ 59 [68,69,70]] ((q_ 67 (m_ 71)) :: s_ 72 [e_ 67 0,e_ 67 1] (s_ 15 [a_ 72,a_ 73] []))
def x74_28:L_:=s_ 75 [a_ 15,c_ 70 [75,(ci_ 32),bt_]] ((q_ 74 (m_ 76)) :: s_ 77 [e_ 74 0,e_ 74 1] [q_ 15 (m_ 77)])
def x74_29:L_:=s_ 79 [a_ 15,a_ 16] (s_ 6 [a_ 79,a_ 80] [])
def x74_39:C_:=.seq (.seq (r_ x74_1) (.seq (r_ x74_2) (.cnd 24 (.seq (r_ x74_3) .ret) .skip))) (.seq (.seq (r_ x74_8) (.seq (r_ x74_9) (.cnd 33 (.seq (r_ x74_10) .ret) .skip))) (.seq (r_ x74_15) (.seq (.seq (r_ x74_16) (.cnd 42 (.seq (r_ x74_17) .ret) .skip)) (.seq (r_ x74_21) (.seq (r_ x74_22) (.seq (.seq (r_ x74_23) (.cnd 64 (r_ x74_24) .skip)) (.seq (r_ x74_27) (.seq (r_ x74_28) (.seq (r_ x74_29) .ret)))))))))
def x74_40:C_:=.seq (r_ x74_0) x74_39
def x74:C_:=x74_40
theorem fx74:fnx Try.prog 59=some (81,[(6,none),(7,none)],x74):=by kernel_rfl
def x75_0:L_:=[q_ 2 (mi_ 0)]
def x75_1:L_:=s_ 3 [o_ (.build (zs_ .i64 10) [(0,1,(ci_ 1)),(1,1,(ci_ 4)),(2,1,(ci_ 5)),(3,1,(ci_ 6)),(4,1,(ci_ 9)),(5,1,(ci_ 10)),(6,1,(ci_ 3)),(7,1,(ci_ 7)),(8,1,(ci_ 8)),(9,1,(ci_ 18))]),a_ 0,b_ .sub 4 (ci_ 28),o_ (.idxA 10 1 (.int .i64) 3 5)] [q_ 2 (m_ 6)]
def x75_3:C_:=.seq (r_ x75_0) (.seq (r_ x75_1) .ret)
def x75:C_:=x75_3
theorem fx75:fnx Try.prog 60=some (7,[(2,none)],x75):=by kernel_rfl
def x76_0:L_:=s_ 3 [o_ (.box 1),v_ bf_] []
def x76_1:L_:=s_ 11 [f_ 0 3,li_ 11,c_ 71 [12]] [q_ 5 (m_ 13)]
def x76_2:L_:=s_ 14 [a_ 0,k_ 14,f_ 0 15,l_ 16,f_ 2 3,li_ 18,k_ 17,f_ 1 20,o_ (.iaddrA true 32 1 21 19),lu_ 22,f_ 4 3,li_ 24,c_ 58 [25],b_ .add 23 26] [q_ 6 (m_ 27)]
def x76_3:L_:=s_ 29 [a_ 0,k_ 29,f_ 0 30,l_ 31,a_ 6,a_ 5,c_ 64 [32,33,34]] ((q_ 28 (m_ 35)) :: s_ 36 [e_ 28 0,e_ 28 1] (s_ 7 [a_ 36,a_ 37] []))
def x76_4:L_:=s_ 38 [a_ 8,o_ (.un .not 38)] []
def x76_5:L_:=[q_ 4 (.mv bf_)]
def x76_8:C_:=.seq (r_ x76_4) (.cnd 39 (.seq (r_ x76_5) .ret) .skip)
def x76_9:L_:=s_ 40 [f_ 0 3,li_ 40,b_ .geq 41 (ci_ 42)] [q_ 9 (m_ 42)]
def x76_10:L_:=s_ 43 [a_ 0,k_ 43,f_ 4 44,o_ (.load .bool 1 45)] []
def x76_11:L_:=s_ 47 [a_ 0,a_ 0,k_ 48,f_ 5 49,l_ 50,a_ 0,k_ 52,f_ 0 53,l_ 54,k_ 55,f_ 33 56,lu_ 57,a_ 6,a_ 5,a_ 9,o_ (.build [(.int .u64 0),(.int .u64 0),(.int .i64 0),(.bool false)] [(0,1,58),(1,1,59),(2,1,60),(3,1,61)]),o_ (.mkslice [(.int .u64 0),(.int .u64 0),(.int .i64 0),(.bool false)] 1 [(0,62)]),o_ (.app 4 32 51 63),k_ 47,f_ 5 65] [on_ (.store 1 66 64)]
def x76_13:C_:=.seq (r_ x76_10) (.cnd 46 (.draw x76_11 [[],[],[1],[1,2],[1,2,3],[],[5],[5,6],[5,6,7],[5,6,7,8],[5,6,7,8,9],[5,6,7,8,9,10],[],[],[],[5,6,7,8,9,10,11,12,13,14],[5,6,7,8,9,10,11,12,13,14,15],[1,2,3,4,5,6,7,8,9,10,11,12,13,14,15,16],[0,1,2,3,4,5,6,7,8,9,10,11,12,13,14,15,16,17],[0,1,2,3,4,5,6,7,8,9,10,11,12,13,14,15,16,17,18],[0,1,2,3,4,5,6,7,8,9,10,11,12,13,14,15,16,17,18,19]]) .skip)
def x76_14:L_:=[q_ 67 (m_ 9)]
def x76_15:L_:=s_ 68 [a_ 7,n_ 68,i_ 0] []
def x76_16:L_:=[q_ 71 (.bin .lss 70 69)]
def x76_18:L_:=[q_ 72 (m_ 70),
 q_ 10 (m_ 72)]
def x76_19:L_:=s_ 73 [a_ 7,a_ 10,a_ 0,k_ 75,f_ 0 76,l_ 77,f_ 3 3,li_ 79,k_ 78,f_ 1 81,o_ (.iaddrA true 32 1 82 80),lu_ 83,a_ 10,b_ .mul (ci_ 8) 85,b_ .shr 84 86,o_ (.conv .u8 87),o_ (.iaddrS 1 73 74)] [on_ (.store 1 89 88)]
def x76_22:L_:=[q_ 90 (.bin .add 70 (ci_ 1)),
 q_ 70 (m_ 90)]
def x76_25:C_:=.seq (r_ x76_16) (.seq (.cnd 71 .skip (.exit 0)) (.seq (.block 1 (.seq (r_ x76_18) (.draw x76_19 [[],[],[],[2],[2,3],[2,3,4],[],[6],[2,3,4,5],[2,3,4,5,8],[2,3,4,5,6,7,8,9],[2,3,4,5,6,7,8,9,10],[],[12],[2,3,4,5,6,7,8,9,10,11,12,13],[2,3,4,5,6,7,8,9,10,11,12,13,14],[0,1,2,3,4,5,6,7,8,9,10,11,12,13,14,15],[0,1,2,3,4,5,6,7,8,9,10,11,12,13,14,15,16]]))) (r_ x76_22)))
def x76_29:L_:=[q_ 4 (.mv bt_)]
def x76_30:C_:=.seq (r_ x76_29) .ret
def x76_33:C_:=.seq (r_ x76_14) (.cnd 67 (.seq (.seq (r_ x76_15) (.block 0 (.loop x76_25))) x76_30) .skip)
def x76_34:L_:=s_ 92 [a_ 0,k_ 92,f_ 0 93,l_ 94,f_ 1 3,li_ 96,a_ 7,c_ 65 [98],a_ 5,b_ .mul (ci_ 8) 100,f_ 0 3,li_ 102,b_ .neq 103 (ci_ 39),c_ 70 [99,101,104]] ((q_ 91 (m_ 105)) :: s_ 106 [e_ 91 0,e_ 91 1,k_ 95,f_ 1 108,o_ (.iaddrA true 32 1 109 97)] [on_ (.store 1 110 106)])
def x76_35:L_:=[q_ 4 (.mv bt_)]
def x76_37:C_:=.seq (.draw x76_34 [[],[0],[0,1],[0,1,2],[],[4],[],[6],[],[8],[],[10],[10,11],[6,7,8,9,10,11,12],[6,7,8,9,10,11,12,13],[6,7,8,9,10,11,12,13,14],[6,7,8,9,10,11,12,13,14],[0,1,2,3],[0,1,2,3,17],[0,1,2,3,4,5,6,7,8,9,10,11,12,13,14,15,17,18],[0,1,2,3,4,5,6,7,8,9,10,11,12,13,14,15,17,18,19]]) (.seq (r_ x76_35) .ret)
def x76_38:C_:=.seq x76_33 x76_37
def x76_41:C_:=.seq x76_8 (.seq (r_ x76_9) (.seq x76_13 x76_38))
def x76_42:C_:=.seq (r_ x76_3) x76_41
def x76_43:C_:=.seq (.draw x76_2 [[],[0],[0,1],[0,1,2],[],[4],[0,1,2,3],[0,1,2,3,6],[0,1,2,3,4,5,6,7],[0,1,2,3,4,5,6,7,8],[],[10],[10,11],[0,1,2,3,4,5,6,7,8,9,10,11,12],[0,1,2,3,4,5,6,7,8,9,10,11,12,13]]) x76_42
def x76_45:C_:=.seq (r_ x76_0) (.seq (r_ x76_1) x76_43)
def x76:C_:=x76_45
theorem fx76:fnx Try.prog 61=some (111,[(4,none)],x76):=by kernel_rfl
def x77_0:L_:=[q_ 6 (.mv bf_)]
def x77_1:L_:=[q_ 7 (m_ 0)]
def x77_2:L_:=[q_ 9 (.bin .eql 7 (ci_ 45)),
 q_ 8 (m_ 9)]
def x77_3:L_:=[q_ 10 (.bin .eql 7 (ci_ 46)),
 q_ 8 (m_ 10)]
def x77_6:L_:=s_ 11 [a_ 1,a_ 2,b_ .eql 11 12,a_ 0,b_ .eql 14 (ci_ 45),o_ (.eqb false 13 15)] [q_ 6 (m_ 16)]
def x77_8:L_:=[q_ 18 (.bin .eql 7 (ci_ 47)),
 q_ 17 (m_ 18)]
def x77_9:L_:=[q_ 19 (.bin .eql 7 (ci_ 48)),
 q_ 17 (m_ 19)]
def x77_12:L_:=s_ 20 [a_ 1,o_ (.conv .i64 20),a_ 2,o_ (.conv .i64 22),b_ .lss 21 23,a_ 0,b_ .eql 25 (ci_ 47),o_ (.eqb false 24 26)] [q_ 6 (m_ 27)]
def x77_20:L_:=s_ 28 [a_ 1,a_ 2,b_ .lss 28 29,a_ 0,b_ .eql 31 (ci_ 49),o_ (.eqb false 30 32)] [q_ 6 (m_ 33)]
def x77_23:C_:=.seq (r_ x77_0) (.seq (.seq (r_ x77_1) (.block 0 (.seq (.seq (r_ x77_2) (.cnd 8 .skip (r_ x77_3))) (.cnd 8 (.seq (r_ x77_6) .ret) (.seq (.seq (r_ x77_8) (.cnd 17 .skip (r_ x77_9))) (.cnd 17 (.seq (r_ x77_12) .ret) .skip)))))) (.seq (r_ x77_20) .ret))
def x77:C_:=x77_23
theorem fx77:fnx Try.prog 62=some (34,[(6,none)],x77):=by kernel_rfl
def x78_0:L_:=[q_ 2 (.mv bf_)]
def x78_1:L_:=s_ 3 [a_ 0,k_ 3,f_ 0 4,l_ 5,k_ 6,f_ 1 7,o_ (.iaddrA false 32 1 8 (ci_ 17)),lu_ 9] []
def x78_2:L_:=[q_ 12 (.bin .eql 10 (ck_ .u64 1)),
 q_ 11 (m_ 12)]
def x78_3:L_:=s_ 13 [a_ 0,a_ 0,k_ 14,f_ 2 15,l_ 16,a_ 0,k_ 18,f_ 0 19,l_ 20,k_ 21,f_ 1 22,o_ (.iaddrA false 32 1 23 (ci_ 10)),lu_ 24,o_ (.conv .u8 25),o_ (.mkslice [(.int .u8 0)] 1 [(0,26)]),o_ (.app 1 1 17 27),k_ 13,f_ 2 29] [on_ (.store 1 30 28)]
def x78_4:L_:=[q_ 32 (.bin .eql 10 (ck_ .u64 2)),
 q_ 31 (m_ 32)]
def x78_5:L_:=s_ 33 [a_ 0,k_ 33,f_ 0 34,l_ 35,k_ 36,f_ 1 37,o_ (.iaddrA false 32 1 38 (ci_ 10))] [on_ (.store 1 39 (ck_ .u64 18446744073709551615))]
def x78_6:L_:=s_ 40 [a_ 0,k_ 40,f_ 1 41,l_ 42,n_ 43,b_ .gtr 44 (ci_ 0)] []
def x78_7:L_:=s_ 46 [a_ 0,k_ 46,f_ 0 47,l_ 48,a_ 0,a_ 0,k_ 51,f_ 1 52,l_ 53,o_ (.iaddrS 1 54 (ci_ 0)),o_ (.load (.int .u8) 1 55),o_ (.conv .u64 56),a_ 0,k_ 58,f_ 1 59,l_ 60,o_ (.slS 1 61 (some (ci_ 1)) none),k_ 49,f_ 1 63,o_ (.iaddrA false 32 1 64 (ci_ 10))] ((on_ (.store 1 65 57)) :: s_ 66 [k_ 50,f_ 1 66] [on_ (.store 1 67 62)])
def x78_11:L_:=[q_ 69 (.bin .eql 10 (ck_ .u64 3)),
 q_ 68 (m_ 69)]
def x78_12:L_:=s_ 70 [a_ 0,k_ 70,f_ 0 71,l_ 72,a_ 0,k_ 74,f_ 0 75,l_ 76,a_ 0,k_ 78,f_ 0 79,l_ 80,k_ 81,f_ 1 82,o_ (.iaddrA false 32 1 83 (ci_ 10)),lu_ 84,o_ (.conv .u8 85),k_ 73,f_ 34 87] ((on_ (.store 1 88 (ci_ 1))) :: s_ 89 [k_ 77,f_ 35 89] [on_ (.store 1 90 86)])
def x78_13:L_:=[q_ 92 (.bin .eql 10 (ck_ .u64 4)),
 q_ 91 (m_ 92)]
def x78_14:L_:=s_ 93 [a_ 0,k_ 93,f_ 0 94,l_ 95,k_ 96,f_ 34 97] [on_ (.store 1 98 (ci_ 2))]
def x78_15:L_:=[q_ 100 (.bin .eql 10 (ck_ .u64 5)),
 q_ 99 (m_ 100)]
def x78_16:L_:=s_ 101 [a_ 0,k_ 101,f_ 0 102,l_ 103,k_ 104,f_ 34 105] [on_ (.store 1 106 (ci_ 3))]
def x78_17:L_:=[q_ 2 (.mv bf_)]
def x78_27:C_:=.cnd 11 (.draw x78_3 [[],[],[1],[1,2],[1,2,3],[],[5],[5,6],[5,6,7],[5,6,7,8],[5,6,7,8,9],[5,6,7,8,9,10],[5,6,7,8,9,10,11],[5,6,7,8,9,10,11,12],[5,6,7,8,9,10,11,12,13],[1,2,3,4,5,6,7,8,9,10,11,12,13,14],[0,1,2,3,4,5,6,7,8,9,10,11,12,13,14,15],[0,1,2,3,4,5,6,7,8,9,10,11,12,13,14,15,16],[0,1,2,3,4,5,6,7,8,9,10,11,12,13,14,15,16,17]]) (.seq (r_ x78_4) (.cnd 31 (.seq (r_ x78_5) (.seq (r_ x78_6) (.cnd 45 (.draw x78_7 [[],[0],[0,1],[0,1,2],[],[],[5],[5,6],[5,6,7],[5,6,7,8],[5,6,7,8,9],[5,6,7,8,9,10],[],[12],[12,13],[12,13,14],[12,13,14,15],[0,1,2,3],[0,1,2,3,17],[0,1,2,3,5,6,7,8,9,10,11,12,13,14,15,17,18],[0,1,2,3,5,6,7,8,9,10,11,12,13,14,15,17,18,19],[0,1,2,3,4,5,6,7,8,9,10,11,12,13,14,15,16,17,18,19,20],[0,1,2,3,4,5,6,7,8,9,10,11,12,13,14,15,16,17,18,19,20,21],[0,1,2,3,4,5,6,7,8,9,10,11,12,13,14,15,16,17,18,19,20,21,22]]) .skip))) (.seq (r_ x78_11) (.cnd 68 (.draw x78_12 [[],[0],[0,1],[0,1,2],[],[4],[4,5],[4,5,6],[],[8],[8,9],[8,9,10],[8,9,10,11],[8,9,10,11,12],[8,9,10,11,12,13],[8,9,10,11,12,13,14],[8,9,10,11,12,13,14,15],[0,1,2,3,4,5,6,7,8,9,10,11,12,13,14,15],[0,1,2,3,4,5,6,7,8,9,10,11,12,13,14,15,17],[0,1,2,3,4,5,6,7,8,9,10,11,12,13,14,15,17,18],[0,1,2,3,4,5,6,7,8,9,10,11,12,13,14,15,16,17,18,19],[0,1,2,3,4,5,6,7,8,9,10,11,12,13,14,15,16,17,18,19,20],[0,1,2,3,4,5,6,7,8,9,10,11,12,13,14,15,16,17,18,19,20,21]]) (.seq (r_ x78_13) (.cnd 91 (r_ x78_14) (.seq (r_ x78_15) (.cnd 99 (r_ x78_16) (.seq (r_ x78_17) .ret)))))))))
def x78_31:L_:=[q_ 2 (.mv bt_)]
def x78_34:C_:=.seq (r_ x78_0) (.seq (.seq (r_ x78_1) (.block 0 (.seq (r_ x78_2) x78_27))) (.seq (r_ x78_31) .ret))
def x78:C_:=x78_34
theorem fx78:fnx Try.prog 63=some (107,[(2,none)],x78):=by kernel_rfl
def x83_0:L_:=s_ 6 [v_ (.const (.slice none 0 0)),v_ bf_] []
def x83_1:L_:=s_ 8 [a_ 1,a_ 2,o_ (.conv .u64 9),b_ .rem 8 10,b_ .neq 11 (ck_ .u64 0),a_ 12] (sg_ 14 13 false [a_ 1,a_ 0,k_ 15,f_ 0 16,l_ 17,n_ 18,o_ (.conv .u64 19),b_ .gtr 14 20] ((⟨(some 22),.pick 13 bt_ 21,none⟩) :: (q_ 23 (m_ 22)) :: sg_ 24 23 false [a_ 0,k_ 24,f_ 0 25,l_ 26,n_ 27,o_ (.conv .u64 28),a_ 1,b_ .sub 29 30,a_ 2,o_ (.conv .u64 32),b_ .lss 31 33] [⟨(some 35),.pick 23 bt_ 34,none⟩]))
def x83_2:L_:=s_ 6 [v_ (.const (.slice none 0 0)),v_ bf_] []
def x83_6:L_:=s_ 36 [a_ 0,k_ 36,f_ 0 37,l_ 38,a_ 1,a_ 1,a_ 2,o_ (.conv .u64 42),b_ .add 41 43,o_ (.slS 1 39 (some 40) (some 44))] (s_ 6 [a_ 45,v_ bt_] [])
def x83_9:C_:=.seq (r_ x83_0) (.seq (.seq (r_ x83_1) (.cnd 35 (.seq (r_ x83_2) .ret) .skip)) (.seq (r_ x83_6) .ret))
def x83:C_:=x83_9
theorem fx83:fnx Try.prog 64=some (46,[(6,none),(7,none)],x83):=by kernel_rfl
def x84_0:L_:=[q_ 2 (.mv (ck_ .u64 0))]
def x84_1:L_:=[q_ 3 (.mv (ck_ .u64 0))]
def x84_2:L_:=s_ 6 [a_ 0,n_ 6,i_ 0] []
def x84_3:L_:=[q_ 9 (.bin .lss 8 7)]
def x84_5:L_:=s_ 10 [a_ 8,o_ (.iaddrS 1 6 8),o_ (.load (.int .u8) 1 11)] (s_ 4 [a_ 10,a_ 12] [])
def x84_6:L_:=s_ 13 [a_ 3,a_ 5,o_ (.conv .u64 14),a_ 4,b_ .mul (ci_ 8) 16,b_ .shl 15 17,b_ .or 13 18] [q_ 3 (m_ 19)]
def x84_9:L_:=[q_ 20 (.bin .add 8 (ci_ 1)),
 q_ 8 (m_ 20)]
def x84_16:L_:=[q_ 21 (m_ 3),
 q_ 2 (m_ 21)]
def x84_19:C_:=.seq (r_ x84_1) (.seq (.seq (r_ x84_2) (.block 0 (.loop (.seq (r_ x84_3) (.seq (.cnd 9 .skip (.exit 0)) (.seq (.block 1 (.seq (r_ x84_5) (r_ x84_6))) (r_ x84_9))))))) (.seq (r_ x84_16) .ret))
def x84_20:C_:=.seq (r_ x84_0) x84_19
def x84:C_:=x84_20
theorem fx84:fnx Try.prog 65=some (22,[(2,none)],x84):=by kernel_rfl
def x85_0:L_:=s_ 6 [v_ (ck_ .u64 0),v_ bf_] []
def x85_1:L_:=s_ 12 [a_ 1,o_ (.conv .i64 12),a_ 2,o_ (.conv .i64 14)] (s_ 8 [a_ 13,a_ 15] [])
def x85_2:L_:=s_ 17 [a_ 1,a_ 2,c_ 72 [17,18]] ((q_ 16 (m_ 19)) :: s_ 20 [e_ 16 0,e_ 16 1] (s_ 10 [a_ 20,a_ 21] []))
def x85_3:L_:=[q_ 22 (m_ 0)]
def x85_4:L_:=[q_ 24 (.bin .eql 22 (ci_ 1)),
 q_ 23 (m_ 24)]
def x85_5:L_:=s_ 25 [a_ 1,a_ 2,b_ .add 25 26] (s_ 6 [a_ 27,v_ bt_] [])
def x85_7:L_:=[q_ 29 (.bin .eql 22 (ci_ 2)),
 q_ 28 (m_ 29)]
def x85_8:L_:=s_ 30 [a_ 1,a_ 2,b_ .sub 30 31] (s_ 6 [a_ 32,v_ bt_] [])
def x85_10:L_:=[q_ 34 (.bin .eql 22 (ci_ 3)),
 q_ 33 (m_ 34)]
def x85_11:L_:=s_ 35 [a_ 1,a_ 2,b_ .and 36 (ck_ .u64 63),b_ .shl 35 37] (s_ 6 [a_ 38,v_ bt_] [])
def x85_13:L_:=[q_ 40 (.bin .eql 22 (ci_ 4)),
 q_ 39 (m_ 40)]
def x85_14:L_:=s_ 41 [a_ 8,a_ 9,b_ .lss 41 42,c_ 73 [43]] (s_ 6 [a_ 44,v_ bt_] [])
def x85_16:L_:=[q_ 46 (.bin .eql 22 (ci_ 5)),
 q_ 45 (m_ 46)]
def x85_17:L_:=s_ 47 [a_ 1,a_ 2,b_ .lss 47 48,c_ 73 [49]] (s_ 6 [a_ 50,v_ bt_] [])
def x85_19:L_:=[q_ 52 (.bin .eql 22 (ci_ 6)),
 q_ 51 (m_ 52)]
def x85_20:L_:=s_ 53 [a_ 1,a_ 2,b_ .xor 53 54] (s_ 6 [a_ 55,v_ bt_] [])
def x85_22:L_:=[q_ 57 (.bin .eql 22 (ci_ 7)),
 q_ 56 (m_ 57)]
def x85_23:L_:=s_ 58 [a_ 1,a_ 2,b_ .and 59 (ck_ .u64 63),b_ .shr 58 60] (s_ 6 [a_ 61,v_ bt_] [])
def x85_25:L_:=[q_ 63 (.bin .eql 22 (ci_ 8)),
 q_ 62 (m_ 63)]
def x85_26:L_:=s_ 64 [a_ 8,a_ 2,b_ .and 65 (ck_ .u64 63),b_ .shr 64 66,o_ (.conv .u64 67)] (s_ 6 [a_ 68,v_ bt_] [])
def x85_28:L_:=[q_ 70 (.bin .eql 22 (ci_ 9)),
 q_ 69 (m_ 70)]
def x85_29:L_:=s_ 71 [a_ 1,a_ 2,b_ .or 71 72] (s_ 6 [a_ 73,v_ bt_] [])
def x85_31:L_:=[q_ 75 (.bin .eql 22 (ci_ 10)),
 q_ 74 (m_ 75)]
def x85_32:L_:=s_ 76 [a_ 1,a_ 2,b_ .and 76 77] (s_ 6 [a_ 78,v_ bt_] [])
def x85_34:L_:=[q_ 80 (.bin .eql 22 (ci_ 11)),
 q_ 79 (m_ 80)]
def x85_35:L_:=(q_ 81 (m_ 11)) :: s_ 6 [a_ 81,v_ bt_] []
def x85_37:L_:=[q_ 83 (.bin .eql 22 (ci_ 13)),
 q_ 82 (m_ 83)]
def x85_38:L_:=(q_ 84 (m_ 10)) :: s_ 6 [a_ 84,v_ bt_] []
def x85_40:L_:=[q_ 86 (.bin .eql 22 (ci_ 12)),
 q_ 85 (m_ 86)]
def x85_41:L_:=s_ 87 [a_ 10,a_ 2,a_ 8,b_ .lss 89 (ci_ 0),c_ 73 [90],b_ .mul 88 91,b_ .sub 87 92,a_ 1,a_ 9,b_ .lss 95 (ci_ 0),c_ 73 [96],b_ .mul 94 97,b_ .sub 93 98] (s_ 6 [a_ 99,v_ bt_] [])
def x85_51:C_:=.cnd 69 (.seq (r_ x85_29) .ret) (.seq (r_ x85_31) (.cnd 74 (.seq (r_ x85_32) .ret) (.seq (r_ x85_34) (.cnd 79 (.seq (r_ x85_35) .ret) (.seq (r_ x85_37) (.cnd 82 (.seq (r_ x85_38) .ret) (.seq (r_ x85_40) (.cnd 85 (.seq (r_ x85_41) .ret) .skip))))))))
def x85_61:C_:=.cnd 39 (.seq (r_ x85_14) .ret) (.seq (r_ x85_16) (.cnd 45 (.seq (r_ x85_17) .ret) (.seq (r_ x85_19) (.cnd 51 (.seq (r_ x85_20) .ret) (.seq (r_ x85_22) (.cnd 56 (.seq (r_ x85_23) .ret) (.seq (r_ x85_25) (.cnd 62 (.seq (r_ x85_26) .ret) (.seq (r_ x85_28) x85_51)))))))))
def x85_71:L_:=s_ 6 [v_ (ck_ .u64 0),v_ bf_] []
def x85_73:C_:=.seq (.seq (r_ x85_3) (.block 0 (.seq (r_ x85_4) (.cnd 23 (.seq (r_ x85_5) .ret) (.seq (r_ x85_7) (.cnd 28 (.seq (r_ x85_8) .ret) (.seq (r_ x85_10) (.cnd 33 (.seq (r_ x85_11) .ret) (.seq (r_ x85_13) x85_61))))))))) (.seq (r_ x85_71) .ret)
def x85_76:C_:=.seq (r_ x85_0) (.seq (r_ x85_1) (.seq (r_ x85_2) x85_73))
def x85:C_:=x85_76
theorem fx85:fnx Try.prog 67=some (100,[(6,none),(7,none)],x85):=by kernel_rfl
def x86_0:L_:=s_ 6 [v_ (ck_ .u64 0),v_ bf_] []
def x86_1:L_:=s_ 10 [a_ 1,o_ (.conv .i64 10),a_ 2,o_ (.conv .i64 12)] (s_ 8 [a_ 11,a_ 13] [])
def x86_2:L_:=[q_ 14 (m_ 0)]
def x86_3:L_:=[q_ 16 (.bin .eql 14 (ci_ 14)),
 q_ 15 (m_ 16)]
def x86_4:L_:=[q_ 17 (.bin .eql 14 (ci_ 15)),
 q_ 15 (m_ 17)]
def x86_7:L_:=s_ 18 [a_ 2,b_ .eql 18 (ck_ .u64 0)] []
def x86_8:L_:=s_ 6 [v_ (ck_ .u64 18446744073709551615),v_ bt_] []
def x86_12:L_:=s_ 20 [a_ 0,b_ .eql 20 (ci_ 15)] []
def x86_13:L_:=s_ 22 [a_ 1,a_ 2,b_ .quo 22 23] (s_ 6 [a_ 24,v_ bt_] [])
def x86_17:L_:=s_ 25 [a_ 8,a_ 9,b_ .quo 25 26,o_ (.conv .u64 27)] (s_ 6 [a_ 28,v_ bt_] [])
def x86_21:L_:=[q_ 30 (.bin .eql 14 (ci_ 16)),
 q_ 29 (m_ 30)]
def x86_22:L_:=[q_ 31 (.bin .eql 14 (ci_ 17)),
 q_ 29 (m_ 31)]
def x86_25:L_:=s_ 32 [a_ 2,b_ .eql 32 (ck_ .u64 0)] []
def x86_26:L_:=(q_ 34 (m_ 1)) :: s_ 6 [a_ 34,v_ bt_] []
def x86_30:L_:=s_ 35 [a_ 0,b_ .eql 35 (ci_ 17)] []
def x86_31:L_:=s_ 37 [a_ 1,a_ 2,b_ .rem 37 38] (s_ 6 [a_ 39,v_ bt_] [])
def x86_35:L_:=s_ 40 [a_ 8,a_ 9,b_ .rem 40 41,o_ (.conv .u64 42)] (s_ 6 [a_ 43,v_ bt_] [])
def x86_43:C_:=.block 0 (.seq (.seq (r_ x86_3) (.cnd 15 .skip (r_ x86_4))) (.cnd 15 (.seq (.seq (r_ x86_7) (.cnd 19 (.seq (r_ x86_8) .ret) .skip)) (.seq (.seq (r_ x86_12) (.cnd 21 (.seq (r_ x86_13) .ret) .skip)) (.seq (r_ x86_17) .ret))) (.seq (.seq (r_ x86_21) (.cnd 29 .skip (r_ x86_22))) (.cnd 29 (.seq (.seq (r_ x86_25) (.cnd 33 (.seq (r_ x86_26) .ret) .skip)) (.seq (.seq (r_ x86_30) (.cnd 36 (.seq (r_ x86_31) .ret) .skip)) (.seq (r_ x86_35) .ret))) .skip))))
def x86_45:L_:=s_ 6 [v_ (ck_ .u64 0),v_ bf_] []
def x86_49:C_:=.seq (r_ x86_0) (.seq (r_ x86_1) (.seq (.seq (r_ x86_2) x86_43) (.seq (r_ x86_45) .ret)))
def x86:C_:=x86_49
theorem fx86:fnx Try.prog 68=some (44,[(6,none),(7,none)],x86):=by kernel_rfl
def x87_0:L_:=s_ 2 [i_ 0,v_ bf_,v_ bf_] []
def x87_1:L_:=[q_ 5 (m_ 0)]
def x87_2:L_:=[q_ 7 (.bin .eql 5 (ci_ 18)),
 q_ 6 (m_ 7)]
def x87_3:L_:=s_ 2 [i_ 1,v_ bt_,v_ bt_] []
def x87_5:L_:=[q_ 9 (.bin .eql 5 (ci_ 19)),
 q_ 8 (m_ 9)]
def x87_6:L_:=s_ 2 [i_ 2,v_ bt_,v_ bt_] []
def x87_8:L_:=[q_ 11 (.bin .eql 5 (ci_ 20)),
 q_ 10 (m_ 11)]
def x87_9:L_:=s_ 2 [i_ 3,v_ bt_,v_ bt_] []
def x87_11:L_:=[q_ 13 (.bin .eql 5 (ci_ 21)),
 q_ 12 (m_ 13)]
def x87_12:L_:=s_ 2 [i_ 7,v_ bf_,v_ bt_] []
def x87_14:L_:=[q_ 15 (.bin .eql 5 (ci_ 22)),
 q_ 14 (m_ 15)]
def x87_15:L_:=s_ 2 [i_ 8,v_ bt_,v_ bt_] []
def x87_17:L_:=[q_ 17 (.bin .eql 5 (ci_ 23)),
 q_ 16 (m_ 17)]
def x87_18:L_:=s_ 2 [i_ 11,v_ bt_,v_ bt_] []
def x87_20:L_:=[q_ 19 (.bin .eql 5 (ci_ 24)),
 q_ 18 (m_ 19)]
def x87_21:L_:=s_ 2 [i_ 14,v_ bt_,v_ bt_] []
def x87_23:L_:=[q_ 21 (.bin .eql 5 (ci_ 25)),
 q_ 20 (m_ 21)]
def x87_24:L_:=s_ 2 [i_ 15,v_ bf_,v_ bt_] []
def x87_26:L_:=[q_ 23 (.bin .eql 5 (ci_ 26)),
 q_ 22 (m_ 23)]
def x87_27:L_:=s_ 2 [i_ 16,v_ bt_,v_ bt_] []
def x87_29:L_:=[q_ 25 (.bin .eql 5 (ci_ 27)),
 q_ 24 (m_ 25)]
def x87_30:L_:=s_ 2 [i_ 17,v_ bf_,v_ bt_] []
def x87_40:C_:=.cnd 16 (.seq (r_ x87_18) .ret) (.seq (r_ x87_20) (.cnd 18 (.seq (r_ x87_21) .ret) (.seq (r_ x87_23) (.cnd 20 (.seq (r_ x87_24) .ret) (.seq (r_ x87_26) (.cnd 22 (.seq (r_ x87_27) .ret) (.seq (r_ x87_29) (.cnd 24 (.seq (r_ x87_30) .ret) .skip))))))))
def x87_50:C_:=.cnd 6 (.seq (r_ x87_3) .ret) (.seq (r_ x87_5) (.cnd 8 (.seq (r_ x87_6) .ret) (.seq (r_ x87_8) (.cnd 10 (.seq (r_ x87_9) .ret) (.seq (r_ x87_11) (.cnd 12 (.seq (r_ x87_12) .ret) (.seq (r_ x87_14) (.cnd 14 (.seq (r_ x87_15) .ret) (.seq (r_ x87_17) x87_40)))))))))
def x87_54:L_:=s_ 2 [i_ 0,v_ bf_,v_ bf_] []
def x87_57:C_:=.seq (r_ x87_0) (.seq (.seq (r_ x87_1) (.block 0 (.seq (r_ x87_2) x87_50))) (.seq (r_ x87_54) .ret))
def x87:C_:=x87_57
theorem fx87:fnx Try.prog 69=some (26,[(2,none),(3,none),(4,none)],x87):=by kernel_rfl
def x88_0:L_:=[q_ 2 (mi_ 0)]
def x88_1:L_:=[q_ 3 (m_ 0)]
def x88_2:L_:=[q_ 5 (.bin .eql 3 (ci_ 40)),
 q_ 4 (m_ 5)]
def x88_3:L_:=[q_ 6 (.bin .eql 3 (ci_ 43)),
 q_ 4 (m_ 6)]
def x88_6:L_:=[q_ 2 (mi_ 4)]
def x88_8:L_:=[q_ 8 (.bin .eql 3 (ci_ 41)),
 q_ 7 (m_ 8)]
def x88_9:L_:=[q_ 9 (.bin .eql 3 (ci_ 44)),
 q_ 7 (m_ 9)]
def x88_12:L_:=[q_ 2 (mi_ 8)]
def x88_20:L_:=[q_ 2 (mi_ 1)]
def x88_23:C_:=.seq (r_ x88_0) (.seq (.seq (r_ x88_1) (.block 0 (.seq (.seq (r_ x88_2) (.cnd 4 .skip (r_ x88_3))) (.cnd 4 (.seq (r_ x88_6) .ret) (.seq (.seq (r_ x88_8) (.cnd 7 .skip (r_ x88_9))) (.cnd 7 (.seq (r_ x88_12) .ret) .skip)))))) (.seq (r_ x88_20) .ret))
def x88:C_:=x88_23
theorem fx88:fnx Try.prog 71=some (10,[(2,none)],x88):=by kernel_rfl
def x98_0:L_:=s_ 4 [v_ (ck_ .u64 0),v_ (ck_ .u64 0)] []
def x98_1:L_:=s_ 14 [a_ 0,b_ .and 14 (ck_ .u64 4294967295)] [q_ 6 (m_ 15)]
def x98_2:L_:=s_ 16 [a_ 0,b_ .shr 16 (ck_ .u64 32)] [q_ 7 (m_ 17)]
def x98_3:L_:=s_ 18 [a_ 1,b_ .and 18 (ck_ .u64 4294967295)] [q_ 8 (m_ 19)]
def x98_4:L_:=s_ 20 [a_ 1,b_ .shr 20 (ck_ .u64 32)] [q_ 9 (m_ 21)]
def x98_5:L_:=s_ 22 [a_ 6,a_ 8,b_ .mul 22 23] [q_ 10 (m_ 24)]
def x98_6:L_:=s_ 25 [a_ 7,a_ 8,b_ .mul 25 26,a_ 10,b_ .shr 28 (ck_ .u64 32),b_ .add 27 29] [q_ 11 (m_ 30)]
def x98_7:L_:=s_ 31 [a_ 11,b_ .and 31 (ck_ .u64 4294967295)] [q_ 12 (m_ 32)]
def x98_8:L_:=s_ 33 [a_ 11,b_ .shr 33 (ck_ .u64 32)] [q_ 13 (m_ 34)]
def x98_9:L_:=s_ 35 [a_ 12,a_ 6,a_ 9,b_ .mul 36 37,b_ .add 35 38] [q_ 12 (m_ 39)]
def x98_10:L_:=s_ 40 [a_ 7,a_ 9,b_ .mul 40 41,a_ 13,b_ .add 42 43,a_ 12,b_ .shr 45 (ck_ .u64 32),b_ .add 44 46] [q_ 4 (m_ 47)]
def x98_11:L_:=s_ 48 [a_ 0,a_ 1,b_ .mul 48 49] [q_ 5 (m_ 50)]
def x98_21:C_:=.seq (r_ x98_2) (.seq (r_ x98_3) (.seq (r_ x98_4) (.seq (r_ x98_5) (.seq (r_ x98_6) (.seq (r_ x98_7) (.seq (r_ x98_8) (.seq (r_ x98_9) (.seq (r_ x98_10) (.seq (r_ x98_11) .ret)))))))))
def x98_23:C_:=.seq (r_ x98_0) (.seq (r_ x98_1) x98_21)
def x98:C_:=x98_23
theorem fx98:fnx Try.prog 72=some (51,[(4,none),(5,none)],x98):=by kernel_rfl
def x99_0:L_:=[q_ 2 (.mv (ck_ .u64 0))]
def x99_1:L_:=[q_ 3 (m_ 0)]
def x99_2:L_:=[q_ 2 (.mv (ck_ .u64 1))]
def x99_6:L_:=[q_ 2 (.mv (ck_ .u64 0))]
def x99_9:C_:=.seq (r_ x99_0) (.seq (.seq (r_ x99_1) (.cnd 3 (.seq (r_ x99_2) .ret) .skip)) (.seq (r_ x99_6) .ret))
def x99:C_:=x99_9
theorem fx99:fnx Try.prog 73=some (4,[(2,none)],x99):=by kernel_rfl
def x307_0:L_:=[q_ 2 (.mv bf_)]
def x307_1:L_:=(oc_ 22 8 [(ci_ 327680)]) :: (q_ 21 (m_ 22)) :: s_ 23 [e_ 21 0,e_ 21 1] [q_ 3 (.new [(.pointer none),(.map none)]),on_ (.store 2 3 23),q_ 4 (m_ 24)]
def x307_2:L_:=s_ 25 [c_ 9 [],o_ (.un .not 25),a_ 26] (sg_ 28 27 false [a_ 4,o_ (.un .not 28)] [⟨(some 30),.pick 27 bt_ 29,none⟩])
def x307_3:L_:=[q_ 2 (.mv bf_)]
def x307_7:L_:=[q_ 5 (.mv (.const (.slice none 0 0)))]
def x307_8:L_:=[q_ 6 (.mv (ck_ .u64 1))]
def x307_9:L_:=[q_ 7 (mi_ 0)]
def x307_10:L_:=s_ 31 [a_ 7,a_ 0,n_ 32,b_ .lss 31 33,a_ 34] (sg_ 36 35 true [a_ 7,b_ .lss 36 (ci_ 25)] [⟨(some 38),.pick 35 37 bf_,none⟩])
def x307_12:C_:=.seq (r_ x307_10) (.cnd 38 .skip (.exit 0))
def x307_13:L_:=s_ 41 [a_ 0,a_ 7,o_ (.iaddrS 1 41 42),o_ (.load .bool 1 43)] []
def x307_14:L_:=s_ 46 [g_ 2 3,c_ 10 [46,(.const (.string ⟨#[114,116,46,101,110,116,101,114]⟩)),(.const (.slice none 0 0))]] ((q_ 45 (m_ 47)) :: s_ 48 [e_ 45 0,e_ 45 1,e_ 45 2] [q_ 9 (.new (zs_ .u64 5)),q_ 8 (m_ 48),on_ (.store 5 9 49),q_ 10 (m_ 50)])
def x307_15:L_:=s_ 51 [a_ 10,o_ (.un .not 51),a_ 52] (sg_ 54 53 false [a_ 8,b_ .neq 54 (ci_ 0)] ((⟨(some 56),.pick 53 bt_ 55,none⟩) :: (q_ 57 (m_ 56)) :: sg_ 58 57 false [o_ (.iaddrA false 5 1 9 (ci_ 0)),lu_ 58,a_ 6,b_ .add 60 (ck_ .u64 1),b_ .neq 59 61] [⟨(some 63),.pick 57 bt_ 62,none⟩]))
def x307_16:L_:=[q_ 2 (.mv bf_)]
def x307_19:C_:=.seq (r_ x307_15) (.cnd 63 (.seq (r_ x307_16) .ret) .skip)
def x307_20:L_:=s_ 64 [o_ (.iaddrA false 5 1 9 (ci_ 0)),lu_ 64] [q_ 6 (m_ 65)]
def x307_21:L_:=s_ 66 [a_ 5,o_ (.iaddrA false 5 1 9 (ci_ 0)),lu_ 67,o_ (.iaddrA false 5 1 9 (ci_ 1)),lu_ 69,o_ (.build [(.int .u64 0),(.int .u64 0)] [(0,1,68),(1,1,70)]),o_ (.mkslice [(.int .u64 0),(.int .u64 0)] 1 [(0,71)]),o_ (.app 2 16 66 72)] [q_ 5 (m_ 73)]
def x307_24:C_:=.seq (r_ x307_14) (.seq x307_19 (.seq (r_ x307_20) (r_ x307_21)))
def x307_25:L_:=s_ 74 [a_ 5,n_ 74,b_ .sub 75 (ci_ 1)] [q_ 11 (m_ 76)]
def x307_26:L_:=s_ 77 [a_ 11,b_ .geq 77 (ci_ 0)] []
def x307_27:L_:=s_ 80 [g_ 2 3,a_ 5,a_ 11,o_ (.iaddrS 2 81 82),o_ (.iaddrA false 2 1 83 (ci_ 1)),lu_ 84,o_ (.mkslice [(.int .u64 0)] 1 [(0,85)]),c_ 10 [80,(.const (.string ⟨#[114,116,46,108,101,97,118,101]⟩)),86]] ((q_ 79 (m_ 87)) :: s_ 88 [e_ 79 0,e_ 79 1,e_ 79 2] [q_ 13 (.new (zs_ .u64 5)),q_ 12 (m_ 88),on_ (.store 5 13 89),q_ 14 (m_ 90)])
def x307_28:L_:=s_ 91 [a_ 14,o_ (.un .not 91),a_ 92] (sg_ 94 93 false [a_ 12,b_ .neq 94 (ci_ 0)] [⟨(some 96),.pick 93 bt_ 95,none⟩])
def x307_29:L_:=[q_ 2 (.mv bf_)]
def x307_34:L_:=s_ 98 [f_ 0 3,l_ 98,a_ 5,a_ 11,o_ (.iaddrS 2 100 101),o_ (.iaddrA false 2 1 102 (ci_ 1)),lu_ 103,o_ (.conv .i64 104),b_ .mul (ci_ 32) 105,b_ .add (ci_ 266240) 106,c_ 11 [99,107,(ci_ 8)]] ((q_ 97 (m_ 108)) :: s_ 109 [e_ 97 0,e_ 97 1] (s_ 15 [a_ 109,a_ 110] []))
def x307_35:L_:=s_ 111 [a_ 16,b_ .neq 111 (ci_ 0),a_ 112] (sg_ 114 113 false [a_ 15,o_ (.b2s 114),b_ .neq 115 (.const (.string ⟨#[0,0,0,0,0,0,0,0]⟩))] [⟨(some 117),.pick 113 bt_ 116,none⟩])
def x307_36:L_:=[q_ 2 (.mv bf_)]
def x307_40:L_:=s_ 118 [a_ 5,a_ 11,o_ (.slS 2 118 none (some 119))] [q_ 5 (m_ 120)]
def x307_43:C_:=.seq (.seq (.draw x307_27 [[],[],[],[1,2],[1,2,3],[1,2,3,4],[1,2,3,4,5],[0,1,2,3,4,5,6],[0,1,2,3,4,5,6,7],[0,1,2,3,4,5,6,7,8],[0,1,2,3,4,5,6,7,8],[0,1,2,3,4,5,6,7,8],[],[0,1,2,3,4,5,6,7,8,9,12],[0,1,2,3,4,5,6,7,8,9,10,12,13],[0,1,2,3,4,5,6,7,8,9,10,11,12,13,14]]) (.seq (r_ x307_28) (.cnd 96 (.seq (r_ x307_29) .ret) .skip))) (.seq (.draw x307_34 [[],[0],[],[],[2,3],[2,3,4],[2,3,4,5],[2,3,4,5,6],[2,3,4,5,6,7],[2,3,4,5,6,7,8],[0,1,2,3,4,5,6,7,8,9],[0,1,2,3,4,5,6,7,8,9,10],[0,1,2,3,4,5,6,7,8,9,10,11],[0,1,2,3,4,5,6,7,8,9,10,11],[0,1,2,3,4,5,6,7,8,9,10,11,12],[0,1,2,3,4,5,6,7,8,9,10,11,12,13,14]]) (.seq (.seq (r_ x307_35) (.cnd 117 (.seq (r_ x307_36) .ret) .skip)) (r_ x307_40)))
def x307_46:C_:=.seq (r_ x307_25) (.seq (r_ x307_26) (.cnd 78 x307_43 .skip))
def x307_48:C_:=.seq (r_ x307_13) (.cnd 44 x307_24 x307_46)
def x307_49:L_:=s_ 121 [a_ 5,n_ 121,i_ 0] []
def x307_50:L_:=[q_ 124 (.bin .lss 123 122)]
def x307_52:L_:=s_ 125 [a_ 123,o_ (.iaddrS 2 121 123),g_ 2 126] [q_ 18 (.new [(.int .u64 0),(.int .u64 0)]),q_ 17 (m_ 125),on_ (.store 2 18 127)]
def x307_53:L_:=s_ 129 [f_ 0 3,l_ 129,o_ (.iaddrA false 2 1 18 (ci_ 1)),lu_ 131,o_ (.conv .i64 132),b_ .mul (ci_ 32) 133,b_ .add (ci_ 266240) 134,c_ 11 [130,135,(ci_ 8)]] ((q_ 128 (m_ 136)) :: s_ 137 [e_ 128 0,e_ 128 1] (s_ 19 [a_ 137,a_ 138] []))
def x307_54:L_:=s_ 139 [a_ 20,b_ .neq 139 (ci_ 0),a_ 140] (sg_ 142 141 false [a_ 19,o_ (.iaddrS 1 142 (ci_ 0)),o_ (.load (.int .u8) 1 143),o_ (.conv .u64 144),o_ (.iaddrA false 2 1 18 (ci_ 0)),lu_ 146,b_ .neq 145 147] ((⟨(some 149),.pick 141 bt_ 148,none⟩) :: (q_ 150 (m_ 149)) :: sg_ 151 150 false [o_ (.iaddrA false 2 1 18 (ci_ 1)),lu_ 151,b_ .eql 152 (ck_ .u64 0)] ((⟨(some 154),.pick 150 bt_ 153,none⟩) :: (q_ 155 (m_ 154)) :: sg_ 156 155 false [o_ (.iaddrA false 2 1 18 (ci_ 1)),lu_ 156,o_ (.conv .i64 157),a_ 17,b_ .add 159 (ci_ 1),b_ .neq 158 160] [⟨(some 162),.pick 155 bt_ 161,none⟩])))
def x307_55:L_:=[q_ 2 (.mv bf_)]
def x307_62:L_:=[q_ 163 (.bin .add 123 (ci_ 1)),
 q_ 123 (m_ 163)]
def x307_65:C_:=.seq (r_ x307_50) (.seq (.cnd 124 .skip (.exit 2)) (.seq (.block 3 (.seq (r_ x307_52) (.seq (r_ x307_53) (.seq (.draw x307_54 [[],[0],[0,1],[0,1,2],[0,1,2,3],[0,1,2,3,4],[0,1,2,3,4,5],[0,1,2],[0,1,2,7],[0,1,2,3,4,5,6,7,8],[0,1,2,3,4,5,6,7,8,9],[0,1,2,3,4,5,6,7,8,9,10],[0,1,2,3,4,5,6,7,8,9,10,11],[0,1,2,3,4,5,6,7,8,9,10,11,12],[0,1,2,3,4,5,6,7,8,9,10,11,12,13],[0,1,2,3,4,5,6,7,8,9,10,11,12,13,14],[0,1,2,3,4,5,6,7,8,9,10,11,12,13,14,15],[0,1,2,3,4,5,6,7,8,9,10,11,12,13,14,15,16],[0,1,2,3,4,5,6,7,8,9,10,11,12,13,14,15,16,17],[0,1,2,3,4,5,6,7,8,9,10,11,12,13,14,15,16,17,18],[0,1,2,3,4,5,6,7,8,9,10,11,12,13,14,15,16],[0,1,2,3,4,5,6,7,8,9,10,11,12,13,14,15,16,20],[0,1,2,3,4,5,6,7,8,9,10,11,12,13,14,15,16,17,18,19,20,21],[0,1,2,3,4,5,6,7,8,9,10,11,12,13,14,15,16,17,18,19,20,21,22]]) (.cnd 162 (.seq (r_ x307_55) .ret) .skip))))) (r_ x307_62)))
def x307_68:C_:=.seq (r_ x307_49) (.block 2 (.loop x307_65))
def x307_69:C_:=.seq x307_48 x307_68
def x307_71:L_:=s_ 39 [a_ 7,b_ .add 39 (ci_ 1)] [q_ 7 (m_ 40)]
def x307_73:C_:=.seq x307_12 (.seq (.block 1 x307_69) (r_ x307_71))
def x307_77:L_:=[q_ 2 (.mv bt_)]
def x307_78:C_:=.seq (r_ x307_77) .ret
def x307_82:C_:=.seq (.seq (r_ x307_2) (.cnd 30 (.seq (r_ x307_3) .ret) .skip)) (.seq (r_ x307_7) (.seq (r_ x307_8) (.seq (.seq (r_ x307_9) (.block 0 (.loop x307_73))) x307_78)))
def x307_84:C_:=.seq (r_ x307_0) (.seq (r_ x307_1) x307_82)
def x307:C_:=x307_84
theorem fx307:fnx Try.prog 7=some (164,[(2,none)],x307):=by kernel_rfl
def x308_0:L_:=s_ 2 [o_ (.new [(.pointer none),(.map none)]),v_ bf_] []
def x308_1:L_:=s_ 13 [a_ 0,c_ 14 [13],o_ (.build [se_,(.int .i64 0),(.int .i64 0),(.int .i64 0),(.int .i64 0),(.int .i64 0),se_,(.int .i64 0)] [(0,1,(.const (.string ⟨#[102,46,109,97,105,110]⟩)))]),o_ (.build (zs_ .i64 5) [(0,1,(ci_ 53))]),o_ (.build [se_,(.int .i64 0),(.int .i64 0),(.int .i64 0),(.int .i64 0),(.int .i64 0),se_,(.int .i64 0)] [(1,5,16),(6,1,(.const (.string ⟨#[102,46,109,97,105,110]⟩)))]),o_ (.mkslice [se_,(.int .i64 0),(.int .i64 0),(.int .i64 0),(.int .i64 0),(.int .i64 0),se_,(.int .i64 0)] 2 [(0,15),(1,17)]),o_ (.app 8 80 14 18),c_ 13 [19,(ci_ 0)]] ((q_ 12 (m_ 20)) :: s_ 21 [e_ 12 0,e_ 12 1,e_ 12 2] (s_ 4 [a_ 21,a_ 22,a_ 23] []))
def x308_2:L_:=s_ 24 [a_ 6,b_ .neq 24 (ci_ 0)] []
def x308_3:L_:=[q_ 26 (.build [(.pointer none),(.map none)] []),
 on_ (.store 2 2 26),
 q_ 3 (.mv bf_)]
def x308_7:L_:=s_ 28 [a_ 4,c_ 16 [28],c_ 15 [29,(ci_ 2621440)]] ((q_ 27 (m_ 30)) :: s_ 31 [e_ 27 0,e_ 27 1] (s_ 7 [a_ 31,a_ 32] []))
def x308_8:L_:=s_ 33 [a_ 8,b_ .neq 33 (ci_ 0),a_ 34] (sg_ 36 35 false [a_ 7,o_ (.eqnil 0 false 36 (.const (.pointer none)))] [⟨(some 38),.pick 35 bt_ 37,none⟩])
def x308_9:L_:=[q_ 39 (.build [(.pointer none),(.map none)] []),
 on_ (.store 2 2 39),
 q_ 3 (.mv bf_)]
def x308_13:L_:=s_ 40 [a_ 7,a_ 5,o_ (.build [(.pointer none),(.map none)] [(0,1,40),(1,1,41)])] [q_ 9 (.new [(.pointer none),(.map none)]),on_ (.store 2 9 42)]
def x308_14:L_:=s_ 44 [g_ 2 9,c_ 17 [44]] ((q_ 43 (m_ 45)) :: s_ 46 [e_ 43 0,e_ 43 1] (s_ 10 [a_ 46,a_ 47] []))
def x308_15:L_:=s_ 48 [g_ 2 9,a_ 11,a_ 49] (sg_ 51 50 true [a_ 10,b_ .eql 51 (ci_ 0)] [⟨(some 53),.pick 50 52 bf_,none⟩,q_ 54 (m_ 53),og_ 55 54 true (m_ 7),⟨(some 56),.callF 18 [55,(ci_ 2)],(some (54,true))⟩,og_ 57 54 true (.bin .eql 56 (ck_ .u64 786432)),⟨(some 58),.pick 54 57 bf_,none⟩,on_ (.store 2 2 48),q_ 3 (m_ 58)])
def x308_23:C_:=.seq (r_ x308_0) (.seq (r_ x308_1) (.seq (.seq (r_ x308_2) (.cnd 25 (.seq (r_ x308_3) .ret) .skip)) (.seq (r_ x308_7) (.seq (.seq (r_ x308_8) (.cnd 38 (.seq (r_ x308_9) .ret) .skip)) (.seq (r_ x308_13) (.seq (r_ x308_14) (.seq (.draw x308_15 [[],[],[1],[1,2],[1,2,3],[1,2,3,4],[1,2,3,4,5],[1,2,3,4,5,6],[1,2,3,4,5,6,7],[1,2,3,4,5,6,7,8],[1,2,3,4,5,6,7,8,9],[0,1,2,3,4,5,6,7,8],[0,1,2,3,4,5,6,7,8,9,10,11]]) .ret)))))))
def x308:C_:=x308_23
theorem fx308:fnx Try.prog 8=some (59,[(2,(some (.agg,2))),(3,none)],x308):=by kernel_rfl
def x309_0:L_:=[q_ 0 (.mv bf_)]
def x309_1:L_:=(oc_ 6 8 [(ci_ 327680)]) :: (q_ 5 (m_ 6)) :: s_ 7 [e_ 5 0,e_ 5 1] [q_ 1 (.new [(.pointer none),(.map none)]),on_ (.store 2 1 7),q_ 2 (m_ 8)]
def x309_2:L_:=s_ 9 [a_ 2,o_ (.un .not 9)] []
def x309_3:L_:=[q_ 0 (.mv bf_)]
def x309_7:L_:=s_ 12 [g_ 2 1,o_ (.mkslice [(.int .u64 0)] 1 [(0,(ck_ .u64 10))]),c_ 10 [12,(.const (.string ⟨#[114,116,46,109,97,108,108,111,99]⟩)),13]] ((q_ 11 (m_ 14)) :: s_ 15 [e_ 11 0,e_ 11 1,e_ 11 2] [q_ 4 (.new (zs_ .u64 5)),q_ 3 (m_ 15),on_ (.store 5 4 16),q_ 2 (m_ 17)])
def x309_8:L_:=s_ 18 [a_ 2,a_ 18] (sg_ 20 19 true [a_ 3,b_ .eql 20 (ci_ 0)] ((⟨(some 22),.pick 19 21 bf_,none⟩) :: (q_ 23 (m_ 22)) :: sg_ 24 23 true [g_ 5 4,o_ (.build (zs_ .u64 5) [(0,1,(ck_ .u64 327696)),(1,1,(ck_ .u64 327696)),(2,1,(ck_ .u64 327706)),(3,1,(ck_ .u64 2)),(4,1,(ck_ .u64 1))]),o_ (.eqagg false [0,0,0,0,0] 24 25)] [⟨(some 27),.pick 23 26 bf_,none⟩,q_ 0 (m_ 27)]))
def x309_13:C_:=.seq (r_ x309_0) (.seq (r_ x309_1) (.seq (.seq (r_ x309_2) (.cnd 10 (.seq (r_ x309_3) .ret) .skip)) (.seq (r_ x309_7) (.seq (r_ x309_8) .ret))))
def x309:C_:=x309_13
theorem fx309:fnx Try.prog 9=some (28,[(0,none)],x309):=by kernel_rfl
def x310_0:L_:=(q_ 3 (.box 0)) :: s_ 6 [i_ 0,o_ (.new (zs_ .u64 5)),v_ bf_] []
def x310_1:L_:=s_ 21 [f_ 1 3,l_ 21,a_ 1,o_ (.lookup 9 3 .string (.int .i64 0) true 22 23)] ((q_ 20 (m_ 24)) :: s_ 25 [e_ 20 0,e_ 20 1] (s_ 9 [a_ 25,a_ 26] []))
def x310_2:L_:=[q_ 11 (.new (zs_ .u64 32))]
def x310_3:L_:=[q_ 12 (mi_ 2)]
def x310_4:L_:=s_ 27 [a_ 12,b_ .lss 27 (ci_ 32)] []
def x310_7:L_:=s_ 31 [f_ 0 3,l_ 31,a_ 12,a_ 12,o_ (.conv .u64 34),b_ .mul 35 (ck_ .u64 19088743),a_ 2,n_ 37,o_ (.conv .u64 38),b_ .add 36 39,c_ 12 [32,33,40]] []
def x310_8:L_:=s_ 42 [a_ 12,f_ 0 3,l_ 43,a_ 12,c_ 18 [44,45],o_ (.iaddrA true 32 1 11 42)] [on_ (.store 1 47 46)]
def x310_11:L_:=s_ 29 [a_ 12,b_ .add 29 (ci_ 1)] [q_ 12 (m_ 30)]
def x310_17:L_:=s_ 48 [a_ 2,n_ 48,i_ 0] []
def x310_18:L_:=[q_ 51 (.bin .lss 50 49)]
def x310_20:L_:=s_ 52 [a_ 50,o_ (.iaddrS 1 48 50),lu_ 53] (s_ 13 [a_ 52,a_ 54] [])
def x310_21:L_:=s_ 55 [f_ 0 3,l_ 55,a_ 13,b_ .add (ci_ 10) 57,a_ 14,c_ 12 [56,58,59]] []
def x310_24:L_:=[q_ 61 (.bin .add 50 (ci_ 1)),
 q_ 50 (m_ 61)]
def x310_31:L_:=s_ 62 [f_ 0 3,l_ 62,f_ 1 3,l_ 64,o_ (.lookup 9 3 .string (.int .i64 0) false 65 (.const (.string ⟨#[102,46,109,97,105,110]⟩))),o_ (.conv .u64 66),c_ 12 [63,(ci_ 1),67]] []
def x310_32:L_:=s_ 69 [f_ 0 3,l_ 69,a_ 9,o_ (.conv .u64 71),c_ 19 [70,72]] []
def x310_33:L_:=s_ 75 [g_ 2 3,c_ 17 [75]] ((q_ 74 (m_ 76)) :: s_ 77 [e_ 74 0,e_ 74 1] (s_ 15 [a_ 77,a_ 78] []))
def x310_34:L_:=s_ 79 [a_ 16,o_ (.un .not 79),a_ 80] (sg_ 82 81 false [a_ 10,o_ (.un .not 82)] ((⟨(some 84),.pick 81 bt_ 83,none⟩) :: (q_ 85 (m_ 84)) :: sg_ 86 85 false [a_ 15,b_ .neq 86 (ci_ 0)] [⟨(some 88),.pick 85 bt_ 87,none⟩]))
def x310_35:L_:=s_ 89 [a_ 15,o_ (.build (zs_ .u64 5) []),a_ 16,a_ 91] [og_ 93 92 true (m_ 10),⟨(some 94),.pick 92 93 bf_,none⟩,q_ 6 (m_ 89),on_ (.store 5 7 90),q_ 8 (m_ 94)]
def x310_39:L_:=[q_ 17 (mi_ 2)]
def x310_40:L_:=s_ 95 [a_ 17,b_ .lss 95 (ci_ 28)] []
def x310_43:L_:=s_ 99 [a_ 17,b_ .lss 99 (ci_ 5),a_ 100] (sg_ 102 101 false [a_ 17,b_ .gtr 102 (ci_ 7)] ((⟨(some 104),.pick 101 bt_ 103,none⟩) :: (q_ 105 (m_ 104)) :: sg_ 106 105 true [a_ 17,b_ .lss 106 (ci_ 10),a_ 107] (sg_ 109 108 false [a_ 17,b_ .gtr 109 (ci_ 17)] ((⟨(some 111),.pick 108 bt_ 110,(some (105,true))⟩) :: (⟨(some 112),.pick 105 111 bf_,none⟩) :: (q_ 113 (m_ 112)) :: sg_ 114 113 true [f_ 0 3,l_ 114,a_ 17] ((⟨(some 117),.callF 18 [115,116],(some (113,true))⟩) :: sg_ 118 113 true [a_ 17,o_ (.iaddrA true 32 1 11 118),lu_ 119,b_ .neq 117 120] [⟨(some 122),.pick 113 121 bf_,none⟩])))))
def x310_44:L_:=s_ 123 [a_ 15,o_ (.build (zs_ .u64 5) [])] [q_ 6 (m_ 123),on_ (.store 5 7 124),q_ 8 (.mv bf_)]
def x310_49:L_:=s_ 97 [a_ 17,b_ .add 97 (ci_ 1)] [q_ 17 (m_ 98)]
def x310_55:L_:=[q_ 18 (.new (zs_ .u64 5))]
def x310_56:L_:=[q_ 125 (mi_ 0)]
def x310_57:L_:=[q_ 126 (.bin .lss 125 (ci_ 5))]
def x310_59:L_:=[q_ 127 (m_ 125),
 q_ 19 (m_ 127)]
def x310_60:L_:=s_ 128 [a_ 19,f_ 0 3,l_ 129,a_ 19,b_ .add (ci_ 10) 131,c_ 18 [130,132],o_ (.iaddrA true 5 1 18 128)] [on_ (.store 1 134 133)]
def x310_63:L_:=[q_ 135 (.bin .add 125 (ci_ 1)),
 q_ 125 (m_ 135)]
def x310_70:L_:=s_ 136 [a_ 15,g_ 5 18] [q_ 6 (m_ 136),on_ (.store 5 7 137),q_ 8 (.mv bt_)]
def x310_73:C_:=.seq (r_ x310_55) (.seq (.seq (r_ x310_56) (.block 6 (.loop (.seq (r_ x310_57) (.seq (.cnd 126 .skip (.exit 6)) (.seq (.block 7 (.seq (r_ x310_59) (r_ x310_60))) (r_ x310_63))))))) (.seq (.draw x310_70 [[],[],[0],[0,1,2],[0,1,2,3]]) .ret))
def x310_74:C_:=.seq (.seq (r_ x310_39) (.block 4 (.loop (.seq (.seq (r_ x310_40) (.cnd 96 .skip (.exit 4))) (.seq (.block 5 (.seq (.draw x310_43 [[],[0],[0,1],[0,1,2],[0,1,2,3],[0,1,2,3,4],[0,1,2,3,4,5],[0,1,2,3,4,5,6],[0,1,2,3,4,5,6,7],[0,1,2,3,4,5,6,7,8],[0,1,2,3,4,5,6,7,8,9],[0,1,2,3,4,5,6,7,8,9,10],[0,1,2,3,4,5,6,7,8,9,10,11],[0,1,2,3,4,5,6,7,8,9,10,11,12],[0,1,2,3,4,5,6,7,8,9,10,11,12,13],[0,1,2,3,4,5,6,7,8,9,10,11,12,13,14],[0,1,2,3,4,5,6,7,8,9,10,11,12,13,14,15],[0,1,2,3,4,5,6,7,8,9,10,11,12,13,14],[0,1,2,3,4,5,6,7,8,9,10,11,12,13,14,15,16,17],[0,1,2,3,4,5,6,7,8,9,10,11,12,13,14],[0,1,2,3,4,5,6,7,8,9,10,11,12,13,14,19],[0,1,2,3,4,5,6,7,8,9,10,11,12,13,14,19,20],[0,1,2,3,4,5,6,7,8,9,10,11,12,13,14,15,16,17,18,19,20,21],[0,1,2,3,4,5,6,7,8,9,10,11,12,13,14,15,16,17,18,19,20,21,22]]) (.cnd 122 (.seq (r_ x310_44) .ret) .skip))) (r_ x310_49)))))) x310_73
def x310_80:C_:=.seq (.seq (r_ x310_3) (.block 0 (.loop (.seq (.seq (r_ x310_4) (.cnd 28 .skip (.exit 0))) (.seq (.block 1 (.seq (r_ x310_7) (r_ x310_8))) (r_ x310_11)))))) (.seq (.seq (r_ x310_17) (.block 2 (.loop (.seq (r_ x310_18) (.seq (.cnd 51 .skip (.exit 2)) (.seq (.block 3 (.seq (r_ x310_20) (r_ x310_21))) (r_ x310_24))))))) (.seq (r_ x310_31) (.seq (r_ x310_32) (.seq (r_ x310_33) (.seq (.seq (r_ x310_34) (.cnd 88 (.seq (r_ x310_35) .ret) .skip)) x310_74)))))
def x310_83:C_:=.seq (r_ x310_0) (.seq (r_ x310_1) (.seq (r_ x310_2) x310_80))
def x310:C_:=x310_83
theorem fx310:fnx Try.prog 10=some (138,[(6,none),(7,(some (.agg,5))),(8,none)],x310):=by kernel_rfl
def x314_0:L_:=[q_ 2 (.mv (.const (.slice none 0 0)))]
def x314_1:L_:=[q_ 3 (.new [(.slice none 0 0)])]
def x314_2:L_:=s_ 4 [a_ 0,c_ 26 [3,4]] []
def x314_3:L_:=[oc_ 6 27 [3]]
def x314_4:L_:=[oc_ 7 28 [3]]
def x314_5:L_:=[oc_ 8 29 [3]]
def x314_6:L_:=[oc_ 9 30 [3]]
def x314_7:L_:=[oc_ 10 31 [3]]
def x314_8:L_:=[oc_ 11 32 [3]]
def x314_9:L_:=s_ 12 [f_ 0 3,l_ 12] [q_ 2 (m_ 13)]
def x314_19:C_:=.seq (r_ x314_0) (.seq (r_ x314_1) (.seq (r_ x314_2) (.seq (r_ x314_3) (.seq (r_ x314_4) (.seq (r_ x314_5) (.seq (r_ x314_6) (.seq (r_ x314_7) (.seq (r_ x314_8) (.seq (r_ x314_9) .ret)))))))))
def x314:C_:=x314_19
theorem fx314:fnx Try.prog 14=some (14,[(2,none)],x314):=by kernel_rfl
def x316_0:L_:=[q_ 2 (.mv (.const (.slice none 0 0)))]
def x316_1:L_:=[q_ 3 (.mv (.const (.slice none 0 0)))]
def x316_2:L_:=s_ 6 [a_ 0,n_ 6,i_ 0] []
def x316_3:L_:=[q_ 9 (.bin .lss 8 7)]
def x316_5:L_:=s_ 10 [o_ (.iaddrS 1 6 8),o_ (.load (.int .u32) 1 10)] [q_ 5 (m_ 11)]
def x316_6:L_:=s_ 12 [a_ 3,a_ 5,o_ (.conv .u8 13),a_ 5,b_ .shr 15 (ck_ .u64 8),o_ (.conv .u8 16),a_ 5,b_ .shr 18 (ck_ .u64 16),o_ (.conv .u8 19),a_ 5,b_ .shr 21 (ck_ .u64 24),o_ (.conv .u8 22),o_ (.mkslice [(.int .u8 0)] 4 [(0,14),(1,17),(2,20),(3,23)]),o_ (.app 1 1 12 24)] [q_ 3 (m_ 25)]
def x316_9:L_:=[q_ 26 (.bin .add 8 (ci_ 1)),
 q_ 8 (m_ 26)]
def x316_12:C_:=.seq (r_ x316_3) (.seq (.cnd 9 .skip (.exit 0)) (.seq (.block 1 (.seq (r_ x316_5) (r_ x316_6))) (r_ x316_9)))
def x316_16:L_:=[q_ 27 (m_ 3),
 q_ 2 (m_ 27)]
def x316_17:C_:=.seq (r_ x316_16) .ret
def x316_20:C_:=.seq (r_ x316_0) (.seq (r_ x316_1) (.seq (.seq (r_ x316_2) (.block 0 (.loop x316_12))) x316_17))
def x316:C_:=x316_20
theorem fx316:fnx Try.prog 16=some (28,[(2,none)],x316):=by kernel_rfl
def x317_0:L_:=s_ 1 [o_ (.box 0),i_ 0,v_ bf_] []
def x317_1:L_:=[q_ 4 (mi_ 0)]
def x317_2:L_:=s_ 6 [a_ 4,b_ .lss 6 (ci_ 400)] []
def x317_5:L_:=s_ 10 [f_ 0 1,l_ 10,a_ 4,b_ .add 12 (ci_ 1),b_ .mul (ci_ 100) 13,c_ 33 [11,(.const (.slice none 0 0)),14]] [q_ 5 (.new [(.int .i64 0),(.int .u8 0),(.int .i64 0),(.slice none 0 0),(.int .i64 0),(.int .i64 0)]),on_ (.store 6 5 15)]
def x317_6:L_:=s_ 16 [f_ 0 5,li_ 16,b_ .neq 17 (ci_ 0)] []
def x317_7:L_:=s_ 19 [f_ 0 5,li_ 19] (s_ 2 [a_ 20,v_ bt_] [])
def x317_11:L_:=s_ 21 [f_ 0 1,l_ 21,c_ 34 [22],f_ 1 1,l_ 24,o_ (.lookup 9 3 .string (.int .i64 0) false 25 (.const (.string ⟨#[102,46,109,97,105,110]⟩))),o_ (.conv .u64 26),b_ .eql 23 27] []
def x317_12:L_:=s_ 29 [f_ 0 5,li_ 29] (s_ 2 [a_ 30,v_ bt_] [])
def x317_19:L_:=s_ 8 [a_ 4,b_ .add 8 (ci_ 1)] [q_ 4 (m_ 9)]
def x317_21:C_:=.seq (.seq (r_ x317_2) (.cnd 7 .skip (.exit 0))) (.seq (.block 1 (.seq (r_ x317_5) (.seq (.seq (r_ x317_6) (.cnd 18 (.seq (r_ x317_7) .ret) .skip)) (.seq (.draw x317_11 [[],[0],[0,1],[],[3],[3,4],[3,4,5],[0,1,2,3,4,5,6]]) (.cnd 28 (.seq (r_ x317_12) .ret) .skip))))) (r_ x317_19))
def x317_25:L_:=s_ 2 [i_ 0,v_ bf_] []
def x317_26:C_:=.seq (r_ x317_25) .ret
def x317_28:C_:=.seq (r_ x317_0) (.seq (.seq (r_ x317_1) (.block 0 (.loop x317_21))) x317_26)
def x317:C_:=x317_28
theorem fx317:fnx Try.prog 17=some (31,[(2,none),(3,none)],x317):=by kernel_rfl
def x326_0:L_:=s_ 4 [a_ 0,c_ 45 [4,(.const (.string ⟨#[114,116,46,115,116,97,114,116]⟩))]] []
def x326_1:L_:=s_ 6 [a_ 0,c_ 46 [6,(ci_ 2),(ci_ 786432)]] []
def x326_2:L_:=s_ 8 [a_ 0,c_ 46 [8,(ci_ 5),(ci_ 262144)]] []
def x326_3:L_:=s_ 10 [a_ 0,a_ 1,b_ .shr 11 (ck_ .u64 12),c_ 47 [10,(ci_ 51),(ci_ 6),(ci_ 0),(ci_ 0),12]] []
def x326_4:L_:=s_ 14 [a_ 0,a_ 1,b_ .and 15 (ci_ 2032),c_ 47 [14,(ci_ 28),(ci_ 6),(ci_ 6),(ci_ 0),16]] []
def x326_5:L_:=s_ 18 [a_ 1,b_ .and 18 (ci_ 2048),b_ .neq 19 (ci_ 0)] []
def x326_6:L_:=s_ 21 [a_ 0,c_ 47 [21,(ci_ 28),(ci_ 6),(ci_ 6),(ci_ 0),(ci_ 1024)]] []
def x326_7:L_:=s_ 23 [a_ 0,c_ 47 [23,(ci_ 28),(ci_ 6),(ci_ 6),(ci_ 0),(ci_ 1024)]] []
def x326_11:L_:=s_ 25 [a_ 0,c_ 47 [25,(ci_ 44),(ci_ 0),(ci_ 5),(ci_ 6),(ci_ 0)]] []
def x326_12:L_:=s_ 27 [a_ 0,c_ 47 [27,(ci_ 44),(ci_ 0),(ci_ 5),(ci_ 0),(ci_ 8)]] []
def x326_13:L_:=s_ 29 [a_ 0,c_ 47 [29,(ci_ 44),(ci_ 0),(ci_ 5),(ci_ 0),(ci_ 32)]] []
def x326_14:L_:=s_ 31 [a_ 0,c_ 47 [31,(ci_ 28),(ci_ 6),(ci_ 0),(ci_ 0),(ci_ 1)]] []
def x326_15:L_:=s_ 33 [a_ 0,c_ 47 [33,(ci_ 44),(ci_ 0),(ci_ 5),(ci_ 6),(ci_ 16)]] []
def x326_16:L_:=s_ 35 [a_ 0,c_ 46 [35,(ci_ 7),(ci_ 266240)]] []
def x326_17:L_:=s_ 37 [a_ 0,c_ 47 [37,(ci_ 44),(ci_ 0),(ci_ 7),(ci_ 6),(ci_ 0)]] []
def x326_18:L_:=s_ 39 [a_ 0,c_ 47 [39,(ci_ 28),(ci_ 7),(ci_ 7),(ci_ 0),(ci_ 32)]] []
def x326_19:L_:=s_ 41 [a_ 0,c_ 47 [41,(ci_ 44),(ci_ 0),(ci_ 5),(ci_ 7),(ci_ 24)]] []
def x326_20:L_:=s_ 43 [a_ 0,c_ 48 [43,(ci_ 53),(ci_ 1),(ci_ 0),(ci_ 0),(.const (.string ⟨#[102,46,109,97,105,110]⟩))]] []
def x326_21:L_:=s_ 45 [a_ 0,c_ 46 [45,(ci_ 5),(ci_ 262400)]] []
def x326_22:L_:=s_ 47 [a_ 0,c_ 47 [47,(ci_ 41),(ci_ 10),(ci_ 5),(ci_ 0),(ci_ 0)]] []
def x326_23:L_:=s_ 49 [a_ 0,c_ 47 [49,(ci_ 28),(ci_ 17),(ci_ 0),(ci_ 0),(ci_ 3)]] []
def x326_24:L_:=s_ 51 [a_ 0,c_ 47 [51,(ci_ 55),(ci_ 0),(ci_ 0),(ci_ 0),(ci_ 0)]] []
def x326_34:C_:=.seq (r_ x326_14) (.seq (r_ x326_15) (.seq (r_ x326_16) (.seq (r_ x326_17) (.seq (r_ x326_18) (.seq (r_ x326_19) (.seq (r_ x326_20) (.seq (r_ x326_21) (.seq (r_ x326_22) (.seq (r_ x326_23) (r_ x326_24))))))))))
def x326_43:C_:=.seq (r_ x326_0) (.seq (r_ x326_1) (.seq (r_ x326_2) (.seq (r_ x326_3) (.seq (r_ x326_4) (.seq (.seq (r_ x326_5) (.cnd 20 (.seq (r_ x326_6) (r_ x326_7)) .skip)) (.seq (r_ x326_11) (.seq (r_ x326_12) (.seq (r_ x326_13) x326_34))))))))
def x326:C_:=x326_43
theorem fx326:fnx Try.prog 26=some (53,[],x326):=by kernel_rfl
def x327_0:L_:=s_ 4 [o_ (.build [se_,(.int .i64 0)] [(0,1,(.const (.string ⟨#[114,116,46,116,114,97,112]⟩))),(1,1,(ci_ 4))]),o_ (.build [se_,(.int .i64 0)] [(0,1,(.const (.string ⟨#[114,116,46,110,111,114,111,111,109]⟩))),(1,1,(ci_ 5))]),o_ (.mkslice [se_,(.int .i64 0)] 2 [(0,4),(1,5)]),n_ 6,i_ 0] []
def x327_1:L_:=[q_ 9 (.bin .lss 8 7)]
def x327_3:L_:=s_ 10 [o_ (.iaddrS 2 6 8),g_ 2 10] [q_ 3 (.new [se_,(.int .i64 0)]),on_ (.store 2 3 11)]
def x327_4:L_:=s_ 12 [a_ 0,f_ 0 3,o_ (.load .str 1 13),c_ 45 [12,14]] []
def x327_5:L_:=s_ 16 [a_ 0,f_ 1 3,li_ 17,c_ 47 [16,(ci_ 28),(ci_ 17),(ci_ 0),(ci_ 0),18]] []
def x327_6:L_:=s_ 20 [a_ 0,c_ 47 [20,(ci_ 55),(ci_ 0),(ci_ 0),(ci_ 0),(ci_ 0)]] []
def x327_11:L_:=[q_ 22 (.bin .add 8 (ci_ 1)),
 q_ 8 (m_ 22)]
def x327_17:C_:=.seq (r_ x327_0) (.block 0 (.loop (.seq (r_ x327_1) (.seq (.cnd 9 .skip (.exit 0)) (.seq (.block 1 (.seq (r_ x327_3) (.seq (r_ x327_4) (.seq (r_ x327_5) (r_ x327_6))))) (r_ x327_11))))))
def x327:C_:=x327_17
theorem fx327:fnx Try.prog 27=some (23,[],x327):=by kernel_rfl
def x328_0:L_:=s_ 2 [a_ 0,c_ 45 [2,(.const (.string ⟨#[114,116,46,108,111,99,107]⟩))]] []
def x328_1:L_:=s_ 4 [a_ 0,c_ 46 [4,(ci_ 6),(ci_ 262144)]] []
def x328_2:L_:=s_ 6 [a_ 0,c_ 47 [6,(ci_ 41),(ci_ 30),(ci_ 6),(ci_ 0),(ci_ 32)]] []
def x328_3:L_:=s_ 8 [a_ 0,c_ 48 [8,(ci_ 45),(ci_ 0),(ci_ 30),(ci_ 0),(.const (.string ⟨#[114,116,46,108,111,99,107,46,110,101,120,116]⟩))]] []
def x328_4:L_:=s_ 10 [a_ 0,c_ 47 [10,(ci_ 41),(ci_ 7),(ci_ 30),(ci_ 0),(ci_ 24)]] []
def x328_5:L_:=s_ 12 [a_ 0,c_ 47 [12,(ci_ 44),(ci_ 0),(ci_ 6),(ci_ 7),(ci_ 32)]] []
def x328_6:L_:=s_ 14 [a_ 0,c_ 48 [14,(ci_ 53),(ci_ 0),(ci_ 0),(ci_ 0),(.const (.string ⟨#[114,116,46,108,111,99,107,46,107,101,121]⟩))]] []
def x328_7:L_:=s_ 16 [a_ 0,c_ 45 [16,(.const (.string ⟨#[114,116,46,108,111,99,107,46,110,101,120,116]⟩))]] []
def x328_8:L_:=s_ 18 [a_ 0,c_ 47 [18,(ci_ 41),(ci_ 30),(ci_ 6),(ci_ 0),(ci_ 24)]] []
def x328_9:L_:=s_ 20 [a_ 0,c_ 46 [20,(ci_ 7),(ci_ 327680)]] []
def x328_10:L_:=s_ 22 [a_ 0,c_ 48 [22,(ci_ 50),(ci_ 0),(ci_ 30),(ci_ 7),(.const (.string ⟨#[114,116,46,110,111,114,111,111,109]⟩))]] []
def x328_11:L_:=s_ 24 [a_ 0,c_ 47 [24,(ci_ 28),(ci_ 7),(ci_ 30),(ci_ 0),(ci_ 32)]] []
def x328_12:L_:=s_ 26 [a_ 0,c_ 47 [26,(ci_ 44),(ci_ 0),(ci_ 6),(ci_ 7),(ci_ 24)]] []
def x328_13:L_:=s_ 28 [a_ 0,c_ 45 [28,(.const (.string ⟨#[114,116,46,108,111,99,107,46,107,101,121]⟩))]] []
def x328_14:L_:=s_ 30 [a_ 0,c_ 47 [30,(ci_ 41),(ci_ 31),(ci_ 6),(ci_ 0),(ci_ 16)]] []
def x328_15:L_:=s_ 32 [a_ 0,c_ 47 [32,(ci_ 28),(ci_ 31),(ci_ 31),(ci_ 0),(ci_ 1)]] []
def x328_16:L_:=s_ 34 [a_ 0,c_ 47 [34,(ci_ 44),(ci_ 0),(ci_ 6),(ci_ 31),(ci_ 16)]] []
def x328_17:L_:=s_ 36 [a_ 0,c_ 47 [36,(ci_ 44),(ci_ 0),(ci_ 30),(ci_ 31),(ci_ 0)]] []
def x328_18:L_:=s_ 38 [a_ 0,c_ 47 [38,(ci_ 44),(ci_ 0),(ci_ 30),(ci_ 0),(ci_ 8)]] []
def x328_19:L_:=s_ 40 [a_ 0,c_ 47 [40,(ci_ 44),(ci_ 0),(ci_ 30),(ci_ 0),(ci_ 16)]] []
def x328_20:L_:=s_ 42 [a_ 0,c_ 49 [42,(ci_ 5)]] []
def x328_30:C_:=.seq (r_ x328_10) (.seq (r_ x328_11) (.seq (r_ x328_12) (.seq (r_ x328_13) (.seq (r_ x328_14) (.seq (r_ x328_15) (.seq (r_ x328_16) (.seq (r_ x328_17) (.seq (r_ x328_18) (.seq (r_ x328_19) (r_ x328_20))))))))))
def x328_40:C_:=.seq (r_ x328_0) (.seq (r_ x328_1) (.seq (r_ x328_2) (.seq (r_ x328_3) (.seq (r_ x328_4) (.seq (r_ x328_5) (.seq (r_ x328_6) (.seq (r_ x328_7) (.seq (r_ x328_8) (.seq (r_ x328_9) x328_30)))))))))
def x328:C_:=x328_40
theorem fx328:fnx Try.prog 28=some (44,[],x328):=by kernel_rfl
def x329_0:L_:=s_ 2 [a_ 0,c_ 45 [2,(.const (.string ⟨#[114,116,46,101,110,116,101,114]⟩))]] []
def x329_1:L_:=s_ 4 [a_ 0,c_ 48 [4,(ci_ 53),(ci_ 5),(ci_ 0),(ci_ 0),(.const (.string ⟨#[114,116,46,108,111,99,107]⟩))]] []
def x329_2:L_:=s_ 6 [a_ 0,c_ 47 [6,(ci_ 28),(ci_ 10),(ci_ 31),(ci_ 0),(ci_ 0)]] []
def x329_3:L_:=s_ 8 [a_ 0,c_ 50 [8,(ci_ 11)]] []
def x329_4:L_:=s_ 10 [a_ 0,c_ 49 [10,(ci_ 1)]] []
def x329_5:L_:=s_ 12 [a_ 0,c_ 45 [12,(.const (.string ⟨#[114,116,46,108,101,97,118,101]⟩))]] []
def x329_6:L_:=s_ 14 [a_ 0,c_ 51 [14,(ci_ 30),(ci_ 10),(ci_ 6)]] []
def x329_7:L_:=s_ 16 [a_ 0,c_ 45 [16,(.const (.string ⟨#[114,116,46,114,101,108,101,97,115,101]⟩))]] []
def x329_8:L_:=s_ 18 [a_ 0,c_ 46 [18,(ci_ 6),(ci_ 262144)]] []
def x329_9:L_:=s_ 20 [a_ 0,c_ 47 [20,(ci_ 41),(ci_ 7),(ci_ 6),(ci_ 0),(ci_ 32)]] []
def x329_10:L_:=s_ 22 [a_ 0,c_ 47 [22,(ci_ 44),(ci_ 0),(ci_ 30),(ci_ 0),(ci_ 0)]] []
def x329_11:L_:=s_ 24 [a_ 0,c_ 47 [24,(ci_ 44),(ci_ 0),(ci_ 30),(ci_ 7),(ci_ 24)]] []
def x329_12:L_:=s_ 26 [a_ 0,c_ 47 [26,(ci_ 44),(ci_ 0),(ci_ 6),(ci_ 30),(ci_ 32)]] []
def x329_13:L_:=s_ 28 [a_ 0,c_ 49 [28,(ci_ 1)]] []
def x329_23:C_:=.seq (r_ x329_3) (.seq (r_ x329_4) (.seq (r_ x329_5) (.seq (r_ x329_6) (.seq (r_ x329_7) (.seq (r_ x329_8) (.seq (r_ x329_9) (.seq (r_ x329_10) (.seq (r_ x329_11) (.seq (r_ x329_12) (r_ x329_13))))))))))
def x329_26:C_:=.seq (r_ x329_0) (.seq (r_ x329_1) (.seq (r_ x329_2) x329_23))
def x329:C_:=x329_26
theorem fx329:fnx Try.prog 29=some (30,[],x329):=by kernel_rfl
def x330_0:L_:=s_ 2 [a_ 0,c_ 45 [2,(.const (.string ⟨#[114,116,46,109,97,108,108,111,99]⟩))]] []
def x330_1:L_:=s_ 4 [a_ 0,c_ 47 [4,(ci_ 28),(ci_ 6),(ci_ 0),(ci_ 0),(ci_ 1)]] []
def x330_2:L_:=s_ 6 [a_ 0,c_ 48 [6,(ci_ 47),(ci_ 0),(ci_ 10),(ci_ 6),(.const (.string ⟨#[114,116,46,110,111,114,111,111,109]⟩))]] []
def x330_3:L_:=s_ 8 [a_ 0,c_ 47 [8,(ci_ 51),(ci_ 6),(ci_ 0),(ci_ 0),(ci_ 256)]] []
def x330_4:L_:=s_ 10 [a_ 0,c_ 48 [10,(ci_ 47),(ci_ 0),(ci_ 6),(ci_ 10),(.const (.string ⟨#[114,116,46,110,111,114,111,111,109]⟩))]] []
def x330_5:L_:=s_ 12 [a_ 0,c_ 47 [12,(ci_ 28),(ci_ 14),(ci_ 10),(ci_ 0),(ci_ 31)]] []
def x330_6:L_:=s_ 14 [a_ 0,c_ 47 [14,(ci_ 33),(ci_ 14),(ci_ 14),(ci_ 0),(ci_ (-16))]] []
def x330_7:L_:=s_ 16 [a_ 0,c_ 46 [16,(ci_ 6),(ci_ 262144)]] []
def x330_8:L_:=s_ 18 [a_ 0,c_ 47 [18,(ci_ 28),(ci_ 28),(ci_ 6),(ci_ 0),(ci_ 8)]] []
def x330_9:L_:=s_ 20 [a_ 0,c_ 45 [20,(.const (.string ⟨#[114,116,46,109,97,108,108,111,99,46,102,105,110,100]⟩))]] []
def x330_10:L_:=s_ 22 [a_ 0,c_ 47 [22,(ci_ 41),(ci_ 29),(ci_ 28),(ci_ 0),(ci_ 0)]] []
def x330_11:L_:=s_ 24 [a_ 0,c_ 48 [24,(ci_ 45),(ci_ 0),(ci_ 29),(ci_ 0),(.const (.string ⟨#[114,116,46,109,97,108,108,111,99,46,110,101,120,116]⟩))]] []
def x330_12:L_:=s_ 26 [a_ 0,c_ 47 [26,(ci_ 41),(ci_ 30),(ci_ 29),(ci_ 0),(ci_ 0)]] []
def x330_13:L_:=s_ 28 [a_ 0,c_ 47 [28,(ci_ 41),(ci_ 31),(ci_ 29),(ci_ 0),(ci_ 8)]] []
def x330_14:L_:=s_ 30 [a_ 0,c_ 48 [30,(ci_ 45),(ci_ 0),(ci_ 30),(ci_ 14),(.const (.string ⟨#[114,116,46,109,97,108,108,111,99,46,116,97,107,101]⟩))]] []
def x330_15:L_:=s_ 32 [a_ 0,c_ 47 [32,(ci_ 28),(ci_ 28),(ci_ 29),(ci_ 0),(ci_ 8)]] []
def x330_16:L_:=s_ 34 [a_ 0,c_ 48 [34,(ci_ 53),(ci_ 0),(ci_ 0),(ci_ 0),(.const (.string ⟨#[114,116,46,109,97,108,108,111,99,46,102,105,110,100]⟩))]] []
def x330_17:L_:=s_ 36 [a_ 0,c_ 45 [36,(.const (.string ⟨#[114,116,46,109,97,108,108,111,99,46,116,97,107,101]⟩))]] []
def x330_18:L_:=s_ 38 [a_ 0,c_ 47 [38,(ci_ 44),(ci_ 0),(ci_ 28),(ci_ 31),(ci_ 0)]] []
def x330_19:L_:=s_ 40 [a_ 0,c_ 48 [40,(ci_ 53),(ci_ 0),(ci_ 0),(ci_ 0),(.const (.string ⟨#[114,116,46,109,97,108,108,111,99,46,103,111,116]⟩))]] []
def x330_20:L_:=s_ 42 [a_ 0,c_ 45 [42,(.const (.string ⟨#[114,116,46,109,97,108,108,111,99,46,110,101,120,116]⟩))]] []
def x330_21:L_:=s_ 44 [a_ 0,c_ 47 [44,(ci_ 41),(ci_ 29),(ci_ 6),(ci_ 0),(ci_ 0)]] []
def x330_22:L_:=s_ 46 [a_ 0,c_ 47 [46,(ci_ 1),(ci_ 30),(ci_ 29),(ci_ 14),(ci_ 0)]] []
def x330_23:L_:=s_ 48 [a_ 0,c_ 46 [48,(ci_ 31),(ci_ 589824)]] []
def x330_24:L_:=s_ 50 [a_ 0,c_ 48 [50,(ci_ 49),(ci_ 0),(ci_ 31),(ci_ 30),(.const (.string ⟨#[114,116,46,110,111,114,111,111,109]⟩))]] []
def x330_25:L_:=s_ 52 [a_ 0,c_ 47 [52,(ci_ 44),(ci_ 0),(ci_ 6),(ci_ 30),(ci_ 0)]] []
def x330_26:L_:=s_ 54 [a_ 0,c_ 47 [54,(ci_ 44),(ci_ 0),(ci_ 29),(ci_ 14),(ci_ 0)]] []
def x330_27:L_:=s_ 56 [a_ 0,c_ 45 [56,(.const (.string ⟨#[114,116,46,109,97,108,108,111,99,46,103,111,116]⟩))]] []
def x330_28:L_:=s_ 58 [a_ 0,c_ 47 [58,(ci_ 28),(ci_ 13),(ci_ 10),(ci_ 0),(ci_ 0)]] []
def x330_29:L_:=s_ 60 [a_ 0,c_ 47 [60,(ci_ 28),(ci_ 12),(ci_ 1),(ci_ 0),(ci_ 0)]] []
def x330_30:L_:=s_ 62 [a_ 0,c_ 47 [62,(ci_ 28),(ci_ 10),(ci_ 29),(ci_ 0),(ci_ 16)]] []
def x330_31:L_:=s_ 64 [a_ 0,c_ 47 [64,(ci_ 28),(ci_ 11),(ci_ 14),(ci_ 0),(ci_ (-16))]] []
def x330_32:L_:=s_ 66 [a_ 0,c_ 47 [66,(ci_ 28),(ci_ 29),(ci_ 10),(ci_ 0),(ci_ 0)]] []
def x330_33:L_:=s_ 68 [a_ 0,c_ 48 [68,(ci_ 53),(ci_ 1),(ci_ 0),(ci_ 0),(.const (.string ⟨#[114,116,46,99,108,101,97,114]⟩))]] []
def x330_34:L_:=s_ 70 [a_ 0,c_ 47 [70,(ci_ 28),(ci_ 1),(ci_ 12),(ci_ 0),(ci_ 0)]] []
def x330_35:L_:=s_ 72 [a_ 0,c_ 48 [72,(ci_ 53),(ci_ 5),(ci_ 0),(ci_ 0),(.const (.string ⟨#[114,116,46,108,111,99,107]⟩))]] []
def x330_36:L_:=s_ 74 [a_ 0,c_ 47 [74,(ci_ 28),(ci_ 10),(ci_ 29),(ci_ 0),(ci_ 0)]] []
def x330_37:L_:=s_ 76 [a_ 0,c_ 47 [76,(ci_ 28),(ci_ 11),(ci_ 29),(ci_ 0),(ci_ 0)]] []
def x330_38:L_:=s_ 78 [a_ 0,c_ 47 [78,(ci_ 1),(ci_ 12),(ci_ 29),(ci_ 13),(ci_ 0)]] []
def x330_39:L_:=s_ 80 [a_ 0,c_ 47 [80,(ci_ 44),(ci_ 0),(ci_ 30),(ci_ 11),(ci_ 8)]] []
def x330_40:L_:=s_ 82 [a_ 0,c_ 47 [82,(ci_ 44),(ci_ 0),(ci_ 30),(ci_ 12),(ci_ 16)]] []
def x330_41:L_:=s_ 84 [a_ 0,c_ 47 [84,(ci_ 28),(ci_ 13),(ci_ 31),(ci_ 0),(ci_ 0)]] []
def x330_42:L_:=s_ 86 [a_ 0,c_ 50 [86,(ci_ 14)]] []
def x330_43:L_:=s_ 88 [a_ 0,c_ 49 [88,(ci_ 1)]] []
def x330_53:C_:=.seq (r_ x330_33) (.seq (r_ x330_34) (.seq (r_ x330_35) (.seq (r_ x330_36) (.seq (r_ x330_37) (.seq (r_ x330_38) (.seq (r_ x330_39) (.seq (r_ x330_40) (.seq (r_ x330_41) (.seq (r_ x330_42) (r_ x330_43))))))))))
def x330_63:C_:=.seq (r_ x330_23) (.seq (r_ x330_24) (.seq (r_ x330_25) (.seq (r_ x330_26) (.seq (r_ x330_27) (.seq (r_ x330_28) (.seq (r_ x330_29) (.seq (r_ x330_30) (.seq (r_ x330_31) (.seq (r_ x330_32) x330_53)))))))))
def x330_73:C_:=.seq (r_ x330_13) (.seq (r_ x330_14) (.seq (r_ x330_15) (.seq (r_ x330_16) (.seq (r_ x330_17) (.seq (r_ x330_18) (.seq (r_ x330_19) (.seq (r_ x330_20) (.seq (r_ x330_21) (.seq (r_ x330_22) x330_63)))))))))
def x330_83:C_:=.seq (r_ x330_3) (.seq (r_ x330_4) (.seq (r_ x330_5) (.seq (r_ x330_6) (.seq (r_ x330_7) (.seq (r_ x330_8) (.seq (r_ x330_9) (.seq (r_ x330_10) (.seq (r_ x330_11) (.seq (r_ x330_12) x330_73)))))))))
def x330_86:C_:=.seq (r_ x330_0) (.seq (r_ x330_1) (.seq (r_ x330_2) x330_83))
def x330:C_:=x330_86
theorem fx330:fnx Try.prog 30=some (90,[],x330):=by kernel_rfl
def x331_0:L_:=s_ 4 [a_ 0,c_ 45 [4,(.const (.string ⟨#[114,116,46,102,114,101,101]⟩))]] []
def x331_1:L_:=s_ 6 [a_ 0,c_ 51 [6,(ci_ 30),(ci_ 14),(ci_ 6)]] []
def x331_2:L_:=s_ 8 [o_ (.mkslice [(.int .i64 0)] 3 [(0,(ci_ 13)),(1,(ci_ 11)),(2,(ci_ 12))]),n_ 8,i_ 0] []
def x331_3:L_:=[q_ 11 (.bin .lss 10 9)]
def x331_5:L_:=s_ 12 [a_ 10,o_ (.iaddrS 1 8 10),li_ 13] (s_ 2 [a_ 12,a_ 14] [])
def x331_6:L_:=s_ 15 [a_ 0,a_ 2,b_ .mul (ci_ 8) 16,c_ 47 [15,(ci_ 41),(ci_ 6),(ci_ 30),(ci_ 0),17]] []
def x331_7:L_:=s_ 19 [a_ 0,a_ 3,c_ 48 [19,(ci_ 46),(ci_ 0),(ci_ 6),20,(.const (.string ⟨#[114,116,46,116,114,97,112]⟩))]] []
def x331_11:L_:=[q_ 22 (.bin .add 10 (ci_ 1)),
 q_ 10 (m_ 22)]
def x331_18:L_:=s_ 23 [a_ 0,c_ 48 [23,(ci_ 46),(ci_ 0),(ci_ 10),(ci_ 11),(.const (.string ⟨#[114,116,46,116,114,97,112]⟩))]] []
def x331_19:L_:=s_ 25 [a_ 0,c_ 46 [25,(ci_ 6),(ci_ 262144)]] []
def x331_20:L_:=s_ 27 [a_ 0,c_ 47 [27,(ci_ 28),(ci_ 29),(ci_ 11),(ci_ 0),(ci_ (-16))]] []
def x331_21:L_:=s_ 29 [a_ 0,c_ 47 [29,(ci_ 41),(ci_ 7),(ci_ 6),(ci_ 0),(ci_ 8)]] []
def x331_22:L_:=s_ 31 [a_ 0,c_ 47 [31,(ci_ 44),(ci_ 0),(ci_ 29),(ci_ 7),(ci_ 8)]] []
def x331_23:L_:=s_ 33 [a_ 0,c_ 47 [33,(ci_ 44),(ci_ 0),(ci_ 6),(ci_ 29),(ci_ 8)]] []
def x331_24:L_:=s_ 35 [a_ 0,c_ 48 [35,(ci_ 53),(ci_ 0),(ci_ 0),(ci_ 0),(.const (.string ⟨#[114,116,46,114,101,108,101,97,115,101]⟩))]] []
def x331_31:C_:=.seq (.seq (r_ x331_2) (.block 0 (.loop (.seq (r_ x331_3) (.seq (.cnd 11 .skip (.exit 0)) (.seq (.block 1 (.seq (r_ x331_5) (.seq (r_ x331_6) (r_ x331_7)))) (r_ x331_11))))))) (.seq (r_ x331_18) (.seq (r_ x331_19) (.seq (r_ x331_20) (.seq (r_ x331_21) (.seq (r_ x331_22) (.seq (r_ x331_23) (r_ x331_24)))))))
def x331_33:C_:=.seq (r_ x331_0) (.seq (r_ x331_1) x331_31)
def x331:C_:=x331_33
theorem fx331:fnx Try.prog 31=some (37,[],x331):=by kernel_rfl
def x332_0:L_:=s_ 5 [a_ 0,c_ 45 [5,(.const (.string ⟨#[114,116,46,114,101,97,100]⟩))]] []
def x332_1:L_:=s_ 7 [a_ 0,c_ 52 [7,(ci_ 30),(ci_ 10),(ci_ 6)]] []
def x332_2:L_:=[q_ 9 (mi_ 0)]
def x332_3:L_:=[q_ 10 (.bin .lss 9 (ci_ 4))]
def x332_5:L_:=[q_ 11 (m_ 9),
 q_ 2 (m_ 11)]
def x332_6:L_:=s_ 12 [a_ 0,a_ 2,b_ .add (ci_ 11) 13,a_ 2,b_ .mul (ci_ 8) 15,c_ 47 [12,(ci_ 41),14,(ci_ 30),(ci_ 0),16]] []
def x332_9:L_:=[q_ 18 (.bin .add 9 (ci_ 1)),
 q_ 9 (m_ 18)]
def x332_16:L_:=s_ 19 [a_ 0,c_ 49 [19,(ci_ 1)]] []
def x332_17:L_:=s_ 21 [a_ 0,c_ 45 [21,(.const (.string ⟨#[114,116,46,119,114,105,116,101]⟩))]] []
def x332_18:L_:=s_ 23 [a_ 0,c_ 52 [23,(ci_ 30),(ci_ 10),(ci_ 6)]] []
def x332_19:L_:=[q_ 25 (mi_ 0)]
def x332_20:L_:=[q_ 26 (.bin .lss 25 (ci_ 4))]
def x332_22:L_:=[q_ 27 (m_ 25),
 q_ 3 (m_ 27)]
def x332_23:L_:=s_ 28 [a_ 0,a_ 3,b_ .add (ci_ 11) 29,a_ 3,b_ .mul (ci_ 8) 31,c_ 47 [28,(ci_ 44),(ci_ 0),(ci_ 30),30,32]] []
def x332_26:L_:=[q_ 34 (.bin .add 25 (ci_ 1)),
 q_ 25 (m_ 34)]
def x332_33:L_:=s_ 35 [a_ 0,c_ 49 [35,(ci_ 1)]] []
def x332_34:L_:=s_ 37 [a_ 0,c_ 45 [37,(.const (.string ⟨#[114,116,46,99,108,101,97,114]⟩))]] []
def x332_35:L_:=s_ 39 [a_ 0,c_ 52 [39,(ci_ 30),(ci_ 10),(ci_ 6)]] []
def x332_36:L_:=s_ 41 [a_ 0,c_ 47 [41,(ci_ 1),(ci_ 11),(ci_ 10),(ci_ 11),(ci_ 0)]] []
def x332_37:L_:=s_ 43 [a_ 0,c_ 45 [43,(.const (.string ⟨#[114,116,46,99,108,101,97,114,46,111,110]⟩))]] []
def x332_38:L_:=s_ 45 [a_ 0,c_ 48 [45,(ci_ 50),(ci_ 0),(ci_ 10),(ci_ 11),(.const (.string ⟨#[114,116,46,99,108,101,97,114,46,101,110,100]⟩))]] []
def x332_39:L_:=s_ 47 [a_ 0,c_ 47 [47,(ci_ 44),(ci_ 0),(ci_ 10),(ci_ 0),(ci_ 0)]] []
def x332_40:L_:=[q_ 49 (mi_ 0)]
def x332_41:L_:=[q_ 50 (.bin .lss 49 (ci_ 4))]
def x332_43:L_:=[q_ 51 (m_ 49),
 q_ 4 (m_ 51)]
def x332_44:L_:=s_ 52 [a_ 0,a_ 4,b_ .mul (ci_ 8) 53,c_ 47 [52,(ci_ 44),(ci_ 0),(ci_ 30),(ci_ 0),54]] []
def x332_47:L_:=[q_ 56 (.bin .add 49 (ci_ 1)),
 q_ 49 (m_ 56)]
def x332_54:L_:=s_ 57 [a_ 0,c_ 47 [57,(ci_ 28),(ci_ 10),(ci_ 10),(ci_ 0),(ci_ 8)]] []
def x332_55:L_:=s_ 59 [a_ 0,c_ 47 [59,(ci_ 28),(ci_ 30),(ci_ 30),(ci_ 0),(ci_ 32)]] []
def x332_56:L_:=s_ 61 [a_ 0,c_ 48 [61,(ci_ 53),(ci_ 0),(ci_ 0),(ci_ 0),(.const (.string ⟨#[114,116,46,99,108,101,97,114,46,111,110]⟩))]] []
def x332_57:L_:=s_ 63 [a_ 0,c_ 45 [63,(.const (.string ⟨#[114,116,46,99,108,101,97,114,46,101,110,100]⟩))]] []
def x332_58:L_:=s_ 65 [a_ 0,c_ 49 [65,(ci_ 1)]] []
def x332_64:C_:=.seq (r_ x332_39) (.seq (.seq (r_ x332_40) (.block 4 (.loop (.seq (r_ x332_41) (.seq (.cnd 50 .skip (.exit 4)) (.seq (.block 5 (.seq (r_ x332_43) (r_ x332_44))) (r_ x332_47))))))) (.seq (r_ x332_54) (.seq (r_ x332_55) (.seq (r_ x332_56) (.seq (r_ x332_57) (r_ x332_58))))))
def x332_72:C_:=.seq (r_ x332_18) (.seq (.seq (r_ x332_19) (.block 2 (.loop (.seq (r_ x332_20) (.seq (.cnd 26 .skip (.exit 2)) (.seq (.block 3 (.seq (r_ x332_22) (r_ x332_23))) (r_ x332_26))))))) (.seq (r_ x332_33) (.seq (r_ x332_34) (.seq (r_ x332_35) (.seq (r_ x332_36) (.seq (r_ x332_37) (.seq (r_ x332_38) x332_64)))))))
def x332_76:C_:=.seq (r_ x332_1) (.seq (.seq (r_ x332_2) (.block 0 (.loop (.seq (r_ x332_3) (.seq (.cnd 10 .skip (.exit 0)) (.seq (.block 1 (.seq (r_ x332_5) (r_ x332_6))) (r_ x332_9))))))) (.seq (r_ x332_16) (.seq (r_ x332_17) x332_72)))
def x332_77:C_:=.seq (r_ x332_0) x332_76
def x332:C_:=x332_77
theorem fx332:fnx Try.prog 32=some (67,[],x332):=by kernel_rfl
def x345_0:L_:=s_ 4 [a_ 0,a_ 0,k_ 5,f_ 0 6,l_ 7,a_ 1,o_ (.build [se_,(.int .i64 0),(.int .i64 0),(.int .i64 0),(.int .i64 0),(.int .i64 0),se_,(.int .i64 0)] [(0,1,9)]),o_ (.mkslice [se_,(.int .i64 0),(.int .i64 0),(.int .i64 0),(.int .i64 0),(.int .i64 0),se_,(.int .i64 0)] 1 [(0,10)]),o_ (.app 8 80 8 11),k_ 4,f_ 0 13] [on_ (.store 1 14 12)]
def x345:C_:=(r_ x345_0)
theorem fx345:fnx Try.prog 45=some (15,[],x345):=by kernel_rfl
def x346_0:L_:=s_ 6 [a_ 0,a_ 1,a_ 2,b_ .shr 8 (ck_ .u64 12),c_ 47 [6,(ci_ 51),7,(ci_ 0),(ci_ 0),9]] []
def x346_1:L_:=s_ 11 [a_ 2,b_ .and 11 (ci_ 4095),b_ .neq 12 (ci_ 0)] []
def x346_2:L_:=s_ 14 [a_ 0,a_ 1,a_ 1,a_ 2,b_ .and 17 (ci_ 4095),c_ 47 [14,(ci_ 28),15,16,(ci_ 0),18]] []
def x346_5:C_:=.seq (r_ x346_0) (.seq (r_ x346_1) (.cnd 13 (r_ x346_2) .skip))
def x346:C_:=x346_5
theorem fx346:fnx Try.prog 46=some (20,[],x346):=by kernel_rfl
def x347_0:L_:=s_ 12 [a_ 0,a_ 0,k_ 13,f_ 0 14,l_ 15,a_ 1,a_ 2,a_ 3,a_ 4,a_ 5,o_ (.build (zs_ .i64 5) [(0,1,17),(1,1,18),(2,1,19),(3,1,20),(4,1,21)]),o_ (.build [se_,(.int .i64 0),(.int .i64 0),(.int .i64 0),(.int .i64 0),(.int .i64 0),se_,(.int .i64 0)] [(1,5,22)]),o_ (.mkslice [se_,(.int .i64 0),(.int .i64 0),(.int .i64 0),(.int .i64 0),(.int .i64 0),se_,(.int .i64 0)] 1 [(0,23)]),o_ (.app 8 80 16 24),k_ 12,f_ 0 26] [on_ (.store 1 27 25)]
def x347:C_:=(r_ x347_0)
theorem fx347:fnx Try.prog 47=some (28,[],x347):=by kernel_rfl
def x348_0:L_:=s_ 12 [a_ 0,a_ 0,k_ 13,f_ 0 14,l_ 15,a_ 1,a_ 2,a_ 3,a_ 4,o_ (.build (zs_ .i64 5) [(0,1,17),(1,1,18),(2,1,19),(3,1,20)]),a_ 5,o_ (.build [se_,(.int .i64 0),(.int .i64 0),(.int .i64 0),(.int .i64 0),(.int .i64 0),se_,(.int .i64 0)] [(1,5,21),(6,1,22)]),o_ (.mkslice [se_,(.int .i64 0),(.int .i64 0),(.int .i64 0),(.int .i64 0),(.int .i64 0),se_,(.int .i64 0)] 1 [(0,23)]),o_ (.app 8 80 16 24),k_ 12,f_ 0 26] [on_ (.store 1 27 25)]
def x348:C_:=(r_ x348_0)
theorem fx348:fnx Try.prog 48=some (28,[],x348):=by kernel_rfl
def x349_0:L_:=s_ 4 [a_ 0,a_ 1,c_ 47 [4,(ci_ 54),(ci_ 0),5,(ci_ 0),(ci_ 0)]] []
def x349:C_:=(r_ x349_0)
theorem fx349:fnx Try.prog 49=some (7,[],x349):=by kernel_rfl
def x350_0:L_:=s_ 4 [a_ 0,c_ 46 [4,(ci_ 6),(ci_ 266240)]] []
def x350_1:L_:=s_ 6 [a_ 0,a_ 1,c_ 47 [6,(ci_ 2),7,(ci_ 30),(ci_ 6),(ci_ 0)]] []
def x350_2:L_:=s_ 9 [a_ 0,a_ 1,a_ 1,c_ 47 [9,(ci_ 35),10,11,(ci_ 0),(ci_ 5)]] []
def x350_4:C_:=.seq (r_ x350_0) (.seq (r_ x350_1) (r_ x350_2))
def x350:C_:=x350_4
theorem fx350:fnx Try.prog 50=some (13,[],x350):=by kernel_rfl
def x351_0:L_:=s_ 8 [a_ 0,a_ 1,a_ 2,c_ 47 [8,(ci_ 34),9,10,(ci_ 0),(ci_ 5)]] []
def x351_1:L_:=s_ 12 [a_ 0,a_ 3,c_ 46 [12,13,(ci_ 266240)]] []
def x351_2:L_:=s_ 15 [a_ 0,a_ 1,a_ 1,a_ 3,c_ 47 [15,(ci_ 1),16,17,18,(ci_ 0)]] []
def x351_4:C_:=.seq (r_ x351_0) (.seq (r_ x351_1) (r_ x351_2))
def x351:C_:=x351_4
theorem fx351:fnx Try.prog 51=some (20,[],x351):=by kernel_rfl
def x352_0:L_:=s_ 8 [a_ 0,a_ 3,c_ 46 [8,9,(ci_ 327680)]] []
def x352_1:L_:=s_ 11 [a_ 0,a_ 1,a_ 2,a_ 3,c_ 47 [11,(ci_ 2),12,13,14,(ci_ 0)]] []
def x352_2:L_:=s_ 16 [a_ 0,a_ 1,a_ 1,c_ 47 [16,(ci_ 34),17,18,(ci_ 0),(ci_ 2)]] []
def x352_3:L_:=s_ 20 [a_ 0,a_ 3,c_ 46 [20,21,(ci_ 786432)]] []
def x352_4:L_:=s_ 23 [a_ 0,a_ 1,a_ 1,a_ 3,c_ 47 [23,(ci_ 1),24,25,26,(ci_ 0)]] []
def x352_8:C_:=.seq (r_ x352_0) (.seq (r_ x352_1) (.seq (r_ x352_2) (.seq (r_ x352_3) (r_ x352_4))))
def x352:C_:=x352_8
theorem fx352:fnx Try.prog 52=some (28,[],x352):=by kernel_rfl
end Go.X
