import Derived.Test.YtkghggngmpmigaaD29
import Derived.Test.YtkghggngmpmigaaD28
import Derived.Laws.IdiomRangeMap
set_option linter.all false
namespace Go.X
open Go Go.Proofs
theorem do_1 (a b:Int):execC (lookF FL) scN1 1000 x74 (argTm 0 [Value.int IntKind.i64 1,Value.int IntKind.u64 a,Value.int IntKind.u64 b]) [] 100 (valK [6,7])=some [Value.int IntKind.u64 (IntKind.u64.wrap (a+b)),Value.int IntKind.i64 0]:=by kernel_rfl
theorem do_2 (a b:Int):execC (lookF FL) scN1 1000 x74 (argTm 0 [Value.int IntKind.i64 2,Value.int IntKind.u64 a,Value.int IntKind.u64 b]) [] 100 (valK [6,7])=some [Value.int IntKind.u64 (IntKind.u64.wrap (a-b)),Value.int IntKind.i64 0]:=by kernel_rfl
theorem do_3 (a b:Int):execC (lookF FL) scN1 1000 x74 (argTm 0 [Value.int IntKind.i64 3,Value.int IntKind.u64 a,Value.int IntKind.u64 b]) [] 100 (valK [6,7])=some [Value.int IntKind.u64 (IntKind.u64.wrap (a*2 ^ min (bits2 BinOp.and IntKind.u64 b 63).toNat 64)),Value.int IntKind.i64 0]:=by kernel_rfl
theorem do_4 (a b:Int):execC (lookF FL) scN1 1000 x74 (argTm 0 [Value.int IntKind.i64 4,Value.int IntKind.u64 a,Value.int IntKind.u64 b]) [] 100 (valK [6,7])=some [Value.int IntKind.u64 (bitF (decide (IntKind.i64.wrap a<IntKind.i64.wrap b))),Value.int IntKind.i64 0]:=by kernel_rfl
theorem do_5 (a b:Int):execC (lookF FL) scN1 1000 x74 (argTm 0 [Value.int IntKind.i64 5,Value.int IntKind.u64 a,Value.int IntKind.u64 b]) [] 100 (valK [6,7])=some [Value.int IntKind.u64 (bitF (decide (a<b))),Value.int IntKind.i64 0]:=by kernel_rfl
theorem do_6 (a b:Int):execC (lookF FL) scN1 1000 x74 (argTm 0 [Value.int IntKind.i64 6,Value.int IntKind.u64 a,Value.int IntKind.u64 b]) [] 100 (valK [6,7])=some [Value.int IntKind.u64 (bits2 BinOp.xor IntKind.u64 a b),Value.int IntKind.i64 0]:=by kernel_rfl
theorem do_7 (a b:Int):execC (lookF FL) scN1 1000 x74 (argTm 0 [Value.int IntKind.i64 7,Value.int IntKind.u64 a,Value.int IntKind.u64 b]) [] 100 (valK [6,7])=some [Value.int IntKind.u64 (a.fdiv (2 ^ min (bits2 BinOp.and IntKind.u64 b 63).toNat 64)),Value.int IntKind.i64 0]:=by kernel_rfl
theorem do_8 (a b:Int):execC (lookF FL) scN1 1000 x74 (argTm 0 [Value.int IntKind.i64 8,Value.int IntKind.u64 a,Value.int IntKind.u64 b]) [] 100 (valK [6,7])=some [Value.int IntKind.u64 (IntKind.u64.wrap ((IntKind.i64.wrap a).fdiv (2 ^ min (bits2 BinOp.and IntKind.u64 b 63).toNat 64))),Value.int IntKind.i64 0]:=by kernel_rfl
theorem do_9 (a b:Int):execC (lookF FL) scN1 1000 x74 (argTm 0 [Value.int IntKind.i64 9,Value.int IntKind.u64 a,Value.int IntKind.u64 b]) [] 100 (valK [6,7])=some [Value.int IntKind.u64 (bits2 BinOp.or IntKind.u64 a b),Value.int IntKind.i64 0]:=by kernel_rfl
theorem do_10 (a b:Int):execC (lookF FL) scN1 1000 x74 (argTm 0 [Value.int IntKind.i64 10,Value.int IntKind.u64 a,Value.int IntKind.u64 b]) [] 100 (valK [6,7])=some [Value.int IntKind.u64 (bits2 BinOp.and IntKind.u64 a b),Value.int IntKind.i64 0]:=by kernel_rfl
theorem do_11 (a b:Int):execC (lookF FL) scN1 1000 x74 (argTm 0 [Value.int IntKind.i64 11,Value.int IntKind.u64 a,Value.int IntKind.u64 b]) [] 100 (valK [6,7])=some [Value.int IntKind.u64 (IntKind.u64.wrap (a*b)),Value.int IntKind.i64 0]:=by kernel_rfl
theorem do_12 (a b:Int):execC (lookF FL) scN1 1000 x74 (argTm 0 [Value.int IntKind.i64 12,Value.int IntKind.u64 a,Value.int IntKind.u64 b]) [] 100 (valK [6,7])=some [Value.int IntKind.u64 (IntKind.u64.wrap (IntKind.u64.wrap (IntKind.u64.wrap (IntKind.u64.wrap (IntKind.u64.wrap (a.fdiv 4294967296*b.fdiv 4294967296)+(IntKind.u64.wrap (IntKind.u64.wrap (a.fdiv 4294967296*bits2 BinOp.and IntKind.u64 b 4294967295)+(IntKind.u64.wrap (bits2 BinOp.and IntKind.u64 a 4294967295*bits2 BinOp.and IntKind.u64 b 4294967295)).fdiv 4294967296)).fdiv 4294967296)+(IntKind.u64.wrap (bits2 BinOp.and IntKind.u64 (IntKind.u64.wrap (IntKind.u64.wrap (a.fdiv 4294967296*bits2 BinOp.and IntKind.u64 b 4294967295)+(IntKind.u64.wrap (bits2 BinOp.and IntKind.u64 a 4294967295*bits2 BinOp.and IntKind.u64 b 4294967295)).fdiv 4294967296)) 4294967295+IntKind.u64.wrap (bits2 BinOp.and IntKind.u64 a 4294967295*b.fdiv 4294967296))).fdiv 4294967296)-IntKind.u64.wrap (b*bitF (decide (IntKind.i64.wrap a<0))))-IntKind.u64.wrap (a*bitF (decide (IntKind.i64.wrap b<0))))),Value.int IntKind.i64 0]:=by kernel_rfl
theorem do_13 (a b:Int):execC (lookF FL) scN1 1000 x74 (argTm 0 [Value.int IntKind.i64 13,Value.int IntKind.u64 a,Value.int IntKind.u64 b]) [] 100 (valK [6,7])=some [Value.int IntKind.u64 (IntKind.u64.wrap (IntKind.u64.wrap (IntKind.u64.wrap (a.fdiv 4294967296*b.fdiv 4294967296)+(IntKind.u64.wrap (IntKind.u64.wrap (a.fdiv 4294967296*bits2 BinOp.and IntKind.u64 b 4294967295)+(IntKind.u64.wrap (bits2 BinOp.and IntKind.u64 a 4294967295*bits2 BinOp.and IntKind.u64 b 4294967295)).fdiv 4294967296)).fdiv 4294967296)+(IntKind.u64.wrap (bits2 BinOp.and IntKind.u64 (IntKind.u64.wrap (IntKind.u64.wrap (a.fdiv 4294967296*bits2 BinOp.and IntKind.u64 b 4294967295)+(IntKind.u64.wrap (bits2 BinOp.and IntKind.u64 a 4294967295*bits2 BinOp.and IntKind.u64 b 4294967295)).fdiv 4294967296)) 4294967295+IntKind.u64.wrap (bits2 BinOp.and IntKind.u64 a 4294967295*b.fdiv 4294967296))).fdiv 4294967296)),Value.int IntKind.i64 0]:=by kernel_rfl
theorem do_14 (a b:Int):execC (lookF FL) scN1 1000 x74 (argTm 0 [Value.int IntKind.i64 14,Value.int IntKind.u64 a,Value.int IntKind.u64 b]) [] 100 (valK [6,7])=bif (uB b||false)&&true then some [Value.int IntKind.u64 (partsF 14 a b),Value.int IntKind.i64 0]else none:=by kernel_rfl
theorem do_15 (a b:Int):execC (lookF FL) scN1 1000 x74 (argTm 0 [Value.int IntKind.i64 15,Value.int IntKind.u64 a,Value.int IntKind.u64 b]) [] 100 (valK [6,7])=bif (uB b||false)&&true then some [Value.int IntKind.u64 (partsF 15 a b),Value.int IntKind.i64 0]else none:=by kernel_rfl
theorem do_16 (a b:Int):execC (lookF FL) scN1 1000 x74 (argTm 0 [Value.int IntKind.i64 16,Value.int IntKind.u64 a,Value.int IntKind.u64 b]) [] 100 (valK [6,7])=bif (uB b||false)&&true then some [Value.int IntKind.u64 (partsF 16 a b),Value.int IntKind.i64 0]else none:=by kernel_rfl
theorem do_17 (a b:Int):execC (lookF FL) scN1 1000 x74 (argTm 0 [Value.int IntKind.i64 17,Value.int IntKind.u64 a,Value.int IntKind.u64 b]) [] 100 (valK [6,7])=bif (uB b||false)&&true then some [Value.int IntKind.u64 (partsF 17 a b),Value.int IntKind.i64 0]else none:=by kernel_rfl
theorem do_18 (a b:Int):execC (lookF FL) scN1 1000 x74 (argTm 0 [Value.int IntKind.i64 18,Value.int IntKind.u64 a,Value.int IntKind.u64 b]) [] 100 (valK [6,7])=some [Value.int IntKind.u64 (narF 32 true (IntKind.u64.wrap (narF 32 true a+narF 32 true b))),Value.int IntKind.i64 0]:=by kernel_rfl
theorem do_19 (a b:Int):execC (lookF FL) scN1 1000 x74 (argTm 0 [Value.int IntKind.i64 19,Value.int IntKind.u64 a,Value.int IntKind.u64 b]) [] 100 (valK [6,7])=some [Value.int IntKind.u64 (narF 32 true (IntKind.u64.wrap (narF 32 true a-narF 32 true b))),Value.int IntKind.i64 0]:=by kernel_rfl
theorem do_20 (a b:Int):execC (lookF FL) scN1 1000 x74 (argTm 0 [Value.int IntKind.i64 20,Value.int IntKind.u64 a,Value.int IntKind.u64 b]) [] 100 (valK [6,7])=some [Value.int IntKind.u64 (narF 32 true (IntKind.u64.wrap (narF 32 true a*2 ^ min (bits2 BinOp.and IntKind.u64 (bits2 BinOp.and IntKind.u64 (narF 32 true b) 31) 63).toNat 64))),Value.int IntKind.i64 0]:=by kernel_rfl
theorem do_21 (a b:Int):execC (lookF FL) scN1 1000 x74 (argTm 0 [Value.int IntKind.i64 21,Value.int IntKind.u64 a,Value.int IntKind.u64 b]) [] 100 (valK [6,7])=some [Value.int IntKind.u64 (narF 32 true ((narF 32 false a).fdiv (2 ^ min (bits2 BinOp.and IntKind.u64 (bits2 BinOp.and IntKind.u64 (narF 32 false b) 31) 63).toNat 64))),Value.int IntKind.i64 0]:=by kernel_rfl
theorem do_22 (a b:Int):execC (lookF FL) scN1 1000 x74 (argTm 0 [Value.int IntKind.i64 22,Value.int IntKind.u64 a,Value.int IntKind.u64 b]) [] 100 (valK [6,7])=some [Value.int IntKind.u64 (narF 32 true (IntKind.u64.wrap ((IntKind.i64.wrap (narF 32 true a)).fdiv (2 ^ min (bits2 BinOp.and IntKind.u64 (bits2 BinOp.and IntKind.u64 (narF 32 true b) 31) 63).toNat 64)))),Value.int IntKind.i64 0]:=by kernel_rfl
theorem do_23 (a b:Int):execC (lookF FL) scN1 1000 x74 (argTm 0 [Value.int IntKind.i64 23,Value.int IntKind.u64 a,Value.int IntKind.u64 b]) [] 100 (valK [6,7])=some [Value.int IntKind.u64 (narF 32 true (IntKind.u64.wrap (narF 32 true a*narF 32 true b))),Value.int IntKind.i64 0]:=by kernel_rfl
theorem do_24 (a b:Int):execC (lookF FL) scN1 1000 x74 (argTm 0 [Value.int IntKind.i64 24,Value.int IntKind.u64 a,Value.int IntKind.u64 b]) [] 100 (valK [6,7])=bif ((uB (narF 32 true b)||false)&&true&&true&&true&&true||false)&&true then some [Value.int IntKind.u64 (narF 32 true (partsF 14 (narF 32 true a) (narF 32 true b))),Value.int IntKind.i64 0]else none:=by kernel_rfl
theorem do_25 (a b:Int):execC (lookF FL) scN1 1000 x74 (argTm 0 [Value.int IntKind.i64 25,Value.int IntKind.u64 a,Value.int IntKind.u64 b]) [] 100 (valK [6,7])=bif ((uB (narF 32 false b)||false)&&true&&true&&true&&true||false)&&true then some [Value.int IntKind.u64 (narF 32 true (partsF 15 (narF 32 false a) (narF 32 false b))),Value.int IntKind.i64 0]else none:=by kernel_rfl
theorem do_26 (a b:Int):execC (lookF FL) scN1 1000 x74 (argTm 0 [Value.int IntKind.i64 26,Value.int IntKind.u64 a,Value.int IntKind.u64 b]) [] 100 (valK [6,7])=bif ((uB (narF 32 true b)||false)&&true&&true&&true&&true||false)&&true then some [Value.int IntKind.u64 (narF 32 true (partsF 16 (narF 32 true a) (narF 32 true b))),Value.int IntKind.i64 0]else none:=by kernel_rfl
theorem do_27 (a b:Int):execC (lookF FL) scN1 1000 x74 (argTm 0 [Value.int IntKind.i64 27,Value.int IntKind.u64 a,Value.int IntKind.u64 b]) [] 100 (valK [6,7])=bif ((uB (narF 32 false b)||false)&&true&&true&&true&&true||false)&&true then some [Value.int IntKind.u64 (narF 32 true (partsF 17 (narF 32 false a) (narF 32 false b))),Value.int IntKind.i64 0]else none:=by kernel_rfl
def doF (op a b:Int):Int :=
 match op with
 |1=>(IntKind.u64.wrap (a+b))
 |2=>(IntKind.u64.wrap (a-b))
 |3=>(IntKind.u64.wrap (a*2 ^ min (bits2 BinOp.and IntKind.u64 b 63).toNat 64))
 |4=>(bitF (decide (IntKind.i64.wrap a<IntKind.i64.wrap b)))
 |5=>(bitF (decide (a<b)))
 |6=>(bits2 BinOp.xor IntKind.u64 a b)
 |7=>(a.fdiv (2 ^ min (bits2 BinOp.and IntKind.u64 b 63).toNat 64))
 |8=>(IntKind.u64.wrap ((IntKind.i64.wrap a).fdiv (2 ^ min (bits2 BinOp.and IntKind.u64 b 63).toNat 64)))
 |9=>(bits2 BinOp.or IntKind.u64 a b)
 |10=>(bits2 BinOp.and IntKind.u64 a b)
 |11=>(IntKind.u64.wrap (a*b))
 |12=>(IntKind.u64.wrap (IntKind.u64.wrap (IntKind.u64.wrap (IntKind.u64.wrap (IntKind.u64.wrap (a.fdiv 4294967296*b.fdiv 4294967296)+(IntKind.u64.wrap (IntKind.u64.wrap (a.fdiv 4294967296*bits2 BinOp.and IntKind.u64 b 4294967295)+(IntKind.u64.wrap (bits2 BinOp.and IntKind.u64 a 4294967295*bits2 BinOp.and IntKind.u64 b 4294967295)).fdiv 4294967296)).fdiv 4294967296)+(IntKind.u64.wrap (bits2 BinOp.and IntKind.u64 (IntKind.u64.wrap (IntKind.u64.wrap (a.fdiv 4294967296*bits2 BinOp.and IntKind.u64 b 4294967295)+(IntKind.u64.wrap (bits2 BinOp.and IntKind.u64 a 4294967295*bits2 BinOp.and IntKind.u64 b 4294967295)).fdiv 4294967296)) 4294967295+IntKind.u64.wrap (bits2 BinOp.and IntKind.u64 a 4294967295*b.fdiv 4294967296))).fdiv 4294967296)-IntKind.u64.wrap (b*bitF (decide (IntKind.i64.wrap a<0))))-IntKind.u64.wrap (a*bitF (decide (IntKind.i64.wrap b<0)))))
 |13=>(IntKind.u64.wrap (IntKind.u64.wrap (IntKind.u64.wrap (a.fdiv 4294967296*b.fdiv 4294967296)+(IntKind.u64.wrap (IntKind.u64.wrap (a.fdiv 4294967296*bits2 BinOp.and IntKind.u64 b 4294967295)+(IntKind.u64.wrap (bits2 BinOp.and IntKind.u64 a 4294967295*bits2 BinOp.and IntKind.u64 b 4294967295)).fdiv 4294967296)).fdiv 4294967296)+(IntKind.u64.wrap (bits2 BinOp.and IntKind.u64 (IntKind.u64.wrap (IntKind.u64.wrap (a.fdiv 4294967296*bits2 BinOp.and IntKind.u64 b 4294967295)+(IntKind.u64.wrap (bits2 BinOp.and IntKind.u64 a 4294967295*bits2 BinOp.and IntKind.u64 b 4294967295)).fdiv 4294967296)) 4294967295+IntKind.u64.wrap (bits2 BinOp.and IntKind.u64 a 4294967295*b.fdiv 4294967296))).fdiv 4294967296))
 |14=>(partsF 14 a b)
 |15=>(partsF 15 a b)
 |16=>(partsF 16 a b)
 |17=>(partsF 17 a b)
 |18=>(narF 32 true (IntKind.u64.wrap (narF 32 true a+narF 32 true b)))
 |19=>(narF 32 true (IntKind.u64.wrap (narF 32 true a-narF 32 true b)))
 |20=>(narF 32 true (IntKind.u64.wrap (narF 32 true a*2 ^ min (bits2 BinOp.and IntKind.u64 (bits2 BinOp.and IntKind.u64 (narF 32 true b) 31) 63).toNat 64)))
 |21=>(narF 32 true ((narF 32 false a).fdiv (2 ^ min (bits2 BinOp.and IntKind.u64 (bits2 BinOp.and IntKind.u64 (narF 32 false b) 31) 63).toNat 64)))
 |22=>(narF 32 true (IntKind.u64.wrap ((IntKind.i64.wrap (narF 32 true a)).fdiv (2 ^ min (bits2 BinOp.and IntKind.u64 (bits2 BinOp.and IntKind.u64 (narF 32 true b) 31) 63).toNat 64))))
 |23=>(narF 32 true (IntKind.u64.wrap (narF 32 true a*narF 32 true b)))
 |24=>(narF 32 true (partsF 14 (narF 32 true a) (narF 32 true b)))
 |25=>(narF 32 true (partsF 15 (narF 32 false a) (narF 32 false b)))
 |26=>(narF 32 true (partsF 16 (narF 32 true a) (narF 32 true b)))
 |_=>(narF 32 true (partsF 17 (narF 32 false a) (narF 32 false b)))
theorem uB_wrap (x:Int):uB (IntKind.u64.wrap x)=true:=by
 rw[uB_iff]
 have:IntKind.u64.wrap x=x % 18446744073709551616:=by simp[IntKind.wrap,IntKind.bits,IntKind.signed]
 omega
theorem uB_fdiv {x d:Int} (h:uB x=true) (hd:0<d):uB (x.fdiv d)=true:=by
 rw[uB_iff]at *
 rw[Int.fdiv_eq_ediv_of_nonneg _ (by omega)]
 have h1:0<=x / d:=Int.ediv_nonneg h.1 (by omega)
 have h2:x / d<=x:=Int.ediv_le_self _ h.1
 omega
theorem uB_nar (s:Bool) (a:Int):uB (narF 32 s a)=true:=by
 cases s
 ·exact uB_fdiv (uB_wrap _) (by omega)
 ·exact uB_wrap _
theorem dq1 (a b:Int) (h:uB b=true):execC (lookF FL) scN1 1000 x74 (argTm 0 [.int .i64 1,.int .u64 a,.int .u64 b]) [] 100 (valK [6,7])=some [.int .u64 (doF 1 a b),.int .i64 0]:=do_1 a b
theorem dq2 (a b:Int) (h:uB b=true):execC (lookF FL) scN1 1000 x74 (argTm 0 [.int .i64 2,.int .u64 a,.int .u64 b]) [] 100 (valK [6,7])=some [.int .u64 (doF 2 a b),.int .i64 0]:=do_2 a b
theorem dq3 (a b:Int) (h:uB b=true):execC (lookF FL) scN1 1000 x74 (argTm 0 [.int .i64 3,.int .u64 a,.int .u64 b]) [] 100 (valK [6,7])=some [.int .u64 (doF 3 a b),.int .i64 0]:=do_3 a b
theorem dq4 (a b:Int) (h:uB b=true):execC (lookF FL) scN1 1000 x74 (argTm 0 [.int .i64 4,.int .u64 a,.int .u64 b]) [] 100 (valK [6,7])=some [.int .u64 (doF 4 a b),.int .i64 0]:=do_4 a b
theorem dq5 (a b:Int) (h:uB b=true):execC (lookF FL) scN1 1000 x74 (argTm 0 [.int .i64 5,.int .u64 a,.int .u64 b]) [] 100 (valK [6,7])=some [.int .u64 (doF 5 a b),.int .i64 0]:=do_5 a b
theorem dq6 (a b:Int) (h:uB b=true):execC (lookF FL) scN1 1000 x74 (argTm 0 [.int .i64 6,.int .u64 a,.int .u64 b]) [] 100 (valK [6,7])=some [.int .u64 (doF 6 a b),.int .i64 0]:=do_6 a b
theorem dq7 (a b:Int) (h:uB b=true):execC (lookF FL) scN1 1000 x74 (argTm 0 [.int .i64 7,.int .u64 a,.int .u64 b]) [] 100 (valK [6,7])=some [.int .u64 (doF 7 a b),.int .i64 0]:=do_7 a b
theorem dq8 (a b:Int) (h:uB b=true):execC (lookF FL) scN1 1000 x74 (argTm 0 [.int .i64 8,.int .u64 a,.int .u64 b]) [] 100 (valK [6,7])=some [.int .u64 (doF 8 a b),.int .i64 0]:=do_8 a b
theorem dq9 (a b:Int) (h:uB b=true):execC (lookF FL) scN1 1000 x74 (argTm 0 [.int .i64 9,.int .u64 a,.int .u64 b]) [] 100 (valK [6,7])=some [.int .u64 (doF 9 a b),.int .i64 0]:=do_9 a b
theorem dq10 (a b:Int) (h:uB b=true):execC (lookF FL) scN1 1000 x74 (argTm 0 [.int .i64 10,.int .u64 a,.int .u64 b]) [] 100 (valK [6,7])=some [.int .u64 (doF 10 a b),.int .i64 0]:=do_10 a b
theorem dq11 (a b:Int) (h:uB b=true):execC (lookF FL) scN1 1000 x74 (argTm 0 [.int .i64 11,.int .u64 a,.int .u64 b]) [] 100 (valK [6,7])=some [.int .u64 (doF 11 a b),.int .i64 0]:=do_11 a b
theorem dq12 (a b:Int) (h:uB b=true):execC (lookF FL) scN1 1000 x74 (argTm 0 [.int .i64 12,.int .u64 a,.int .u64 b]) [] 100 (valK [6,7])=some [.int .u64 (doF 12 a b),.int .i64 0]:=do_12 a b
theorem dq13 (a b:Int) (h:uB b=true):execC (lookF FL) scN1 1000 x74 (argTm 0 [.int .i64 13,.int .u64 a,.int .u64 b]) [] 100 (valK [6,7])=some [.int .u64 (doF 13 a b),.int .i64 0]:=do_13 a b
theorem dq14 (a b:Int) (h:uB b=true):execC (lookF FL) scN1 1000 x74 (argTm 0 [.int .i64 14,.int .u64 a,.int .u64 b]) [] 100 (valK [6,7])=some [.int .u64 (doF 14 a b),.int .i64 0]:=by
 rw[do_14,h];rfl
theorem dq15 (a b:Int) (h:uB b=true):execC (lookF FL) scN1 1000 x74 (argTm 0 [.int .i64 15,.int .u64 a,.int .u64 b]) [] 100 (valK [6,7])=some [.int .u64 (doF 15 a b),.int .i64 0]:=by
 rw[do_15,h];rfl
theorem dq16 (a b:Int) (h:uB b=true):execC (lookF FL) scN1 1000 x74 (argTm 0 [.int .i64 16,.int .u64 a,.int .u64 b]) [] 100 (valK [6,7])=some [.int .u64 (doF 16 a b),.int .i64 0]:=by
 rw[do_16,h];rfl
theorem dq17 (a b:Int) (h:uB b=true):execC (lookF FL) scN1 1000 x74 (argTm 0 [.int .i64 17,.int .u64 a,.int .u64 b]) [] 100 (valK [6,7])=some [.int .u64 (doF 17 a b),.int .i64 0]:=by
 rw[do_17,h];rfl
theorem dq18 (a b:Int) (h:uB b=true):execC (lookF FL) scN1 1000 x74 (argTm 0 [.int .i64 18,.int .u64 a,.int .u64 b]) [] 100 (valK [6,7])=some [.int .u64 (doF 18 a b),.int .i64 0]:=do_18 a b
theorem dq19 (a b:Int) (h:uB b=true):execC (lookF FL) scN1 1000 x74 (argTm 0 [.int .i64 19,.int .u64 a,.int .u64 b]) [] 100 (valK [6,7])=some [.int .u64 (doF 19 a b),.int .i64 0]:=do_19 a b
theorem dq20 (a b:Int) (h:uB b=true):execC (lookF FL) scN1 1000 x74 (argTm 0 [.int .i64 20,.int .u64 a,.int .u64 b]) [] 100 (valK [6,7])=some [.int .u64 (doF 20 a b),.int .i64 0]:=do_20 a b
theorem dq21 (a b:Int) (h:uB b=true):execC (lookF FL) scN1 1000 x74 (argTm 0 [.int .i64 21,.int .u64 a,.int .u64 b]) [] 100 (valK [6,7])=some [.int .u64 (doF 21 a b),.int .i64 0]:=do_21 a b
theorem dq22 (a b:Int) (h:uB b=true):execC (lookF FL) scN1 1000 x74 (argTm 0 [.int .i64 22,.int .u64 a,.int .u64 b]) [] 100 (valK [6,7])=some [.int .u64 (doF 22 a b),.int .i64 0]:=do_22 a b
theorem dq23 (a b:Int) (h:uB b=true):execC (lookF FL) scN1 1000 x74 (argTm 0 [.int .i64 23,.int .u64 a,.int .u64 b]) [] 100 (valK [6,7])=some [.int .u64 (doF 23 a b),.int .i64 0]:=do_23 a b
theorem dq24 (a b:Int) (h:uB b=true):execC (lookF FL) scN1 1000 x74 (argTm 0 [.int .i64 24,.int .u64 a,.int .u64 b]) [] 100 (valK [6,7])=some [.int .u64 (doF 24 a b),.int .i64 0]:=by
 rw[do_24,uB_nar];rfl
theorem dq25 (a b:Int) (h:uB b=true):execC (lookF FL) scN1 1000 x74 (argTm 0 [.int .i64 25,.int .u64 a,.int .u64 b]) [] 100 (valK [6,7])=some [.int .u64 (doF 25 a b),.int .i64 0]:=by
 rw[do_25,uB_nar];rfl
theorem dq26 (a b:Int) (h:uB b=true):execC (lookF FL) scN1 1000 x74 (argTm 0 [.int .i64 26,.int .u64 a,.int .u64 b]) [] 100 (valK [6,7])=some [.int .u64 (doF 26 a b),.int .i64 0]:=by
 rw[do_26,uB_nar];rfl
theorem dq27 (a b:Int) (h:uB b=true):execC (lookF FL) scN1 1000 x74 (argTm 0 [.int .i64 27,.int .u64 a,.int .u64 b]) [] 100 (valK [6,7])=some [.int .u64 (doF 27 a b),.int .i64 0]:=by
 rw[do_27,uB_nar];rfl
theorem c74 {op:Int} (h1:1<=op) (h2:op<=27) (a b:Int) (h:uB b=true) (n:Nat):ADet Try.prog 59 [.int .i64 op,.int .u64 a,.int .u64 b] [] (.tuple ⟨[.int .u64 (doF op a b),.int .i64 0]⟩) [] n 0:=by
 obtain⟨k,rfl⟩:∃ k:Nat,op=Int.ofNat k:=⟨op.toNat,by simp;omega⟩
 match k,h1,h2 with
 |1,_,_=>exact adet_tree FOKN1 1000 fx74 (by simp) [6,7] (dq1 a b h) rfl rfl rfl rfl n
 |2,_,_=>exact adet_tree FOKN1 1000 fx74 (by simp) [6,7] (dq2 a b h) rfl rfl rfl rfl n
 |3,_,_=>exact adet_tree FOKN1 1000 fx74 (by simp) [6,7] (dq3 a b h) rfl rfl rfl rfl n
 |4,_,_=>exact adet_tree FOKN1 1000 fx74 (by simp) [6,7] (dq4 a b h) rfl rfl rfl rfl n
 |5,_,_=>exact adet_tree FOKN1 1000 fx74 (by simp) [6,7] (dq5 a b h) rfl rfl rfl rfl n
 |6,_,_=>exact adet_tree FOKN1 1000 fx74 (by simp) [6,7] (dq6 a b h) rfl rfl rfl rfl n
 |7,_,_=>exact adet_tree FOKN1 1000 fx74 (by simp) [6,7] (dq7 a b h) rfl rfl rfl rfl n
 |8,_,_=>exact adet_tree FOKN1 1000 fx74 (by simp) [6,7] (dq8 a b h) rfl rfl rfl rfl n
 |9,_,_=>exact adet_tree FOKN1 1000 fx74 (by simp) [6,7] (dq9 a b h) rfl rfl rfl rfl n
 |10,_,_=>exact adet_tree FOKN1 1000 fx74 (by simp) [6,7] (dq10 a b h) rfl rfl rfl rfl n
 |11,_,_=>exact adet_tree FOKN1 1000 fx74 (by simp) [6,7] (dq11 a b h) rfl rfl rfl rfl n
 |12,_,_=>exact adet_tree FOKN1 1000 fx74 (by simp) [6,7] (dq12 a b h) rfl rfl rfl rfl n
 |13,_,_=>exact adet_tree FOKN1 1000 fx74 (by simp) [6,7] (dq13 a b h) rfl rfl rfl rfl n
 |14,_,_=>exact adet_tree FOKN1 1000 fx74 (by simp) [6,7] (dq14 a b h) rfl rfl rfl rfl n
 |15,_,_=>exact adet_tree FOKN1 1000 fx74 (by simp) [6,7] (dq15 a b h) rfl rfl rfl rfl n
 |16,_,_=>exact adet_tree FOKN1 1000 fx74 (by simp) [6,7] (dq16 a b h) rfl rfl rfl rfl n
 |17,_,_=>exact adet_tree FOKN1 1000 fx74 (by simp) [6,7] (dq17 a b h) rfl rfl rfl rfl n
 |18,_,_=>exact adet_tree FOKN1 1000 fx74 (by simp) [6,7] (dq18 a b h) rfl rfl rfl rfl n
 |19,_,_=>exact adet_tree FOKN1 1000 fx74 (by simp) [6,7] (dq19 a b h) rfl rfl rfl rfl n
 |20,_,_=>exact adet_tree FOKN1 1000 fx74 (by simp) [6,7] (dq20 a b h) rfl rfl rfl rfl n
 |21,_,_=>exact adet_tree FOKN1 1000 fx74 (by simp) [6,7] (dq21 a b h) rfl rfl rfl rfl n
 |22,_,_=>exact adet_tree FOKN1 1000 fx74 (by simp) [6,7] (dq22 a b h) rfl rfl rfl rfl n
 |23,_,_=>exact adet_tree FOKN1 1000 fx74 (by simp) [6,7] (dq23 a b h) rfl rfl rfl rfl n
 |24,_,_=>exact adet_tree FOKN1 1000 fx74 (by simp) [6,7] (dq24 a b h) rfl rfl rfl rfl n
 |25,_,_=>exact adet_tree FOKN1 1000 fx74 (by simp) [6,7] (dq25 a b h) rfl rfl rfl rfl n
 |26,_,_=>exact adet_tree FOKN1 1000 fx74 (by simp) [6,7] (dq26 a b h) rfl rfl rfl rfl n
 |27,_,_=>exact adet_tree FOKN1 1000 fx74 (by simp) [6,7] (dq27 a b h) rfl rfl rfl rfl n
 |0,h1,_=>exact absurd h1 (by decide)
 |k+28,_,h2=>exact absurd h2 (by simp;omega)
def con74:Con Try.prog where
 f:=59
 run:=fun vs _ _=>match vs with
  |[.int .i64 op,.int .u64 a,.int .u64 b]=>some ([],.tuple ⟨[.int .u64 (doF op a b),.int .i64 0]⟩,[],0,decide (1<=op)&&(decide (op<=27)&&uB b))
  |_=>none
 ok:=fun vs h n pre v upd news hx=>by
  split at hx
  ·simp only[Option.some.injEq,Prod.mk.injEq,Bool.and_eq_true,decide_eq_true_eq]at hx
   obtain⟨rfl,rfl,rfl,rfl,h1,h2,hu⟩:=hx
   exact⟨fun id hid=>by simp[fstL]at hid,c74 h1 h2 _ _ hu n⟩
  ·cases hx
def roundC {ι:Type} (R:ι->Act->World->Prop) (μ:ι->Nat) (k:ι) (Q:Exit->Act->World->Prop):Exit->Act->World->Prop:=fun e a w=>match e with
 | .normal=>∃ k',μ k'<μ k/\R k' a w
 |e=>Q e a w
theorem wp_loopC {P:Program}{ca:Code}{Q:Exit->Act->World->Prop}{ι:Type} (R:ι->Act->World->Prop) (μ:ι->Nat)
  (round:∀ k a w,R k a w->ca.wp P (roundC R μ k Q) a w) (k:ι) (a:Act) (w:World) (h:R k a w):(Code.loop ca).wp P Q a w:=by
 have hm:∀ m,∀ k a w,μ k=m->R k a w->∀ (b:Frame) (kk:List Item) (cs:List Frame),∃ e a' w',Q e a' w'/\Arrives P (lone (b.at a (.code ca :: .inLoop ca :: kk)) cs w) b kk cs e a' w':=by
  intro m
  induction m using Nat.strongRecOn with
  |_ m ih =>
   intro k a w hk hr b kk cs
   obtain⟨e,a₁,w₁,hq,harr⟩:=round k a w hr b (.inLoop ca :: kk) cs
   cases e with
   |normal =>
    obtain⟨k',hlt,hr'⟩:=hq
    obtain⟨e₂,a₂,w₂,hq₂,harr₂⟩:=ih (μ k') (hk▸hlt) k' a₁ w₁ rfl hr' b kk cs
    exact⟨e₂,a₂,w₂,hq₂,.of_steps (Steps.trans harr (.one step_inLoop)) harr₂⟩
   |exit id=>exact⟨_,a₁,w₁,hq,.pass (x:=.inLoop ca) rfl (fun _ _=>.inl (by simp)) harr⟩
   |goto l=>exact⟨_,a₁,w₁,hq,.pass (x:=.inLoop ca) rfl (fun _ _=>.inl (by simp)) harr⟩
   |ret=>exact⟨_,a₁,w₁,hq,.pass (x:=.inLoop ca) rfl (fun _ _=>.inl (by simp)) harr⟩
   |panic ch=>exact⟨_,a₁,w₁,hq,.pass (x:=.inLoop ca) rfl (fun _ _=>.inl (by simp)) harr⟩
   |outgrown=>exact⟨_,a₁,w₁,hq,.pass (x:=.inLoop ca) rfl (fun _ _=>.inl (by simp)) harr⟩
 intro b kk cs
 obtain⟨e,a',w',hq,harr⟩:=hm _ k a w rfl h b kk cs
 exact⟨e,a',w',hq,.of_steps (.one step_loop) harr⟩
theorem wpOp_ok {P:Program}{ops:Array Oper}{Q:Exit->Act->World->Prop}{j:Nat}{o:Oper}{K:Act->World->Prop}{a:Act} {w w':World}{v:Value} (hoj:ops[j]?=some o) (hg:o.guard=none)
  (h:(execOp a.eval o).run P w=.ok (.value v) w') (hK:K (a.put o.dst v) w'):wpOp P ops Q j K a w:=by
 unfold wpOp
 rw[hoj]
 have hw:Region.wanted o (yielded ops a.tmps)=true:=by unfold Region.wanted;rw[hg]
 simp only[hw,if_true]
 refine .inl ?_
 unfold Oper.wp
 rw[h]
 exact hK
def fstC:Code->Code
 | .seq a _=>a
 |c=>c
def sndC:Code->Code
 | .seq _ b=>b
 |c=>c
def inC:Code->Code
 | .block _ a=>a
 | .loop a=>a
 |c=>c
def opsC:Code->Array Oper
 | .region _ o _=>o
 |_=>#[]
noncomputable def body20:Code:=match Try.f66.body with
 |some c=>c
 |none=>.skip
noncomputable def mid20:Code:=fstC (sndC body20)
noncomputable def loop20:Code:=sndC mid20
noncomputable def round20:Code:=inC (inC loop20)
section
variable {P:Program}{ρ:Operand->Value}{o:Oper} {w w':World}{v:Value}
theorem exec_range {t:TypeId}{x:Operand} (ho:o.op=.range t x) (h:(Instr.range t (ρ x)).run P w=.ok v w'):(execOp ρ o).run P w=.ok (.value v) w':=by
 unfold execOp
 simp only[ho,Sem.run_bind,h,Result.andThen]
 rfl
theorem exec_next {x:Operand}{b:Bool} (ho:o.op=.next x b) (h:(Instr.next (ρ x) b o.type).run P w=.ok v w'):(execOp ρ o).run P w=.ok (.value v) w':=by
 unfold execOp
 simp only[ho,Sem.run_bind,h,Result.andThen]
 rfl
theorem exec_entry {x:Operand} (ho:o.op=.entry x) (h:(Instr.entry (ρ x)).run P w=.ok v w'):(execOp ρ o).run P w=.ok (.value v) w':=by
 unfold execOp
 simp only[ho,Sem.run_bind,h,Result.andThen]
 rfl
end
end Go.X
namespace Go.X
open Go
theorem entry_val {d:TypeDesc}{ρ:Rn}{z:Value}{has:Value->Bool}{val:Value->Value}{es:Array MapEntry}{clock:Nat} (hs:Stamps es clock) (h6:∀ e∈es.toList,keyOf d e.key=true)
  (h7 : ∀ q,keyOf d q=true->match es.toList.find? (fun e=>keq q e.key)with
      |some e=>has q=true/\V ρ (val q) e.val
      |none=>has q=false/\V ρ (val q) z){e:MapEntry} (he:e∈es.toList):has e.key=true/\V ρ (val e.key) e.val:=by
 have hk:=h6 e he
 have h:=h7 e.key hk
 cases hf:es.toList.find? (fun x=>keq e.key x.key)with
 |none=>exact absurd ((keq_eq hk hk).2 rfl) (List.find?_eq_none.1 hf e he)
 |some e1 =>
  rw[hf]at h
  have he1:=List.mem_of_find?_eq_some hf
  have hkk:keq e.key e1.key=true:=by have:=List.find?_some hf;simpa using this
  have hke:e.key=e1.key:=(keq_eq hk (h6 e1 he1)).1 hkk
  have:e1=e:=by
   obtain⟨i,hi⟩:=List.mem_iff_getElem?.1 he1
   obtain⟨j,hj⟩:=List.mem_iff_getElem?.1 he
   have hij:i=j:=by
    have hil:i<(es.toList.map (·.key)).length:=by rw[List.length_map];exact(List.getElem?_eq_some_iff.1 hi).1
    refine(List.getElem?_inj hil hs.2.2).1 ?_
    rw[List.getElem?_map,List.getElem?_map,hi,hj]
    simp[hke]
   subst hij
   rw[hi]at hj
   exact Option.some.inj hj
  subst this
  exact h
end Go.X
