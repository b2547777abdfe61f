import Derived.Test.YtnekegldodbgjaaM22
import Derived.Test.YtnekegldodbgjaaM23
set_option linter.all false
namespace Go.X
open Go Go.Proofs
attribute [local congr] cond_ctx
theorem t94 (a:Int):execC (lookF FL) noSc 1000 x94 (argTm 0 [Value.int IntKind.u64 a]) [] 100 (valK [2])=some [Value.bool (decide (a>=9223372036854775808))]:=by kernel_rfl
def rnegF (a:Int):Bool:=decide (a>=9223372036854775808)
def mk94 (p:Bool):Option (List Value):=some [Value.bool p]
theorem mk94_cond (c:Bool) (p q:Bool):mk94 (bif c then p else q)=bif c then mk94 p else mk94 q:=by cases c<;>rfl
theorem p94 (a:Int):execC (lookF FL) noSc 1000 x94 (argTm 0 [Value.int IntKind.u64 a]) [] 100 (valK [2])=mk94 (rnegF a):=by
 rw[t94]
 try simp(contextual:=true) only[bn,bc]
 unfold rnegF
 try simp only[mk94_cond]
 rfl
theorem c94 (a:Int) (n:Nat):ADet Try.prog 94 [Value.int IntKind.u64 a] [] (Value.bool (rnegF a)) [] n 0:=adet_tree FOK 1000 fx94 (by simp) [2] (p94 a) rfl rfl rfl rfl n
def g94:List Value->Option Value
 |[.int .u64 a]=>some (Value.bool (rnegF a))
 |_=>none
def con94:Con Try.prog:=pureC 94 g94 fun vs v n h=>by
 unfold g94 at h
 split at h
 ·cases h;exact c94 _ n
 ·cases h
theorem t82 (a:Int) (b:Int):execC (lookF FL) noSc 1000 x82 (argTm 0 [Value.int IntKind.u64 a,Value.int IntKind.u64 b]) [] 100 (valK [4])=bif !decide (a>=9223372036854775808)==decide (b>=9223372036854775808)then some [Value.bool (decide (a>=9223372036854775808))]else some [Value.bool (decide (a<b))]:=by kernel_rfl
def rlessF (a:Int) (b:Int):Bool:=bif !decide (a>=9223372036854775808)==decide (b>=9223372036854775808)then decide (a>=9223372036854775808)else decide (a<b)
def mk82 (p:Bool):Option (List Value):=some [Value.bool p]
theorem mk82_cond (c:Bool) (p q:Bool):mk82 (bif c then p else q)=bif c then mk82 p else mk82 q:=by cases c<;>rfl
theorem p82 (a:Int) (b:Int):execC (lookF FL) noSc 1000 x82 (argTm 0 [Value.int IntKind.u64 a,Value.int IntKind.u64 b]) [] 100 (valK [4])=mk82 (rlessF a b):=by
 rw[t82]
 try simp(contextual:=true) only[bn,bc]
 unfold rlessF
 try simp only[mk82_cond]
 rfl
theorem c82 (a:Int) (b:Int) (n:Nat):ADet Try.prog 82 [Value.int IntKind.u64 a,Value.int IntKind.u64 b] [] (Value.bool (rlessF a b)) [] n 0:=adet_tree FOK 1000 fx82 (by simp) [4] (p82 a b) rfl rfl rfl rfl n
def g82:List Value->Option Value
 |[.int .u64 a,.int .u64 b]=>some (Value.bool (rlessF a b))
 |_=>none
def con82:Con Try.prog:=pureC 82 g82 fun vs v n h=>by
 unfold g82 at h
 split at h
 ·cases h;exact c82 _ _ n
 ·cases h
theorem t90 (c:Bool):execC (lookF FL) noSc 1000 x90 (argTm 0 [Value.bool c]) [] 100 (valK [2])=bif c then some [Value.int IntKind.u64 1]else some [Value.int IntKind.u64 0]:=by kernel_rfl
def rflagF (c:Bool):Int:=bif c then 1 else 0
def mk90 (p:Int):Option (List Value):=some [Value.int IntKind.u64 p]
theorem mk90_cond (c:Bool) (p q:Int):mk90 (bif c then p else q)=bif c then mk90 p else mk90 q:=by cases c<;>rfl
theorem p90 (c:Bool):execC (lookF FL) noSc 1000 x90 (argTm 0 [Value.bool c]) [] 100 (valK [2])=mk90 (rflagF c):=by
 rw[t90]
 try simp(contextual:=true) only[bn,bc]
 unfold rflagF
 try simp only[mk90_cond]
 rfl
theorem c90 (c:Bool) (n:Nat):ADet Try.prog 90 [Value.bool c] [] (Value.int IntKind.u64 (rflagF c)) [] n 0:=adet_tree FOK 1000 fx90 (by simp) [2] (p90 c) rfl rfl rfl rfl n
def g90:List Value->Option Value
 |[.bool c]=>some (Value.int IntKind.u64 (rflagF c))
 |_=>none
def con90:Con Try.prog:=pureC 90 g90 fun vs v n h=>by
 unfold g90 at h
 split at h
 ·cases h;exact c90 _ n
 ·cases h
theorem t92 (a:Int):execC (lookF FL) noSc 1000 x92 (argTm 0 [Value.int IntKind.u64 a]) [] 100 (valK [2])=bif decide (a>=9223372036854775808)then some [Value.int IntKind.u64 (IntKind.u64.wrap (0-a))]else some [Value.int IntKind.u64 a]:=by kernel_rfl
def rsizeF (a:Int):Int:=bif decide (a>=9223372036854775808)then IntKind.u64.wrap (0-a)else a
def mk92 (p:Int):Option (List Value):=some [Value.int IntKind.u64 p]
theorem mk92_cond (c:Bool) (p q:Int):mk92 (bif c then p else q)=bif c then mk92 p else mk92 q:=by cases c<;>rfl
theorem p92 (a:Int):execC (lookF FL) noSc 1000 x92 (argTm 0 [Value.int IntKind.u64 a]) [] 100 (valK [2])=mk92 (rsizeF a):=by
 rw[t92]
 try simp(contextual:=true) only[bn,bc]
 unfold rsizeF
 try simp only[mk92_cond]
 rfl
theorem c92 (a:Int) (n:Nat):ADet Try.prog 92 [Value.int IntKind.u64 a] [] (Value.int IntKind.u64 (rsizeF a)) [] n 0:=adet_tree FOK 1000 fx92 (by simp) [2] (p92 a) rfl rfl rfl rfl n
def g92:List Value->Option Value
 |[.int .u64 a]=>some (Value.int IntKind.u64 (rsizeF a))
 |_=>none
def con92:Con Try.prog:=pureC 92 g92 fun vs v n h=>by
 unfold g92 at h
 split at h
 ·cases h;exact c92 _ n
 ·cases h
theorem t95 (a:Int) (c:Bool):execC (lookF FL) noSc 1000 x95 (argTm 0 [Value.int IntKind.u64 a,Value.bool c]) [] 100 (valK [4])=bif c then some [Value.int IntKind.u64 (IntKind.u64.wrap (0-a))]else some [Value.int IntKind.u64 a]:=by kernel_rfl
def rsignF (a:Int) (c:Bool):Int:=bif c then IntKind.u64.wrap (0-a)else a
def mk95 (p:Int):Option (List Value):=some [Value.int IntKind.u64 p]
theorem mk95_cond (c:Bool) (p q:Int):mk95 (bif c then p else q)=bif c then mk95 p else mk95 q:=by cases c<;>rfl
theorem p95 (a:Int) (c:Bool):execC (lookF FL) noSc 1000 x95 (argTm 0 [Value.int IntKind.u64 a,Value.bool c]) [] 100 (valK [4])=mk95 (rsignF a c):=by
 rw[t95]
 try simp(contextual:=true) only[bn,bc]
 unfold rsignF
 try simp only[mk95_cond]
 rfl
theorem c95 (a:Int) (c:Bool) (n:Nat):ADet Try.prog 95 [Value.int IntKind.u64 a,Value.bool c] [] (Value.int IntKind.u64 (rsignF a c)) [] n 0:=adet_tree FOK 1000 fx95 (by simp) [4] (p95 a c) rfl rfl rfl rfl n
def g95:List Value->Option Value
 |[.int .u64 a,.bool c]=>some (Value.int IntKind.u64 (rsignF a c))
 |_=>none
def con95:Con Try.prog:=pureC 95 g95 fun vs v n h=>by
 unfold g95 at h
 split at h
 ·cases h;exact c95 _ _ n
 ·cases h
theorem t93 (a:Int) (b:Int):execC (lookF FL) noSc 1000 x93 (argTm 0 [Value.int IntKind.u64 a,Value.int IntKind.u64 b]) [] 100 (valK [4])=some [Value.int IntKind.u64 (IntKind.u64.wrap (IntKind.u64.wrap (IntKind.u64.wrap (IntKind.u64.wrap (a.tdiv 4294967296)*IntKind.u64.wrap (b.tdiv 4294967296))+IntKind.u64.wrap ((IntKind.u64.wrap (IntKind.u64.wrap (IntKind.u64.wrap (a.tdiv 4294967296)*b.tmod 4294967296)+IntKind.u64.wrap ((IntKind.u64.wrap (a.tmod 4294967296*b.tmod 4294967296)).tdiv 4294967296))).tdiv 4294967296))+IntKind.u64.wrap ((IntKind.u64.wrap (IntKind.u64.wrap (a.tmod 4294967296*IntKind.u64.wrap (b.tdiv 4294967296))+(IntKind.u64.wrap (IntKind.u64.wrap (IntKind.u64.wrap (a.tdiv 4294967296)*b.tmod 4294967296)+IntKind.u64.wrap ((IntKind.u64.wrap (a.tmod 4294967296*b.tmod 4294967296)).tdiv 4294967296))).tmod 4294967296)).tdiv 4294967296)))]:=by kernel_rfl
def rhighF (a:Int) (b:Int):Int:=IntKind.u64.wrap (IntKind.u64.wrap (IntKind.u64.wrap (IntKind.u64.wrap (a.tdiv 4294967296)*IntKind.u64.wrap (b.tdiv 4294967296))+IntKind.u64.wrap ((IntKind.u64.wrap (IntKind.u64.wrap (IntKind.u64.wrap (a.tdiv 4294967296)*b.tmod 4294967296)+IntKind.u64.wrap ((IntKind.u64.wrap (a.tmod 4294967296*b.tmod 4294967296)).tdiv 4294967296))).tdiv 4294967296))+IntKind.u64.wrap ((IntKind.u64.wrap (IntKind.u64.wrap (a.tmod 4294967296*IntKind.u64.wrap (b.tdiv 4294967296))+(IntKind.u64.wrap (IntKind.u64.wrap (IntKind.u64.wrap (a.tdiv 4294967296)*b.tmod 4294967296)+IntKind.u64.wrap ((IntKind.u64.wrap (a.tmod 4294967296*b.tmod 4294967296)).tdiv 4294967296))).tmod 4294967296)).tdiv 4294967296))
def mk93 (p:Int):Option (List Value):=some [Value.int IntKind.u64 p]
theorem mk93_cond (c:Bool) (p q:Int):mk93 (bif c then p else q)=bif c then mk93 p else mk93 q:=by cases c<;>rfl
theorem p93 (a:Int) (b:Int):execC (lookF FL) noSc 1000 x93 (argTm 0 [Value.int IntKind.u64 a,Value.int IntKind.u64 b]) [] 100 (valK [4])=mk93 (rhighF a b):=by
 rw[t93]
 try simp(contextual:=true) only[bn,bc]
 unfold rhighF
 try simp only[mk93_cond]
 rfl
theorem c93 (a:Int) (b:Int) (n:Nat):ADet Try.prog 93 [Value.int IntKind.u64 a,Value.int IntKind.u64 b] [] (Value.int IntKind.u64 (rhighF a b)) [] n 0:=adet_tree FOK 1000 fx93 (by simp) [4] (p93 a b) rfl rfl rfl rfl n
def g93:List Value->Option Value
 |[.int .u64 a,.int .u64 b]=>some (Value.int IntKind.u64 (rhighF a b))
 |_=>none
def con93:Con Try.prog:=pureC 93 g93 fun vs v n h=>by
 unfold g93 at h
 split at h
 ·cases h;exact c93 _ _ n
 ·cases h
theorem t65 (k:Int):execC (lookF FL) noSc 1000 x65 (argTm 0 [Value.int IntKind.i64 k]) [] 100 (valK [2])=bif decide (k<0)then some [Value.int IntKind.u64 (IntKind.u64.wrap (0-IntKind.u64.wrap (IntKind.i64.wrap (0-k))))]else some [Value.int IntKind.u64 (IntKind.u64.wrap k)]:=by kernel_rfl
def rimmF (k:Int):Int:=bif decide (k<0)then IntKind.u64.wrap (0-IntKind.u64.wrap (IntKind.i64.wrap (0-k)))else IntKind.u64.wrap k
def mk65 (p:Int):Option (List Value):=some [Value.int IntKind.u64 p]
theorem mk65_cond (c:Bool) (p q:Int):mk65 (bif c then p else q)=bif c then mk65 p else mk65 q:=by cases c<;>rfl
theorem p65 (k:Int):execC (lookF FL) noSc 1000 x65 (argTm 0 [Value.int IntKind.i64 k]) [] 100 (valK [2])=mk65 (rimmF k):=by
 rw[t65]
 try simp(contextual:=true) only[bn,bc]
 unfold rimmF
 try simp only[mk65_cond]
 rfl
theorem c65 (k:Int) (n:Nat):ADet Try.prog 65 [Value.int IntKind.i64 k] [] (Value.int IntKind.u64 (rimmF k)) [] n 0:=adet_tree FOK 1000 fx65 (by simp) [2] (p65 k) rfl rfl rfl rfl n
def g65:List Value->Option Value
 |[.int .i64 k]=>some (Value.int IntKind.u64 (rimmF k))
 |_=>none
def con65:Con Try.prog:=pureC 65 g65 fun vs v n h=>by
 unfold g65 at h
 split at h
 ·cases h;exact c65 _ n
 ·cases h
theorem do_1 (a b:Int):execC (lookF FL) scN1 1000 x74 (argTm 0 [Value.int IntKind.i64 1,Value.int IntKind.u64 a,Value.int IntKind.u64 b]) [] 100 (valK [6,7])=some [Value.int IntKind.u64 (IntKind.u64.wrap (a+b)),Value.int IntKind.i64 0]:=by kernel_rfl
theorem do_2 (a b:Int):execC (lookF FL) scN1 1000 x74 (argTm 0 [Value.int IntKind.i64 2,Value.int IntKind.u64 a,Value.int IntKind.u64 b]) [] 100 (valK [6,7])=some [Value.int IntKind.u64 (IntKind.u64.wrap (a-b)),Value.int IntKind.i64 0]:=by kernel_rfl
theorem do_3 (a b:Int):execC (lookF FL) scN1 1000 x74 (argTm 0 [Value.int IntKind.i64 3,Value.int IntKind.u64 a,Value.int IntKind.u64 b]) [] 100 (valK [6,7])=some [Value.int IntKind.u64 (IntKind.u64.wrap (a*2 ^ min (bits2 BinOp.and IntKind.u64 b 63).toNat 64)),Value.int IntKind.i64 0]:=by kernel_rfl
theorem do_4 (a b:Int):execC (lookF FL) scN1 1000 x74 (argTm 0 [Value.int IntKind.i64 4,Value.int IntKind.u64 a,Value.int IntKind.u64 b]) [] 100 (valK [6,7])=some [Value.int IntKind.u64 (bitF (decide (IntKind.i64.wrap a<IntKind.i64.wrap b))),Value.int IntKind.i64 0]:=by kernel_rfl
theorem do_5 (a b:Int):execC (lookF FL) scN1 1000 x74 (argTm 0 [Value.int IntKind.i64 5,Value.int IntKind.u64 a,Value.int IntKind.u64 b]) [] 100 (valK [6,7])=some [Value.int IntKind.u64 (bitF (decide (a<b))),Value.int IntKind.i64 0]:=by kernel_rfl
theorem do_6 (a b:Int):execC (lookF FL) scN1 1000 x74 (argTm 0 [Value.int IntKind.i64 6,Value.int IntKind.u64 a,Value.int IntKind.u64 b]) [] 100 (valK [6,7])=some [Value.int IntKind.u64 (bits2 BinOp.xor IntKind.u64 a b),Value.int IntKind.i64 0]:=by kernel_rfl
theorem do_7 (a b:Int):execC (lookF FL) scN1 1000 x74 (argTm 0 [Value.int IntKind.i64 7,Value.int IntKind.u64 a,Value.int IntKind.u64 b]) [] 100 (valK [6,7])=some [Value.int IntKind.u64 (a.fdiv (2 ^ min (bits2 BinOp.and IntKind.u64 b 63).toNat 64)),Value.int IntKind.i64 0]:=by kernel_rfl
theorem do_8 (a b:Int):execC (lookF FL) scN1 1000 x74 (argTm 0 [Value.int IntKind.i64 8,Value.int IntKind.u64 a,Value.int IntKind.u64 b]) [] 100 (valK [6,7])=some [Value.int IntKind.u64 (IntKind.u64.wrap ((IntKind.i64.wrap a).fdiv (2 ^ min (bits2 BinOp.and IntKind.u64 b 63).toNat 64))),Value.int IntKind.i64 0]:=by kernel_rfl
theorem do_9 (a b:Int):execC (lookF FL) scN1 1000 x74 (argTm 0 [Value.int IntKind.i64 9,Value.int IntKind.u64 a,Value.int IntKind.u64 b]) [] 100 (valK [6,7])=some [Value.int IntKind.u64 (bits2 BinOp.or IntKind.u64 a b),Value.int IntKind.i64 0]:=by kernel_rfl
theorem do_10 (a b:Int):execC (lookF FL) scN1 1000 x74 (argTm 0 [Value.int IntKind.i64 10,Value.int IntKind.u64 a,Value.int IntKind.u64 b]) [] 100 (valK [6,7])=some [Value.int IntKind.u64 (bits2 BinOp.and IntKind.u64 a b),Value.int IntKind.i64 0]:=by kernel_rfl
theorem do_11 (a b:Int):execC (lookF FL) scN1 1000 x74 (argTm 0 [Value.int IntKind.i64 11,Value.int IntKind.u64 a,Value.int IntKind.u64 b]) [] 100 (valK [6,7])=some [Value.int IntKind.u64 (IntKind.u64.wrap (a*b)),Value.int IntKind.i64 0]:=by kernel_rfl
theorem do_12 (a b:Int):execC (lookF FL) scN1 1000 x74 (argTm 0 [Value.int IntKind.i64 12,Value.int IntKind.u64 a,Value.int IntKind.u64 b]) [] 100 (valK [6,7])=some [Value.int IntKind.u64 (IntKind.u64.wrap (IntKind.u64.wrap (IntKind.u64.wrap (IntKind.u64.wrap (IntKind.u64.wrap (a.fdiv 4294967296*b.fdiv 4294967296)+(IntKind.u64.wrap (IntKind.u64.wrap (a.fdiv 4294967296*bits2 BinOp.and IntKind.u64 b 4294967295)+(IntKind.u64.wrap (bits2 BinOp.and IntKind.u64 a 4294967295*bits2 BinOp.and IntKind.u64 b 4294967295)).fdiv 4294967296)).fdiv 4294967296)+(IntKind.u64.wrap (bits2 BinOp.and IntKind.u64 (IntKind.u64.wrap (IntKind.u64.wrap (a.fdiv 4294967296*bits2 BinOp.and IntKind.u64 b 4294967295)+(IntKind.u64.wrap (bits2 BinOp.and IntKind.u64 a 4294967295*bits2 BinOp.and IntKind.u64 b 4294967295)).fdiv 4294967296)) 4294967295+IntKind.u64.wrap (bits2 BinOp.and IntKind.u64 a 4294967295*b.fdiv 4294967296))).fdiv 4294967296)-IntKind.u64.wrap (b*bitF (decide (IntKind.i64.wrap a<0))))-IntKind.u64.wrap (a*bitF (decide (IntKind.i64.wrap b<0))))),Value.int IntKind.i64 0]:=by kernel_rfl
theorem do_13 (a b:Int):execC (lookF FL) scN1 1000 x74 (argTm 0 [Value.int IntKind.i64 13,Value.int IntKind.u64 a,Value.int IntKind.u64 b]) [] 100 (valK [6,7])=some [Value.int IntKind.u64 (IntKind.u64.wrap (IntKind.u64.wrap (IntKind.u64.wrap (a.fdiv 4294967296*b.fdiv 4294967296)+(IntKind.u64.wrap (IntKind.u64.wrap (a.fdiv 4294967296*bits2 BinOp.and IntKind.u64 b 4294967295)+(IntKind.u64.wrap (bits2 BinOp.and IntKind.u64 a 4294967295*bits2 BinOp.and IntKind.u64 b 4294967295)).fdiv 4294967296)).fdiv 4294967296)+(IntKind.u64.wrap (bits2 BinOp.and IntKind.u64 (IntKind.u64.wrap (IntKind.u64.wrap (a.fdiv 4294967296*bits2 BinOp.and IntKind.u64 b 4294967295)+(IntKind.u64.wrap (bits2 BinOp.and IntKind.u64 a 4294967295*bits2 BinOp.and IntKind.u64 b 4294967295)).fdiv 4294967296)) 4294967295+IntKind.u64.wrap (bits2 BinOp.and IntKind.u64 a 4294967295*b.fdiv 4294967296))).fdiv 4294967296)),Value.int IntKind.i64 0]:=by kernel_rfl
theorem do_14 (a b:Int):execC (lookF FL) scN1 1000 x74 (argTm 0 [Value.int IntKind.i64 14,Value.int IntKind.u64 a,Value.int IntKind.u64 b]) [] 100 (valK [6,7])=bif (uB b||false)&&true then some [Value.int IntKind.u64 (partsF 14 a b),Value.int IntKind.i64 0]else none:=by kernel_rfl
theorem do_15 (a b:Int):execC (lookF FL) scN1 1000 x74 (argTm 0 [Value.int IntKind.i64 15,Value.int IntKind.u64 a,Value.int IntKind.u64 b]) [] 100 (valK [6,7])=bif (uB b||false)&&true then some [Value.int IntKind.u64 (partsF 15 a b),Value.int IntKind.i64 0]else none:=by kernel_rfl
theorem do_16 (a b:Int):execC (lookF FL) scN1 1000 x74 (argTm 0 [Value.int IntKind.i64 16,Value.int IntKind.u64 a,Value.int IntKind.u64 b]) [] 100 (valK [6,7])=bif (uB b||false)&&true then some [Value.int IntKind.u64 (partsF 16 a b),Value.int IntKind.i64 0]else none:=by kernel_rfl
theorem do_17 (a b:Int):execC (lookF FL) scN1 1000 x74 (argTm 0 [Value.int IntKind.i64 17,Value.int IntKind.u64 a,Value.int IntKind.u64 b]) [] 100 (valK [6,7])=bif (uB b||false)&&true then some [Value.int IntKind.u64 (partsF 17 a b),Value.int IntKind.i64 0]else none:=by kernel_rfl
theorem do_18 (a b:Int):execC (lookF FL) scN1 1000 x74 (argTm 0 [Value.int IntKind.i64 18,Value.int IntKind.u64 a,Value.int IntKind.u64 b]) [] 100 (valK [6,7])=some [Value.int IntKind.u64 (narF 32 true (IntKind.u64.wrap (narF 32 true a+narF 32 true b))),Value.int IntKind.i64 0]:=by kernel_rfl
theorem do_19 (a b:Int):execC (lookF FL) scN1 1000 x74 (argTm 0 [Value.int IntKind.i64 19,Value.int IntKind.u64 a,Value.int IntKind.u64 b]) [] 100 (valK [6,7])=some [Value.int IntKind.u64 (narF 32 true (IntKind.u64.wrap (narF 32 true a-narF 32 true b))),Value.int IntKind.i64 0]:=by kernel_rfl
theorem do_20 (a b:Int):execC (lookF FL) scN1 1000 x74 (argTm 0 [Value.int IntKind.i64 20,Value.int IntKind.u64 a,Value.int IntKind.u64 b]) [] 100 (valK [6,7])=some [Value.int IntKind.u64 (narF 32 true (IntKind.u64.wrap (narF 32 true a*2 ^ min (bits2 BinOp.and IntKind.u64 (bits2 BinOp.and IntKind.u64 (narF 32 true b) 31) 63).toNat 64))),Value.int IntKind.i64 0]:=by kernel_rfl
theorem do_21 (a b:Int):execC (lookF FL) scN1 1000 x74 (argTm 0 [Value.int IntKind.i64 21,Value.int IntKind.u64 a,Value.int IntKind.u64 b]) [] 100 (valK [6,7])=some [Value.int IntKind.u64 (narF 32 true ((narF 32 false a).fdiv (2 ^ min (bits2 BinOp.and IntKind.u64 (bits2 BinOp.and IntKind.u64 (narF 32 false b) 31) 63).toNat 64))),Value.int IntKind.i64 0]:=by kernel_rfl
theorem do_22 (a b:Int):execC (lookF FL) scN1 1000 x74 (argTm 0 [Value.int IntKind.i64 22,Value.int IntKind.u64 a,Value.int IntKind.u64 b]) [] 100 (valK [6,7])=some [Value.int IntKind.u64 (narF 32 true (IntKind.u64.wrap ((IntKind.i64.wrap (narF 32 true a)).fdiv (2 ^ min (bits2 BinOp.and IntKind.u64 (bits2 BinOp.and IntKind.u64 (narF 32 true b) 31) 63).toNat 64)))),Value.int IntKind.i64 0]:=by kernel_rfl
theorem do_23 (a b:Int):execC (lookF FL) scN1 1000 x74 (argTm 0 [Value.int IntKind.i64 23,Value.int IntKind.u64 a,Value.int IntKind.u64 b]) [] 100 (valK [6,7])=some [Value.int IntKind.u64 (narF 32 true (IntKind.u64.wrap (narF 32 true a*narF 32 true b))),Value.int IntKind.i64 0]:=by kernel_rfl
theorem do_24 (a b:Int):execC (lookF FL) scN1 1000 x74 (argTm 0 [Value.int IntKind.i64 24,Value.int IntKind.u64 a,Value.int IntKind.u64 b]) [] 100 (valK [6,7])=bif ((uB (narF 32 true b)||false)&&true&&true&&true&&true||false)&&true then some [Value.int IntKind.u64 (narF 32 true (partsF 14 (narF 32 true a) (narF 32 true b))),Value.int IntKind.i64 0]else none:=by kernel_rfl
theorem do_25 (a b:Int):execC (lookF FL) scN1 1000 x74 (argTm 0 [Value.int IntKind.i64 25,Value.int IntKind.u64 a,Value.int IntKind.u64 b]) [] 100 (valK [6,7])=bif ((uB (narF 32 false b)||false)&&true&&true&&true&&true||false)&&true then some [Value.int IntKind.u64 (narF 32 true (partsF 15 (narF 32 false a) (narF 32 false b))),Value.int IntKind.i64 0]else none:=by kernel_rfl
theorem do_26 (a b:Int):execC (lookF FL) scN1 1000 x74 (argTm 0 [Value.int IntKind.i64 26,Value.int IntKind.u64 a,Value.int IntKind.u64 b]) [] 100 (valK [6,7])=bif ((uB (narF 32 true b)||false)&&true&&true&&true&&true||false)&&true then some [Value.int IntKind.u64 (narF 32 true (partsF 16 (narF 32 true a) (narF 32 true b))),Value.int IntKind.i64 0]else none:=by kernel_rfl
theorem do_27 (a b:Int):execC (lookF FL) scN1 1000 x74 (argTm 0 [Value.int IntKind.i64 27,Value.int IntKind.u64 a,Value.int IntKind.u64 b]) [] 100 (valK [6,7])=bif ((uB (narF 32 false b)||false)&&true&&true&&true&&true||false)&&true then some [Value.int IntKind.u64 (narF 32 true (partsF 17 (narF 32 false a) (narF 32 false b))),Value.int IntKind.i64 0]else none:=by kernel_rfl
def doF (op a b:Int):Int :=
 match op with
 |1=>(IntKind.u64.wrap (a+b))
 |2=>(IntKind.u64.wrap (a-b))
 |3=>(IntKind.u64.wrap (a*2 ^ min (bits2 BinOp.and IntKind.u64 b 63).toNat 64))
 |4=>(bitF (decide (IntKind.i64.wrap a<IntKind.i64.wrap b)))
 |5=>(bitF (decide (a<b)))
 |6=>(bits2 BinOp.xor IntKind.u64 a b)
 |7=>(a.fdiv (2 ^ min (bits2 BinOp.and IntKind.u64 b 63).toNat 64))
 |8=>(IntKind.u64.wrap ((IntKind.i64.wrap a).fdiv (2 ^ min (bits2 BinOp.and IntKind.u64 b 63).toNat 64)))
 |9=>(bits2 BinOp.or IntKind.u64 a b)
 |10=>(bits2 BinOp.and IntKind.u64 a b)
 |11=>(IntKind.u64.wrap (a*b))
 |12=>(IntKind.u64.wrap (IntKind.u64.wrap (IntKind.u64.wrap (IntKind.u64.wrap (IntKind.u64.wrap (a.fdiv 4294967296*b.fdiv 4294967296)+(IntKind.u64.wrap (IntKind.u64.wrap (a.fdiv 4294967296*bits2 BinOp.and IntKind.u64 b 4294967295)+(IntKind.u64.wrap (bits2 BinOp.and IntKind.u64 a 4294967295*bits2 BinOp.and IntKind.u64 b 4294967295)).fdiv 4294967296)).fdiv 4294967296)+(IntKind.u64.wrap (bits2 BinOp.and IntKind.u64 (IntKind.u64.wrap (IntKind.u64.wrap (a.fdiv 4294967296*bits2 BinOp.and IntKind.u64 b 4294967295)+(IntKind.u64.wrap (bits2 BinOp.and IntKind.u64 a 4294967295*bits2 BinOp.and IntKind.u64 b 4294967295)).fdiv 4294967296)) 4294967295+IntKind.u64.wrap (bits2 BinOp.and IntKind.u64 a 4294967295*b.fdiv 4294967296))).fdiv 4294967296)-IntKind.u64.wrap (b*bitF (decide (IntKind.i64.wrap a<0))))-IntKind.u64.wrap (a*bitF (decide (IntKind.i64.wrap b<0)))))
 |13=>(IntKind.u64.wrap (IntKind.u64.wrap (IntKind.u64.wrap (a.fdiv 4294967296*b.fdiv 4294967296)+(IntKind.u64.wrap (IntKind.u64.wrap (a.fdiv 4294967296*bits2 BinOp.and IntKind.u64 b 4294967295)+(IntKind.u64.wrap (bits2 BinOp.and IntKind.u64 a 4294967295*bits2 BinOp.and IntKind.u64 b 4294967295)).fdiv 4294967296)).fdiv 4294967296)+(IntKind.u64.wrap (bits2 BinOp.and IntKind.u64 (IntKind.u64.wrap (IntKind.u64.wrap (a.fdiv 4294967296*bits2 BinOp.and IntKind.u64 b 4294967295)+(IntKind.u64.wrap (bits2 BinOp.and IntKind.u64 a 4294967295*bits2 BinOp.and IntKind.u64 b 4294967295)).fdiv 4294967296)) 4294967295+IntKind.u64.wrap (bits2 BinOp.and IntKind.u64 a 4294967295*b.fdiv 4294967296))).fdiv 4294967296))
 |14=>(partsF 14 a b)
 |15=>(partsF 15 a b)
 |16=>(partsF 16 a b)
 |17=>(partsF 17 a b)
 |18=>(narF 32 true (IntKind.u64.wrap (narF 32 true a+narF 32 true b)))
 |19=>(narF 32 true (IntKind.u64.wrap (narF 32 true a-narF 32 true b)))
 |20=>(narF 32 true (IntKind.u64.wrap (narF 32 true a*2 ^ min (bits2 BinOp.and IntKind.u64 (bits2 BinOp.and IntKind.u64 (narF 32 true b) 31) 63).toNat 64)))
 |21=>(narF 32 true ((narF 32 false a).fdiv (2 ^ min (bits2 BinOp.and IntKind.u64 (bits2 BinOp.and IntKind.u64 (narF 32 false b) 31) 63).toNat 64)))
 |22=>(narF 32 true (IntKind.u64.wrap ((IntKind.i64.wrap (narF 32 true a)).fdiv (2 ^ min (bits2 BinOp.and IntKind.u64 (bits2 BinOp.and IntKind.u64 (narF 32 true b) 31) 63).toNat 64))))
 |23=>(narF 32 true (IntKind.u64.wrap (narF 32 true a*narF 32 true b)))
 |24=>(narF 32 true (partsF 14 (narF 32 true a) (narF 32 true b)))
 |25=>(narF 32 true (partsF 15 (narF 32 false a) (narF 32 false b)))
 |26=>(narF 32 true (partsF 16 (narF 32 true a) (narF 32 true b)))
 |_=>(narF 32 true (partsF 17 (narF 32 false a) (narF 32 false b)))
theorem uB_wrap (x:Int):uB (IntKind.u64.wrap x)=true:=by
 rw[uB_iff]
 have:IntKind.u64.wrap x=x % 18446744073709551616:=by simp[IntKind.wrap,IntKind.bits,IntKind.signed]
 omega
theorem uB_fdiv {x d:Int} (h:uB x=true) (hd:0<d):uB (x.fdiv d)=true:=by
 rw[uB_iff]at *
 rw[Int.fdiv_eq_ediv_of_nonneg _ (by omega)]
 have h1:0<=x / d:=Int.ediv_nonneg h.1 (by omega)
 have h2:x / d<=x:=Int.ediv_le_self _ h.1
 omega
theorem uB_nar (s:Bool) (a:Int):uB (narF 32 s a)=true:=by
 cases s
 ·exact uB_fdiv (uB_wrap _) (by omega)
 ·exact uB_wrap _
theorem dq1 (a b:Int) (h:uB b=true):execC (lookF FL) scN1 1000 x74 (argTm 0 [.int .i64 1,.int .u64 a,.int .u64 b]) [] 100 (valK [6,7])=some [.int .u64 (doF 1 a b),.int .i64 0]:=do_1 a b
theorem dq2 (a b:Int) (h:uB b=true):execC (lookF FL) scN1 1000 x74 (argTm 0 [.int .i64 2,.int .u64 a,.int .u64 b]) [] 100 (valK [6,7])=some [.int .u64 (doF 2 a b),.int .i64 0]:=do_2 a b
theorem dq3 (a b:Int) (h:uB b=true):execC (lookF FL) scN1 1000 x74 (argTm 0 [.int .i64 3,.int .u64 a,.int .u64 b]) [] 100 (valK [6,7])=some [.int .u64 (doF 3 a b),.int .i64 0]:=do_3 a b
theorem dq4 (a b:Int) (h:uB b=true):execC (lookF FL) scN1 1000 x74 (argTm 0 [.int .i64 4,.int .u64 a,.int .u64 b]) [] 100 (valK [6,7])=some [.int .u64 (doF 4 a b),.int .i64 0]:=do_4 a b
theorem dq5 (a b:Int) (h:uB b=true):execC (lookF FL) scN1 1000 x74 (argTm 0 [.int .i64 5,.int .u64 a,.int .u64 b]) [] 100 (valK [6,7])=some [.int .u64 (doF 5 a b),.int .i64 0]:=do_5 a b
theorem dq6 (a b:Int) (h:uB b=true):execC (lookF FL) scN1 1000 x74 (argTm 0 [.int .i64 6,.int .u64 a,.int .u64 b]) [] 100 (valK [6,7])=some [.int .u64 (doF 6 a b),.int .i64 0]:=do_6 a b
theorem dq7 (a b:Int) (h:uB b=true):execC (lookF FL) scN1 1000 x74 (argTm 0 [.int .i64 7,.int .u64 a,.int .u64 b]) [] 100 (valK [6,7])=some [.int .u64 (doF 7 a b),.int .i64 0]:=do_7 a b
theorem dq8 (a b:Int) (h:uB b=true):execC (lookF FL) scN1 1000 x74 (argTm 0 [.int .i64 8,.int .u64 a,.int .u64 b]) [] 100 (valK [6,7])=some [.int .u64 (doF 8 a b),.int .i64 0]:=do_8 a b
theorem dq9 (a b:Int) (h:uB b=true):execC (lookF FL) scN1 1000 x74 (argTm 0 [.int .i64 9,.int .u64 a,.int .u64 b]) [] 100 (valK [6,7])=some [.int .u64 (doF 9 a b),.int .i64 0]:=do_9 a b
theorem dq10 (a b:Int) (h:uB b=true):execC (lookF FL) scN1 1000 x74 (argTm 0 [.int .i64 10,.int .u64 a,.int .u64 b]) [] 100 (valK [6,7])=some [.int .u64 (doF 10 a b),.int .i64 0]:=do_10 a b
theorem dq11 (a b:Int) (h:uB b=true):execC (lookF FL) scN1 1000 x74 (argTm 0 [.int .i64 11,.int .u64 a,.int .u64 b]) [] 100 (valK [6,7])=some [.int .u64 (doF 11 a b),.int .i64 0]:=do_11 a b
theorem dq12 (a b:Int) (h:uB b=true):execC (lookF FL) scN1 1000 x74 (argTm 0 [.int .i64 12,.int .u64 a,.int .u64 b]) [] 100 (valK [6,7])=some [.int .u64 (doF 12 a b),.int .i64 0]:=do_12 a b
theorem dq13 (a b:Int) (h:uB b=true):execC (lookF FL) scN1 1000 x74 (argTm 0 [.int .i64 13,.int .u64 a,.int .u64 b]) [] 100 (valK [6,7])=some [.int .u64 (doF 13 a b),.int .i64 0]:=do_13 a b
theorem dq14 (a b:Int) (h:uB b=true):execC (lookF FL) scN1 1000 x74 (argTm 0 [.int .i64 14,.int .u64 a,.int .u64 b]) [] 100 (valK [6,7])=some [.int .u64 (doF 14 a b),.int .i64 0]:=by
 rw[do_14,h];rfl
theorem dq15 (a b:Int) (h:uB b=true):execC (lookF FL) scN1 1000 x74 (argTm 0 [.int .i64 15,.int .u64 a,.int .u64 b]) [] 100 (valK [6,7])=some [.int .u64 (doF 15 a b),.int .i64 0]:=by
 rw[do_15,h];rfl
theorem dq16 (a b:Int) (h:uB b=true):execC (lookF FL) scN1 1000 x74 (argTm 0 [.int .i64 16,.int .u64 a,.int .u64 b]) [] 100 (valK [6,7])=some [.int .u64 (doF 16 a b),.int .i64 0]:=by
 rw[do_16,h];rfl
theorem dq17 (a b:Int) (h:uB b=true):execC (lookF FL) scN1 1000 x74 (argTm 0 [.int .i64 17,.int .u64 a,.int .u64 b]) [] 100 (valK [6,7])=some [.int .u64 (doF 17 a b),.int .i64 0]:=by
 rw[do_17,h];rfl
theorem dq18 (a b:Int) (h:uB b=true):execC (lookF FL) scN1 1000 x74 (argTm 0 [.int .i64 18,.int .u64 a,.int .u64 b]) [] 100 (valK [6,7])=some [.int .u64 (doF 18 a b),.int .i64 0]:=do_18 a b
theorem dq19 (a b:Int) (h:uB b=true):execC (lookF FL) scN1 1000 x74 (argTm 0 [.int .i64 19,.int .u64 a,.int .u64 b]) [] 100 (valK [6,7])=some [.int .u64 (doF 19 a b),.int .i64 0]:=do_19 a b
theorem dq20 (a b:Int) (h:uB b=true):execC (lookF FL) scN1 1000 x74 (argTm 0 [.int .i64 20,.int .u64 a,.int .u64 b]) [] 100 (valK [6,7])=some [.int .u64 (doF 20 a b),.int .i64 0]:=do_20 a b
theorem dq21 (a b:Int) (h:uB b=true):execC (lookF FL) scN1 1000 x74 (argTm 0 [.int .i64 21,.int .u64 a,.int .u64 b]) [] 100 (valK [6,7])=some [.int .u64 (doF 21 a b),.int .i64 0]:=do_21 a b
theorem dq22 (a b:Int) (h:uB b=true):execC (lookF FL) scN1 1000 x74 (argTm 0 [.int .i64 22,.int .u64 a,.int .u64 b]) [] 100 (valK [6,7])=some [.int .u64 (doF 22 a b),.int .i64 0]:=do_22 a b
theorem dq23 (a b:Int) (h:uB b=true):execC (lookF FL) scN1 1000 x74 (argTm 0 [.int .i64 23,.int .u64 a,.int .u64 b]) [] 100 (valK [6,7])=some [.int .u64 (doF 23 a b),.int .i64 0]:=do_23 a b
theorem dq24 (a b:Int) (h:uB b=true):execC (lookF FL) scN1 1000 x74 (argTm 0 [.int .i64 24,.int .u64 a,.int .u64 b]) [] 100 (valK [6,7])=some [.int .u64 (doF 24 a b),.int .i64 0]:=by
 rw[do_24,uB_nar];rfl
theorem dq25 (a b:Int) (h:uB b=true):execC (lookF FL) scN1 1000 x74 (argTm 0 [.int .i64 25,.int .u64 a,.int .u64 b]) [] 100 (valK [6,7])=some [.int .u64 (doF 25 a b),.int .i64 0]:=by
 rw[do_25,uB_nar];rfl
theorem dq26 (a b:Int) (h:uB b=true):execC (lookF FL) scN1 1000 x74 (argTm 0 [.int .i64 26,.int .u64 a,.int .u64 b]) [] 100 (valK [6,7])=some [.int .u64 (doF 26 a b),.int .i64 0]:=by
 rw[do_26,uB_nar];rfl
theorem dq27 (a b:Int) (h:uB b=true):execC (lookF FL) scN1 1000 x74 (argTm 0 [.int .i64 27,.int .u64 a,.int .u64 b]) [] 100 (valK [6,7])=some [.int .u64 (doF 27 a b),.int .i64 0]:=by
 rw[do_27,uB_nar];rfl
theorem c74 {op:Int} (h1:1<=op) (h2:op<=27) (a b:Int) (h:uB b=true) (n:Nat):ADet Try.prog 74 [.int .i64 op,.int .u64 a,.int .u64 b] [] (.tuple ⟨[.int .u64 (doF op a b),.int .i64 0]⟩) [] n 0:=by
 obtain⟨k,rfl⟩:∃ k:Nat,op=Int.ofNat k:=⟨op.toNat,by simp;omega⟩
 match k,h1,h2 with
 |1,_,_=>exact adet_tree FOKN1 1000 fx74 (by simp) [6,7] (dq1 a b h) rfl rfl rfl rfl n
 |2,_,_=>exact adet_tree FOKN1 1000 fx74 (by simp) [6,7] (dq2 a b h) rfl rfl rfl rfl n
 |3,_,_=>exact adet_tree FOKN1 1000 fx74 (by simp) [6,7] (dq3 a b h) rfl rfl rfl rfl n
 |4,_,_=>exact adet_tree FOKN1 1000 fx74 (by simp) [6,7] (dq4 a b h) rfl rfl rfl rfl n
 |5,_,_=>exact adet_tree FOKN1 1000 fx74 (by simp) [6,7] (dq5 a b h) rfl rfl rfl rfl n
 |6,_,_=>exact adet_tree FOKN1 1000 fx74 (by simp) [6,7] (dq6 a b h) rfl rfl rfl rfl n
 |7,_,_=>exact adet_tree FOKN1 1000 fx74 (by simp) [6,7] (dq7 a b h) rfl rfl rfl rfl n
 |8,_,_=>exact adet_tree FOKN1 1000 fx74 (by simp) [6,7] (dq8 a b h) rfl rfl rfl rfl n
 |9,_,_=>exact adet_tree FOKN1 1000 fx74 (by simp) [6,7] (dq9 a b h) rfl rfl rfl rfl n
 |10,_,_=>exact adet_tree FOKN1 1000 fx74 (by simp) [6,7] (dq10 a b h) rfl rfl rfl rfl n
 |11,_,_=>exact adet_tree FOKN1 1000 fx74 (by simp) [6,7] (dq11 a b h) rfl rfl rfl rfl n
 |12,_,_=>exact adet_tree FOKN1 1000 fx74 (by simp) [6,7] (dq12 a b h) rfl rfl rfl rfl n
 |13,_,_=>exact adet_tree FOKN1 1000 fx74 (by simp) [6,7] (dq13 a b h) rfl rfl rfl rfl n
 |14,_,_=>exact adet_tree FOKN1 1000 fx74 (by simp) [6,7] (dq14 a b h) rfl rfl rfl rfl n
 |15,_,_=>exact adet_tree FOKN1 1000 fx74 (by simp) [6,7] (dq15 a b h) rfl rfl rfl rfl n
 |16,_,_=>exact adet_tree FOKN1 1000 fx74 (by simp) [6,7] (dq16 a b h) rfl rfl rfl rfl n
 |17,_,_=>exact adet_tree FOKN1 1000 fx74 (by simp) [6,7] (dq17 a b h) rfl rfl rfl rfl n
 |18,_,_=>exact adet_tree FOKN1 1000 fx74 (by simp) [6,7] (dq18 a b h) rfl rfl rfl rfl n
 |19,_,_=>exact adet_tree FOKN1 1000 fx74 (by simp) [6,7] (dq19 a b h) rfl rfl rfl rfl n
 |20,_,_=>exact adet_tree FOKN1 1000 fx74 (by simp) [6,7] (dq20 a b h) rfl rfl rfl rfl n
 |21,_,_=>exact adet_tree FOKN1 1000 fx74 (by simp) [6,7] (dq21 a b h) rfl rfl rfl rfl n
 |22,_,_=>exact adet_tree FOKN1 1000 fx74 (by simp) [6,7] (dq22 a b h) rfl rfl rfl rfl n
 |23,_,_=>exact adet_tree FOKN1 1000 fx74 (by simp) [6,7] (dq23 a b h) rfl rfl rfl rfl n
 |24,_,_=>exact adet_tree FOKN1 1000 fx74 (by simp) [6,7] (dq24 a b h) rfl rfl rfl rfl n
 |25,_,_=>exact adet_tree FOKN1 1000 fx74 (by simp) [6,7] (dq25 a b h) rfl rfl rfl rfl n
 |26,_,_=>exact adet_tree FOKN1 1000 fx74 (by simp) [6,7] (dq26 a b h) rfl rfl rfl rfl n
 |27,_,_=>exact adet_tree FOKN1 1000 fx74 (by simp) [6,7] (dq27 a b h) rfl rfl rfl rfl n
 |0,h1,_=>exact absurd h1 (by decide)
 |k+28,_,h2=>exact absurd h2 (by simp;omega)
def con74:Con Try.prog where
 f:=74
 run:=fun vs _ _=>match vs with
  |[.int .i64 op,.int .u64 a,.int .u64 b]=>some ([],.tuple ⟨[.int .u64 (doF op a b),.int .i64 0]⟩,[],0,decide (1<=op)&&(decide (op<=27)&&uB b))
  |_=>none
 ok:=fun vs h n pre v upd news hx=>by
  split at hx
  ·simp only[Option.some.injEq,Prod.mk.injEq,Bool.and_eq_true,decide_eq_true_eq]at hx
   obtain⟨rfl,rfl,rfl,rfl,h1,h2,hu⟩:=hx
   exact⟨fun id hid=>by simp[fstL]at hid,c74 h1 h2 _ _ hu n⟩
  ·cases hx
def roundC {ι:Type} (R:ι->Act->World->Prop) (μ:ι->Nat) (k:ι) (Q:Exit->Act->World->Prop):Exit->Act->World->Prop:=fun e a w=>match e with
 | .normal=>∃ k',μ k'<μ k/\R k' a w
 |e=>Q e a w
theorem wp_loopC {P:Program}{ca:Code}{Q:Exit->Act->World->Prop}{ι:Type} (R:ι->Act->World->Prop) (μ:ι->Nat)
  (round:∀ k a w,R k a w->ca.wp P (roundC R μ k Q) a w) (k:ι) (a:Act) (w:World) (h:R k a w):(Code.loop ca).wp P Q a w:=by
 have hm:∀ m,∀ k a w,μ k=m->R k a w->∀ (b:Frame) (kk:List Item) (cs:List Frame),∃ e a' w',Q e a' w'/\Arrives P (lone (b.at a (.code ca :: .inLoop ca :: kk)) cs w) b kk cs e a' w':=by
  intro m
  induction m using Nat.strongRecOn with
  |_ m ih =>
   intro k a w hk hr b kk cs
   obtain⟨e,a₁,w₁,hq,harr⟩:=round k a w hr b (.inLoop ca :: kk) cs
   cases e with
   |normal =>
    obtain⟨k',hlt,hr'⟩:=hq
    obtain⟨e₂,a₂,w₂,hq₂,harr₂⟩:=ih (μ k') (hk▸hlt) k' a₁ w₁ rfl hr' b kk cs
    exact⟨e₂,a₂,w₂,hq₂,.of_steps (Steps.trans harr (.one step_inLoop)) harr₂⟩
   |exit id=>exact⟨_,a₁,w₁,hq,.pass (x:=.inLoop ca) rfl (fun _ _=>.inl (by simp)) harr⟩
   |goto l=>exact⟨_,a₁,w₁,hq,.pass (x:=.inLoop ca) rfl (fun _ _=>.inl (by simp)) harr⟩
   |ret=>exact⟨_,a₁,w₁,hq,.pass (x:=.inLoop ca) rfl (fun _ _=>.inl (by simp)) harr⟩
   |panic ch=>exact⟨_,a₁,w₁,hq,.pass (x:=.inLoop ca) rfl (fun _ _=>.inl (by simp)) harr⟩
   |outgrown=>exact⟨_,a₁,w₁,hq,.pass (x:=.inLoop ca) rfl (fun _ _=>.inl (by simp)) harr⟩
 intro b kk cs
 obtain⟨e,a',w',hq,harr⟩:=hm _ k a w rfl h b kk cs
 exact⟨e,a',w',hq,.of_steps (.one step_loop) harr⟩
end Go.X
