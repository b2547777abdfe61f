import Derived.Test.YtkghggngmpmigaaD22
import Derived.Test.YtkghggngmpmigaaRows
import Derived.WalkKit
import Derived.ProofKit
import Derived.OpenShut
import Derived.ChangeOld
import Derived.WideKeyPair
import Derived.Deep.Slices
import Derived.Below
import Derived.Test.YtkghggngmpmigaaD18
import Derived.Test.YtkghggngmpmigaaD28
set_option linter.all false
namespace Go.X
open Go Go.Proofs
attribute [local congr] cond_ctx
theorem t99 (b:Bool):execC (lookF FL) noSc 1000 x99 (argTm 0 [Value.bool b]) [] 100 (valK [2])=bif b then some [Value.int IntKind.u64 1]else some [Value.int IntKind.u64 0]:=by kernel_rfl
def bitF (b:Bool):Int:=bif b then 1 else 0
def mk99 (p:Int):Option (List Value):=some [Value.int IntKind.u64 p]
theorem mk99_cond (c:Bool) (p q:Int):mk99 (bif c then p else q)=bif c then mk99 p else mk99 q:=by cases c<;>rfl
theorem p99 (b:Bool):execC (lookF FL) noSc 1000 x99 (argTm 0 [Value.bool b]) [] 100 (valK [2])=mk99 (bitF b):=by
 rw[t99]
 try simp(contextual:=true) only[bn,bc]
 unfold bitF
 try simp only[mk99_cond]
 rfl
theorem c99 (b:Bool) (n:Nat):ADet Try.prog 73 [Value.bool b] [] (Value.int IntKind.u64 (bitF b)) [] n 0:=adet_tree FOK 1000 fx99 (by simp) [2] (p99 b) rfl rfl rfl rfl n
def g99:List Value->Option Value
 |[.bool b]=>some (Value.int IntKind.u64 (bitF b))
 |_=>none
def con99:Con Try.prog:=pureC 73 g99 fun vs v n h=>by
 unfold g99 at h
 split at h
 ·cases h;exact c99 _ n
 ·cases h
theorem t88 (op:Int):execC (lookF FL) noSc 1000 x88 (argTm 0 [Value.int IntKind.i64 op]) [] 100 (valK [2])=bif op==40 then bif op==40 then some [Value.int IntKind.i64 4]else bif op==41 then bif op==41 then some [Value.int IntKind.i64 8]else some [Value.int IntKind.i64 1]else bif op==44 then some [Value.int IntKind.i64 8]else some [Value.int IntKind.i64 1]else bif op==43 then some [Value.int IntKind.i64 4]else bif op==41 then bif op==41 then some [Value.int IntKind.i64 8]else some [Value.int IntKind.i64 1]else bif op==44 then some [Value.int IntKind.i64 8]else some [Value.int IntKind.i64 1]:=by kernel_rfl
def sizeF (op:Int):Int:=bif op==40 then 4 else bif op==43 then 4 else bif op==41 then 8 else bif op==44 then 8 else 1
def mk88 (p:Int):Option (List Value):=some [Value.int IntKind.i64 p]
theorem mk88_cond (c:Bool) (p q:Int):mk88 (bif c then p else q)=bif c then mk88 p else mk88 q:=by cases c<;>rfl
theorem p88 (op:Int):execC (lookF FL) noSc 1000 x88 (argTm 0 [Value.int IntKind.i64 op]) [] 100 (valK [2])=mk88 (sizeF op):=by
 rw[t88]
 try simp(contextual:=true) only[bn,bc]
 unfold sizeF
 try simp only[mk88_cond]
 rfl
theorem c88 (op:Int) (n:Nat):ADet Try.prog 71 [Value.int IntKind.i64 op] [] (Value.int IntKind.i64 (sizeF op)) [] n 0:=adet_tree FOK 1000 fx88 (by simp) [2] (p88 op) rfl rfl rfl rfl n
def g88:List Value->Option Value
 |[.int .i64 op]=>some (Value.int IntKind.i64 (sizeF op))
 |_=>none
def con88:Con Try.prog:=pureC 71 g88 fun vs v n h=>by
 unfold g88 at h
 split at h
 ·cases h;exact c88 _ n
 ·cases h
theorem t73 (k:Int):execC (lookF FL) noSc 1000 x73 (argTm 0 [Value.int IntKind.i64 k]) [] 100 (valK [2])=some [Value.int IntKind.u64 (IntKind.u64.wrap k)]:=by kernel_rfl
def ofF (k:Int):Int:=IntKind.u64.wrap k
def mk73 (p:Int):Option (List Value):=some [Value.int IntKind.u64 p]
theorem mk73_cond (c:Bool) (p q:Int):mk73 (bif c then p else q)=bif c then mk73 p else mk73 q:=by cases c<;>rfl
theorem p73 (k:Int):execC (lookF FL) noSc 1000 x73 (argTm 0 [Value.int IntKind.i64 k]) [] 100 (valK [2])=mk73 (ofF k):=by
 rw[t73]
 try simp(contextual:=true) only[bn,bc]
 unfold ofF
 try simp only[mk73_cond]
 rfl
theorem c73 (k:Int) (n:Nat):ADet Try.prog 58 [Value.int IntKind.i64 k] [] (Value.int IntKind.u64 (ofF k)) [] n 0:=adet_tree FOK 1000 fx73 (by simp) [2] (p73 k) rfl rfl rfl rfl n
def g73:List Value->Option Value
 |[.int .i64 k]=>some (Value.int IntKind.u64 (ofF k))
 |_=>none
def con73:Con Try.prog:=pureC 58 g73 fun vs v n h=>by
 unfold g73 at h
 split at h
 ·cases h;exact c73 _ n
 ·cases h
theorem t77 (op a b:Int):execC (lookF FL) noSc 1000 x77 (argTm 0 [Value.int IntKind.i64 op,Value.int IntKind.u64 a,Value.int IntKind.u64 b]) [] 100 (valK [6])=bif op==45 then bif op==45 then some [Value.bool ((a==b)==(op==45))]else bif op==47 then bif op==47 then some [Value.bool (decide (IntKind.i64.wrap a<IntKind.i64.wrap b)==(op==47))]else some [Value.bool (decide (a<b)==(op==49))]else bif op==48 then some [Value.bool (decide (IntKind.i64.wrap a<IntKind.i64.wrap b)==(op==47))]else some [Value.bool (decide (a<b)==(op==49))]else bif op==46 then some [Value.bool ((a==b)==(op==45))]else bif op==47 then bif op==47 then some [Value.bool (decide (IntKind.i64.wrap a<IntKind.i64.wrap b)==(op==47))]else some [Value.bool (decide (a<b)==(op==49))]else bif op==48 then some [Value.bool (decide (IntKind.i64.wrap a<IntKind.i64.wrap b)==(op==47))]else some [Value.bool (decide (a<b)==(op==49))]:=by kernel_rfl
def takenF (op a b:Int):Bool:=bif op==45||op==46 then(a==b)==(op==45)else bif op==47||op==48 then decide (IntKind.i64.wrap a<IntKind.i64.wrap b)==(op==47)else decide (a<b)==(op==49)
theorem p77 (op a b:Int):execC (lookF FL) noSc 1000 x77 (argTm 0 [Value.int IntKind.i64 op,Value.int IntKind.u64 a,Value.int IntKind.u64 b]) [] 100 (valK [6])=some [.bool (takenF op a b)]:=by
 rw[t77]
 unfold takenF
 cases op==45<;>cases op==46<;>cases op==47<;>cases op==48<;>rfl
theorem c77 (op a b:Int) (n:Nat):ADet Try.prog 62 [.int .i64 op,.int .u64 a,.int .u64 b] [] (.bool (takenF op a b)) [] n 0:=adet_tree FOK 1000 fx77 (by simp) [6] (p77 op a b) rfl rfl rfl rfl n
def g77:List Value->Option Value
 |[.int .i64 op,.int .u64 a,.int .u64 b]=>some (.bool (takenF op a b))
 |_=>none
def con77:Con Try.prog:=pureC 62 g77 fun vs v n h=>by
 unfold g77 at h
 split at h
 ·cases h;exact c77 _ _ _ n
 ·cases h
def uB (b:Int):Bool:=decide (0<=b)&&decide (b<18446744073709551616)
theorem uB_iff {b:Int}:uB b=true ↔ 0<=b/\b<18446744073709551616:=by simp[uB]
theorem i64_zero {b:Int} (h:uB b=true) (h0:(b==0)=false):decide (IntKind.i64.wrap b=0)=false:=by
 have h:=uB_iff.1 h
 have h0:b≠0:=by simpa using h0
 rw[IntKind.wrap_i64]
 simp
 omega
def partsF (op a b:Int):Int :=
 match op with
 |14=>bif b==0 then 18446744073709551615 else IntKind.u64.wrap (IntKind.i64.wrap ((IntKind.i64.wrap a).tdiv (IntKind.i64.wrap b)))
 |15=>bif b==0 then 18446744073709551615 else IntKind.u64.wrap (a.tdiv b)
 |16=>bif b==0 then a else IntKind.u64.wrap ((IntKind.i64.wrap a).tmod (IntKind.i64.wrap b))
 |_=>bif b==0 then a else a.tmod b
theorem pp14 (a b:Int):execC (lookF FL) noSc 1000 x86 (argTm 0 [Value.int IntKind.i64 14,Value.int IntKind.u64 a,Value.int IntKind.u64 b]) [] 100 (valK [6,7])=bif b==0 then some [Value.int IntKind.u64 18446744073709551615,Value.bool true]else bif (!decide (IntKind.i64.wrap b=0)&&true||false)&&true then some [Value.int IntKind.u64 (IntKind.u64.wrap (IntKind.i64.wrap ((IntKind.i64.wrap a).tdiv (IntKind.i64.wrap b)))),Value.bool true]else none:=by kernel_rfl
theorem pp15 (a b:Int):execC (lookF FL) noSc 1000 x86 (argTm 0 [Value.int IntKind.i64 15,Value.int IntKind.u64 a,Value.int IntKind.u64 b]) [] 100 (valK [6,7])=bif b==0 then some [Value.int IntKind.u64 18446744073709551615,Value.bool true]else bif (!decide (b=0)&&true||false)&&true then some [Value.int IntKind.u64 (IntKind.u64.wrap (a.tdiv b)),Value.bool true]else none:=by kernel_rfl
theorem pp16 (a b:Int):execC (lookF FL) noSc 1000 x86 (argTm 0 [Value.int IntKind.i64 16,Value.int IntKind.u64 a,Value.int IntKind.u64 b]) [] 100 (valK [6,7])=bif b==0 then some [Value.int IntKind.u64 a,Value.bool true]else bif (!decide (IntKind.i64.wrap b=0)&&true||false)&&true then some [Value.int IntKind.u64 (IntKind.u64.wrap ((IntKind.i64.wrap a).tmod (IntKind.i64.wrap b))),Value.bool true]else none:=by kernel_rfl
theorem pp17 (a b:Int):execC (lookF FL) noSc 1000 x86 (argTm 0 [Value.int IntKind.i64 17,Value.int IntKind.u64 a,Value.int IntKind.u64 b]) [] 100 (valK [6,7])=bif b==0 then some [Value.int IntKind.u64 a,Value.bool true]else bif (!decide (b=0)&&true||false)&&true then some [Value.int IntKind.u64 (a.tmod b),Value.bool true]else none:=by kernel_rfl
theorem nw8true (a:Int):execC (lookF FL) noSc 1000 x36 (argTm 0 [Value.int IntKind.u64 a,Value.int IntKind.i64 8,Value.bool true]) [] 100 (valK [6,7])=some [Value.int IntKind.u64 (IntKind.u64.wrap ((IntKind.i64.wrap (IntKind.u64.wrap (a*72057594037927936))).fdiv 72057594037927936)),Value.int IntKind.i64 0]:=by kernel_rfl
theorem nw8false (a:Int):execC (lookF FL) noSc 1000 x36 (argTm 0 [Value.int IntKind.u64 a,Value.int IntKind.i64 8,Value.bool false]) [] 100 (valK [6,7])=some [Value.int IntKind.u64 ((IntKind.u64.wrap (a*72057594037927936)).fdiv 72057594037927936),Value.int IntKind.i64 0]:=by kernel_rfl
theorem nw32true (a:Int):execC (lookF FL) noSc 1000 x36 (argTm 0 [Value.int IntKind.u64 a,Value.int IntKind.i64 32,Value.bool true]) [] 100 (valK [6,7])=some [Value.int IntKind.u64 (IntKind.u64.wrap ((IntKind.i64.wrap (IntKind.u64.wrap (a*4294967296))).fdiv 4294967296)),Value.int IntKind.i64 0]:=by kernel_rfl
theorem nw32false (a:Int):execC (lookF FL) noSc 1000 x36 (argTm 0 [Value.int IntKind.u64 a,Value.int IntKind.i64 32,Value.bool false]) [] 100 (valK [6,7])=some [Value.int IntKind.u64 ((IntKind.u64.wrap (a*4294967296)).fdiv 4294967296),Value.int IntKind.i64 0]:=by kernel_rfl
theorem nw64true (a:Int):execC (lookF FL) noSc 1000 x36 (argTm 0 [Value.int IntKind.u64 a,Value.int IntKind.i64 64,Value.bool true]) [] 100 (valK [6,7])=some [Value.int IntKind.u64 (IntKind.u64.wrap ((IntKind.i64.wrap (IntKind.u64.wrap (a*1))).fdiv 1)),Value.int IntKind.i64 0]:=by kernel_rfl
theorem nw64false (a:Int):execC (lookF FL) noSc 1000 x36 (argTm 0 [Value.int IntKind.u64 a,Value.int IntKind.i64 64,Value.bool false]) [] 100 (valK [6,7])=some [Value.int IntKind.u64 ((IntKind.u64.wrap (a*1)).fdiv 1),Value.int IntKind.i64 0]:=by kernel_rfl
theorem q86_14 (a b:Int) (h:uB b=true):execC (lookF FL) noSc 1000 x86 (argTm 0 [.int .i64 14,.int .u64 a,.int .u64 b]) [] 100 (valK [6,7])=some [.int .u64 (partsF 14 a b),.bool true]:=by
 rw[pp14]
 cases h0:(b==0)with
 |true=>simp only[partsF,h0,cond_true]
 |false =>
  have h1:decide (IntKind.i64.wrap b=0)=false:=i64_zero h h0
  simp only[partsF,h0,h1,cond_false,Bool.not_false,Bool.true_and,Bool.or_false,cond_true,Bool.and_true]
theorem c86_14 (a b:Int) (h:uB b=true) (n:Nat):ADet Try.prog 68 [.int .i64 14,.int .u64 a,.int .u64 b] [] (.tuple ⟨[.int .u64 (partsF 14 a b),.bool true]⟩) [] n 0:=adet_tree FOK 1000 fx86 (by simp) [6,7] (q86_14 a b h) rfl rfl rfl rfl n
theorem q86_15 (a b:Int) (h:uB b=true):execC (lookF FL) noSc 1000 x86 (argTm 0 [.int .i64 15,.int .u64 a,.int .u64 b]) [] 100 (valK [6,7])=some [.int .u64 (partsF 15 a b),.bool true]:=by
 rw[pp15]
 cases h0:(b==0)with
 |true=>simp only[partsF,h0,cond_true]
 |false =>
  have h1:decide (b=0)=false:=by simpa using h0
  simp only[partsF,h0,h1,cond_false,Bool.not_false,Bool.true_and,Bool.or_false,cond_true,Bool.and_true]
theorem c86_15 (a b:Int) (h:uB b=true) (n:Nat):ADet Try.prog 68 [.int .i64 15,.int .u64 a,.int .u64 b] [] (.tuple ⟨[.int .u64 (partsF 15 a b),.bool true]⟩) [] n 0:=adet_tree FOK 1000 fx86 (by simp) [6,7] (q86_15 a b h) rfl rfl rfl rfl n
theorem q86_16 (a b:Int) (h:uB b=true):execC (lookF FL) noSc 1000 x86 (argTm 0 [.int .i64 16,.int .u64 a,.int .u64 b]) [] 100 (valK [6,7])=some [.int .u64 (partsF 16 a b),.bool true]:=by
 rw[pp16]
 cases h0:(b==0)with
 |true=>simp only[partsF,h0,cond_true]
 |false =>
  have h1:decide (IntKind.i64.wrap b=0)=false:=i64_zero h h0
  simp only[partsF,h0,h1,cond_false,Bool.not_false,Bool.true_and,Bool.or_false,cond_true,Bool.and_true]
theorem c86_16 (a b:Int) (h:uB b=true) (n:Nat):ADet Try.prog 68 [.int .i64 16,.int .u64 a,.int .u64 b] [] (.tuple ⟨[.int .u64 (partsF 16 a b),.bool true]⟩) [] n 0:=adet_tree FOK 1000 fx86 (by simp) [6,7] (q86_16 a b h) rfl rfl rfl rfl n
theorem q86_17 (a b:Int) (h:uB b=true):execC (lookF FL) noSc 1000 x86 (argTm 0 [.int .i64 17,.int .u64 a,.int .u64 b]) [] 100 (valK [6,7])=some [.int .u64 (partsF 17 a b),.bool true]:=by
 rw[pp17]
 cases h0:(b==0)with
 |true=>simp only[partsF,h0,cond_true]
 |false =>
  have h1:decide (b=0)=false:=by simpa using h0
  simp only[partsF,h0,h1,cond_false,Bool.not_false,Bool.true_and,Bool.or_false,cond_true,Bool.and_true]
theorem c86_17 (a b:Int) (h:uB b=true) (n:Nat):ADet Try.prog 68 [.int .i64 17,.int .u64 a,.int .u64 b] [] (.tuple ⟨[.int .u64 (partsF 17 a b),.bool true]⟩) [] n 0:=adet_tree FOK 1000 fx86 (by simp) [6,7] (q86_17 a b h) rfl rfl rfl rfl n
def con86:Con Try.prog where
 f:=68
 run:=fun vs _ _=>match vs with
  |[.int .i64 14,.int .u64 a,.int .u64 b]=>some ([],.tuple ⟨[.int .u64 (partsF 14 a b),.bool true]⟩,[],0,uB b)
  |[.int .i64 15,.int .u64 a,.int .u64 b]=>some ([],.tuple ⟨[.int .u64 (partsF 15 a b),.bool true]⟩,[],0,uB b)
  |[.int .i64 16,.int .u64 a,.int .u64 b]=>some ([],.tuple ⟨[.int .u64 (partsF 16 a b),.bool true]⟩,[],0,uB b)
  |[.int .i64 17,.int .u64 a,.int .u64 b]=>some ([],.tuple ⟨[.int .u64 (partsF 17 a b),.bool true]⟩,[],0,uB b)
  |_=>none
 ok:=fun vs h n pre v upd news hx=>by
  split at hx<;>first
   |(simp only[Option.some.injEq,Prod.mk.injEq]at hx
     obtain⟨rfl,rfl,rfl,rfl,hu⟩:=hx
     refine⟨fun id hid=>by simp[fstL]at hid,?_⟩
     first|exact c86_14 _ _ hu n|exact c86_15 _ _ hu n|exact c86_16 _ _ hu n|exact c86_17 _ _ hu n)
   |cases hx
def narF (k:Int) (s:Bool) (a:Int):Int :=
 match k with
 |8=>bif s then IntKind.u64.wrap ((IntKind.i64.wrap (IntKind.u64.wrap (a*72057594037927936))).fdiv 72057594037927936)else(IntKind.u64.wrap (a*72057594037927936)).fdiv 72057594037927936
 |32=>bif s then IntKind.u64.wrap ((IntKind.i64.wrap (IntKind.u64.wrap (a*4294967296))).fdiv 4294967296)else(IntKind.u64.wrap (a*4294967296)).fdiv 4294967296
 |_=>bif s then IntKind.u64.wrap ((IntKind.i64.wrap (IntKind.u64.wrap (a*1))).fdiv 1)else(IntKind.u64.wrap (a*1)).fdiv 1
theorem c36_8 (s:Bool) (a:Int) (n:Nat):ADet Try.prog 70 [.int .u64 a,.int .i64 8,.bool s] [] (.tuple ⟨[.int .u64 (narF 8 s a),.int .i64 0]⟩) [] n 0:=by
 cases s
 ·exact adet_tree FOK 1000 fx36 (by simp) [6,7] (nw8false a) rfl rfl rfl rfl n
 ·exact adet_tree FOK 1000 fx36 (by simp) [6,7] (nw8true a) rfl rfl rfl rfl n
theorem c36_32 (s:Bool) (a:Int) (n:Nat):ADet Try.prog 70 [.int .u64 a,.int .i64 32,.bool s] [] (.tuple ⟨[.int .u64 (narF 32 s a),.int .i64 0]⟩) [] n 0:=by
 cases s
 ·exact adet_tree FOK 1000 fx36 (by simp) [6,7] (nw32false a) rfl rfl rfl rfl n
 ·exact adet_tree FOK 1000 fx36 (by simp) [6,7] (nw32true a) rfl rfl rfl rfl n
theorem c36_64 (s:Bool) (a:Int) (n:Nat):ADet Try.prog 70 [.int .u64 a,.int .i64 64,.bool s] [] (.tuple ⟨[.int .u64 (narF 64 s a),.int .i64 0]⟩) [] n 0:=by
 cases s
 ·exact adet_tree FOK 1000 fx36 (by simp) [6,7] (nw64false a) rfl rfl rfl rfl n
 ·exact adet_tree FOK 1000 fx36 (by simp) [6,7] (nw64true a) rfl rfl rfl rfl n
def g36:List Value->Option Value
 |[.int .u64 a,.int .i64 8,.bool s]=>some (.tuple ⟨[.int .u64 (narF 8 s a),.int .i64 0]⟩)
 |[.int .u64 a,.int .i64 32,.bool s]=>some (.tuple ⟨[.int .u64 (narF 32 s a),.int .i64 0]⟩)
 |[.int .u64 a,.int .i64 64,.bool s]=>some (.tuple ⟨[.int .u64 (narF 64 s a),.int .i64 0]⟩)
 |_=>none
def con36:Con Try.prog:=pureC 70 g36 fun vs v n h=>by
 unfold g36 at h
 split at h
 ·cases h;exact c36_8 _ _ n
 ·cases h;exact c36_32 _ _ n
 ·cases h;exact c36_64 _ _ n
 ·cases h
abbrev scN1:Short:=scOf [con99,con86,con36]
theorem FOKN1:FnsOK Try.prog (lookF FL) scN1:=fok FOK _
theorem call_ro {P:Program}{f:FuncId}{vs:List Value}{b:Bool}{n0:Nat}{pre:Hp}{args:Array Value}{w:World} (h:Body P f vs pre (.bool b) [] n0 0) (ρ:Rn) (hd:∀ id,n0<=id->ρ id=none)
  (hr:RelH P ρ (hget pre) w) (hro:∀ id b,hget pre id=some b->b.ro=true) (ha:VL ρ vs args.toList) :
  Calls P f args w fun e w'=>e=.returned (.bool b)/\Go.RowKit.Below w.heap.size w w':=by
 refine(h.2 ρ w args ha hr hd).mono fun e w' he=>?_
 cases e with
 |returned c =>
  obtain⟨ρ',good,hv⟩:=he
  rw[v_bool hv]
  refine⟨rfl,good.fr.os,good.fr.tape,good.fr.output,good.fr.size,fun k hk=>good.fr.block k hk ?_⟩
  rintro⟨id,b,l,h0,h1,_⟩
  rw[hro id b h0]at h1;cases h1
 |_=>exact he.elim
structure RoIn where
 id:Nat
 a:Addr
 n:Nat
 k:IntKind
 f:Nat->Int
def RoIn.blk (x:RoIn):Nat × Blk:=(x.id,.rows x.n 1 (fun j=>[.int x.k (x.f j)]) false true)
theorem v_in {ρ:Rn}{b:Bool}{a:Addr}{id L C:Nat} (h:b=true->ρ id=some ⟨a,1,0⟩):V ρ (bif b then .slice (some ⟨id,0,none⟩) L C else .slice none 0 0) (bif b then .slice (some a) L C else .slice none 0 0):=by
 cases b with
 |false=>exact .snil
 |true=>have h:=V.slc (ρ:=ρ) (id:=id) (idx:=0) (l:=⟨a,1,0⟩) (len:=L) (cap:=C) (h rfl);simpa [Addr.add]using h
end Go.X
namespace Go.X
open Go Go.Proofs Go.ChangeShapes Go.WideShapes Go.WideMaps
section
variable {H:Type}{enc:TypeId × Value->H}{P:Program}{k e:TypeId}{q:IntKind}{W:World}{base:Nat}{sp:Nat->Bool}{held:Bool}
end
end Go.X
namespace Go.X
open Go Go.Proofs
attribute [local congr] cond_ctx
end Go.X
