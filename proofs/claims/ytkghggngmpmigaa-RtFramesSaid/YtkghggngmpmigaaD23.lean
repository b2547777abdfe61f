import Derived.Test.YtkghggngmpmigaaD22
set_option linter.all false
namespace Go.X
open Go Go.Proofs
theorem t71 (op:Int):execC (lookF FL) scB 1000 x71 (argTm 0 [Value.int IntKind.i64 op]) [] 100 (valK [2,3])=some
 [Value.int IntKind.i64 (roomF (rowOf (Value.int IntKind.i64 op)).fst).1,
  Value.int IntKind.i64 (roomF (rowOf (Value.int IntKind.i64 op)).fst).2]:=by kernel_rfl
def roomOp (op:Int):Int × Int:=((roomF (rowOf (Value.int IntKind.i64 op)).fst).1,(roomF (rowOf (Value.int IntKind.i64 op)).fst).2)
def mk71 (p:Int × Int):Option (List Value):=some [Value.int IntKind.i64 p.1,Value.int IntKind.i64 p.2]
theorem mk71_cond (c:Bool) (p q:Int × Int):mk71 (bif c then p else q)=bif c then mk71 p else mk71 q:=by cases c<;>rfl
theorem p71 (op:Int):execC (lookF FL) scB 1000 x71 (argTm 0 [Value.int IntKind.i64 op]) [] 100 (valK [2,3])=mk71 (roomOp op):=by
 rw[t71]
 try simp only[Bool.or_not_self,Bool.not_or_self,Bool.and_true,Bool.true_and,Bool.or_false,Bool.false_or,Bool.or_true,Bool.true_or,Bool.and_false,Bool.false_and,Bool.not_not,Bool.not_true,Bool.not_false,cond_true,cond_false,Bool.and_self,Bool.or_self,Bool.cond_true_left,Bool.cond_false_right,Bool.cond_true_right,Bool.cond_false_left,Bool.cond_self,cc_tt,cc_ff]
 unfold roomOp
 try simp only[mk71_cond]
 rfl
theorem c71 (op:Int) (n:Nat):ADet Try.prog 54 [Value.int IntKind.i64 op] [] (Value.tuple ⟨[Value.int IntKind.i64 (roomOp op).1,Value.int IntKind.i64 (roomOp op).2]⟩) [] n 0:=adet_tree FOKB 1000 fx71 (by simp) [2,3] (p71 op) rfl rfl rfl rfl n
def g71:List Value->Option Value
 |[.int .i64 op]=>some (Value.tuple ⟨[Value.int IntKind.i64 (roomOp op).1,Value.int IntKind.i64 (roomOp op).2]⟩)
 |_=>none
def con71:Con Try.prog:=pureC 54 g71 fun vs v n h=>by
 unfold g71 at h
 split at h
 ·cases h;exact c71 _ n
 ·cases h
abbrev scC:Short:=scOf [con43,con18,con44,con52,con54,con55,con56,con71]
theorem FOKC:FnsOK Try.prog (lookF FL) scC:=fok FOK _
theorem t53 (op:Int) (by_:Int):execC (lookF FL) scC 1000 x53 (argTm 0 [Value.int IntKind.i64 op,Value.int IntKind.i64 by_]) [] 100 (valK [4])=bif
  ((decide (by_>=(roomF (rowOf (Value.int IntKind.i64 op)).fst).1) ||
      !decide (by_>=(roomF (rowOf (Value.int IntKind.i64 op)).fst).1)) &&
     true ||
    false) &&
   ((decide (by_>=(roomF (rowOf (Value.int IntKind.i64 op)).fst).1) &&
      (decide (by_>=(roomF (rowOf (Value.int IntKind.i64 op)).fst).1)&&true) ||
     !decide (by_>=(roomF (rowOf (Value.int IntKind.i64 op)).fst).1)) &&
    true)then
 some
  [Value.bool
    (bif decide (by_>=(roomF (rowOf (Value.int IntKind.i64 op)).fst).1)then
     decide (by_<=(roomF (rowOf (Value.int IntKind.i64 op)).fst).2)
    else false)]
else none:=by kernel_rfl
def fitsF (op:Int) (by_:Int):Bool:=decide (by_>=(roomF (rowOf (Value.int IntKind.i64 op)).fst).1) &&
 decide (by_<=(roomF (rowOf (Value.int IntKind.i64 op)).fst).2)
def mk53 (p:Bool):Option (List Value):=some [Value.bool p]
theorem mk53_cond (c:Bool) (p q:Bool):mk53 (bif c then p else q)=bif c then mk53 p else mk53 q:=by cases c<;>rfl
theorem p53 (op:Int) (by_:Int):execC (lookF FL) scC 1000 x53 (argTm 0 [Value.int IntKind.i64 op,Value.int IntKind.i64 by_]) [] 100 (valK [4])=mk53 (fitsF op by_):=by
 rw[t53]
 try simp only[Bool.or_not_self,Bool.not_or_self,Bool.and_true,Bool.true_and,Bool.or_false,Bool.false_or,Bool.or_true,Bool.true_or,Bool.and_false,Bool.false_and,Bool.not_not,Bool.not_true,Bool.not_false,cond_true,cond_false,Bool.and_self,Bool.or_self,Bool.cond_true_left,Bool.cond_false_right,Bool.cond_true_right,Bool.cond_false_left,Bool.cond_self,cc_tt,cc_ff]
 unfold fitsF
 try simp only[mk53_cond]
 rfl
theorem c53 (op:Int) (by_:Int) (n:Nat):ADet Try.prog 37 [Value.int IntKind.i64 op,Value.int IntKind.i64 by_] [] (Value.bool (fitsF op by_)) [] n 0:=adet_tree FOKC 1000 fx53 (by simp) [4] (p53 op by_) rfl rfl rfl rfl n
def g53:List Value->Option Value
 |[.int .i64 op,.int .i64 by_]=>some (Value.bool (fitsF op by_))
 |_=>none
def con53:Con Try.prog:=pureC 37 g53 fun vs v n h=>by
 unfold g53 at h
 split at h
 ·cases h;exact c53 _ _ n
 ·cases h
theorem t51 (lb:ByteArray) (op:Int) (rd:Int) (rs1:Int) (rs2:Int) (imm:Int) (to:ByteArray) (part:Int):execC (lookF FL) scC 1000 x51 (argTm 0 [Value.agg
  (Array.mk
   [Value.string lb,Value.int IntKind.i64 op,Value.int IntKind.i64 rd,Value.int IntKind.i64 rs1,
    Value.int IntKind.i64 rs2,Value.int IntKind.i64 imm,Value.string to,Value.int IntKind.i64 part])]) [] 100 (valK [2])=bif !lb.toList==(ByteArray.mk #[]).toList then
 bif
   (((bif op == 0&&(rd==0&&(rs1==0&&(rs2==0&&(imm==0&&true))))then
             to.toList==(ByteArray.mk #[]).toList
       else false) ||
       !bif op==0&&(rd==0&&(rs1==0&&(rs2==0&&(imm==0&&true))))then
         to.toList==(ByteArray.mk #[]).toList
        else false) &&
      true ||
     false) &&
    (((bif op==0&&(rd==0&&(rs1==0&&(rs2==0&&(imm==0&&true))))then
        to.toList==(ByteArray.mk #[]).toList
       else false) &&
       true ||
      !bif op==0&&(rd==0&&(rs1==0&&(rs2==0&&(imm==0&&true))))then
        to.toList==(ByteArray.mk #[]).toList
       else false) &&
     (((bif op==0&&(rd==0&&(rs1==0&&(rs2==0&&(imm==0&&true))))then
         to.toList==(ByteArray.mk #[]).toList
        else false) &&
        true ||
       !bif op==0&&(rd==0&&(rs1==0&&(rs2==0&&(imm==0&&true))))then
         to.toList==(ByteArray.mk #[]).toList
        else false) &&
      (((op == 0&&(rd==0&&(rs1==0&&(rs2==0&&(imm==0&&true)))) ||
          !(op==0&&(rd==0&&(rs1==0&&(rs2==0&&(imm==0&&true)))))) &&
            true ||
        false) &&
       ((op==0&&(rd==0&&(rs1==0&&(rs2==0&&(imm==0&&true))))&&true ||
         !(op==0&&(rd==0&&(rs1==0&&(rs2==0&&(imm==0&&true)))))) &&
        ((op==0&&(rd==0&&(rs1==0&&(rs2==0&&(imm==0&&true))))&&true ||
          !(op==0&&(rd==0&&(rs1==0&&(rs2==0&&(imm==0&&true)))))) &&
         true)))))then
  some
   [Value.bool
     (bif
       bif op==0&&(rd==0&&(rs1==0&&(rs2==0&&(imm==0&&true))))then
        to.toList==(ByteArray.mk #[]).toList
       else false then
      part==0
     else false)]
 else none
else
 bif (encF op rd rs1 rs2 imm).2 != 0 then some [Value.bool false]
 else
  bif to.toList==(ByteArray.mk #[]).toList then some [Value.bool (part==0)]
  else
   bif
     ((!(decide (op>=45)&&decide (op<=50))||decide (op>=45)&&decide (op<=50))&&true||false) &&
      ((!(decide (op>=45)&&decide (op<=50))&&true||!!(decide (op>=45)&&decide (op<=50))) &&
       ((!(decide (op>=45)&&decide (op<=50))&&true||!!(decide (op>=45)&&decide (op<=50))) &&
        ((!(decide (op>=45)&&decide (op<=50))&&true||!!(decide (op>=45)&&decide (op<=50))) &&
         true)))then
    bif bif decide (op>=45)&&decide (op<=50)then true else op==53 then
     bif
       ((part==0||!part==0)&&true||false) &&
        ((part==0&&true||!part==0) &&
         ((part==0&&true||!part==0)&&((part==0&&true||!part==0)&&true)))then
      some [Value.bool (bif part==0 then imm==0 else false)]
     else none
    else
     bif op==51 then
      bif
        ((part==1||!part==1)&&true||false) &&
         ((part==1&&true||!part==1) &&
          ((part==1&&true||!part==1)&&((part==1&&true||!part==1)&&true)))then
       some [Value.bool (bif part==1 then imm==0 else false)]
      else none
     else
      bif op==28 then
       bif
         ((part==2||!part==2)&&true||false) &&
          ((part==2&&true||!part==2) &&
           ((part==2&&true||!part==2)&&((part==2&&true||!part==2)&&true)))then
        some [Value.bool (bif part==2 then imm==0 else false)]
       else none
      else some [Value.bool false]
   else none:=by kernel_rfl
def goodF (lb:ByteArray) (op:Int) (rd:Int) (rs1:Int) (rs2:Int) (imm:Int) (to:ByteArray) (part:Int):Bool:=bif !lb.toList==(ByteArray.mk #[]).toList then
 op==0&&(rd==0&&(rs1==0&&(rs2==0&&imm==0)))&&to.toList==(ByteArray.mk #[]).toList&&part==0
else
 bif (encF op rd rs1 rs2 imm).2 != 0 then false
 else
  bif to.toList==(ByteArray.mk #[]).toList then part==0
  else
   bif decide (op>=45)&&decide (op<=50)||op==53 then part==0&&imm==0
   else bif op==51 then part==1&&imm==0 else bif op==28 then part==2&&imm==0 else false
def mk51 (p:Bool):Option (List Value):=some [Value.bool p]
theorem mk51_cond (c:Bool) (p q:Bool):mk51 (bif c then p else q)=bif c then mk51 p else mk51 q:=by cases c<;>rfl
theorem p51 (lb:ByteArray) (op:Int) (rd:Int) (rs1:Int) (rs2:Int) (imm:Int) (to:ByteArray) (part:Int):execC (lookF FL) scC 1000 x51 (argTm 0 [Value.agg
  (Array.mk
   [Value.string lb,Value.int IntKind.i64 op,Value.int IntKind.i64 rd,Value.int IntKind.i64 rs1,
    Value.int IntKind.i64 rs2,Value.int IntKind.i64 imm,Value.string to,Value.int IntKind.i64 part])]) [] 100 (valK [2])=mk51 (goodF lb op rd rs1 rs2 imm to part):=by
 rw[t51]
 try simp only[Bool.or_not_self,Bool.not_or_self,Bool.and_true,Bool.true_and,Bool.or_false,Bool.false_or,Bool.or_true,Bool.true_or,Bool.and_false,Bool.false_and,Bool.not_not,Bool.not_true,Bool.not_false,cond_true,cond_false,Bool.and_self,Bool.or_self,Bool.cond_true_left,Bool.cond_false_right,Bool.cond_true_right,Bool.cond_false_left,Bool.cond_self,cc_tt,cc_ff]
 unfold goodF
 try simp only[mk51_cond]
 rfl
theorem c51 (lb:ByteArray) (op:Int) (rd:Int) (rs1:Int) (rs2:Int) (imm:Int) (to:ByteArray) (part:Int) (n:Nat):ADet Try.prog 35 [Value.agg
  (Array.mk
   [Value.string lb,Value.int IntKind.i64 op,Value.int IntKind.i64 rd,Value.int IntKind.i64 rs1,
    Value.int IntKind.i64 rs2,Value.int IntKind.i64 imm,Value.string to,Value.int IntKind.i64 part])] [] (Value.bool (goodF lb op rd rs1 rs2 imm to part)) [] n 0:=adet_tree FOKC 1000 fx51 (by simp) [2] (p51 lb op rd rs1 rs2 imm to part) rfl rfl rfl rfl n
def g51:List Value->Option Value
 |[.agg ⟨[.string lb,.int .i64 op,.int .i64 rd,.int .i64 rs1,.int .i64 rs2,.int .i64 imm,.string to,.int .i64 part]⟩]=>some (Value.bool (goodF lb op rd rs1 rs2 imm to part))
 |_=>none
def con51:Con Try.prog:=pureC 35 g51 fun vs v n h=>by
 unfold g51 at h
 split at h
 ·cases h;exact c51 _ _ _ _ _ _ _ _ n
 ·cases h
abbrev scD:Short:=scOf [con43,con18,con44,con52,con54,con55,con56,con71,con53,con51]
theorem FOKD:FnsOK Try.prog (lookF FL) scD:=fok FOK _
structure Its where
 lb:Nat->ByteArray
 to:Nat->ByteArray
 op:Nat->Int
 rd:Nat->Int
 rs1:Nat->Int
 rs2:Nat->Int
 imm:Nat->Int
 part:Nat->Int
def Its.row (I:Its):Nat->List Value:=fun j=>[.string (I.lb j),.int .i64 (I.op j),.int .i64 (I.rd j),.int .i64 (I.rs1 j),.int .i64 (I.rs2 j),.int .i64 (I.imm j),.string (I.to j),.int .i64 (I.part j)]
structure LMap where
 n:Nat
 has:Value->Bool
 val:Value->Int
def LMap.blk (m:LMap):Blk:=.map 9 3 m.n m.has (fun q=>.int .i64 (m.val q))
def ints (f:Nat->Int):Nat->List Value:=fun j=>[.int .i64 (f j)]
def bools (f:Nat->Bool):Nat->List Value:=fun j=>[.bool (f j)]
def laidB (N C:Nat) (at_:Int):Blk:=.var [.slice (some ⟨2,0,none⟩) N C,.slice (some ⟨100,0,none⟩) N N,.int .i64 at_,.map (some 101),.slice (some ⟨102,0,none⟩) N N]
def laidH (N C:Nat) (at_:Int) (I:Its) (wd:Nat->Bool) (m:LMap) (pl:Nat->Int):List (Nat × Blk) :=
 [(103,laidB N C at_),(2,.rows N 8 I.row false true),(100,.rows N 1 (bools wd) false false),(101,m.blk),(102,.rows N 1 (ints pl) false false)]
def laidL (N C:Nat) (at_:Int) (I:Its) (wd:Nat->Bool) (m:LMap) (pl:Nat->Int):List (Nat × Blk) :=
 [(101,m.blk),(102,.rows N 1 (ints pl) false false),(103,laidB N C at_),(2,.rows N 8 I.row false true),(100,.rows N 1 (bools wd) false false)]
def laidW (N C:Nat) (at_:Int) (I:Its) (wd:Nat->Bool) (m:LMap) (pl:Nat->Int):List (Nat × Blk) :=
 [(100,.rows N 1 (bools wd) false false),(103,laidB N C at_),(2,.rows N 8 I.row false true),(101,m.blk),(102,.rows N 1 (ints pl) false false)]
def laidM (N C:Nat) (at_:Int) (I:Its) (wd:Nat->Bool) (m:LMap) (pl:Nat->Int):List (Nat × Blk) :=
 [(101,m.blk),(103,laidB N C at_),(2,.rows N 8 I.row false true),(100,.rows N 1 (bools wd) false false),(102,.rows N 1 (ints pl) false false)]
def pp:Value:=.pointer (some ⟨103,0,some 0⟩)
def isE (s:ByteArray):Bool:=s.toList==(ByteArray.mk #[]).toList
def upd {α:Type} (f:Nat->α) (k:Nat) (v:α):Nat->α:=fun j=>cond (Nat.beq j k) v (f j)
def LMap.set (m:LMap) (s:ByteArray) (v:Int):LMap:=⟨bif m.has (.string s)then m.n else m.n+1,fun q=>keq q (.string s)||m.has q,fun q=>bif keq q (.string s)then v else m.val q⟩
theorem rowSet_ints (f:Nat->Int) (k:Nat) (v:Int):rowSet (ints f) k [.int .i64 v]=ints (upd f k v):=by
 funext j;simp only[rowSet,ints,upd];cases Nat.beq j k<;>rfl
theorem rowSet_bools (f:Nat->Bool) (k:Nat) (v:Bool):rowSet (bools f) k [.bool v]=bools (upd f k v):=by
 funext j;simp only[rowSet,bools,upd];cases Nat.beq j k<;>rfl
theorem lmap_set (m:LMap) (s:ByteArray) (v:Int):Blk.map 9 3 (bif m.has (.string s)then m.n else m.n+1) (fun q=>keq q (.string s)||m.has q) (fun q=>bif keq q (.string s)then .int .i64 v else .int .i64 (m.val q))=(m.set s v).blk:=by
 simp only[LMap.blk,LMap.set]
 congr 1
 funext q;cases keq q (.string s)<;>rfl
theorem lmap_same (m:LMap):Blk.map 9 3 m.n m.has (fun q=>.int .i64 (m.val q))=m.blk:=rfl
theorem wrap_i {n:Int} (h:-9223372036854775808<=n) (h':n<9223372036854775808):IntKind.i64.wrap n=n:=by
 rw[IntKind.wrap_i64]
 omega
theorem wrap_succ {k N:Nat} (h:k<N) (hN:N<9223372036854775808):IntKind.i64.wrap ((k:Int)+1)=((k+1:Nat):Int):=by
 rw[wrap_i (by omega) (by omega)];omega
end Go.X
