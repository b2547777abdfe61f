import Derived.Test.YtghpjlmaamnnpaaDoorH01
set_option linter.all false
namespace Go.X
open Go
inductive LK where
 |agg
 |one
 |int (k:IntKind)
 |bool
 |str
def LK.isAgg:LK → Bool
 | .agg=>true
 |_=>false
inductive XOp where
 |mv (x:Operand)
 |pick (c a b:Operand)
 |new (row:List Value)
 |box (x:Operand)
 |build (zero:List Value) (parts:List (Nat × Nat × Operand))
 |mkslice (zero:List Value) (len:Nat) (parts:List (Nat × Operand))
 |load (lk:LK) (n:Nat) (x:Operand)
 |store (n:Nat) (a v:Operand)
 |nilck (x:Operand)
 |bin (op:BinOp) (x y:Operand)
 |eqb (neg:Bool) (x y:Operand)
 |eqnil (kind:Nat) (neg:Bool) (x y:Operand)
 |eqagg (neg:Bool) (ks:List Nat) (x y:Operand)
 |un (op:UnOp) (x:Operand)
 |conv (k:IntKind) (x:Operand)
 |same (x:Operand)
 |s2b (x:Operand)
 |b2s (x:Operand)
 |mkif (t:TypeId) (x:Operand)
 |mkfunc (fn:Fn) (nfirst:Nat) (xs:List Operand)
 |mkmap (kt et:TypeId) (zero:Value)
 |lookup (kt et:TypeId) (kd:TypeDesc) (zero:Value) (ok:Bool) (m k:Operand)
 |mapupd (kt et:TypeId) (kd:TypeDesc) (m k v:Operand)
 |mks (zero:List Value) (bytes:Nat) (l c:Operand)
 |slS (size:Nat) (x:Operand) (lo hi:Option Operand)
 |slStr (x:Operand) (lo hi:Option Operand)
 |slArr (n size:Nat) (x:Operand) (lo hi:Option Operand)
 |faddr (off:Nat) (x:Operand)
 |field (lk:LK) (off n:Nat) (x:Operand)
 |iaddrS (size:Nat) (x i:Operand)
 |iaddrA (dyn:Bool) (len size:Nat) (x i:Operand)
 |idxA (len size:Nat) (lk:LK) (x i:Operand)
 |idxStr (x i:Operand)
 |ext (x:Operand) (i:Nat)
 |lenS (x:Operand)
 |lenStr (x:Operand)
 |lenM (x:Operand)
 |app (size bytes:Nat) (s x:Operand)
 |cpy (size:Nat) (d s:Operand)
 |minmax (isMax:Bool) (xs:List Operand)
def okc1:Value → Bool
 | .bool _|.int _ _|.string _|.nilFunc|.nilIface|.pointer none|.map none=>true
 | .slice none 0 0=>true
 |_=>false
def okc:Value → Bool
 | .agg cs=>cs.toList.all okc1
 | .tuple cs=>cs.toList.all okc1
 |v=>okc1 v
def ev (t:Tm):Operand → Option (Bool × Value)
 | .tmp k=>look t k
 | .const v=>cond (okc v) (some (true,v)) none
 | .func f=>some (true,.func (.func f) #[] #[])
 | .global _=>none
def evs (t:Tm):List Operand → Option (Bool × List Value)
 |[]=>some (true,[])
 |x :: xs=>match ev t x,evs t xs with
  |some (c,v),some (d,vs)=>some (c&&d,v :: vs)
  |_,_=>none
def undefd:Value:=.tuple #[]
def vcells:Value → List Value
 | .agg cs=>cs.toList
 |v=>[v]
def putAt:List Value → Nat → List Value → List Value
 |l,0,vs=>vs++l.drop vs.length
 |x :: l,k+1,vs=>x :: putAt l k vs
 |[],_+1,_=>[]
def slab (l:List Value) (off n:Nat):List Value:=(l.drop off).take n
def asI:Value → Int
 | .int _ n=>n
 |_=>0
def isI (k:IntKind):Value → Bool
 | .int k' _=>decide (k=k')
 |_=>false
def asB:Value → Bool
 | .bool b=>b
 |_=>false
def isB:Value → Bool
 | .bool _=>true
 |_=>false
def asS:Value → ByteArray
 | .string s=>s
 |_=>.empty
def isS:Value → Bool
 | .string _=>true
 |_=>false
def byteAt (s:ByteArray) (i:Nat):Int:=((s.data.toList.getD i 0).toNat:Int)
structure Res where
 v:Value
 upd:List (Nat × Option Blk)
 news:Nat
 ok:Bool
def rv (v:Value) (ok:Bool:=true):Option Res:=some ⟨v,[],0,ok⟩
def fz (v:Value) (k:Value → Option Res):Option Res :=
 match v with
 | .bool b=>k (.bool b)
 | .int a b=>k (.int a b)
 | .float a b=>k (.float a b)
 | .complex a b c=>k (.complex a b c)
 | .string s=>k (.string s)
 | .pointer a=>k (.pointer a)
 | .slice a l c=>k (.slice a l c)
 | .map a=>k (.map a)
 | .chan a=>k (.chan a)
 | .func f x y=>k (.func f x y)
 | .nilFunc=>k .nilFunc
 | .iface t v=>k (.iface t v)
 | .nilIface=>k .nilIface
 | .agg c=>k (.agg c)
 | .tuple c=>k (.tuple c)
theorem fz_eq (v:Value) (k:Value → Option Res):fz v k=k v:=by cases v<;>rfl
def normL:List Value → (List Value → Option Res) → Option Res
 |[],k=>k []
 |x :: l,k=>normL l (fun m=>k (x :: m))
theorem normL_eq (l:List Value):∀ k,normL l k=k l:=by
 induction l with
 |nil=>intro k;rfl
 |cons x l ih=>intro k;simp[normL,ih]
def must (b:Bool) (r:Option Res):Option Res :=
 match b with
 |true=>r
 |false=>none
def readAt (lk:LK) (k:Nat) (dyn:Bool) (l:List Value) (i:Nat) (ok:Bool):Option Res :=
 match dyn with
 |false=>match lk with
  | .agg=>must (Nat.ble (i+k) l.length) (normL (slab l i k) fun m=>rv (.agg ⟨m⟩) ok)
  |_=>must (Nat.blt i l.length) (fz (l.getD i undefd) fun v=>rv v ok)
 |true=>match lk with
  | .agg=>rv (.agg ⟨slab l i k⟩) (ok&&Nat.ble (i+k) l.length)
  | .one=>rv (l.getD i undefd) (ok&&Nat.blt i l.length)
  | .int q=>rv (.int q (asI (l.getD i undefd))) (ok&&(Nat.blt i l.length&&isI q (l.getD i undefd)))
  | .bool=>rv (.bool (asB (l.getD i undefd))) (ok&&(Nat.blt i l.length&&isB (l.getD i undefd)))
  | .str=>rv (.string (asS (l.getD i undefd))) (ok&&(Nat.blt i l.length&&isS (l.getD i undefd)))
def mixC (c:Bool) (v x:Value):Value :=
 match v,x with
 | .int k n,.int k' m=>match decide (k=k')with
  |true=>.int k' (cond c n m)
  |false=>.int k' m
 | .bool a,.bool b=>.bool (cond c a b)
 | .string a,.string b=>.string (cond c a b)
 | .pointer a,.pointer b=>match c with
  |true=>.pointer a
  |false=>.pointer b
 |_,x=>x
def mixOK (c:Bool) (v x:Value):Bool :=
 match v,x with
 | .int k _,.int k' _=>match decide (k=k')with
  |true=>true
  |false=>!c
 | .bool _,.bool _=>true
 | .string _,.string _=>true
 | .pointer _,.pointer _=>true
 |_,_=>!c
def updC (fo:Nat) (v:Value):Nat → List Value → List Value
 |_,[]=>[]
 |i,x :: l=>mixC (Nat.beq i fo) v x :: updC fo v (i+1) l
def updOK (fo:Nat) (v:Value):Nat → List Value → Bool
 |_,[]=>true
 |i,x :: l=>mixOK (Nat.beq i fo) v x&&updOK fo v (i+1) l
def fzL:List Value → (List Value → Option Res) → Option Res
 |[],k=>k []
 |x :: l,k=>fz x fun x=>fzL l fun l=>k (x :: l)
theorem fzL_eq (l:List Value):∀ k,fzL l k=k l:=by
 induction l with
 |nil=>intro k;rfl
 |cons x l ih=>intro k;simp[fzL,ih,fz_eq]
def intRange (i:Int) (n:Nat):Bool:=decide (0 ≤ i)&&decide (i<n)
def bits2 (op:BinOp) (k:IntKind) (x y:Int):Int :=
 match op with
 | .and=>k.wrap (BitVec.ofInt k.bits x &&& BitVec.ofInt k.bits y).toNat
 | .or=>k.wrap (BitVec.ofInt k.bits x ||| BitVec.ofInt k.bits y).toNat
 | .xor=>k.wrap (BitVec.ofInt k.bits x ^^^ BitVec.ofInt k.bits y).toNat
 | .andNot=>k.wrap (BitVec.ofInt k.bits x &&& ~~~(BitVec.ofInt k.bits y)).toNat
 |_=>0
def binI (op:BinOp) (k:IntKind) (x y:Int):Option Res :=
 match op with
 | .add=>rv (.int k (k.wrap (x+y)))
 | .sub=>rv (.int k (k.wrap (x-y)))
 | .mul=>rv (.int k (k.wrap (x*y)))
 | .quo=>rv (.int k (k.wrap (x.tdiv y))) (!(decide (y=0)))
 | .rem=>rv (.int k (x.tmod y)) (!(decide (y=0)))
 | .and=>rv (.int k (bits2 .and k x y))
 | .or=>rv (.int k (bits2 .or k x y))
 | .xor=>rv (.int k (bits2 .xor k x y))
 | .andNot=>rv (.int k (bits2 .andNot k x y))
 | .eql=>rv (.bool (x==y))
 | .neq=>rv (.bool (x != y))
 | .lss=>rv (.bool (decide (x<y)))
 | .leq=>rv (.bool (decide (x ≤ y)))
 | .gtr=>rv (.bool (decide (x>y)))
 | .geq=>rv (.bool (decide (x ≥ y)))
 | .shl=>rv (.int k (k.wrap (x*2 ^ (min y.toNat k.bits)))) (decide (0 ≤ y))
 | .shr=>rv (.int k (x.fdiv (2 ^ (min y.toNat k.bits)))) (decide (0 ≤ y))
def isShift:BinOp → Bool
 | .shl|.shr=>true
 |_=>false
def binS (op:BinOp) (x y:ByteArray):Option Res :=
 match op with
 | .add=>rv (.string (x++y)) (decide (x.size+y.size ≤ 9223372036854775807))
 | .eql=>rv (.bool (x.toList==y.toList))
 | .neq=>rv (.bool (!(x.toList==y.toList)))
 | .lss=>rv (.bool (Op.bytesLess x.toList y.toList))
 | .leq=>rv (.bool (Op.bytesLess x.toList y.toList||x.toList==y.toList))
 | .gtr=>rv (.bool (!(Op.bytesLess x.toList y.toList||x.toList==y.toList)))
 | .geq=>rv (.bool (!(Op.bytesLess x.toList y.toList)))
 |_=>none
def isNil:Nat → Value → Option Bool
 |0,.pointer a=>some a.isNone
 |1,.slice a _ _=>some a.isNone
 |2,.map a=>some a.isNone
 |3,.nilFunc|4,.nilIface=>some true
 |3,.func ..|4,.iface ..=>some false
 |_,_=>none
def eqCells:List Nat → List Value → List Value → Option Bool
 |[],[],[]=>some true
 |0 :: ks,.int k a :: x,.int k' b :: y=>match decide (k=k'),eqCells ks x y with
  |true,some c=>some (a==b&&c)
  |_,_=>none
 |1 :: ks,.string a :: x,.string b :: y=>match eqCells ks x y with
  |some c=>some (a.toList==b.toList&&c)
  |none=>none
 |2 :: ks,.bool a :: x,.bool b :: y=>match eqCells ks x y with
  |some c=>some (a==b&&c)
  |none=>none
 |_,_,_=>none
def rowSet (f:Nat → List Value) (i:Nat) (r:List Value):Nat → List Value:=fun j=>cond (Nat.beq j i) r (f j)
def rowCat (f:Nat → List Value) (idx len:Nat) (g:Nat → List Value):Nat → List Value:=fun j=>cond (Nat.blt j len) (f (idx+j)) (g (j-len))
def rowPut (f:Nat → List Value) (i n:Nat) (g:Nat → List Value):Nat → List Value:=fun j=>cond (Nat.ble i j&&Nat.blt j (i+n)) (g (j-i)) (f j)
def sepOps (lo hi:Option Operand) (vs:List Value) (len:Nat):Option (Int × Int) :=
 match lo,hi,vs with
 |none,none,[]=>some (0,len)
 |some _,none,[.int _ l]=>some (l,len)
 |none,some _,[.int _ h]=>some (0,h)
 |some _,some _,[.int _ l,.int _ h]=>some (l,h)
 |_,_,_=>none
def fillAt:List Value → List (Nat × Nat × Operand) → List Value → Option (List Value)
 |cs,[],[]=>some cs
 |cs,(off,size,_) :: ps,v :: vs =>
  cond (Nat.beq (vcells v).length size&&Nat.ble (off+size) cs.length) (fillAt (putAt cs off (vcells v)) ps vs) none
 |_,_,_=>none
def partOff (size:Nat):List (Nat × Operand) → List (Nat × Nat × Operand)
 |[]=>[]
 |(i,x) :: ps=>(i*size,size,x) :: partOff size ps
def zerosOf (zero:List Value):Nat → List Value
 |0=>[]
 |n+1=>zero++zerosOf zero n
def opt (x:Option Operand):List Operand :=
 match x with
 |some x=>[x]
 |none=>[]
def sndOps:List (Nat × Nat × Operand) → List Operand
 |[]=>[]
 |(_,_,x) :: l=>x :: sndOps l
def sndOps2:List (Nat × Operand) → List Operand
 |[]=>[]
 |(_,x) :: l=>x :: sndOps2 l
def XOp.opds:XOp → List Operand
 | .mv x=>[x]
 | .pick c a b=>[c,a,b]
 | .new _=>[]
 | .box x=>[x]
 | .build _ ps=>sndOps ps
 | .mkslice _ _ ps=>sndOps2 ps
 | .load _ _ x=>[x]
 | .store _ a v=>[a,v]
 | .nilck x=>[x]
 | .bin _ x y=>[x,y]
 | .eqb _ x y=>[x,y]
 | .eqnil _ _ x y=>[x,y]
 | .eqagg _ _ x y=>[x,y]
 | .un _ x=>[x]
 | .conv _ x=>[x]
 | .same x=>[x]
 | .s2b x=>[x]
 | .b2s x=>[x]
 | .mkif _ x=>[x]
 | .mkfunc _ _ xs=>xs
 | .mkmap _ _ _=>[]
 | .lookup _ _ _ _ _ m k=>[m,k]
 | .mapupd _ _ _ m k v=>[m,k,v]
 | .mks _ _ l c=>[l,c]
 | .slS _ x lo hi=>x :: (opt lo++opt hi)
 | .slStr x lo hi=>x :: (opt lo++opt hi)
 | .slArr _ _ x lo hi=>x :: (opt lo++opt hi)
 | .faddr _ x=>[x]
 | .field _ _ _ x=>[x]
 | .iaddrS _ x i=>[x,i]
 | .iaddrA _ _ _ x i=>[x,i]
 | .idxA _ _ _ x i=>[x,i]
 | .idxStr x i=>[x,i]
 | .ext x _=>[x]
 | .lenS x=>[x]
 | .lenStr x=>[x]
 | .lenM x=>[x]
 | .app _ _ s x=>[s,x]
 | .cpy _ d s=>[d,s]
 | .minmax _ xs=>xs
def sliceId:Value → List Nat
 | .slice (some ⟨id,_,_⟩) _ _=>[id]
 |_=>[]
def ptrId:List Value → List Nat
 | .pointer (some ⟨id,_,_⟩) :: _=>[id]
 |_=>[]
def rowId:List Value → List Nat
 | .slice (some ⟨id,_,none⟩) _ _ :: _=>[id]
 |_=>[]
def mapId:List Value → List Nat
 | .map (some id) :: _=>[id]
 |_=>[]
def twoIds:List Value → List Nat
 |[s,x]=>sliceId s++sliceId x
 |_=>[]
def hdId:List Value → List Nat
 |x :: _=>sliceId x
 |[]=>[]
def XOp.need (o:XOp) (vs:List Value):List Nat :=
 match o with
 | .load ..|.store ..|.iaddrA ..=>ptrId vs
 | .iaddrS ..|.slS ..=>rowId vs
 | .lookup ..|.mapupd ..|.lenM ..=>mapId vs
 | .b2s ..=>hdId vs
 | .app ..|.cpy ..=>twoIds vs
 |_=>[]
def srcRows0 (size:Nat) (x:Value) (bs:List Blk):Option (Nat × (Nat → List Value) × Bool) :=
 match x,bs with
 | .slice none _ _,[]=>some (0,fun _=>[],true)
 | .string s,[]=>some (s.size,fun j=>[.int .u8 (byteAt s j)],Nat.beq size 1)
 | .slice (some ⟨_,idx,none⟩) len _,[.rows m st f _ _]=>some (len,fun j=>f (idx+j),Nat.ble (idx+len) m&&Nat.beq st size)
 | .slice (some ⟨_,0,some fo⟩) len _,[.var cs]=>some (len,fun j=>slab cs (fo+j*size) size,Nat.ble (fo+len*size) cs.length)
 | .slice (some ⟨_,idx,some fo⟩) len _,[.rows m st f _ _]=>some (len,fun j=>slab (f idx) (fo+j*size) size,Nat.blt idx m&&Nat.ble (fo+len*size) st)
 |_,_=>none
def srcRows (size:Nat) (x:Value) (bs:List Blk):Option (Nat × (Nat → List Value) × Bool) :=
 match x,bs with
 | .slice none _ _,[]=>some (0,fun _=>[],true)
 | .string s,[]=>some (s.size,fun j=>[.int .u8 (byteAt s j)],Nat.beq size 1)
 | .slice (some ⟨_,idx,sp⟩) len _,[b]=>match b,sp with
  | .rows m st f _ _,none=>some (len,fun j=>f (idx+j),Nat.ble (idx+len) m&&Nat.beq st size)
  | .rows m st f _ _,some fo=>some (len,fun j=>slab (f idx) (fo+j*size) size,Nat.blt idx m&&Nat.ble (fo+len*size) st)
  | .var cs,some fo=>match idx with
   |0=>some (len,fun j=>slab cs (fo+j*size) size,Nat.ble (fo+len*size) cs.length)
   |_=>none
  |_,_=>none
 |_,_=>none
theorem srcRows_eq (size:Nat) (x:Value) (bs:List Blk):srcRows size x bs=srcRows0 size x bs:=by
 cases x with
 |slice a len cap =>
  cases a with
  |none=>cases bs<;>rfl
  |some a =>
   obtain⟨id,idx,sp⟩:=a
   match bs with
   |[]=>cases sp<;>cases idx<;>rfl
   |[b]=>cases b<;>cases sp<;>cases idx<;>rfl
   |b :: _ :: _=>cases b<;>(try rename_i ro;try cases ro)<;>cases sp<;>cases idx<;>rfl
 |string s=>cases bs<;>rfl
 |_=>rfl
def maxGrow:Nat:=1099511627776
def growIt (size bytes:Nat) (old:List (Nat × Option Blk)) (f:Nat → List Value) (idx len:Nat) (src:Nat × (Nat → List Value) × Bool) (n:Nat) (ok:Bool):Option Res :=
 some ⟨.slice (some ⟨n,0,none⟩) (len+src.1) (len+src.1),
  (n,some (.rows (len+src.1) size (rowCat f idx len src.2.1) true false)) :: old,1,
  ok&&src.2.2&&decide ((len+src.1)*(bytes+size+1) ≤ maxGrow)⟩
def appPick (opn c:Bool) (room grow:Option Res):Option Res :=
 match opn with
 |true=>grow
 |false=>cond c room grow
theorem appPick_or (opn c:Bool) (room grow:Option Res):appPick opn c room grow=room ∨ appPick opn c room grow=grow:=by
 cases opn<;>cases c<;>simp[appPick]
def nilSrc:Value → Bool
 | .slice none _ _=>true
 |_=>false
def appPickN (z opn c:Bool) (room grow:Option Res):Option Res :=
 match z with
 |true=>room
 |false=>appPick opn c room grow
theorem appPickN_or (z opn c:Bool) (room grow:Option Res):appPickN z opn c room grow=room ∨ appPickN z opn c room grow=grow:=by
 cases z
 ·exact appPick_or opn c room grow
 ·exact .inl rfl
def actApp (size bytes:Nat) (vs:List Value) (bs:List Blk) (n hint:Nat):Option Res :=
 match vs,bs with
 |[.slice none 0 0,x],bs=>match srcRows size x bs with
  |some src=>match hint,src with
   |1,src=>growIt size bytes [] (fun _=>[]) 0 0 src n (!(Nat.beq src.1 0))
   |0,(0,_,ok)=>some ⟨.slice none 0 0,[],0,ok⟩
   |0,(k+1,g)=>growIt size bytes [] (fun _=>[]) 0 0 (k+1,g) n true
   |_,src=>some ⟨.slice none 0 0,[],0,Nat.beq src.1 0&&src.2.2⟩
  |none=>none
 |[.slice (some ⟨id,idx,none⟩) len cap,x],.rows m st f opn false :: bs=>match srcRows size x bs with
  |some src =>
   let grow:=growIt size bytes (cond opn [(id,none)] []) f idx len src n (!(Nat.ble (len+src.1) cap)&&Nat.beq st size&&(Nat.ble len cap&&Nat.ble (idx+cap) m))
   let room:Option Res:=some ⟨.slice (some ⟨id,idx,none⟩) (len+src.1) cap,
       [(id,some (.rows m st (rowPut f (idx+len) src.1 src.2.1) opn false))],0,Nat.ble (len+src.1) cap&&src.2.2&&(Nat.beq st size&&Nat.ble (idx+cap) m)⟩
   match hint with
   |1=>grow
   |2=>room
   |_=>appPickN (nilSrc x) opn (Nat.ble (len+src.1) cap) room grow
  |none=>none
 |_,_=>none
def actCpy (size:Nat) (vs:List Value) (bs:List Blk):Option Res :=
 match vs,bs with
 |[.slice none 0 0,x],bs=>match srcRows size x bs with
  |some src=>some ⟨.int .i64 0,[],0,src.2.2⟩
  |none=>none
 |[.slice (some ⟨id,idx,none⟩) len _,x],.rows m st f opn false :: bs=>match srcRows size x bs with
  |some src=>some ⟨.int .i64 (min src.1 len:Nat),
    [(id,some (.rows m st (rowPut f idx (min src.1 len) src.2.1) opn false))],0,src.2.2&&(Nat.beq st size&&Nat.ble (idx+len) m)⟩
  |none=>none
 |_,_=>none
def isU8:List Value → Bool
 |[.int .u8 _]=>true
 |_=>false
def u8Of:List Value → UInt8
 |[.int .u8 n]=>UInt8.ofNat n.toNat
 |_=>0
def foldMM (isMax:Bool) (k:IntKind) (x:Int):List Value → Option Value
 |[]=>some (.int k x)
 | .int _ y :: l=>foldMM isMax k (cond isMax (if x<y then y else x) (if y<x then y else x)) l
 |_=>none
def sliceOf (size:Nat) (lo hi:Option Operand) (vs:List Value) (len cap:Nat) (at_:Nat → Option Addr):Option Res :=
 match sepOps lo hi vs len with
 |some (l,h)=>some ⟨.slice (at_ (l.toNat*size)) (h-l).toNat (cap-l.toNat),[],0,decide (0 ≤ l)&&decide (l ≤ h)&&decide (h ≤ cap)⟩
 |none=>none
def aPick:List Value → Option Res
 |[.bool c,a,b]=>match a,b with
  | .bool p,.bool q=>rv (.bool (cond c p q))
  |a,b=>rv (cond c a b)
 |_=>none
def aBox (n:Nat):List Value → Option Res
 |[v]=>normL (vcells v) fun cs=>must (cs.all isOne) (some ⟨.pointer (some ⟨n,0,some 0⟩),[(n,some (.var cs))],1,true⟩)
 |_=>none
def aBuild (zero:List Value) (ps:List (Nat × Nat × Operand)) (vs:List Value):Option Res :=
 match fillAt zero ps vs with
 |some cs=>normL cs fun cs=>rv (.agg ⟨cs⟩)
 |none=>none
def aMkslice (zero:List Value) (len:Nat) (ps:List (Nat × Operand)) (n:Nat) (vs:List Value):Option Res :=
 match fillAt (zerosOf zero len) (partOff zero.length ps) vs with
 |some cs=>normL cs fun cs=>must (cs.all isOne) (some ⟨.slice (some ⟨n,0,none⟩) len len,[(n,some (.rows len zero.length (fun j=>slab cs (j*zero.length) zero.length) false false))],1,
   decide (len*zero.length ≤ 16777216)⟩)
 |none=>none
def aLoad0 (lk:LK) (k:Nat):List Value → List Blk → Option Res
 |[.pointer (some ⟨_,0,some fo⟩)],[.var cs]=>readAt lk k false cs fo true
 |[.pointer (some ⟨_,1,some fo⟩)],[.var cs]=>readAt lk k true cs fo true
 |[.pointer (some ⟨_,idx,some fo⟩)],[.rows m _ f _ _]=>readAt lk k false (f idx) fo (Nat.blt idx m)
 |_,_=>none
def aLoad (lk:LK) (k:Nat):List Value → List Blk → Option Res
 |[.pointer (some ⟨_,idx,some fo⟩)],[b]=>match b with
  | .rows m _ f _ _=>readAt lk k false (f idx) fo (Nat.blt idx m)
  | .var cs=>match idx with
   |0=>readAt lk k false cs fo true
   |1=>readAt lk k true cs fo true
   |_=>none
  |_=>none
 |_,_=>none
theorem aLoad_eq (lk:LK) (k:Nat) (vs:List Value) (bs:List Blk):aLoad lk k vs bs=aLoad0 lk k vs bs:=by
 match vs with
 |[]=>rfl
 |[v] =>
  cases v with
  |pointer a =>
   cases a with
   |none=>rfl
   |some a =>
    obtain⟨id,idx,sp⟩:=a
    match bs with
    |[]=>cases sp<;>rcases idx with _|_|idx<;>rfl
    |[b]=>cases b<;>cases sp<;>rcases idx with _|_|idx<;>rfl
    |b :: _ :: _=>cases b<;>cases sp<;>rcases idx with _|_|idx<;>rfl
  |_=>rfl
 |v :: _ :: _=>cases v<;>try rfl
               rename_i a
               cases a with
               |none=>rfl
               |some a=>obtain⟨id,idx,sp⟩:=a;cases sp<;>rcases idx with _|_|idx<;>rfl
def putDyn (k:Nat) (id fo:Nat) (v:Value) (cs:List Value):Option Res :=
 must (Nat.beq k 1) (fz v fun v=>fzL (updC fo v 0 cs) fun r=>some ⟨undefd,[(id,some (.var r))],0,isOne v&&(Nat.blt fo cs.length&&updOK fo v 0 cs)⟩)
def aStore0 (k:Nat):List Value → List Blk → Option Res
 |[.pointer (some ⟨id,0,some fo⟩),v],[.var cs] =>
  normL (vcells v) fun vs=>must (Nat.beq vs.length k&&Nat.ble (fo+k) cs.length&&vs.all isOne) (normL (putAt cs fo vs) fun r=>some ⟨undefd,[(id,some (.var r))],0,true⟩)
 |[.pointer (some ⟨id,1,some fo⟩),v],[.var cs]=>putDyn k id fo v cs
 |[.pointer (some ⟨id,idx,some fo⟩),v],[.rows m st f opn false] =>
  normL (vcells v) fun vs=>must (Nat.beq vs.length k&&Nat.ble (fo+k) (f idx).length&&vs.all isOne) (normL (putAt (f idx) fo vs) fun r =>
   some ⟨undefd,[(id,some (.rows m st (rowSet f idx r) opn false))],0,Nat.blt idx m⟩)
 |_,_=>none
def aStore (k:Nat):List Value → List Blk → Option Res
 |[.pointer (some ⟨id,idx,some fo⟩),v],[b]=>match b with
  | .var cs=>match idx with
   |0=>normL (vcells v) fun vs=>must (Nat.beq vs.length k&&Nat.ble (fo+k) cs.length&&vs.all isOne) (normL (putAt cs fo vs) fun r=>some ⟨undefd,[(id,some (.var r))],0,true⟩)
   |1=>putDyn k id fo v cs
   |_=>none
  | .rows m st f opn false =>
   normL (vcells v) fun vs=>must (Nat.beq vs.length k&&Nat.ble (fo+k) (f idx).length&&vs.all isOne) (normL (putAt (f idx) fo vs) fun r =>
    some ⟨undefd,[(id,some (.rows m st (rowSet f idx r) opn false))],0,Nat.blt idx m⟩)
  |_=>none
 |_,_=>none
theorem aStore_eq (k:Nat) (vs:List Value) (bs:List Blk):aStore k vs bs=aStore0 k vs bs:=by
 match vs with
 |[]=>rfl
 |[v]=>cases v<;>try rfl
       rename_i a
       cases a with
       |none=>rfl
       |some a=>obtain⟨id,idx,sp⟩:=a;cases sp<;>rcases idx with _|_|idx<;>rfl
 |[v,u] =>
  cases v with
  |pointer a =>
   cases a with
   |none=>rfl
   |some a =>
    obtain⟨id,idx,sp⟩:=a
    match bs with
    |[]=>cases sp<;>rcases idx with _|_|idx<;>rfl
    |[.var cs]=>cases sp<;>rcases idx with _|_|idx<;>rfl
    |[.map _ _ _ _ _]=>cases sp<;>rcases idx with _|_|idx<;>rfl
    |[.glb _ _ _ _]=>cases sp<;>rcases idx with _|_|idx<;>rfl
    |[.rows m st f opn ro]=>cases ro<;>cases sp<;>rcases idx with _|_|idx<;>rfl
    |b :: _ :: _=>cases b<;>(try rename_i ro;try cases ro)<;>cases sp<;>rcases idx with _|_|idx<;>rfl
  |_=>rfl
 |v :: _ :: _ :: _=>cases v<;>try rfl
                    rename_i a
                    cases a with
                    |none=>rfl
                    |some a=>obtain⟨id,idx,sp⟩:=a;cases sp<;>rcases idx with _|_|idx<;>rfl
def aNilck:List Value → Option Res
 |[.pointer (some a)]=>rv (.pointer (some a))
 |[.func (.func f) xs ys]=>rv (.func (.func f) xs ys)
 |_=>none
def aBin (op:BinOp):List Value → Option Res
 |[.int k a,.int k' b]=>match isShift op||decide (k=k')with
  |true=>binI op k a b
  |false=>none
 |[.string a,.string b]=>binS op a b
 |_=>none
def aEqb (neg:Bool):List Value → Option Res
 |[.bool a,.bool b]=>rv (.bool (cond neg (!(a==b)) (a==b)))
 |_=>none
def aEqnil (kind:Nat) (neg:Bool):List Value → Option Res
 |[a,b]=>match isNil kind a,isNil kind b with
  |some x,some y=>match x||y with
   |true=>rv (.bool (cond neg (!(x&&y)) (x&&y)))
   |false=>none
  |_,_=>none
 |_=>none
def aEqagg (neg:Bool) (ks:List Nat):List Value → Option Res
 |[.agg a,.agg b]=>match eqCells ks a.toList b.toList with
  |some c=>rv (.bool (cond neg (!c) c))
  |none=>none
 |_=>none
def aUn (op:UnOp):List Value → Option Res
 |[.int k x]=>match op with
  | .neg=>rv (.int k (k.wrap (0-x)))
  | .xor=>rv (.int k (bits2 .xor k (if k.signed then -1 else k.max) x))
  |_=>none
 |[.bool b]=>match op with
  | .not=>rv (.bool (!b))
  |_=>none
 |_=>none
def aConv (k:IntKind):List Value → Option Res
 |[.int _ x]=>rv (.int k (k.wrap x))
 |_=>none
def aSame:List Value → Option Res
 |[.string s]=>rv (.string s)
 |_=>none
def aS2b (n:Nat):List Value → Option Res
 |[.string s]=>some ⟨.slice (some ⟨n,0,none⟩) s.size s.size,[(n,some (.rows s.size 1 (fun j=>[.int .u8 (byteAt s j)]) true false))],1,true⟩
 |_=>none
def aB2s0:List Value → List Blk → Option Res
 |[.slice none _ _],_=>rv (.string .empty)
 |[.slice (some ⟨_,idx,none⟩) len _],[.rows m st f _ _] =>
  rv (.string ⟨((List.range len).map fun j=>u8Of (f (idx+j))).toArray⟩) (Nat.ble (idx+len) m&&Nat.beq st 1&&(List.range len).all fun j=>isU8 (f (idx+j)))
 |[.slice (some ⟨_,0,some fo⟩) len _],[.var cs] =>
  rv (.string ⟨((List.range len).map fun j=>u8Of (slab cs (fo+j) 1)).toArray⟩) (Nat.ble (fo+len) cs.length&&(List.range len).all fun j=>isU8 (slab cs (fo+j) 1))
 |_,_=>none
def aB2s (vs:List Value) (bs:List Blk):Option Res :=
 match vs with
 |[.slice none _ _]=>rv (.string .empty)
 |[.slice (some ⟨_,idx,sp⟩) len _]=>match bs with
  |[.rows m st f _ _]=>match sp with
   |none=>rv (.string ⟨((List.range len).map fun j=>u8Of (f (idx+j))).toArray⟩) (Nat.ble (idx+len) m&&Nat.beq st 1&&(List.range len).all fun j=>isU8 (f (idx+j)))
   |some _=>none
  |[.var cs]=>match sp,idx with
   |some fo,0=>rv (.string ⟨((List.range len).map fun j=>u8Of (slab cs (fo+j) 1)).toArray⟩) (Nat.ble (fo+len) cs.length&&(List.range len).all fun j=>isU8 (slab cs (fo+j) 1))
   |_,_=>none
  |_=>none
 |_=>none
theorem aB2s_eq (vs:List Value) (bs:List Blk):aB2s vs bs=aB2s0 vs bs:=by
 match vs with
 |[]=>rfl
 |[v] =>
  cases v with
  |slice a l c =>
   cases a with
   |none=>rfl
   |some a =>
    obtain⟨id,idx,sp⟩:=a
    match bs with
    |[]=>cases sp<;>cases idx<;>rfl
    |[b]=>cases b<;>cases sp<;>cases idx<;>rfl
    |b :: _ :: _=>cases b<;>(try rename_i ro;try cases ro)<;>cases sp<;>cases idx<;>rfl
  |_=>rfl
 |v :: _ :: _=>cases v<;>try rfl
               rename_i a _ _
               cases a with
               |none=>rfl
               |some a=>obtain⟨id,idx,sp⟩:=a;cases sp<;>cases idx<;>rfl
def aLookup (kt et:TypeId) (kd:TypeDesc) (zero:Value) (ok:Bool):List Value → List Blk → Option Res
 |[.map (some _),k],[.map kt' et' _ has val] =>
  must (Nat.beq kt kt'&&Nat.beq et et') (rv (cond ok (.tuple ⟨[val k,.bool (has k)]⟩) (val k)) (keyOf kd k))
 |[.map none,k],_=>rv (cond ok (.tuple ⟨[zero,.bool false]⟩) zero) (keyOf kd k)
 |_,_=>none
def aMapupd (kt et:TypeId) (kd:TypeDesc):List Value → List Blk → Option Res
 |[.map (some id),k,v],[.map kt' et' m has val] =>
  must (Nat.beq kt kt'&&Nat.beq et et') (some ⟨undefd,[(id,some (.map kt et (cond (has k) m (m+1)) (fun q=>keq q k||has q) (fun q=>cond (keq q k) v (val q))))],0,keyOf kd k⟩)
 |_,_=>none
def aMks (zero:List Value) (bytes n:Nat):List Value → Option Res
 |[.int _ l,.int _ c]=>some ⟨.slice (some ⟨n,0,none⟩) l.toNat c.toNat,[(n,some (.rows c.toNat zero.length (fun _=>zero) false false))],1,
   decide (0 ≤ l)&&decide (l ≤ c)&&decide (c*((bytes+zero.length+1:Nat):Int) ≤ (maxGrow:Int))⟩
 |_=>none
def aSlS (size:Nat) (lo hi:Option Operand):List Value → List Blk → Option Res
 | .slice none 0 0 :: vs,_=>match sepOps lo hi vs 0 with
  |some (l,h)=>rv (.slice none 0 0) (decide (l=0)&&decide (h=0))
  |none=>none
 | .slice (some ⟨id,idx,none⟩) len cap :: vs,[.rows _ st _ _ _] =>
  must (Nat.beq st size) (sliceOf 1 lo hi vs len cap (fun k=>some ⟨id,idx+k,none⟩))
 | .slice (some ⟨id,idx,some fo⟩) len cap :: vs,_=>sliceOf size lo hi vs len cap (fun k=>some ⟨id,idx,some (fo+k)⟩)
 |_,_=>none
def aSlStr (lo hi:Option Operand):List Value → Option Res
 | .string s :: vs=>match sepOps lo hi vs s.size with
  |some (l,h)=>rv (.string (s.extract l.toNat h.toNat)) (decide (0 ≤ l)&&decide (l ≤ h)&&decide (h ≤ s.size))
  |none=>none
 |_=>none
def aSlArr (k size:Nat) (lo hi:Option Operand):List Value → Option Res
 | .pointer (some ⟨id,idx,some fo⟩) :: vs=>sliceOf size lo hi vs k k (fun j=>some ⟨id,idx,some (fo+j)⟩)
 |_=>none
def aFaddr (off:Nat):List Value → Option Res
 |[.pointer (some ⟨id,idx,some fo⟩)]=>rv (.pointer (some ⟨id,idx,some (fo+off)⟩))
 |_=>none
def aField (lk:LK) (off k:Nat):List Value → Option Res
 |[.agg cs]=>readAt lk k false cs.toList off true
 |_=>none
def aIaddrS (size:Nat):List Value → List Blk → Option Res
 |[.slice (some ⟨id,idx,none⟩) len _,.int _ i],[.rows _ st _ _ _]=>must (Nat.beq st size) (rv (.pointer (some ⟨id,idx+i.toNat,some 0⟩)) (intRange i len))
 |[.slice (some ⟨id,idx,some fo⟩) len _,.int _ i],_=>rv (.pointer (some ⟨id,idx,some (fo+i.toNat*size)⟩)) (intRange i len)
 |_,_=>none
def isVar:List Blk → Bool
 |[.var _]=>true
 |_=>false
def aIaddrA (dyn:Bool) (len size:Nat) (bs:List Blk):List Value → Option Res
 |[.pointer (some ⟨id,idx,some fo⟩),.int _ i]=>match dyn,isVar bs with
  |true,true=>rv (.pointer (some ⟨id,1,some (fo+i.toNat*size)⟩)) (intRange i len)
  |_,_=>rv (.pointer (some ⟨id,idx,some (fo+i.toNat*size)⟩)) (intRange i len)
 |_=>none
def aIdxA (len size:Nat) (lk:LK):List Value → Option Res
 |[.agg cs,.int _ i]=>readAt lk size true cs.toList (i.toNat*size) (intRange i len)
 |_=>none
def aIdxStr:List Value → Option Res
 |[.string s,.int _ i]=>rv (.int .u8 (byteAt s i.toNat)) (intRange i s.size)
 |_=>none
def aExt (i:Nat):List Value → Option Res
 |[.tuple ts]=>match ts.toList[i]? with
  |some v=>rv v
  |none=>none
 |_=>none
def aLenS:List Value → Option Res
 |[.slice _ k _]=>rv (.int .i64 k)
 |_=>none
def aLenStr:List Value → Option Res
 |[.string s]=>rv (.int .i64 s.size)
 |_=>none
def aLenM:List Value → List Blk → Option Res
 |[.map none],_=>rv (.int .i64 0)
 |[.map (some _)],[.map _ _ k _ _]=>rv (.int .i64 k)
 |_,_=>none
def aMinmax (isMax:Bool):List Value → Option Res
 | .int k x :: vs=>match foldMM isMax k x vs with
  |some v=>rv v
  |none=>none
 |_=>none
def aMv:List Value → Option Res
 |[v]=>rv v
 |_=>none
def aMkif (t:TypeId):List Value → Option Res
 |[v]=>rv (.iface t v)
 |_=>none
def XOp.act (o:XOp) (vs:List Value) (bs:List Blk) (n hint:Nat):Option Res :=
 match o with
 | .mv _=>aMv vs
 | .pick _ _ _=>aPick vs
 | .new row=>some ⟨.pointer (some ⟨n,0,some 0⟩),[(n,some (.var row))],1,true⟩
 | .box _=>aBox n vs
 | .build zero ps=>aBuild zero ps vs
 | .mkslice zero len ps=>aMkslice zero len ps n vs
 | .load lk k _=>aLoad lk k vs bs
 | .store k _ _=>aStore k vs bs
 | .nilck _=>aNilck vs
 | .bin op _ _=>aBin op vs
 | .eqb neg _ _=>aEqb neg vs
 | .eqnil kind neg _ _=>aEqnil kind neg vs
 | .eqagg neg ks _ _=>aEqagg neg ks vs
 | .un op _=>aUn op vs
 | .conv k _=>aConv k vs
 | .same _=>aSame vs
 | .s2b _=>aS2b n vs
 | .b2s _=>aB2s vs bs
 | .mkif t _=>aMkif t vs
 | .mkfunc fn k _=>rv (.func fn ⟨vs.take k⟩ ⟨vs.drop k⟩)
 | .mkmap kt et zero=>some ⟨.map (some n),[(n,some (.map kt et 0 (fun _=>false) (fun _=>zero)))],1,true⟩
 | .lookup kt et kd zero ok _ _=>aLookup kt et kd zero ok vs bs
 | .mapupd kt et kd _ _ _=>aMapupd kt et kd vs bs
 | .mks zero bytes _ _=>aMks zero bytes n vs
 | .slS size _ lo hi=>aSlS size lo hi vs bs
 | .slStr _ lo hi=>aSlStr lo hi vs
 | .slArr k size _ lo hi=>aSlArr k size lo hi vs
 | .faddr off _=>aFaddr off vs
 | .field lk off k _=>aField lk off k vs
 | .iaddrS size _ _=>aIaddrS size vs bs
 | .iaddrA dyn len size _ _=>aIaddrA dyn len size bs vs
 | .idxA len size lk _ _=>aIdxA len size lk vs
 | .idxStr _ _=>aIdxStr vs
 | .ext _ i=>aExt i vs
 | .lenS _=>aLenS vs
 | .lenStr _=>aLenStr vs
 | .lenM _=>aLenM vs bs
 | .app size bytes _ _=>actApp size bytes vs bs n hint
 | .cpy size _ _=>actCpy size vs bs
 | .minmax isMax _=>aMinmax isMax vs
inductive XK where
 |op (o:XOp)
 |pick (c a b:Operand)
 |callF (f:FuncId) (xs:List Operand)
 |callV (x:Operand) (xs:List Operand)
structure XOper where
 dst:Option Nat
 k:XK
 guard:Option (Nat × Bool)
structure CR where
 pre:Hp
 v:Value
 upd:List (Nat × Option Blk)
 news:Nat
 ok:Bool
 pr:Prop
abbrev CE:=Nat → FuncId → List Value → Hp → Nat → Option CR
structure Foot where
 i:Nat
 rd:List Nat
 wr:List Nat
structure RS where
 t:Tm
 h:Hp
 n:Nat
 ok:Bool
 pr:Prop
 tr:List Foot
def hgets (h:Hp):List Nat → Option (List Blk)
 |[]=>some []
 |id :: l=>match hget h id,hgets h l with
  |some b,some bs=>some (b :: bs)
  |_,_=>none
def fstL:List (Nat × Option Blk) → List Nat
 |[]=>[]
 |(k,_) :: l=>k :: fstL l
def putT (t:Tm) (d:Option Nat) (c:Bool) (v:Value):Tm :=
 match d with
 |some d=>(d,c,v) :: t
 |none=>t
def gd (t:Tm):Option (Nat × Bool) → Option (Bool × Bool)
 |none=>some (true,true)
 |some (k,want)=>match look t k with
  |some (c,.bool b)=>some (true,c&&cond want b (!b))
  |some (_,.tuple _)=>some (true,false)
  |_=>none
def hintOf:List (Nat × Nat) → Nat → Nat
 |[],_=>0
 |(k,h) :: l,i=>cond (Nat.beq k i) h (hintOf l i)
structure Eff where
 rd:List Nat
 v:Value
 upd:List (Nat × Option Blk)
 news:Nat
 ok:Bool
 pr:Prop
def effX (hint:Nat) (o:XOp) (t:Tm) (h:Hp) (n:Nat):Option Eff :=
 match evs t o.opds with
 |some (c,vs)=>match hgets h (o.need vs)with
  |some bs=>match o.act vs bs n hint with
   |some ⟨v,upd,news,ok⟩=>some ⟨o.need vs,v,upd,news,ok&&c,True⟩
   |none=>none
  |none=>none
 |none=>none
def effC (ce:CE) (i:Nat) (f:FuncId) (c:Bool) (vs:List Value) (h:Hp) (n:Nat):Option Eff :=
 match ce i f vs h n with
 |some ⟨pre,v,upd,news,ok,pr⟩=>some ⟨fstL pre,v,upd,news,c&&ok,pr⟩
 |none=>none
def eff (ce:CE) (hint i:Nat) (k:XK) (t:Tm) (h:Hp) (n:Nat):Option Eff :=
 match k with
 | .op x=>effX hint x t h n
 | .pick c a b=>match ev t c,ev t a,ev t b with
  |some (c1,.bool p),some (c2,va),some (c3,vb)=>match aPick [.bool p,va,vb]with
   |some ⟨v,_,_,_⟩=>some ⟨[],v,[],0,(c2||!p)&&((c3||p)&&c1),True⟩
   |none=>none
  |_,_,_=>none
 | .callF f xs=>match evs t xs with
  |some (c,vs)=>effC ce i f c vs h n
  |none=>none
 | .callV x xs=>match ev t x,evs t xs with
  |some (c1,.func (.func f) fs cs),some (c2,vs)=>effC ce i f (c1&&c2) (fs.toList++vs++cs.toList) h n
  |_,_=>none
def xrun (ce:CE) (hints:List (Nat × Nat)):List XOper → Nat → Tm → Hp → Nat → Bool → Prop → List Foot → Option RS
 |[],_,t,h,n,ok,pr,tr=>some ⟨t,h,n,ok,pr,tr⟩
 |o :: os,i,t,h,n,ok,pr,tr =>
  match gd t o.guard with
  |some (c,g)=>match eff ce (hintOf hints i) i o.k t h n with
   |some ⟨rd,v,[],_,ok',pr'⟩=>match o.dst with
    |some d=>xrun ce hints os (i+1) ((d,g,v) :: t) h n ((ok'||!g)&&(c&&ok)) (pr ∧ (g=true → pr')) (⟨i,rd,[]⟩ :: tr)
    |none=>xrun ce hints os (i+1) t h n ((ok'||!g)&&(c&&ok)) (pr ∧ (g=true → pr')) (⟨i,rd,[]⟩ :: tr)
   |some ⟨rd,v,upd,news,ok',pr'⟩=>match g,o.dst with
    |true,some d=>xrun ce hints os (i+1) ((d,true,v) :: t) (upd++h) (n+news) (ok'&&(c&&ok)) (pr ∧ pr') (⟨i,rd,fstL upd⟩ :: tr)
    |true,none=>xrun ce hints os (i+1) t (upd++h) (n+news) (ok'&&(c&&ok)) (pr ∧ pr') (⟨i,rd,fstL upd⟩ :: tr)
    |false,some d=>xrun ce hints os (i+1) ((d,true,undefd) :: t) h n (c&&ok) pr tr
    |false,none=>xrun ce hints os (i+1) t h n (c&&ok) pr tr
   |none=>match g,o.dst with
    |false,some d=>xrun ce hints os (i+1) ((d,true,undefd) :: t) h n (c&&ok) pr tr
    |false,none=>xrun ce hints os (i+1) t h n (c&&ok) pr tr
    |_,_=>none
  |none=>none
end Go.X
