import Derived.Test.YtghpjlmaamnnpaaDoorH02
import Derived.Laws.Strings
import Derived.Laws.Append
import Derived.Laws.Slices
import Derived.Laws.StructEq
import Derived.Laws.Entries
import Derived.Laws.Tables
import Derived.Great.BuildSlice
import Derived.Laws.MakeOwn
set_option linter.all false
namespace Go.X
open Go
inductive XCode where
 |skip
 |region (ops:List XOper)
 |draw (ops:List XOper) (ord:List (List Nat))
 |seq (a b:XCode)
 |cnd (c:Operand) (a b:XCode)
 |block (id:Nat) (a:XCode)
 |loop (a:XCode)
 |exit (id:Nat)
 |ret
def aggT (P:Program) (t:TypeId):Option Bool :=
 match P.underlying t with
 |some (.struct _)|some (.array _ _)=>some true
 |some _=>some false
 |none=>none
def lkT (P:Program) (t:TypeId):Option LK :=
 match P.underlying t with
 |some (.struct _)|some (.array _ _)=>some .agg
 |some (.int k)=>some (.int k)
 |some .bool=>some .bool
 |some .string=>some .str
 |some _=>some .one
 |none=>none
def isConst:Operand → Bool
 | .const _=>true
 |_=>false
def zeroCells (P:Program) (t:TypeId):Option (List Value) :=
 match P.info? t with
 |some i=>match i.zero with
  |some z=>cond ((vcells z).all okc1&&decide ((vcells z).length=i.size)) (some (vcells z)) none
  |none=>none
 |none=>none
def sizeT (P:Program) (t:TypeId):Option Nat:=(P.info? t).map (·.size)
def eqFs (E:TypeId → Option (List Nat)):List Field → Nat → Option (List Nat)
 |[],_=>some []
 |f :: fs,o=>match E f.type with
  | some ks => cond (Nat.beq f.offset o && f.name != "_") (match eqFs E fs (o + ks.length) with
   |some ms=>some (ks++ms)
   |none=>none) none
  |none=>none
def eqRep:Nat → List Nat → List Nat
 |0,_=>[]
 |n+1,ks=>ks++eqRep n ks
def eqT (P:Program):Nat → TypeId → Option (List Nat)
 |0,_=>none
 |d+1,t=>match P.underlying t with
  |some (.int _)=>match sizeT P t with
   |some 1=>some [0]
   |_=>none
  |some .string=>match sizeT P t with
   |some 1=>some [1]
   |_=>none
  |some .bool=>match sizeT P t with
   |some 1=>some [2]
   |_=>none
  |some (.struct fs)=>cond (P.stoodInHeld t) none (match eqFs (eqT P d) fs.toList 0,sizeT P t with
   |some ks,some n=>cond (Nat.beq ks.length n) (some ks) none
   |_,_=>none)
  |some (.array n e)=>match eqT P d e,sizeT P t with
   |some ks,some s=>cond (Nat.beq (eqRep n ks).length s) (some (eqRep n ks)) none
   |_,_=>none
  |_=>none
def nilOp (kind:Nat) (op:BinOp) (x y:Operand):Option XOp :=
 match op with
 | .eql=>some (.eqnil kind false x y)
 | .neq=>some (.eqnil kind true x y)
 |_=>none
def compOp (P:Program):Op → Option XOp
 | .move x|.assign x=>some (.mv x)
 | .pick c a b=>some (.pick c a b)
 | .alloc t=>match zeroCells P t with
  |some z=>some (.new z)
  |none=>none
 | .box _ x=>some (.box x)
 | .build t parts=>match zeroCells P t,P.underlying t with
  |some z,some (.struct fs)=>match parts.toList.mapM (fun p=>match fs[p.1]? with
    |some f=>(sizeT P f.type).map fun s=>(f.offset,s,p.2)
    |none=>none)with
   |some ps=>cond (fs.toList.all fun f=>(sizeT P f.type).isSome) (some (.build z ps)) none
   |none=>none
  |some z,some (.array _ e)=>match sizeT P e with
   |some s=>some (.build z (parts.toList.map fun p=>(p.1*s,s,p.2)))
   |none=>none
  |_,_=>none
 | .buildSlice t len parts=>match P.underlying t with
  |some (.slice e)=>match zeroCells P e with
   |some z=>cond (decide (0<z.length)) (some (.mkslice z len parts.toList)) none
   |none=>none
  |_=>none
 | .load t x=>match lkT P t,sizeT P t with
  |some a,some n=>some (.load a n x)
  |_,_=>none
 | .store t a x=>match sizeT P t with
  |some n=>some (.store n a x)
  |none=>none
 | .nilCheck x=>some (.nilck x)
 | .binOp op t x y _=>match P.underlying t with
  |some (.int _)|some .string=>some (.bin op x y)
  |some .bool=>match op with
   | .eql=>some (.eqb false x y)
   | .neq=>some (.eqb true x y)
   |_=>none
  |some (.pointer _)=>nilOp 0 op x y
  |some (.slice _)=>nilOp 1 op x y
  |some (.map _ _)=>nilOp 2 op x y
  |some (.func _ _ _)=>nilOp 3 op x y
  |some (.interface _)=>match x,y with
   | .const _,_|_,.const _=>nilOp 4 op x y
   |_,_=>none
  |some (.struct _)|some (.array _ _)=>match eqT P 100 t with
   |some ks=>cond (P.eqGuardType P.depth t) none (match op with
    | .eql=>some (.eqagg false ks x y)
    | .neq=>some (.eqagg true ks x y)
    |_=>none)
   |none=>none
  |_=>none
 | .unOp op _ x=>some (.un op x)
 | .convert s d x=>match P.underlying s,P.underlying d with
  |some (.int _),some (.int k)=>some (.conv k x)
  |some .string,some .string=>some (.same x)
  |some .string,some (.slice e)=>match P.underlying e with
   |some (.int .u8)=>some (.s2b x)
   |_=>none
  |some (.slice e),some .string=>match P.underlying e with
   |some (.int .u8)=>some (.b2s x)
   |_=>none
  |_,_=>none
 | .makeInterface t x=>match P.underlying t with
  |some (.interface _)=>none
  |some _=>some (.mkif t x)
  |none=>none
 | .makeFunc fn first captured=>some (.mkfunc fn first.size (first.toList++captured.toList))
 | .makeMap t r=>match r,P.underlying t with
  |none,some (.map k e)=>match P.underlying k,(P.info? e).bind (·.zero)with
   |some _,some z=>cond ((vcells z).all okc1) (some (.mkmap k e z)) none
   |_,_=>none
  |_,_=>none
 | .makeSlice t l c=>match P.underlying t with
  |some (.slice e)=>match zeroCells P e,P.info? e with
   |some z,some i=>cond (decide (0<z.length)) (some (.mks z i.bytes l c)) none
   |_,_=>none
  |_=>none
 | .slice t x lo hi none=>match P.underlying t with
  |some (.array n e)=>match sizeT P e with
   |some s=>some (.slArr n s x lo hi)
   |none=>none
  |some .string=>some (.slStr x lo hi)
  |some (.slice e)=>match sizeT P e with
   |some s=>some (.slS s x lo hi)
   |none=>none
  |_=>none
 | .fieldAddr s x f=>match P.underlying s with
  |some (.struct fs)=>match fs[f]? with
   |some f=>match sizeT P f.type with
    |some (_+1)=>some (.faddr f.offset x)
    |_=>none
   |none=>none
  |_=>none
 | .field s x f=>match P.underlying s with
  |some (.struct fs)=>match fs[f]? with
   |some f=>match lkT P f.type,sizeT P f.type with
    |some a,some n=>some (.field a f.offset n x)
    |_,_=>none
   |none=>none
  |_=>none
 | .indexAddr t x i=>match P.underlying t with
  |some (.array n e)=>match sizeT P e with
   |some s=>some (.iaddrA (!isConst i) n s x i)
   |none=>none
  |some (.slice e)=>match sizeT P e with
   |some s=>some (.iaddrS s x i)
   |none=>none
  |_=>none
 | .index t x i=>match P.underlying t with
  |some (.array n e)=>match lkT P e,sizeT P e with
   |some a,some s=>some (.idxA n s a x i)
   |_,_=>none
  |some .string=>some (.idxStr x i)
  |_=>none
 | .lookup t m k ok=>match P.underlying t with
  |some (.map kt et)=>match P.underlying kt,(P.info? et).bind (·.zero)with
   |some kd,some z=>cond ((vcells z).all okc1&&keyP P kt kd) (some (.lookup kt et kd z ok m k)) none
   |_,_=>none
  |_=>none
 | .mapUpdate t m k v|.insert t m k v=>match P.underlying t with
  |some (.map kt et)=>match P.underlying kt with
   |some kd=>cond (keyP P kt kd) (some (.mapupd kt et kd m k v)) none
   |none=>none
  |_=>none
 | .extract x i=>some (.ext x i)
 | .call { callee:=.builtin b,args,argTypes }=>match b,args.toList,argTypes.toList with
  | .len,[x],t :: _=>match P.underlying t with
   |some (.slice _)=>some (.lenS x)
   |some .string=>some (.lenStr x)
   |some (.map _ _)=>some (.lenM x)
   |_=>none
  | .append,[s,x],t :: u=>match P.underlying t with
   |some (.slice e)=>match zeroCells P e,P.info? e with
    |some z,some i=>match u with
     |[]=>cond (decide (0<z.length)) (some (.app z.length i.bytes s x)) none
     |u :: _=>match P.underlying u with
      |some (.int _)=>none
      |some _=>cond (decide (0<z.length)) (some (.app z.length i.bytes s x)) none
      |none=>none
    |_,_=>none
   |_=>none
  | .copy,[d,s],t :: _=>match P.underlying t with
   |some (.slice e)=>match sizeT P e with
    |some n=>cond (decide (0<n)) (some (.cpy n d s)) none
    |none=>none
   |_=>none
  | .min,xs,_=>some (.minmax false xs)
  | .max,xs,_=>some (.minmax true xs)
  |_,_,_=>none
 |_=>none
def plainFn (P:Program) (f:FuncId):Bool :=
 match P.funcs[f]? with
 | some fn => fn.body.isSome && !(fn.name == "runtime.NumGoroutine")
 |none=>false
def compK (P:Program):Op → Option XK
 | .call { callee:=.value (.func f),args,.. }=>cond (plainFn P f) (some (.callF f args.toList)) none
 | .call { callee:=.value x,args,.. }=>some (.callV x args.toList)
 | .pick c a b=>some (.pick c a b)
 |o=>(compOp P o).map .op
def compOper (P:Program) (N:Nat) (ops:Array Oper) (o:Oper):Option XOper :=
 match compK P o.op with
 |some k=>match o.dst.all fun d=>Nat.blt d N with
  |true=>match o.guard with
   |none=>some ⟨o.dst,k,none⟩
   |some (j,want)=>match (ops[j]?).bind (·.dst)with
    |some d=>some ⟨o.dst,k,some (d,want)⟩
    |none=>none
  |false=>none
 |none=>none
def ordOf (ops:List Oper):List (List Nat) :=
 (Region.before ops.toArray).toList.map fun m=>(List.range ops.length).filter fun j=>m.testBit j
def ordOK (ops:List Oper) (ord:List (List Nat)):Bool :=
 (List.range ops.length).all fun i=>(ord.getD i []).all fun j=>match ops[i]? with
  |some o=>o.after.toList.any fun e=>Region.binds .any e&&(Nat.beq e.on j||(ord.getD e.on []).contains j)
  |none=>false
def slotsOf:List Operand → List Nat
 |[]=>[]
 | .tmp k :: l=>k :: slotsOf l
 |_ :: l=>slotsOf l
def XK.opds:XK → List Operand
 | .op o=>o.opds
 | .callF _ xs=>xs
 | .callV x xs=>x :: xs
 | .pick c a b=>[c,a,b]
def XOper.looks (o:XOper):List Nat :=
 (match o.guard with
  |some (k,_)=>[k]
  |none=>[])++slotsOf o.k.opds
def natMem (k:Nat):List Nat → Bool
 |[]=>false
 |x :: l=>Nat.beq x k||natMem k l
def dstIn (o:XOper) (l:List Nat):Bool :=
 match o.dst with
 |some d=>natMem d l
 |none=>false
def sameDst (o p:XOper):Bool :=
 match o.dst,p.dst with
 |some d,some e=>Nat.beq d e
 |_,_=>false
def slotOK1 (x:XOper) (i:Nat):List XOper → Nat → List (List Nat) → Bool
 |[],_,_=>true
 |y :: l,j,ord=>(!(dstIn x y.looks||sameDst x y||dstIn y x.looks)||natMem i (ord.getD j []))&&slotOK1 x i l (j+1) ord
def slotOK:List XOper → Nat → List (List Nat) → Bool
 |[],_,_=>true
 |x :: l,i,ord=>slotOK1 x i l (i+1) ord&&slotOK l (i+1) ord
def topoOK (ops:List Oper):Bool :=
 (List.range ops.length).all fun i=>match ops[i]? with
  |some o=>o.after.toList.all fun e=>!Region.binds .any e||Nat.blt e.on i
  |none=>true
def comp (P:Program) (N:Nat):Code → Option XCode
 | .skip=>some .skip
 | .region _ ops false=>(ops.toList.mapM (compOper P N ops)).map .region
 | .region _ ops true=>match ops.toList.mapM (compOper P N ops),ordOf ops.toList with
  |some l,ord=>cond (ordOK ops.toList ord&&(topoOK ops.toList&&slotOK l 0 ord)) (some (.draw l ord)) none
  |none,_=>none
 | .seq a b=>match comp P N a,comp P N b with
  |some x,some y=>some (.seq x y)
  |_,_=>none
 | .cond c a b=>match comp P N a,comp P N b with
  |some x,some y=>some (.cnd c x y)
  |_,_=>none
 | .block id a=>(comp P N a).map (.block id)
 | .loop a=>(comp P N a).map .loop
 | .exit id=>some (.exit id)
 | .label _=>some .skip
 | .ret=>some .ret
 |_=>none
end Go.X
namespace Go.X
open Go
def VL (ρ:Rn):List Value → List Value → Prop
 |[],[]=>True
 |v :: vs,c :: cs=>V ρ v c ∧ VL ρ vs cs
 |_,_=>False
theorem VL.length {ρ:Rn}:∀ {vs cs:List Value},VL ρ vs cs → vs.length=cs.length
 |[],[],_=>rfl
 |_ :: _,_ :: _,h=>by simp[VL.length h.2]
 |[],_ :: _,h=>h.elim
 |_ :: _,[],h=>h.elim
theorem VL.get {ρ:Rn}:∀ {vs cs:List Value},VL ρ vs cs → ∀ {i:Nat}{v c:Value},vs[i]?=some v → cs[i]?=some c → V ρ v c
 |[],[],_,i,v,c,hv,_=>by simp at hv
 |v0 :: vs,c0 :: cs,h,0,v,c,hv,hc=>by simp at hv hc;subst hv hc;exact h.1
 |v0 :: vs,c0 :: cs,h,i+1,v,c,hv,hc=>by simp at hv hc;exact h.2.get hv hc
theorem VL.of_get {ρ:Rn}:∀ {vs cs:List Value},vs.length=cs.length → (∀ (i:Nat) v c,vs[i]?=some v → cs[i]?=some c → V ρ v c) → VL ρ vs cs
 |[],[],_,_=>trivial
 |v :: vs,c :: cs,h,hh=>⟨hh 0 v c rfl rfl,VL.of_get (by simpa using h) fun i v c hv hc=>hh (i+1) v c (by simpa using hv) (by simpa using hc)⟩
theorem VL.append {ρ:Rn}:∀ {vs cs vs' cs':List Value},VL ρ vs cs → VL ρ vs' cs' → VL ρ (vs++vs') (cs++cs')
 |[],[],_,_,_,h=>h
 |_ :: _,_ :: _,_,_,h,h'=>⟨h.1,h.2.append h'⟩
theorem VL.drop {ρ:Rn}:∀ {vs cs:List Value} (n:Nat),VL ρ vs cs → VL ρ (vs.drop n) (cs.drop n)
 |_,_,0,h=>h
 |[],[],_+1,_=>trivial
 |_ :: _,_ :: _,n+1,h=>VL.drop n h.2
theorem VL.take {ρ:Rn}:∀ {vs cs:List Value} (n:Nat),VL ρ vs cs → VL ρ (vs.take n) (cs.take n)
 |_,_,0,_=>by simp[VL]
 |[],[],_+1,_=>trivial
 |_ :: _,_ :: _,n+1,h=>⟨h.1,VL.take n h.2⟩
theorem VL.split {ρ:Rn}:∀ {vs vs' cs:List Value},VL ρ (vs++vs') cs → VL ρ vs (cs.take vs.length) ∧ VL ρ vs' (cs.drop vs.length)
 |[],_,_,h=>⟨by simp[VL],h⟩
 |_ :: vs,_,_ :: cs,h=>⟨⟨h.1,(VL.split h.2).1⟩,(VL.split h.2).2⟩
 |_ :: _,_,[],h=>h.elim
theorem v_bool {ρ:Rn}{b:Bool}{c:Value} (h:V ρ (.bool b) c):c=.bool b:=by cases h;rfl
theorem v_int {ρ:Rn}{k:IntKind}{n:Int}{c:Value} (h:V ρ (.int k n) c):c=.int k n:=by cases h;rfl
theorem v_string {ρ:Rn}{s:ByteArray}{c:Value} (h:V ρ (.string s) c):c=.string s:=by cases h;rfl
theorem v_agg {ρ:Rn}{xs:Array Value}{c:Value} (h:V ρ (.agg xs) c):∃ ys,c=.agg ys ∧ VL ρ xs.toList ys.toList:=by
 cases h with
 |agg h1 h2=>exact⟨_,rfl,VL.of_get (by simpa using h1) fun i v c hv hc=>h2 i v c (by simpa using hv) (by simpa using hc)⟩
theorem v_tuple {ρ:Rn}{xs:Array Value}{c:Value} (h:V ρ (.tuple xs) c):∃ ys,c=.tuple ys ∧ VL ρ xs.toList ys.toList:=by
 cases h with
 |tuple h1 h2=>exact⟨_,rfl,VL.of_get (by simpa using h1) fun i v c hv hc=>h2 i v c (by simpa using hv) (by simpa using hc)⟩
theorem VL.agg {ρ:Rn}{xs ys:Array Value} (h:VL ρ xs.toList ys.toList):V ρ (.agg xs) (.agg ys) :=
 .agg (by simpa using h.length) fun _ _ _ hv hc=>h.get (by simpa using hv) (by simpa using hc)
theorem VL.tuple {ρ:Rn}{xs ys:Array Value} (h:VL ρ xs.toList ys.toList):V ρ (.tuple xs) (.tuple ys) :=
 .tuple (by simpa using h.length) fun _ _ _ hv hc=>h.get (by simpa using hv) (by simpa using hc)
theorem VL.func {ρ:Rn}{fn:Fn} {xs ys xs' ys':Array Value} (h:VL ρ xs.toList ys.toList) (h':VL ρ xs'.toList ys'.toList):V ρ (.func fn xs xs') (.func fn ys ys') :=
 .func (by simpa using h.length) (fun _ _ _ hv hc=>h.get (by simpa using hv) (by simpa using hc)) (by simpa using h'.length) fun _ _ _ hv hc=>h'.get (by simpa using hv) (by simpa using hc)
theorem v_ptr {ρ:Rn}{id idx fo:Nat}{c:Value} (h:V ρ (.pointer (some ⟨id,idx,some fo⟩)) c):∃ l,ρ id=some l ∧ c=.pointer (some (l.addr.add (idx*l.stride+fo))):=by
 cases h with
 |ptr h=>exact⟨_,h,rfl⟩
theorem v_map {ρ:Rn}{id:Nat}{c:Value} (h:V ρ (.map (some id)) c):∃ l,ρ id=some l ∧ c=.map (some l.addr.block):=by
 cases h with
 |map h=>exact⟨_,h,rfl⟩
theorem v_mnil {ρ:Rn}{c:Value} (h:V ρ (.map none) c):c=.map none:=by cases h;rfl
theorem v_snil {ρ:Rn}{a b:Nat}{c:Value} (h:V ρ (.slice none a b) c):c=.slice none 0 0 ∧ a=0 ∧ b=0:=by cases h;exact⟨rfl,rfl,rfl⟩
theorem okc1_self {ρ:Rn}{v:Value} (h:okc1 v=true):V ρ v v:=by
 unfold okc1 at h
 split at h
 all_goals first|constructor|(cases h;done)
theorem VL.self {ρ:Rn}:∀ {vs:List Value},vs.all okc1=true → VL ρ vs vs
 |[],_=>trivial
 |v :: vs,h=>by
  simp only[List.all_cons,Bool.and_eq_true]at h
  exact⟨okc1_self h.1,VL.self h.2⟩
theorem okc_self {ρ:Rn}{v:Value} (h:okc v=true):V ρ v v:=by
 unfold okc at h
 split at h
 ·exact VL.agg (VL.self h)
 ·exact VL.tuple (VL.self h)
 ·exact okc1_self h
theorem v_cells {ρ:Rn}{v c:Value} (h:V ρ v c):VL ρ (vcells v) c.cells.toList:=by
 cases h with
 |agg h1 h2=>exact VL.of_get (by simpa [vcells,Value.cells]using h1) fun i v c hv hc=>h2 i v c (by simpa [vcells]using hv) (by simpa [Value.cells]using hc)
 |_=>exact⟨by constructor<;>assumption,trivial⟩
theorem okc1_one {v:Value} (h:okc1 v=true):isOne v=true:=by
 unfold okc1 at h
 split at h<;>first|rfl|cases h
theorem okc1_ones {l:List Value} (h:l.all okc1=true):l.all isOne=true :=
 List.all_eq_true.2 fun v hv=>okc1_one (List.all_eq_true.1 h v hv)
theorem isOne_conc {ρ:Rn}{v c:Value} (h:V ρ v c) (h1:isOne v=true):c.oneCell'=true:=by
 cases h<;>first|rfl|(simp[isOne]at h1)
def gapply (g:G):List (Nat × Option Blk) → G
 |[]=>g
 |(id,b) :: l=>gset (gapply g l) id b
theorem hget_append (u h:Hp) (id:Nat):hget (u++h) id=gapply (hget h) u id:=by
 induction u with
 |nil=>rfl
 |cons x u ih =>
  obtain⟨k,b⟩:=x
  simp only[List.cons_append,hget,gapply,gset,ih]
  have:Nat.beq k id=Nat.beq id k:=by
   rw[Bool.eq_iff_iff];simp[Nat.beq_eq];exact eq_comm
  rw[this]
structure Good (P:Program) (ρ:Rn) (g:G) (w:World) (n:Nat) (upd:List (Nat × Option Blk)) (news:Nat) (ρ':Rn) (w':World):Prop where
 le:Le ρ ρ'
 new:∀ id,ρ id=none → ρ' id≠none → id=n ∧ news=1
 rel:RelH P ρ' (gapply g upd) w'
 fr:Fr (Own ρ g) w w'
 own:∀ k,Own ρ' (gapply g upd) k → Own ρ g k ∨ w.heap.size ≤ k
def Runs (P:Program) (s:Sem Next) (ρ:Rn) (g:G) (w:World) (n:Nat) (r:Res):Prop :=
 ∃ ρ' w',Good P ρ g w n r.upd r.news ρ' w' ∧ ((∃ c,s.run P w=.ok (.value c) w' ∧ V ρ' r.v c) ∨ (s.run P w=.ok .skip w' ∧ r.v=undefd))
theorem Good.pure {P:Program}{ρ:Rn}{g:G}{w:World}{n news:Nat} (h:RelH P ρ g w):Good P ρ g w n [] news ρ w :=
 ⟨Le.refl _,fun _ h h'=>absurd h h',h,Fr.refl _ _,fun _ h=>.inl h⟩
theorem Runs.pure {P:Program}{s:Sem Next}{ρ:Rn}{g:G}{w:World}{n:Nat}{v c:Value}{ok:Bool} (h:RelH P ρ g w) (hs:s.run P w=.ok (.value c) w) (hv:V ρ v c) :
  Runs P s ρ g w n ⟨v,[],0,ok⟩:=⟨ρ,w,Good.pure h,.inl ⟨c,hs,hv⟩⟩
theorem Good.fresh {P:Program}{ρ:Rn}{g:G} {w w':World}{n:Nat}{l:L}{b:Blk} (h:RelH P ρ g w) (hn:ρ n=none)
  (hos:w'.os=w.os) (htape:w'.tape=w.tape) (hout:w'.output=w.output) (hsz:w.heap.size ≤ w'.heap.size)
  (hold:∀ k,k<w.heap.size → w'.heap[k]?=w.heap[k]?) (hnew:w.heap.size ≤ l.addr.block) (hb:Holds P (rset ρ n l) w' l b) :
  Good P ρ g w n [(n,some b)] 1 (rset ρ n l) w':=by
 refine⟨le_rset l hn,fun id h0 h1=>?_,h.new hn hold hnew hb,⟨hos,htape,hout,hsz,fun k hk _=>hold k hk⟩,?_⟩
 ·by_cases e:id=n
  ·exact⟨e,rfl⟩
  ·rw[rset_ne _ _ e]at h1;exact absurd h0 h1
 ·rintro k ⟨id,c,m,hg,hro,hm,rfl⟩
  by_cases e:id=n
  ·subst e
   rw[rset_same]at hm
   cases hm
   exact .inr hnew
  ·simp only[gapply]at hg
   rw[gset_ne _ _ e]at hg
   rw[rset_ne _ _ e]at hm
   exact .inl ⟨id,c,m,hg,hro,hm,rfl⟩
theorem heap_push_old (w:World) (o:Obj) (k:Nat) (h:k<w.heap.size):(w.heap.push o)[k]?=w.heap[k]?:=by
 rw[Array.getElem?_push,if_neg (by omega)]
theorem Good.var {P:Program}{ρ:Rn}{g:G}{w:World}{n:Nat}{cs:List Value}{c:Array Value}{t:TypeId} (h:RelH P ρ g w) (hn:ρ n=none) (hv:VL ρ cs c.toList) (h1:cs.all isOne=true) :
  Good P ρ g w n [(n,some (.var cs))] 1 (rset ρ n ⟨⟨w.heap.size,0,none⟩,0,0⟩) { w with heap:=w.heap.push (.cells c t) }:=by
 refine Good.fresh h hn rfl rfl rfl (by simp) (fun k hk=>heap_push_old w _ k hk) (Nat.le_refl _) ?_
 refine⟨⟨rfl,rfl⟩,c,t,0,0,by simp,by have:=hv.length;simp at this ⊢;omega,fun i _ _=>by omega,fun o v ho=>?_⟩
 have hlt:o<c.size:=by
  have:=hv.length
  have:o<cs.length:=by
   rcases Nat.lt_or_ge o cs.length with h|h
   ·exact h
   ·simp[List.getElem?_eq_none h]at ho
  simp at *;omega
 refine⟨c[o],by simp[hlt],?_⟩
 exact⟨List.all_eq_true.1 h1 v (List.mem_of_getElem? ho),(hv.get ho (by simp[hlt])).mono (le_rset _ hn)⟩
theorem v_newvar {ρ:Rn}{n:Nat}{a:Nat}:V (rset ρ n ⟨⟨a,0,none⟩,0,0⟩) (.pointer (some ⟨n,0,some 0⟩)) (.pointer (some ⟨a,0,none⟩)):=by
 have:=V.ptr (ρ:=rset ρ n ⟨⟨a,0,none⟩,0,0⟩) (id:=n) (idx:=0) (fo:=0) (rset_same _ _ _)
 simpa [Addr.add]using this
end Go.X
namespace Go.X
open Go
def GL (g:G):List Nat → List Blk → Prop
 |[],[]=>True
 |id :: ids,b :: bs=>g id=some b ∧ GL g ids bs
 |_,_=>False
abbrev vS (s:Sem Value):Sem Next:=do pure (.value (← s))
abbrev uS (s:Sem Unit):Sem Next:=do s;pure .skip
theorem run_vS {P:Program}{s:Sem Value} {w w':World}{c:Value} (h:s.run P w=.ok c w'):(vS s).run P w=.ok (.value c) w':=by
 simp[vS,h]
theorem run_uS {P:Program}{s:Sem Unit} {w w':World} (h:s.run P w=.ok () w'):(uS s).run P w=.ok .skip w':=by
 simp[uS,h]
theorem Runs.pureS {P:Program}{s:Sem Value}{ρ:Rn}{g:G}{w:World}{n:Nat}{r:Res}{v c:Value} (h:RelH P ρ g w) (hs:s.run P w=.ok c w)
  (hr:∃ ok,rv v ok=some r) (hv:V ρ v c):Runs P (vS s) ρ g w n r:=by
 obtain⟨ok,hr⟩:=hr
 simp only[rv,Option.some.injEq]at hr
 subst hr
 exact Runs.pure h (run_vS hs) hv
theorem blt_lt {a b:Nat} (h:Nat.blt a b=true):a<b:=Nat.le_of_ble_eq_true h
theorem ble_le {a b:Nat} (h:Nat.ble a b=true):a ≤ b:=Nat.le_of_ble_eq_true h
theorem must_some {b:Bool}{r:Option Res}{x:Res} (h:must b r=some x):b=true ∧ r=some x:=by
 cases b
 ·cases h
 ·exact⟨rfl,h⟩
theorem getElem?_of_getD {l:List Value}{i:Nat} (h:i<l.length):l[i]?=some (l.getD i undefd):=by
 simp[List.getD,h]
theorem isI_eq {k:IntKind}{v:Value} (h:isI k v=true):v=.int k (asI v):=by
 cases v<;>simp[isI]at h
 subst h;rfl
theorem isB_eq {v:Value} (h:isB v=true):v=.bool (asB v):=by
 cases v<;>simp[isB]at h
 rfl
theorem isS_eq {v:Value} (h:isS v=true):v=.string (asS v):=by
 cases v<;>simp[isS]at h
 rfl
theorem readAt_some {lk:LK}{k:Nat}{dyn:Bool}{l:List Value}{i:Nat}{ok:Bool}{r:Res} (h:readAt lk k dyn l i ok=some r) (hok:r.ok=true) :
  ok=true ∧ (lk.isAgg=true → i+k ≤ l.length ∧ rv (.agg ⟨slab l i k⟩) r.ok=some r) ∧ (lk.isAgg=false → i<l.length ∧ rv (l.getD i undefd) r.ok=some r):=by
 unfold readAt at h
 have one:must (Nat.blt i l.length) (fz (l.getD i undefd) fun v=>rv v ok)=some r → lk.isAgg=false → ok=true ∧ (lk.isAgg=true → i+k ≤ l.length ∧ rv (.agg ⟨slab l i k⟩) r.ok=some r) ∧ (lk.isAgg=false → i<l.length ∧ rv (l.getD i undefd) r.ok=some r):=by
  intro h hl
  obtain⟨h1,h2⟩:=must_some h
  rw[fz_eq]at h2
  simp only[rv,Option.some.injEq]at h2
  subst h2
  exact⟨hok,(by intro h;rw[hl]at h;cases h),fun _=>⟨blt_lt h1,rfl⟩⟩
 cases dyn with
 |false =>
  cases lk with
  |agg =>
   simp only at h
   obtain⟨h1,h2⟩:=must_some h
   rw[normL_eq]at h2
   simp only[rv,Option.some.injEq]at h2
   subst h2
   exact⟨hok,fun _=>⟨Nat.le_of_ble_eq_true h1,rfl⟩,fun h=>by cases h⟩
  |_=>exact one h rfl
 |true =>
  cases lk with
  |agg =>
   simp only[rv,Option.some.injEq]at h
   subst h
   simp only[Bool.and_eq_true]at hok
   exact⟨hok.1,fun _=>⟨Nat.le_of_ble_eq_true hok.2,rfl⟩,fun h=>by cases h⟩
  |one =>
   simp only[rv,Option.some.injEq]at h
   subst h
   simp only[Bool.and_eq_true]at hok
   exact⟨hok.1,(by intro h;cases h),fun _=>⟨blt_lt hok.2,rfl⟩⟩
  |int q =>
   simp only[rv,Option.some.injEq]at h
   subst h
   simp only[Bool.and_eq_true]at hok
   refine⟨hok.1,(by intro h;cases h),fun _=>⟨blt_lt hok.2.1,?_⟩⟩
   simp only[rv]
   rw[← isI_eq hok.2.2]
  |bool =>
   simp only[rv,Option.some.injEq]at h
   subst h
   simp only[Bool.and_eq_true]at hok
   refine⟨hok.1,(by intro h;cases h),fun _=>⟨blt_lt hok.2.1,?_⟩⟩
   simp only[rv]
   rw[← isB_eq hok.2.2]
  |str =>
   simp only[rv,Option.some.injEq]at h
   subst h
   simp only[Bool.and_eq_true]at hok
   refine⟨hok.1,(by intro h;cases h),fun _=>⟨blt_lt hok.2.1,?_⟩⟩
   simp only[rv]
   rw[← isS_eq hok.2.2]
def RowIs (b:Blk) (idx:Nat) (cs:List Value):Prop :=
 b=.var cs ∨ ∃ m s f o r,b=.rows m s f o r ∧ idx<m ∧ cs=f idx
theorem lt_of_get {α:Type}{l:List α}{i:Nat}{v:α} (h:l[i]?=some v):i<l.length:=by
 rcases Nat.lt_or_ge i l.length with h'|h'
 ·exact h'
 ·simp[List.getElem?_eq_none h']at h
theorem row_cell {P:Program}{ρ:Rn}{w:World}{l:L}{b:Blk}{idx:Nat}{cs:List Value} (hh:Holds P ρ w l b) (hrow:RowIs b idx cs)
  {o:Nat}{v:Value} (hv:cs[o]?=some v):∃ u,w.cell? (l.addr.add (idx*l.stride+o))=some u ∧ V ρ v u:=by
 rcases hrow with rfl|⟨m,s,f,op,r,rfl,hlt,rfl⟩
 ·obtain⟨⟨h1,hs0⟩,c,e,lo,hi,h2,h3,h4,h5⟩:=hh
  rw[hs0]
  obtain⟨u,hu,hvu⟩:=h5 o v hv
  refine⟨u,?_,hvu.2⟩
  simp only[World.cell?,addr_add_block,h2]
  have hs:(l.addr.add (idx*0+o)).spot=none:=by
   simp only[Addr.add];split
   ·exact h1
   ·rfl
  rw[hs]
  simp only[Option.isSome_none,Bool.false_eq_true,if_false]
  have:(l.addr.add (idx*0+o)).off=l.addr.off+o:=by
   simp only[Addr.add,Nat.mul_zero,Nat.zero_add];split
   ·rename_i h;omega
   ·rfl
  rw[this];exact hu
 ·obtain⟨h1,h2,h3,h4⟩:=hh
  rw[h1]
  obtain⟨u,hu,hvu⟩:=(h3 idx hlt).2 o v hv
  exact⟨u,hu,hvu.2⟩
theorem run_loadCells_VL {P:Program}{ρ:Rn}{w:World}{a:Addr}{k:Nat}{vs:List Value} (hl:vs.length=k)
  (h:∀ (o:Nat) v,vs[o]?=some v → ∃ u,w.cell? (a.add o)=some u ∧ V ρ v u):∃ us,(loadCells a k).run P w=.ok us w ∧ VL ρ vs us.toList:=by
 have hf:∃ f:Nat → Value,∀ j,j<k → w.cell? (a.add j)=some (f j) ∧ ∀ v,vs[j]?=some v → V ρ v (f j):=by
  refine⟨fun j=>(w.cell? (a.add j)).getD undef,fun j hj=>?_⟩
  obtain⟨u,hu,hvu⟩:=h j (vs[j]'(by omega)) (by simp)
  refine⟨by simp[hu],fun v hv=>?_⟩
  simp only[hu,Option.getD_some]
  have:vs[j]?=some (vs[j]'(by omega)):=by simp
  rw[this]at hv;cases hv;exact hvu
 obtain⟨f,hf⟩:=hf
 have hr:=run_loadCells (P:=P) (w:=w) a k f (fun j hj=>(hf j hj).1)
 refine⟨_,hr,VL.of_get (by simp[hl]) fun i v c hv hc=>?_⟩
 have hi:=lt_of_get hv
 have hik:i<k:=by omega
 have hc':(List.map f (List.range k))[i]?=some (f i):=by simp[hik]
 simp only[hc',Option.some.injEq]at hc
 subst hc
 exact(hf i (by omega)).2 v hv
theorem lkT_agg {P:Program}{t:TypeId}{lk:LK} (h:lkT P t=some lk):aggT P t=some lk.isAgg:=by
 unfold lkT at h
 unfold aggT
 split at h<;>first|(cases h;done)|(cases h;rename_i hu;rw[hu];rfl)|skip
 rename_i d h1 h2 h3 h4 h5 hu
 cases h
 rw[hu]
 cases d<;>first|rfl|exact absurd rfl (h1 _)|exact absurd rfl (h2 _ _)
theorem isAgg_run {P:Program}{w:World}{t:TypeId}{a:Bool} (h:aggT P t=some a):(isAgg t).run P w=.ok a w:=by
 unfold aggT at h
 unfold isAgg
 split at h
 ·rename_i x hu;cases h;simp[run_underlying hu]
 ·rename_i x y hu;cases h;simp[run_underlying hu]
 ·rename_i d h1 h2 hu
  cases h
  simp only[Sem.run_bind,run_underlying hu,Result.andThen_ok]
  cases hu':d with
  |struct f=>exact absurd hu' (h1 _)
  |array a b=>exact absurd hu' (h2 _ _)
  |_=>rfl
 ·cases h
theorem sizeOf_run {P:Program}{w:World}{t:TypeId}{n:Nat} (h:sizeT P t=some n):(sizeOf t).run P w=.ok n w:=by
 unfold sizeT at h
 cases hi:P.info? t with
 |none=>simp[hi]at h
 |some i=>simp[hi]at h;subst h;simp[sizeOf,typeInfo,hi]
theorem slab_get {l:List Value}{i k o:Nat}{v:Value} (h:(slab l i k)[o]?=some v):l[i+o]?=some v:=by
 have ho:=lt_of_get h
 simp[slab]at h ho
 rw[List.getElem?_take]at h
 split at h
 ·simpa using h
 ·cases h
theorem slab_length {l:List Value}{i k:Nat} (h:i+k ≤ l.length):(slab l i k).length=k:=by
 simp[slab];omega
theorem load_runs {P:Program}{ρ:Rn}{g:G}{w:World}{n t k:Nat}{lk:LK}{vs:List Value}{bs:List Blk}{c:Value}{r:Res}
  (h1:lkT P t=some lk) (h2:sizeT P t=some k) (ha:aLoad lk k vs bs=some r) (hok:r.ok=true) (hv:VL ρ vs [c]) (hr:RelH P ρ g w) (hb:GL g (ptrId vs) bs) :
  Runs P (vS (Instr.loadAt t c)) ρ g w n r:=by
 replace h1:=lkT_agg h1
 have key:∀ {id idx fo:Nat}{b:Blk}{cs:List Value}{dyn ok:Bool},V ρ (.pointer (some ⟨id,idx,some fo⟩)) c → g id=some b →
   (ok=true → RowIs b idx cs) → readAt lk k dyn cs fo ok=some r → Runs P (vS (Instr.loadAt t c)) ρ g w n r:=by
  intro id idx fo b cs dyn ok hp hg hrow hra
  obtain⟨l,hl,rfl⟩:=v_ptr hp
  obtain⟨hok',hag,hna⟩:=readAt_some hra hok
  have hrow:=hrow hok'
  obtain⟨l',hl',hh⟩:=hr.holds _ _ hg
  rw[hl]at hl';cases hl'
  have hS:(Instr.loadAt t (.pointer (some (l.addr.add (idx*l.stride+fo))))).run P w =
    (loadVar t (l.addr.add (idx*l.stride+fo))).run P w:=by simp[Instr.loadAt,Instr.sureAddr]
  cases hla:lk.isAgg with
  |true =>
   rw[hla]at h1
   obtain⟨hle,hrv⟩:=hag hla
   obtain⟨us,hus,hvl⟩:=run_loadCells_VL (P:=P) (ρ:=ρ) (w:=w) (a:=l.addr.add (idx*l.stride+fo)) (k:=k) (slab_length hle) (fun o v ho=>by
    rw[addr_add_add,Nat.add_assoc]
    exact row_cell hh hrow (slab_get ho))
   refine Runs.pureS hr (v:=.agg ⟨slab cs fo k⟩) (c:=.agg us) ?_ ⟨_,hrv⟩ (VL.agg hvl)
   rw[hS]
   simp[loadVar,isAgg_run h1,sizeOf_run h2,hus]
  |false =>
   rw[hla]at h1
   obtain⟨hlt,hrv⟩:=hna hla
   obtain⟨u,hu,hvu⟩:=row_cell hh hrow (getElem?_of_getD hlt)
   refine Runs.pureS hr ?_ ⟨_,hrv⟩ hvu
   rw[hS]
   simp[loadVar,isAgg_run h1,hu]
 rw[aLoad_eq]at ha
 unfold aLoad0 at ha
 split at ha
 ·simp only[ptrId,GL,VL,and_true]at hb hv
  exact key hv hb (fun _=>.inl rfl) ha
 ·simp only[ptrId,GL,VL,and_true]at hb hv
  exact key hv hb (fun _=>.inl rfl) ha
 ·simp only[ptrId,GL,VL,and_true]at hb hv
  exact key hv hb (fun hk=>.inr ⟨_,_,_,_,_,rfl,blt_lt hk,rfl⟩) ha
 ·cases ha
end Go.X
