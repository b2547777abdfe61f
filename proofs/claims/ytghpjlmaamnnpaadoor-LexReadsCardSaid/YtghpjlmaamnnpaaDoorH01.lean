import Derived.Calls
import Derived.Below
import Derived.Laws.Sem
import Derived.Laws.World
import Derived.Laws.Cells
import Derived.Laws.AppendOwn
import Derived.Lib.DecodeN
import Derived.Lib.Space
import Derived.Lib.CaseT
set_option linter.all false
namespace Go.X
open Go
abbrev Tm:=List (Nat × Bool × Value)
def look:Tm → Nat → Option (Bool × Value)
 |[],_=>none
 |(k,c,v) :: t,n=>cond (Nat.beq k n) (some (c,v)) (look t n)
inductive Blk where
 |var (cs:List Value)
 |rows (n stride:Nat) (f:Nat → List Value) (opn ro:Bool)
 |map (kt et:TypeId) (n:Nat) (has:Value → Bool) (val:Value → Value)
 /-- A package variable,or what it points to: where,which table,its cells as they are;never written,nor read but by contracts. -/
 |glb (k o t:Nat) (cs:List Value)
def tabOf:Nat → List Value → List Value
 |0,cs=>cs
 |1,_=>(List.range 256).map fun c=>.int .u8 (if Lib.isSp (UInt8.ofNat c)then 1 else 0)
 |2,_=>(List.range 256).map fun c=>.int .u8 (Lib.firstT c)
 |3,_=>(List.range 16).flatMap fun i=>[.int .u8 (Lib.accLo i),.int .u8 (Lib.accHi i)]
 |_,_=>Lib.caseT.flatMap fun x=>[.int .u32 x.1,.int .u32 x.2.1,.int .i32 x.2.2.1,.int .i32 x.2.2.2.1,.int .i32 x.2.2.2.2]
abbrev G:=Nat → Option Blk
abbrev Hp:=List (Nat × Option Blk)
def hget:Hp → Nat → Option Blk
 |[],_=>none
 |(k,b) :: h,n=>cond (Nat.beq k n) b (hget h n)
def Blk.ro:Blk → Bool
 | .var _=>false
 | .rows _ _ _ _ r=>r
 | .map ..=>false
 | .glb ..=>true
def Blk.touch:Blk → Prop
 | .var _=>True
 | .rows n s _ _ r=>r=false ∨ (0<n ∧ 0<s)
 | .map ..=>True
 | .glb ..=>True
structure L where
 addr:Addr
 stride:Nat
 extra:Nat
abbrev Rn:=Nat → Option L
inductive V (ρ:Rn):Value → Value → Prop
 |bool (b):V ρ (.bool b) (.bool b)
 |int (k n):V ρ (.int k n) (.int k n)
 |string (s):V ρ (.string s) (.string s)
 |nilFunc:V ρ .nilFunc .nilFunc
 |nilIface:V ρ .nilIface .nilIface
 |pnil:V ρ (.pointer none) (.pointer none)
 |ptr {id idx fo l} (h:ρ id=some l):V ρ (.pointer (some ⟨id,idx,some fo⟩)) (.pointer (some (l.addr.add (idx*l.stride+fo))))
 |snil:V ρ (.slice none 0 0) (.slice none 0 0)
 |slc {id idx l len cap} (h:ρ id=some l):V ρ (.slice (some ⟨id,idx,none⟩) len cap) (.slice (some (l.addr.add (idx*l.stride))) len (cap+l.extra))
 |slz {id idx a}:V ρ (.slice (some ⟨id,idx,none⟩) 0 0) (.slice (some a) 0 0)
 |sla {id idx fo l len cap} (h:ρ id=some l):V ρ (.slice (some ⟨id,idx,some fo⟩) len cap) (.slice (some (l.addr.add (idx*l.stride+fo))) len cap)
 |slaz {id idx fo a}:V ρ (.slice (some ⟨id,idx,some fo⟩) 0 0) (.slice (some a) 0 0)
 |mnil:V ρ (.map none) (.map none)
 |map {id l} (h:ρ id=some l):V ρ (.map (some id)) (.map (some l.addr.block))
 |func {fn} {xs ys xs' ys':Array Value} (h1:xs.size=xs'.size) (h2:∀ (i:Nat) v v',xs[i]?=some v → xs'[i]?=some v' → V ρ v v')
   (h3:ys.size=ys'.size) (h4:∀ (i:Nat) v v',ys[i]?=some v → ys'[i]?=some v' → V ρ v v'):V ρ (.func fn xs ys) (.func fn xs' ys')
 |iface {t v v'} (h:V ρ v v'):V ρ (.iface t v) (.iface t v')
 |agg {xs xs':Array Value} (h1:xs.size=xs'.size) (h2:∀ (i:Nat) v v',xs[i]?=some v → xs'[i]?=some v' → V ρ v v'):V ρ (.agg xs) (.agg xs')
 |tuple {xs xs':Array Value} (h1:xs.size=xs'.size) (h2:∀ (i:Nat) v v',xs[i]?=some v → xs'[i]?=some v' → V ρ v v'):V ρ (.tuple xs) (.tuple xs')
def Le (ρ ρ':Rn):Prop:=∀ id l,ρ id=some l → ρ' id=some l
theorem Le.refl (ρ:Rn):Le ρ ρ:=fun _ _ h=>h
theorem Le.trans {a b c:Rn} (h:Le a b) (k:Le b c):Le a c:=fun id l e=>k id l (h id l e)
theorem V.mono {ρ ρ':Rn} (hl:Le ρ ρ'){v c:Value} (h:V ρ v c):V ρ' v c:=by
 induction h with
 |bool b=>exact .bool b
 |int k n=>exact .int k n
 |string s=>exact .string s
 |nilFunc=>exact .nilFunc
 |nilIface=>exact .nilIface
 |pnil=>exact .pnil
 |ptr h=>exact .ptr (hl _ _ h)
 |snil=>exact .snil
 |slc h=>exact .slc (hl _ _ h)
 |slz=>exact .slz
 |sla h=>exact .sla (hl _ _ h)
 |slaz=>exact .slaz
 |mnil=>exact .mnil
 |map h=>exact .map (hl _ _ h)
 |func h1 _ h3 _ i2 i4=>exact .func h1 i2 h3 i4
 |iface _ ih=>exact .iface ih
 |agg h1 _ ih=>exact .agg h1 ih
 |tuple h1 _ ih=>exact .tuple h1 ih
def isOne:Value → Bool
 | .agg _|.tuple _=>false
 |_=>true
def CV (ρ:Rn) (v c:Value):Prop:=isOne v=true ∧ V ρ v c
theorem CV.mono {ρ ρ':Rn} (hl:Le ρ ρ'){v c:Value} (h:CV ρ v c):CV ρ' v c:=⟨h.1,h.2.mono hl⟩
def keq:Value → Value → Bool
 | .int _ a,.int _ b=>a==b
 | .string a,.string b=>a==b
 | .bool a,.bool b=>a==b
 | .agg ⟨[.int _ a,.int _ b]⟩,.agg ⟨[.int _ c,.int _ d]⟩=>a==c&&b==d
 |_,_=>false
def keyOf:TypeDesc → Value → Bool
 | .int k,.int k' _=>k==k'
 | .string,.string _=>true
 | .bool,.bool _=>true
 | .array 2 _,.agg ⟨[.int .u8 a,.int .u8 b]⟩=>(decide (0 ≤ a)&&decide (a<256))&&(decide (0 ≤ b)&&decide (b<256))
 |_,_=>false
def keyP (P:Program) (kt:TypeId):TypeDesc → Bool
 | .array _ e=>(match P.underlying e with|some (.int .u8)=>true|_=>false)&&(Nat.beq (P.cellsOf e) 1&&(Nat.beq (P.cellsOf kt) 2&&Nat.blt 0 P.types.size))
 |_=>true
def Stamps (es:Array MapEntry) (clock:Nat):Prop:=(∀ e∈es.toList,e.born<clock) ∧ (es.toList.map (·.born)).Nodup ∧ (es.toList.map (·.key)).Nodup
def Holds (P:Program) (ρ:Rn) (w:World) (l:L):Blk → Prop
 | .var cs=>(l.addr.spot=none ∧ l.stride=0) ∧ ∃ c e lo hi,w.heap[l.addr.block]?=some (.cells c e (lo,hi)) ∧ l.addr.off+cs.length ≤ c.size ∧
   (∀ i,l.addr.off ≤ i → i<l.addr.off+cs.length → ¬ (lo ≤ i ∧ i<hi)) ∧ ∀ o v,cs[o]?=some v → ∃ u,c[l.addr.off+o]?=some u ∧ CV ρ v u
 | .rows n s f opn ro=>l.stride=s ∧ (opn=false → ro=false → l.extra=0) ∧
   (∀ j,j<n → (f j).length=s ∧ ∀ o v,(f j)[o]?=some v → ∃ c,w.cell? (l.addr.add (j*s+o))=some c ∧ CV ρ v c) ∧
   (ro=false → ∃ c e lo hi,w.heap[l.addr.block]?=some (.cells c e (lo,hi)) ∧ l.addr.spot=none ∧ l.addr.off+(n+l.extra)*s ≤ c.size ∧
    ∀ i,l.addr.off ≤ i → i<l.addr.off+(n+l.extra)*s → ¬ (lo ≤ i ∧ i<hi))
 | .map kt et n has val=>∃ d z es clock,P.underlying kt=some d ∧ (P.info? et).bind (·.zero)=some z ∧ l.addr.off=0 ∧ l.addr.spot=none ∧
   w.heap[l.addr.block]?=some (.map es clock) ∧ (es.size=n ∧ Stamps es clock) ∧ (∀ e∈es.toList,keyOf d e.key=true) ∧
   ∀ q,keyOf d q=true → match es.toList.find? (fun e=>keq q e.key)with
    |some e=>has q=true ∧ V ρ (val q) e.val
    |none=>has q=false ∧ V ρ (val q) z
 | .glb k o t cs=>l.addr=⟨k,o,none⟩ ∧ k<w.heap.size ∧ ∀ i v,(tabOf t cs)[i]?=some v → ∃ u,w.cell? ⟨k,o+i,none⟩=some u ∧ CV ρ v u
structure RelH (P:Program) (ρ:Rn) (g:G) (w:World):Prop where
 holds:∀ id b,g id=some b → ∃ l,ρ id=some l ∧ Holds P ρ w l b
 sep:∀ id b id' b' l l',g id=some b → g id'=some b' → id≠id' → b.ro=false → b'.touch → ρ id=some l → ρ id'=some l' → l.addr.block≠l'.addr.block
def Own (ρ:Rn) (g:G) (k:Nat):Prop:=∃ id b l,g id=some b ∧ b.ro=false ∧ ρ id=some l ∧ l.addr.block=k
structure Fr (O:Nat → Prop) (w w':World):Prop where
 os:w'.os=w.os
 tape:w'.tape=w.tape
 output:w'.output=w.output
 size:w.heap.size ≤ w'.heap.size
 block:∀ k,k<w.heap.size → ¬ O k → w'.heap[k]?=w.heap[k]?
theorem Fr.refl (O:Nat → Prop) (w:World):Fr O w w:=⟨rfl,rfl,rfl,Nat.le_refl _,fun _ _ _=>rfl⟩
theorem Fr.trans {O:Nat → Prop}{a b c:World} (h:Fr O a b) (k:Fr O b c):Fr O a c :=
 ⟨k.os.trans h.os,k.tape.trans h.tape,k.output.trans h.output,Nat.le_trans h.size k.size,
  fun i hi ho=>(k.block i (Nat.lt_of_lt_of_le hi h.size) ho).trans (h.block i hi ho)⟩
theorem Fr.then {O O':Nat → Prop}{a b c:World} (h:Fr O a b) (k:Fr O' b c) (ho:∀ i,i<a.heap.size → O' i → O i):Fr O a c :=
 ⟨k.os.trans h.os,k.tape.trans h.tape,k.output.trans h.output,Nat.le_trans h.size k.size,
  fun i hi hn=>(k.block i (Nat.lt_of_lt_of_le hi h.size) (fun hx=>hn (ho i hi hx))).trans (h.block i hi hn)⟩
theorem addr_add_block (a:Addr) (n:Nat):(a.add n).block=a.block:=by unfold Addr.add;split<;>rfl
theorem addr_add_add (a:Addr) (m n:Nat):(a.add m).add n=a.add (m+n):=by
 unfold Addr.add
 by_cases hm:m=0<;>by_cases hn:n=0<;>simp[hm,hn]
 rw[Nat.add_assoc]
theorem Holds.stay {P:Program} {ρ ρ':Rn} {w w':World}{l:L}{b:Blk} (hl:Le ρ ρ') (h:Holds P ρ w l b)
  (hw:b.touch → w'.heap[l.addr.block]?=w.heap[l.addr.block]?):Holds P ρ' w' l b:=by
 cases b with
 |var cs =>
  obtain⟨h1,c,e,lo,hi,h2,h3,h4,h5⟩:=h
  refine⟨h1,c,e,lo,hi,by rw[hw trivial];exact h2,h3,h4,fun o v hv=>?_⟩
  obtain⟨u,hu,hvu⟩:=h5 o v hv
  exact⟨u,hu,hvu.mono hl⟩
 |rows n s f opn ro =>
  obtain⟨h1,h2,h3,h4⟩:=h
  refine⟨h1,h2,fun j hj=>⟨(h3 j hj).1,fun o v hv=>?_⟩,fun hr=>?_⟩
  ·obtain⟨c,hc,hv'⟩:=(h3 j hj).2 o v hv
   have hs:0<s:=by
    have:=(h3 j hj).1
    have ho:o<(f j).length:=by
     rcases Nat.lt_or_ge o (f j).length with h|h
     ·exact h
     ·simp[List.getElem?_eq_none h]at hv
    omega
   refine⟨c,?_,hv'.mono hl⟩
   rw[World.cell?_of_block (w:=w) (by rw[addr_add_block];exact hw (.inr ⟨by omega,hs⟩))]
   exact hc
  ·obtain⟨c,e,lo,hi,hb,hrest⟩:=h4 hr
   exact⟨c,e,lo,hi,by rw[hw (.inl hr)];exact hb,hrest⟩
 |map kt et n has val =>
  obtain⟨d,z,es,clock,h1,h2,h3,h3',h4,h5,h6,h7⟩:=h
  refine⟨d,z,es,clock,h1,h2,h3,h3',by rw[hw trivial];exact h4,h5,h6,fun q hq=>?_⟩
  have:=h7 q hq
  revert this
  split
  ·rintro⟨a,b⟩;exact⟨a,b.mono hl⟩
  ·rintro⟨a,b⟩;exact⟨a,b.mono hl⟩
 |glb k o t cs =>
  obtain⟨h1,h2,h3⟩:=h
  have hb:w'.heap[k]?=w.heap[k]?:=by have:=hw trivial;rw[h1]at this;exact this
  refine⟨h1,?_,fun i v hv=>?_⟩
  ·rcases Nat.lt_or_ge k w'.heap.size with h|h
   ·exact h
   ·rw[Array.getElem?_eq_none h,Array.getElem?_eq_getElem h2]at hb;cases hb
  ·obtain⟨u,hu,hvu⟩:=h3 i v hv
   refine⟨u,?_,hvu.mono hl⟩
   rw[World.cell?_of_block (w:=w) (a:=⟨k,o+i,none⟩) hb]
   exact hu
theorem Holds.lt {P:Program}{ρ:Rn}{w:World}{l:L}{b:Blk} (h:Holds P ρ w l b) (ht:b.touch):l.addr.block<w.heap.size:=by
 have key:∀ o:Obj,w.heap[l.addr.block]?=some o → l.addr.block<w.heap.size:=by
  intro o ho
  rcases Nat.lt_or_ge l.addr.block w.heap.size with h|h
  ·exact h
  ·simp[Array.getElem?_eq_none h]at ho
 cases b with
 |var cs =>
  obtain⟨h1,c,e,lo,hi,h2,h3,h4,h5⟩:=h
  exact key _ h2
 |rows n s f opn ro =>
  obtain⟨h1,h2,h3,h4⟩:=h
  by_cases hr:ro=false
  ·obtain⟨c,e,lo,hi,hb,hrest⟩:=h4 hr
   exact key _ hb
  ·have ht':0<n ∧ 0<s:=by
    rcases ht with h|h
    ·exact absurd h hr
    ·exact h
   obtain⟨hn,hs⟩:=ht'
   have h30:=h3 0 hn
   obtain⟨c,hc,_⟩:=h30.2 0 ((f 0)[0]'(by omega)) (by simp)
   have:=World.block_lt_of_cell? _ _ hc
   rwa [addr_add_block]at this
 |map kt et n has val =>
  obtain⟨d,z,es,clock,h1,h2,h3,h3',h4,h5,h6,h7⟩:=h
  exact key _ h4
 |glb k o t cs=>rw[h.1];exact h.2.1
def gset (g:G) (id:Nat) (b:Option Blk):G:=fun k=>cond (Nat.beq k id) b (g k)
def rset (ρ:Rn) (id:Nat) (l:L):Rn:=fun k=>cond (Nat.beq k id) (some l) (ρ k)
theorem gset_same (g:G) (id:Nat) (b:Option Blk):gset g id b id=b:=by simp[gset]
theorem gset_ne (g:G){id k:Nat} (b:Option Blk) (h:k≠id):gset g id b k=g k:=by
 have:Nat.beq k id=false:=by
  cases hb:Nat.beq k id with
  |false=>rfl
  |true=>exact absurd (Nat.eq_of_beq_eq_true hb) h
 simp[gset,this]
theorem rset_same (ρ:Rn) (id:Nat) (l:L):rset ρ id l id=some l:=by simp[rset]
theorem rset_ne (ρ:Rn){id k:Nat} (l:L) (h:k≠id):rset ρ id l k=ρ k:=by
 have:Nat.beq k id=false:=by
  cases hb:Nat.beq k id with
  |false=>rfl
  |true=>exact absurd (Nat.eq_of_beq_eq_true hb) h
 simp[rset,this]
theorem le_rset {ρ:Rn}{id:Nat} (l:L) (h:ρ id=none):Le ρ (rset ρ id l):=by
 intro k m hk
 rw[rset_ne]
 ·exact hk
 ·rintro rfl;rw[h]at hk;cases hk
theorem RelH.new {P:Program}{ρ:Rn}{g:G} {w w':World}{id:Nat}{l:L}{b:Blk} (h:RelH P ρ g w) (hid:ρ id=none)
  (hold:∀ k,k<w.heap.size → w'.heap[k]?=w.heap[k]?) (hnew:w.heap.size ≤ l.addr.block) (hb:Holds P (rset ρ id l) w' l b) :
  RelH P (rset ρ id l) (gset g id (some b)) w':=by
 have hg:g id=none:=by
  cases hx:g id with
  |none=>rfl
  |some b'=>obtain⟨l',hl',_⟩:=h.holds id b' hx;rw[hid]at hl';cases hl'
 refine⟨fun k c hk=>?_,fun k c k' c' m m' hk hk' hne hro ht hm hm'=>?_⟩
 ·by_cases e:k=id
  ·subst e
   rw[gset_same]at hk
   cases hk
   exact⟨l,rset_same _ _ _,hb⟩
  ·rw[gset_ne _ _ e]at hk
   obtain⟨m,hm,hh⟩:=h.holds k c hk
   exact⟨m,by rw[rset_ne _ _ e];exact hm,hh.stay (le_rset l hid) (fun ht=>hold _ (hh.lt ht))⟩
 ·by_cases e:k=id
  ·have e':k'≠id:=by rintro rfl;exact hne e
   rw[gset_ne _ _ e']at hk'
   rw[rset_ne _ _ e']at hm'
   rw[e,rset_same]at hm
   cases hm
   obtain⟨m2,hm2,hh⟩:=h.holds k' c' hk'
   rw[hm']at hm2
   cases hm2
   have:=hh.lt ht
   omega
  ·rw[gset_ne _ _ e]at hk
   rw[rset_ne _ _ e]at hm
   by_cases e':k'=id
   ·rw[e',rset_same]at hm'
    cases hm'
    obtain⟨m2,hm2,hh⟩:=h.holds k c hk
    rw[hm]at hm2
    cases hm2
    have:c.touch:=by
     cases c with
     |var=>trivial
     |rows n s f opn ro=>exact .inl hro
     |map=>trivial
     |glb=>trivial
    have:=hh.lt this
    omega
   ·rw[gset_ne _ _ e']at hk'
    rw[rset_ne _ _ e']at hm'
    exact h.sep k c k' c' m m' hk hk' hne hro ht hm hm'
theorem touch_of_rw {b:Blk} (h:b.ro=false):b.touch:=by
 cases b with
 |var=>trivial
 |rows n s f opn ro=>exact .inl h
 |map=>trivial
 |glb=>trivial
theorem RelH.turn {P:Program}{ρ:Rn}{g:G} {w w':World}{id:Nat}{l:L} {b b':Blk} (h:RelH P ρ g w) (hg:g id=some b) (hro:b.ro=false)     (hl:ρ id=some l) (hold:∀ k,k≠l.addr.block → w'.heap[k]?=w.heap[k]?) (hb:Holds P ρ w' l b') :
  RelH P ρ (gset g id (some b')) w':=by
 refine⟨fun k c hk=>?_,fun k c k' c' m m' hk hk' hne hr ht hm hm'=>?_⟩
 ·by_cases e:k=id
  ·subst e
   rw[gset_same]at hk
   cases hk
   exact⟨l,hl,hb⟩
  ·rw[gset_ne _ _ e]at hk
   obtain⟨m,hm,hh⟩:=h.holds k c hk
   refine⟨m,hm,hh.stay (Le.refl _) (fun ht=>hold _ ?_)⟩
   exact fun hx=>h.sep id b k c l m hg hk (Ne.symm e) hro ht hl hm hx.symm
 ·by_cases e:k=id
  ·subst e
   have e':k'≠k:=Ne.symm hne
   rw[gset_ne _ _ e']at hk'
   exact h.sep k b k' c' m m' hg hk' hne hro ht hm hm'
  ·rw[gset_ne _ _ e]at hk
   by_cases e':k'=id
   ·subst e'
    exact h.sep k c k' b m m' hk hg hne hr (touch_of_rw hro) hm hm'
   ·rw[gset_ne _ _ e']at hk'
    exact h.sep k c k' c' m m' hk hk' hne hr ht hm hm'
theorem RelH.sub {P:Program}{ρ:Rn} {g g':G}{w:World} (h:RelH P ρ g w) (hs:∀ id b,g' id=some b → g id=some b):RelH P ρ g' w :=
 ⟨fun id b hb=>h.holds id b (hs id b hb),fun id b id' b' l l' hb hb'=>h.sep id b id' b' l l' (hs _ _ hb) (hs _ _ hb')⟩
theorem RelH.del {P:Program}{ρ:Rn}{g:G}{w:World} (h:RelH P ρ g w) (id:Nat):RelH P ρ (gset g id none) w :=
 h.sub fun k b hk=>by
  by_cases e:k=id
  ·subst e;rw[gset_same]at hk;cases hk
  ·rwa [gset_ne _ _ e]at hk
theorem RelH.world {P:Program}{ρ:Rn}{g:G} {w w':World} (h:RelH P ρ g w) (hw:w'.heap=w.heap):RelH P ρ g w' :=
 ⟨fun id b hb=>by obtain⟨l,hl,hh⟩:=h.holds id b hb;exact⟨l,hl,hh.stay (Le.refl _) (fun _=>by rw[hw])⟩,h.sep⟩
theorem RelH.congr {P:Program}{ρ:Rn} {g g':G}{w:World} (h:RelH P ρ g w) (hg:∀ id,g' id=g id):RelH P ρ g' w :=
 h.sub fun id b hb=>by rwa [hg id]at hb
end Go.X
