import Derived.Test.YtghpjlmaamnnpaaDoorH20
import Derived.Test.YtghpjlmaamnnpaaDoorH19
import Derived.Test.YtghpjlmaamnnpaaDoorH17
import Derived.Test.YtghpjlmaamnnpaaDoorH18
set_option linter.all false
namespace Go.X
open Go Go.Proofs Go.RowKit
set_option linter.unusedVariables false
set_option linter.unusedSimpArgs false
theorem mem4 {a b c d:Nat}{p:Nat → Prop} (ha:p a) (hb:p b) (hc:p c) (hd:p d):∀ id∈[a,b,c,d],p id:=by
 intro id h
 simp only[List.mem_cons,List.not_mem_nil,or_false]at h
 rcases h with rfl|rfl|rfl|rfl<;>assumption
def lowS (s:ByteArray):ByteArray:=bs (Lib.toLowerD s.data.toList)
def con22:Con Tryd.prog where
 f:=22
 run:=fun vs h n=>match vs,hget h 12,hget h 13,hget h 14,hget h 15 with
  |[.string s],some (.glb 2 0 0 [.slice (some ⟨13,0,none⟩) m cap]),some (.glb R oR 4 xs),some (.glb 6 0 2 ys),some (.glb 7 0 3 zs) =>
   some ([(12,some (.glb 2 0 0 [.slice (some ⟨13,0,none⟩) m cap])),(13,some (.glb R oR 4 xs)),(14,some (.glb 6 0 2 ys)),(15,some (.glb 7 0 3 zs))],.string (lowS s),[],0,Nat.blt s.size 35184372088832&&Nat.beq m 336)
  |_,_,_,_,_=>none
 ok:=fun vs h n pre v upd news hx=>by
  split at hx
  ·rename_i s m cap R oR xs ys zs h1 h2 h3 h4
   simp only[Option.some.injEq,Prod.mk.injEq,Bool.and_eq_true]at hx
   obtain⟨rfl,rfl,rfl,rfl,hs,hm⟩:=hx
   have hm:=Nat.eq_of_beq_eq_true hm
   subst hm
   refine⟨mem4 h1 h2 h3 h4,adet_plain n (by kernel_rfl) rfl (fun ρ=>.string _) fun ρ g w hr hp=>?_⟩
   exact(Tryd.strings_ToLower_any _ w (by rwa [Nat.blt_eq]at hs) (case_of hr (hp 12 (by simp[fstL])) (hp 13 (by simp[fstL]))) (utf8_of hr (hp 14 (by simp[fstL])) (hp 15 (by simp[fstL])))).mono fun e w' h=>h
  ·cases hx
theorem alloc_new (w:World) (o:Obj):(w.alloc o).heap[w.heap.size]?=some o:=by
 show(w.heap.push o)[w.heap.size]?=some o
 simp
theorem below_alloc {w w':World}{o:Obj} (h:w'=w.alloc o):Below w.heap.size w w':=by
 subst h
 exact Below.alloc (Below.refl _ _) (Nat.le_refl _) o
def fieldB (L:List (List UInt8)):Blk:=.rows L.length 1 (fun j=>[.string (bs (L.getD j []))]) false false
def con50:Con Tryd.prog where
 f:=50
 run:=fun vs h n=>match vs,hget h 11 with
  |[.string s],some (.glb 1 0 1 xs)=>some ([(11,some (.glb 1 0 1 xs))],.slice (some ⟨n,0,none⟩) (Lib.fields s.data.toList).length (Lib.fields s.data.toList).length,[(n,some (fieldB (Lib.fields s.data.toList)))],1,Nat.blt s.size 4294967281&&s.data.toList.all fun b=>Nat.blt b.toNat 128)
  |_,_=>none
 ok:=fun vs h n pre v upd news hx=>by
  split at hx
  ·rename_i s xs h1
   simp only[Option.some.injEq,Prod.mk.injEq,Bool.and_eq_true]at hx
   obtain⟨rfl,rfl,rfl,rfl,hs,hm⟩:=hx
   refine⟨fun id hid=>?_,by kernel_rfl,fun e=>(by cases e),fun ρ g w cargs hc hr hp hfresh _=>?_⟩
   ·simp only[fstL,List.mem_singleton]at hid
    subst hid;exact h1
   ·have e:=vl_plain rfl hc
    have e2:cargs=#[.string s]:=by cases cargs;simp only at e;rw[e]
    subst e2
    have hn:ρ n=none:=hfresh n (Nat.le_refl _) (by omega)
    refine(Any.strings_Fields_core Tryd.lays157 (by kernel_rfl) s w (by rwa [Nat.blt_eq]at hs) (fun j b hb=>?_) (space_of hr (hp 11 (by simp[fstL])))).mono ?_
    ·have:=List.all_eq_true.1 hm b (List.mem_of_getElem? hb)
     rwa [Nat.blt_eq]at this
    rintro e w' ⟨rfl,hw⟩
    refine⟨rset ρ n ⟨⟨w.heap.size,0,none⟩,1,0⟩,good_new hr hn (below_alloc hw) (Nat.le_refl _) ?_,?_⟩
    ·subst hw
     refine⟨rfl,fun _ _=>rfl,fun j hj=>⟨rfl,fun o v hv=>?_⟩,fun _=>⟨_,_,0,0,alloc_new w _,rfl,by simp,fun i _ _ h=>absurd h.2 (Nat.not_lt_zero _)⟩⟩
     match o,hv with
     |0,hv =>
      simp only[List.getElem?_cons_zero,Option.some.injEq]at hv
      subst hv
      refine⟨.string (bs ((Lib.fields s.data.toList).getD j [])),?_,rfl,.string _⟩
      have e1:(⟨w.heap.size,0,none⟩:Addr).add (j*1+0)=⟨w.heap.size,j,none⟩:=by
       unfold Addr.add
       by_cases h0:j=0<;>simp[h0]
      show(World.alloc w _).cell? ((⟨w.heap.size,0,none⟩:Addr).add (j*1+0))=_
      rw[e1,World.cell?_alloc_new]
      simp[hj,bs]
     |o+1,hv=>simp at hv
    ·exact V.slc (rset_same _ _ _)
  ·cases hx
end Go.X
namespace Go.X
open Go Go.Proofs Go.RowKit
set_option linter.unusedVariables false
set_option linter.unusedSimpArgs false
theorem V.str_inv {ρ:Rn}{s:ByteArray}{c:Value} (h:V ρ (.string s) c):c=.string s:=by cases h;rfl
def strV:List Value → ByteArray
 |[.string z]=>z
 |_=>ByteArray.empty
def isStr:List Value → Bool
 |[.string _]=>true
 |_=>false
def allN (p:Nat → Bool):Nat → Bool
 |0=>true
 |n+1=>p n&&allN p n
theorem allN_at {p:Nat → Bool}:∀ {n:Nat},allN p n=true → ∀ j,j<n → p j=true
 |n+1,h,j,hj=>by
  simp only[allN,Bool.and_eq_true]at h
  by_cases e:j=n
  ·rw[e];exact h.1
  ·exact allN_at h.2 j (by omega)
def inW (n:Nat) (f:Nat → List Value) (x:ByteArray):Bool:=Lib.containsS ((List.range n).map fun j=>strV (f j)) x
def con32:Con Tryd.prog where
 f:=32
 run:=fun vs h n=>match vs with
  |[.slice (some ⟨id,0,none⟩) m c,.string x]=>match hget h id with
   |some (.rows N 1 f opn false)=>some ([(id,some (.rows N 1 f opn false))],.bool (inW m f x),[],0,(Nat.beq m N&&Nat.blt 0 m)&&(Nat.blt m 4294967281&&allN (fun j=>isStr (f j)) m))
   |_=>none
  |_=>none
 ok:=fun vs h n pre v upd news hx=>by
  split at hx
  ·rename_i id m c x
   split at hx
   ·rename_i N f opn hg
    simp only[Option.some.injEq,Prod.mk.injEq,Bool.and_eq_true]at hx
    obtain⟨rfl,rfl,rfl,rfl,⟨hm,h0⟩,hb,ha⟩:=hx
    have hm:=Nat.eq_of_beq_eq_true hm
    subst hm
    rw[Nat.blt_eq]at h0 hb
    refine⟨fun i hi=>?_,by kernel_rfl,fun _=>rfl,fun ρ g w cargs hc hr hp _ _=>?_⟩
    ·simp only[fstL,List.mem_singleton]at hi
     subst hi;simpa [hget,Nat.beq_refl]using hg
    ·have hgi:g id=some (.rows m 1 f opn false):=by rw[hp id (by simp[fstL])];simp[hget,Nat.beq_refl]
     obtain⟨l,hl,hs,_,hcs,hro⟩:=hr.holds id _ hgi
     obtain⟨c0,e0,lo,hi,hb0,hsp,hz,_⟩:=hro rfl
     obtain⟨cl⟩:=cargs
     match cl,hc with
     |[c1,c2],hc =>
      obtain⟨hc1,hc2,_⟩:=hc
      have:=V.str_inv hc2
      subst this
      cases hc1 with
      |slc hl' =>
       rw[hl]at hl';cases hl'
       obtain⟨⟨b,off,sp⟩,st,ex⟩:=l
       simp only at hs hsp
       subst hs;subst hsp
       have ea:∀ k,(⟨b,off,none⟩:Addr).add k=⟨b,off+k,none⟩:=fun k=>by
        unfold Addr.add
        by_cases h0:k=0<;>simp[h0]
       have hcell:∀ j,j<m → w.cell? ⟨b,off+j,none⟩=some (.string (strV (f j))):=fun j hj=>by
        have h1:=allN_at ha j hj
        obtain⟨hlen,hv⟩:=hcs j hj
        generalize hfj:f j=q at h1 hv
        match q,h1 with
        |[.string z],_ =>
         obtain⟨u,hu,hcv⟩:=hv 0 _ rfl
         have:=V.str_inv hcv.2
         subst this
         rw[show(⟨b,off,none⟩:Addr).add (j*1+0)=⟨b,off+j,none⟩ by rw[ea];simp]at hu
         exact hu
       have key:=Tryd.slices_Contains_string b off m (c+ex) ((List.range m).map fun j=>strV (f j)) x w (by simp) (by omega) (fun j hj=>by
        have hj':j<m:=by simpa using hj
        rw[hcell j hj']
        simp[hj'])
       rw[show(Addr.add ⟨b,off,none⟩ (0*1))=⟨b,off,none⟩ by rw[ea];simp]
       refine key.mono ?_
       rintro e w' ⟨rfl,hw⟩
       refine⟨ρ,good_same hr (below_eq hw) n,?_⟩
       rw[show((List.range m).map fun j=>strV (f j)).take m=(List.range m).map fun j=>strV (f j) from List.take_of_length_le (by simp)]
       exact .bool _
      |slz=>omega
   ·cases hx
  ·cases hx
def con45:Con Tryd.prog where
 f:=45
 run:=fun vs h n=>match vs with
  |[.string fn,.string s,.int .i64 ba,.int .i64 bi,.iface 91 (.int .i64 2)]=>match hget h 16 with
   |some (.glb 3 0 0 [.iface t v])=>some ([(16,some (.glb 3 0 0 [.iface t v]))],.iface 93 (.pointer (some ⟨n,0,some 0⟩)),[(n,none)],1,Nat.ble s.size 281474976710656)
   |_=>none
  |[.string fn,.string s,.int .i64 ba,.int .i64 bi,.iface 91 (.int .i64 1)]=>match hget h 17 with
   |some (.glb 4 0 0 [.iface t v])=>some ([(17,some (.glb 4 0 0 [.iface t v]))],.iface 93 (.pointer (some ⟨n,0,some 0⟩)),[(n,none)],1,Nat.ble s.size 281474976710656)
   |_=>none
  |_=>none
 ok:=fun vs h n pre v upd news hx=>by
  have fin:∀ {id k:Nat}{q:Int}{t:TypeId}{v0:Value}{fn s:ByteArray}{ba bi:Int},hget h id=some (.glb k 0 0 [.iface t v0]) → s.size ≤ 281474976710656 →
    (∀ (ev:Value) (w:World),w.cell? ⟨k,0,none⟩=some ev → (ev=.nilIface ∨ ∃ te pe,ev=.iface te pe) →
     Calls Tryd.prog 45 #[.string fn,.string s,.int .i64 ba,.int .i64 bi,.iface 91 (.int .i64 q)] w fun e w'=>∃ N,e=.returned (.iface 93 (.pointer (some ⟨N,0,none⟩))) ∧ w.heap.size ≤ N ∧ Below w.heap.size w w') →
    (∀ i∈fstL [(id,some (Blk.glb k 0 0 [.iface t v0]))],hget h i=hget [(id,some (.glb k 0 0 [.iface t v0]))] i) ∧
     ADet Tryd.prog 45 [.string fn,.string s,.int .i64 ba,.int .i64 bi,.iface 91 (.int .i64 q)] [(id,some (.glb k 0 0 [.iface t v0]))] (.iface 93 (.pointer (some ⟨n,0,some 0⟩))) [(n,none)] n 1:=by
   intro id k q t v0 fn s ba bi hg hs hcall
   refine⟨fun i hi=>?_,by kernel_rfl,fun e=>(by cases e),fun ρ g w cargs hc hr hp hfresh _=>?_⟩
   ·simp only[fstL,List.mem_singleton]at hi
    subst hi;simpa [hget,Nat.beq_refl]using hg
   ·have e:=vl_plain rfl hc
    have e2:cargs=#[.string fn,.string s,.int .i64 ba,.int .i64 bi,.iface 91 (.int .i64 q)]:=by cases cargs;simp only at e;rw[e]
    subst e2
    have hgi:g id=some (.glb k 0 0 [.iface t v0]):=by rw[hp id (by simp[fstL])];simp[hget,Nat.beq_refl]
    obtain⟨_,_,_,hcell⟩:=glb_at hr hgi
    obtain⟨u,hu,hv⟩:=hcell 0 _ rfl
    cases hv with
    |iface hv =>
     refine(hcall _ w hu (.inr ⟨_,_,rfl⟩)).mono ?_
     rintro e w' ⟨N,rfl,hN,hb⟩
     exact⟨rset ρ n ⟨⟨N,0,none⟩,0,0⟩,good_ghost hr (hfresh n (Nat.le_refl _) (by omega)) hb,.iface (V.ptr (rset_same _ _ _))⟩
  split at hx
  ·split at hx
   ·rename_i hg
    simp only[Option.some.injEq,Prod.mk.injEq]at hx
    obtain⟨rfl,rfl,rfl,rfl,hs⟩:=hx
    rw[Nat.ble_eq]at hs
    exact fin hg hs fun ev w h1 h2=>(Tryd.strconv_toError_syntax _ _ _ _ ev w hs h1 h2).mono fun e w' ⟨N,a,b,_,d⟩=>⟨N,a,b,d⟩
   ·cases hx
  ·split at hx
   ·rename_i hg
    simp only[Option.some.injEq,Prod.mk.injEq]at hx
    obtain⟨rfl,rfl,rfl,rfl,hs⟩:=hx
    rw[Nat.ble_eq]at hs
    exact fin hg hs fun ev w h1 h2=>(Tryd.strconv_toError_range _ _ _ _ ev w hs h1 h2).mono fun e w' ⟨N,a,b,_,d⟩=>⟨N,a,b,d⟩
   ·cases hx
  ·cases hx
end Go.X
namespace Go.X
open Go Go.Proofs
def lookF:List (FuncId × (Nat × List Rx × XCode)) → Fns
 |[],_=>none
 |(k,y) :: l,f=>cond (Nat.beq k f) (some y) (lookF l f)
def FL:List (FuncId × (Nat × List Rx × XCode)):=[(3,(65,[(2,none)],x3)),
 (10,(53,[(0,none)],x10)),
 (11,(65,[(2,none),(3,none),(4,none)],x11)),
 (12,(55,[(2,none),(3,none),(4,none)],x12)),
 (13,(26,[(4,none)],x13)),
 (14,(86,[(2,none),(3,none)],x14)),
 (15,(109,[(2,none),(3,none)],x15)),
 (16,(50,[(4,none),(5,none)],x16)),
 (17,(79,[(2,none),(3,none)],x17)),
 (18,(76,[(4,none),(5,none)],x18)),
 (19,(106,[(4,none),(5,none)],x19)),
 (20,(9,[(2,none)],x20)),
 (21,(9,[(4,none)],x21)),
 (22,(78,[(2,none)],x22)),
 (23,(11,[(4,none),(5,none)],x23)),
 (24,(26,[(6,none),(7,none)],x24)),
 (25,(9,[(2,none)],x25)),
 (26,(25,[(6,none)],x26)),
 (27,(8,[(4,none)],x27)),
 (28,(8,[(4,none)],x28)),
 (29,(8,[(4,none)],x29)),
 (30,(15,[(2,none)],x30)),
 (31,(23,[(2,none)],x31)),
 (32,(9,[(4,none)],x32)),
 (33,(2,[(0,none)],x33)),
 (34,(12,[(0,none)],x34)),
 (35,(21,[(2,none)],x35)),
 (36,(15,[(2,none)],x36)),
 (38,(19,[(4,none),(5,none)],x38)),
 (39,(17,[(4,none)],x39)),
 (42,(16,[(2,none)],x42)),
 (43,(15,[(4,none),(5,none)],x43)),
 (44,(172,[(6,none),(7,none)],x44)),
 (47,(18,[(4,none)],x47)),
 (49,(19,[(4,none)],x49)),
 (50,(106,[(2,none)],x50)),
 (57,(13,[(4,none)],x57)),
 (58,(5,[(2,none)],x58)),
 (59,(94,[(2,none)],x59)),
 (69,(19,[(2,none)],x69)),
 (74,(25,[(6,none),(7,none)],x74)),
 (79,(59,[(4,none)],x79)),
 (81,(50,[(4,none)],x81)),
 (82,(37,[(6,none)],x82)),
 (84,(114,[(4,none)],x84)),
 (85,(99,[(4,none)],x85))]
def allF (P:Program):List (FuncId × (Nat × List Rx × XCode)) → Prop
 |[]=>True
 |(k,y) :: l=>fnx P k=some y ∧ allF P l
theorem lookF_ok {P:Program}:∀ {l:List (FuncId × (Nat × List Rx × XCode))},allF P l → ∀ f y,lookF l f=some y → fnx P f=some y
 |[],_,_,_,h=>by cases h
 |(k,z) :: l,ha,f,y,h=>by
  simp only[lookF]at h
  cases hb:Nat.beq k f with
  |true=>rw[hb]at h;simp at h;subst h;rw[← Nat.eq_of_beq_eq_true hb];exact ha.1
  |false=>rw[hb]at h;exact lookF_ok ha.2 f y h
theorem FL_ok:allF Tryd.prog FL:=⟨fx3,fx10,fx11,fx12,fx13,fx14,fx15,fx16,fx17,fx18,fx19,fx20,fx21,fx22,fx23,fx24,fx25,fx26,fx27,fx28,fx29,fx30,fx31,fx32,fx33,fx34,fx35,fx36,fx38,fx39,fx42,fx43,fx44,fx47,fx49,fx50,fx57,fx58,fx59,fx69,fx74,fx79,fx81,fx82,fx84,fx85,trivial⟩
def noSc:Short:=fun _ _ _ _=>none
theorem mixed:Tryd.prog.follows .mixedOrders=true:=by kernel_rfl
theorem FOK:FnsOK Tryd.prog (lookF FL) noSc:=⟨mixed,lookF_ok FL_ok,fun _ _ _ _ _ _ _ _ h=>by cases h⟩
end Go.X
namespace Go.X
open Go
inductive Cx where
 |sq (y:XCode)
 |bl (id:Nat)
def execS {α:Type} (F:Fns) (sc:Short):Nat → XCode → List Cx → Tm → Hp → Nat → (Exit → Tm → Hp → Nat → Option α) → (XCode → List Cx → Tm → Hp → Nat → Option α) → Option α
 |0,_,_,_,_,_,_,_=>none
 |k+1,x,c,t,h,n,K,KL=>match x with
  | .skip=>K .normal t h n
  | .region l=>match xrun (callE F sc (exec F sc k [])) [] l 0 t h n true True []with
   |some ⟨t,h,n,ok,_,_⟩=>match ok with
    |true=>K .normal t h n
    |false=>none
   |none=>none
  | .draw l ord=>match xrun (callE F sc (exec F sc k [])) [] l 0 t h n true True []with
   |some ⟨t,h,n,ok,_,tr⟩=>match ok with
    |true=>match heapOK ord tr with
     |true=>K .normal t h n
     |false=>none
    |false=>none
   |none=>none
  | .seq a b=>execS F sc k a (.sq b :: c) t h n (fun e t h n=>match e with
   | .normal=>execS F sc k b c t h n K KL
   |e=>K e t h n) KL
  | .cnd o a b=>match ev t o with
   |some (true,.bool v)=>match v with
    |true=>execS F sc k a c t h n K KL
    |false=>execS F sc k b c t h n K KL
   |_=>none
  | .block id a=>execS F sc k a (.bl id :: c) t h n (fun e t h n=>match e with
   | .exit id'=>cond (Nat.beq id' id) (K .normal t h n) (K (.exit id') t h n)
   |e=>K e t h n) KL
  | .loop a=>KL a c t h n
  | .exit id=>K (.exit id) t h n
  | .ret=>K .ret t h n
def ctxP (E:Env):List Cx → Post → Post
 |[],Q=>Q
 | .sq y :: c,Q=>seqP (XWP E y (ctxP E c Q)) (ctxP E c Q)
 | .bl id :: c,Q=>blockP id (ctxP E c Q)
theorem cl_seqP {E:Env}{x:XCode}{Q:Post} (h:Cl E Q):Cl E (seqP (XWP E x Q) Q):=fun e a b hw hq=>by
 cases e with
 |normal=>exact XWP.wk hw hq
 |_=>exact h _ _ _ hw hq
theorem cl_blockP {E:Env}{id:Nat}{Q:Post} (h:Cl E Q):Cl E (blockP id Q):=fun e a b hw hq=>by
 cases e with
 |exit id' =>
  simp only[blockP]at hq ⊢
  cases hb:Nat.beq id' id with
  |true=>rw[hb]at hq;exact h _ _ _ hw hq
  |false=>rw[hb]at hq;exact h _ _ _ hw hq
 |_=>exact h _ _ _ hw hq
theorem cl_ctx {E:Env}{Q:Post} (h:Cl E Q):∀ c,Cl E (ctxP E c Q)
 |[]=>h
 | .sq _ :: c=>cl_seqP (cl_ctx h c)
 | .bl _ :: c=>cl_blockP (cl_ctx h c)
structure Pj where
 ks:List Nat
 rs:List Ref
 uk:List Nat
 ui:List Nat
def keptT (t0 t:Tm) (uk:List Nat):Bool:=uk.all fun k=>!natMem k ((t.take (t.length-t0.length)).map (·.1))
def keptH (h0 h:Hp) (ui:List Nat):Bool:=ui.all fun i=>!natMem i (fstL (h.take (h.length-h0.length)))
def prjF (p:Pj) (t0:Tm) (h0:Hp):Exit → Tm → Hp → Nat → Option Leaf:=fun e t h n =>
 match refBs t h p.rs with
 |some bs=>match keptT t0 t p.uk&&keptH h0 h p.ui with
  |true=>some ⟨p.ks.map (look t),bs,e,n⟩
  |false=>none
 |none=>none
def ext (p:Pj) (t0:Tm) (h0:Hp) (l:Leaf):Leaf:=⟨l.ts++p.uk.map (look t0),l.bs++p.ui.map (fun i=>(i,hget h0 i)),l.e,l.n⟩
theorem look_app {u t:Tm}{k:Nat} (h:natMem k (u.map (·.1))=false):look (u++t) k=look t k:=by
 induction u with
 |nil=>rfl
 |cons x u ih =>
  obtain⟨a,b,v⟩:=x
  simp only[List.map_cons,natMem,Bool.or_eq_false_iff]at h
  simp only[List.cons_append,look,h.1,cond_false]
  exact ih h.2
theorem hget_nin' {u h:Hp}{k:Nat} (hn:natMem k (fstL u)=false):hget (u++h) k=hget h k:=by
 induction u with
 |nil=>rfl
 |cons x u ih =>
  obtain⟨a,b⟩:=x
  simp only[fstL,natMem,Bool.or_eq_false_iff]at hn
  simp only[List.cons_append,hget,hn.1,cond_false]
  exact ih hn.2
theorem refBs_app {t:Tm}{h:Hp}:∀ {rs:List Ref}{bs:List (Nat × Option Blk)} (ui:List Nat),refBs t h rs=some bs → refBs t h (rs++ui.map .id)=some (bs++ui.map fun i=>(i,hget h i))
 |[],bs,ui,hx=>by
  simp only[refBs,Option.some.injEq]at hx;subst hx
  simp only[List.nil_append]
  induction ui with
  |nil=>rfl
  |cons i ui ih=>simp only[List.map_cons,refBs,refId,ih]
 |r :: rs,bs,ui,hx=>by
  simp only[refBs]at hx
  split at hx
  ·rename_i id m h1 h2
   simp only[Option.some.injEq]at hx;subst hx
   simp only[List.cons_append,refBs,h1,refBs_app ui h2]
  ·cases hx
theorem prjF_ext {p:Pj}{t0 t:Tm}{h0 h:Hp}{e:Exit}{n:Nat}{l:Leaf} (hp:prjF p t0 h0 e t h n=some l) (ht:∃ u,t=u++t0) (hh:∃ u,h=u++h0) :
  prjK (p.ks++p.uk) (p.rs++p.ui.map .id) e t h n=some (ext p t0 h0 l) ∧ l.e=e ∧ l.n=n:=by
 unfold prjF at hp
 split at hp
 ·rename_i bs hbs
  split at hp
  ·rename_i hk
   simp only[Bool.and_eq_true]at hk
   simp only[Option.some.injEq]at hp;subst hp
   obtain⟨u,rfl⟩:=ht
   obtain⟨v,rfl⟩:=hh
   have h1:p.uk.map (look (u++t0))=p.uk.map (look t0):=List.map_congr_left fun k hkm=>by
    have:=List.all_eq_true.1 hk.1 k hkm
    rw[List.length_append,Nat.add_sub_cancel,List.take_left' rfl]at this
    exact look_app (by simpa using this)
   have h2:(p.ui.map fun i=>(i,hget (v++h0) i))=p.ui.map fun i=>(i,hget h0 i):=List.map_congr_left fun k hkm=>by
    have:=List.all_eq_true.1 hk.2 k hkm
    rw[List.length_append,Nat.add_sub_cancel,List.take_left' rfl]at this
    rw[hget_nin' (by simpa using this)]
   refine⟨?_,rfl,rfl⟩
   unfold prjK
   rw[refBs_app p.ui hbs]
   simp only[ext,List.map_append,h1,h2]
  ·cases hp
 ·cases hp
theorem xrun_logT {ce:CE}{hints:List (Nat × Nat)}:∀ {os:List XOper}{i:Nat}{t:Tm}{h:Hp}{n:Nat}{ok:Bool}{pr:Prop}{tr:List Foot}{s:RS},
  xrun ce hints os i t h n ok pr tr=some s → ∃ u,s.t=u++t:=by
 intro os
 induction os with
 |nil =>
  intro i t h n ok pr tr s hx
  simp only[xrun,Option.some.injEq]at hx;subst hx
  exact⟨[],rfl⟩
 |cons o os ih =>
  intro i t h n ok pr tr s hx
  simp only[xrun]at hx
  repeat' split at hx
  all_goals first
   |(cases hx;done)
   |(obtain⟨u,hu⟩:=ih hx
     first
      |exact⟨u,hu⟩
      |exact⟨u++[_],by rw[hu,List.append_assoc];rfl⟩)
theorem execS_sound {α:Type}{E:FEnv}{F:Fns}{sc:Short} (hF:FnsOK E.P F sc){Q:Post}{r:α}:∀ (k:Nat){x:XCode}{c:List Cx}{t:Tm}{h:Hp}{n:Nat}{K:Exit → Tm → Hp → Nat → Option α}{KL:XCode → List Cx → Tm → Hp → Nat → Option α},
  execS F sc k x c t h n K KL=some r → (∀ e t' h' n',(∃ u,t'=u++t) → (∃ u,h'=u++h) → K e t' h' n'=some r → ctxP E.toEnv c Q e ⟨t',h',n'⟩) → (∀ a c t' h' n',(∃ u,t'=u++t) → (∃ u,h'=u++h) → KL a c t' h' n'=some r → XWP E.toEnv (.loop a) (ctxP E.toEnv c Q) ⟨t',h',n'⟩) →
  XWP E.toEnv x (ctxP E.toEnv c Q) ⟨t,h,n⟩:=by
 have app:∀ {β:Type}{a b c:List β},(∃ u,a=u++b) → (∃ u,b=u++c) → ∃ u,a=u++c:=by
  rintro β a b c ⟨u,rfl⟩ ⟨v,rfl⟩
  exact⟨u++v,by rw[List.append_assoc]⟩
 intro k
 induction k with
 |zero=>intro x c t h n K KL he;cases he
 |succ k ih =>
  intro x c t h n K KL he hK hL
  cases x with
  |skip=>exact xwp_skip (hK _ _ _ _ ⟨[],rfl⟩ ⟨[],rfl⟩ he)
  |exit id=>exact xwp_exit (hK _ _ _ _ ⟨[],rfl⟩ ⟨[],rfl⟩ he)
  |ret=>exact xwp_ret (hK _ _ _ _ ⟨[],rfl⟩ ⟨[],rfl⟩ he)
  |region l =>
   simp only[execS]at he
   split at he
   ·rename_i t1 h1 n1 ok pr tr hx
    cases ok with
    |true=>exact xwp_exec hF (k+1) [] (by simp only[exec,hx]:exec F sc (k+1) [] (.region l) t h n=some ⟨[],.normal,t1,h1,n1,true⟩) rfl (hK _ _ _ _ (xrun_logT hx) (xrun_log hx).1 he)
    |false=>cases he
   ·cases he
  |draw l ord =>
   simp only[execS]at he
   split at he
   ·rename_i t1 h1 n1 ok pr tr hx
    cases ok with
    |true =>
     simp only at he
     cases hh:heapOK ord tr with
     |true=>rw[hh]at he;exact xwp_exec hF (k+1) [] (by simp only[exec,hx,hh,Bool.and_self]:exec F sc (k+1) [] (.draw l ord) t h n=some ⟨[],.normal,t1,h1,n1,true⟩) rfl (hK _ _ _ _ (xrun_logT hx) (xrun_log hx).1 he)
     |false=>rw[hh]at he;cases he
    |false=>cases he
   ·cases he
  |seq a b =>
   simp only[execS]at he
   refine xwp_seq (ih (c:=.sq b :: c) he (fun e t1 h1 n1 p1 p2 hk=>?_) hL)
   cases e with
   |normal=>exact ih hk (fun e t' h' n' q1 q2=>hK e t' h' n' (app q1 p1) (app q2 p2)) (fun a c t' h' n' q1 q2=>hL a c t' h' n' (app q1 p1) (app q2 p2))
   |_=>exact hK _ _ _ _ p1 p2 hk
  |block id a =>
   simp only[execS]at he
   refine xwp_block (ih (c:=.bl id :: c) he (fun e t1 h1 n1 p1 p2 hk=>?_) hL)
   cases e with
   |exit id' =>
    simp only[ctxP,blockP]at hk ⊢
    cases hb:Nat.beq id' id with
    |true=>rw[hb]at hk;exact hK _ _ _ _ p1 p2 hk
    |false=>rw[hb]at hk;exact hK _ _ _ _ p1 p2 hk
   |_=>exact hK _ _ _ _ p1 p2 hk
  |loop a=>exact hL _ _ _ _ _ ⟨[],rfl⟩ ⟨[],rfl⟩ he
  |cnd o a b =>
   simp only[execS]at he
   split at he
   ·rename_i v hev
    cases v with
    |true=>exact xwp_cnd hev (ih he hK hL)
    |false=>exact xwp_cnd hev (ih he hK hL)
   ·cases he
structure Stop where
 l:Leaf
 lp:Option (XCode × List Cx)
def pjOf (p r:Pj):Exit → Pj
 | .ret=>r
 |_=>p
def stopN (p r:Pj) (t0:Tm) (h0:Hp):Exit → Tm → Hp → Nat → Option Stop:=fun e t h n =>
 match prjF (pjOf p r e) t0 h0 e t h n with
 |some l=>some ⟨l,none⟩
 |none=>none
def stopL (p:Pj) (t0:Tm) (h0:Hp):XCode → List Cx → Tm → Hp → Nat → Option Stop:=fun a c t h n =>
 match prjF p t0 h0 .normal t h n with
 |some l=>some ⟨l,some (a,c)⟩
 |none=>none
abbrev walk (F:Fns) (sc:Short) (k:Nat) (x:XCode) (t:Tm) (h:Hp) (n:Nat) (p r q:Pj):Option Stop:=execS F sc k x [] t h n (stopN p r t h) (stopL q t h)
section
variable {E:FEnv}{Q:Post}{s:St}{F:Fns}{sc:Short}{x:XCode}{p r q:Pj}{l:Leaf}
theorem xwp_toEnd (hcl:Cl E.toEnv Q) (hF:FnsOK E.P F sc) (k:Nat) (he:walk F sc k x s.t s.h s.n p r q=some ⟨l,none⟩) (s':St) (hl:LeafTo E ((pjOf p r l.e).ks++(pjOf p r l.e).uk) (ext (pjOf p r l.e) s.t s.h l) s') (hQ:Q l.e s'):XWP E.toEnv x Q s:=by
 refine execS_sound hF k (c:=[]) he (fun e t h n hp hq hk=>?_) (fun a c t h n _ _ hk=>?_)
 ·unfold stopN at hk
  split at hk
  ·rename_i l' hpr
   simp only[Option.some.injEq,Stop.mk.injEq,and_true]at hk;subst hk
   obtain⟨h1,h2,h3⟩:=prjF_ext hpr hp hq
   subst h2;subst h3
   exact hcl _ _ _ (hl.wk h1) hQ
  ·cases hk
 ·unfold stopL at hk
  split at hk
  ·simp only[Option.some.injEq,Stop.mk.injEq]at hk;cases hk.2
  ·cases hk
theorem xwp_toLoop {a:XCode}{c:List Cx} (hF:FnsOK E.P F sc) (k:Nat) (he:walk F sc k x s.t s.h s.n p r q=some ⟨l,some (a,c)⟩) (s':St) (hl:LeafTo E (q.ks++q.uk) (ext q s.t s.h l) s') (hQ:XWP E.toEnv (.loop a) (ctxP E.toEnv c Q) s'):XWP E.toEnv x Q s:=by
 refine execS_sound hF k (c:=[]) he (fun e t h n _ _ hk=>?_) (fun a' c' t h n hp hq hk=>?_)
 ·unfold stopN at hk
  split at hk
  ·simp only[Option.some.injEq,Stop.mk.injEq]at hk;cases hk.2
  ·cases hk
 ·unfold stopL at hk
  split at hk
  ·rename_i l' hpr
   simp only[Option.some.injEq,Stop.mk.injEq,Prod.mk.injEq]at hk
   obtain⟨rfl,rfl,rfl⟩:=hk
   exact XWP.wk (hl.wk (prjF_ext hpr hp hq).1) hQ
  ·cases hk
end
def roundP {ι:Type} (E:Env) (S:ι → St) (I:ι → Prop) (μ:ι → Nat) (i:ι) (Q:Post):Post:=fun e s'=>match e with
 | .normal=>∃ i',I i' ∧ μ i'<μ i ∧ Wk E s' (S i')
 |e=>Q e s'
theorem cl_round {ι:Type}{E:Env}{S:ι → St}{I:ι → Prop}{μ:ι → Nat}{i:ι}{Q:Post} (h:Cl E Q):Cl E (roundP E S I μ i Q):=fun e a b hw hq=>by
 cases e with
 |normal=>obtain⟨i',h1,h2,h3⟩:=hq;exact⟨i',h1,h2,hw.trans h3⟩
 |_=>exact h _ _ _ hw hq
theorem xwp_loopR {E:Env}{Q:Post}{x:XCode}{ι:Type} (S:ι → St) (I:ι → Prop) (μ:ι → Nat) (i0:ι) (hI:I i0)
  (round:∀ i,I i → XWP E x (roundP E S I μ i Q) (S i)):XWP E (.loop x) Q (S i0) :=
 xwp_loop S I μ i0 (Wk.refl _ _) hI fun i hi=>(round i hi).mono fun e s hs=>by cases e<;>exact hs
theorem body_of' {P:Program}{f N n0 news:Nat}{rts:List Rx}{x:XCode}{vs:List Value}{pre upd:Hp}{vv:Value} (hm:P.follows .mixedOrders=true) (hf:fnx P f=some (N,rts,x)) (hlen:vs.length ≤ N)
  (hx:∀ (E:FEnv) (Q:Post),E.P=P → E.B.n=n0 → Cl E.toEnv Q → (∀ e s,finP E.toEnv rts pre vv upd news e s → Q e s) → XWP E.toEnv x Q ⟨argTm 0 vs,pre,n0⟩):Body P f vs pre vv upd n0 news :=
 body_of hm hf hlen fun ρ w hd=>hx (envOf P N n0 pre hm ρ w hd) _ rfl rfl cl_fin fun _ _ h=>h
end Go.X
namespace Go.X
open Go
end Go.X
namespace Go.X
open Go Go.Proofs
set_option linter.unusedVariables false
set_option linter.unusedSimpArgs false
theorem wrap_i {n:Int} (h:-9223372036854775808 ≤ n) (h':n<9223372036854775808):IntKind.i64.wrap n=n:=by
 rw[IntKind.wrap_i64]
 omega
theorem t20 (c:Int):execC (lookF FL) noSc 1000 x20 (argTm 0 [Value.int IntKind.u8 c]) [] 100 (valK [2])=bif ((decide (c ≥ 48)||!decide (c ≥ 48))&&true||false)&&((decide (c ≥ 48)&&true||!decide (c ≥ 48))&&true)then some [Value.bool (bif decide (c ≥ 48)then decide (c ≤ 57)else false)]else none:=by kernel_rfl
def digF (c:Int):Bool:=decide (c ≥ 48)&&decide (c ≤ 57)
theorem p20 (c:Int):execC (lookF FL) noSc 1000 x20 (argTm 0 [Value.int IntKind.u8 c]) [] 100 (valK [2])=some [Value.bool (digF c)]:=by
 rw[t20]
 unfold digF
 generalize decide (c ≥ 48)=a
 generalize decide (c ≤ 57)=b
 cases a<;>cases b<;>rfl
theorem c20 (c:Int) (n:Nat):ADet Tryd.prog 20 [Value.int IntKind.u8 c] [] (Value.bool (digF c)) [] n 0:=adet_tree FOK 1000 fx20 (by simp) [2] (p20 c) rfl rfl rfl rfl n
def g20:List Value → Option Value
 |[.int .u8 c]=>some (Value.bool (digF c))
 |_=>none
def con20:Con Tryd.prog:=pureC 20 g20 fun vs v n h=>by
 unfold g20 at h
 split at h
 ·cases h;exact c20 _ n
 ·cases h
theorem t30 (c:Int):execC (lookF FL) noSc 1000 x30 (argTm 0 [Value.int IntKind.u8 c]) [] 100 (valK [2])=bif ((!c==95||c==95)&&true||false)&&(((!c==95&&decide (bits2 BinOp.or IntKind.u8 c 32 ≥ 97)||!decide (bits2 BinOp.or IntKind.u8 c 32 ≥ 97))&&!c==95||!!c==95)&&((!c==95&&decide (bits2 BinOp.or IntKind.u8 c 32 ≥ 97)&&true||!(!c==95&&decide (bits2 BinOp.or IntKind.u8 c 32 ≥ 97)))&&((!c==95&&decide (bits2 BinOp.or IntKind.u8 c 32 ≥ 97)&&true||!(!c==95&&decide (bits2 BinOp.or IntKind.u8 c 32 ≥ 97)))&&((!c==95&&true||!!c==95)&&((!c==95&&true||!!c==95)&&((!c==95&&true||!!c==95)&&true))))))then some [Value.bool (bif c==95 then true else bif decide (bits2 BinOp.or IntKind.u8 c 32 ≥ 97)then decide (bits2 BinOp.or IntKind.u8 c 32 ≤ 122)else false)]else none:=by kernel_rfl
def letF (c:Int):Bool:=c==95||(decide (bits2 BinOp.or IntKind.u8 c 32 ≥ 97)&&decide (bits2 BinOp.or IntKind.u8 c 32 ≤ 122))
theorem p30 (c:Int):execC (lookF FL) noSc 1000 x30 (argTm 0 [Value.int IntKind.u8 c]) [] 100 (valK [2])=some [Value.bool (letF c)]:=by
 rw[t30]
 unfold letF
 generalize (c==95)=a
 generalize decide (bits2 BinOp.or IntKind.u8 c 32 ≥ 97)=b
 generalize decide (bits2 BinOp.or IntKind.u8 c 32 ≤ 122)=d
 cases a<;>cases b<;>cases d<;>rfl
theorem c30 (c:Int) (n:Nat):ADet Tryd.prog 30 [Value.int IntKind.u8 c] [] (Value.bool (letF c)) [] n 0:=adet_tree FOK 1000 fx30 (by simp) [2] (p30 c) rfl rfl rfl rfl n
def g30:List Value → Option Value
 |[.int .u8 c]=>some (Value.bool (letF c))
 |_=>none
def con30:Con Tryd.prog:=pureC 30 g30 fun vs v n h=>by
 unfold g30 at h
 split at h
 ·cases h;exact c30 _ n
 ·cases h
def scL:Short:=scOf [con20,con30]
theorem FOKL:FnsOK Tryd.prog (lookF FL) scL:=fok FOK _
end Go.X
