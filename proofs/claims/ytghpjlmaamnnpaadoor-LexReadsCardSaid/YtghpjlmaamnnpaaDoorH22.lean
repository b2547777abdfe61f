import Derived.Test.YtghpjlmaamnnpaaDoorH21
import Derived.Lib.IndexBytes
set_option linter.all false
namespace Go.X
open Go Go.Proofs
set_option linter.unusedVariables false
set_option linter.unusedSimpArgs false
theorem p31_0 (s:ByteArray):walk (lookF FL) scL 1000 x31 (argTm 0 [Value.string s]) [] 100 (Pj.mk [] [] [] []) (Pj.mk [] [] [] []) (Pj.mk [3] [] [0] [])=some (Stop.mk (Leaf.mk [some (true,Value.int IntKind.i64 0)] [] Exit.normal 100) (some (x31_7,[Cx.bl 0,Cx.sq x31_11]))):=by kernel_rfl
abbrev W31 (s:ByteArray) (k:Nat):Option Stop:=walk (lookF FL) scL 1000 x31_7 (mkT [3,0] [Value.int IntKind.i64 (↑k:Int),Value.string s]) [] 100 (Pj.mk [3] [] [0] []) (Pj.mk [] [] [] []) (Pj.mk [] [] [] [])
theorem p31_7 (s:ByteArray) (k:Nat):W31 s k=bif ((decide ((↑k:Int)<(↑s.size:Int))||!decide ((↑k:Int)<(↑s.size:Int)))&&true||false)&&(((decide ((↑k:Int)<(↑s.size:Int))&&!letF (byteAt s (↑k:Int).toNat)||letF (byteAt s (↑k:Int).toNat))&&decide ((↑k:Int)<(↑s.size:Int))||!decide ((↑k:Int)<(↑s.size:Int)))&&((decide ((↑k:Int)<(↑s.size:Int))&&!letF (byteAt s (↑k:Int).toNat)&&true&&true||!(decide ((↑k:Int)<(↑s.size:Int))&&!letF (byteAt s (↑k:Int).toNat)))&&((intRange (↑k:Int) s.size&&(decide ((↑k:Int)<(↑s.size:Int))&&!letF (byteAt s (↑k:Int).toNat)&&(decide ((↑k:Int)<(↑s.size:Int))&&!letF (byteAt s (↑k:Int).toNat)&&true))||!(decide ((↑k:Int)<(↑s.size:Int))&&!letF (byteAt s (↑k:Int).toNat)))&&((decide ((↑k:Int)<(↑s.size:Int))&&true||!decide ((↑k:Int)<(↑s.size:Int)))&&((decide ((↑k:Int)<(↑s.size:Int))&&true&&true||!decide ((↑k:Int)<(↑s.size:Int)))&&((intRange (↑k:Int) s.size&&(decide ((↑k:Int)<(↑s.size:Int))&&(decide ((↑k:Int)<(↑s.size:Int))&&true))||!decide ((↑k:Int)<(↑s.size:Int)))&&true))))))then bif bif decide ((↑k:Int)<(↑s.size:Int))then bif letF (byteAt s (↑k:Int).toNat)then true else digF (byteAt s (↑k:Int).toNat)else false then some (Stop.mk (Leaf.mk [some (true,Value.int IntKind.i64 (IntKind.i64.wrap ((↑k:Int)+1)))] [] Exit.normal 100) none)else some (Stop.mk (Leaf.mk [some (true,Value.int IntKind.i64 (↑k:Int))] [] (Exit.exit 0) 100) none)else none:=by kernel_rfl
theorem p31_11 (s:ByteArray) (k:Nat):walk (lookF FL) scL 1000 x31_11 (mkT [3,0] [Value.int IntKind.i64 (↑k:Int),Value.string s]) [] 100 (Pj.mk [] [] [] []) (Pj.mk [2] [] [] []) (Pj.mk [] [] [] [])=some (Stop.mk (Leaf.mk [some (true,Value.int IntKind.i64 (↑k:Int))] [] Exit.ret 100) none):=by kernel_rfl
def alnum (c:Int):Bool:=letF c||digF c
theorem q31_7 (s:ByteArray) (k:Nat) (hk:k<s.size):W31 s k=bif alnum (byteAt s k)then some (Stop.mk (Leaf.mk [some (true,Value.int IntKind.i64 (IntKind.i64.wrap ((k:Int)+1)))] [] Exit.normal 100) none)else some (Stop.mk (Leaf.mk [some (true,Value.int IntKind.i64 (k:Int))] [] (Exit.exit 0) 100) none):=by
 rw[p31_7]
 simp only[Int.toNat_natCast,ir_nat,lt_nat,decide_eq_true hk]
 unfold alnum
 generalize letF _=a
 generalize digF _=b
 cases a<;>cases b<;>rfl
theorem q31_7e (s:ByteArray) (k:Nat) (hk:¬ k<s.size):W31 s k=some (Stop.mk (Leaf.mk [some (true,Value.int IntKind.i64 (k:Int))] [] (Exit.exit 0) 100) none):=by
 rw[p31_7]
 simp only[Int.toNat_natCast,ir_nat,lt_nat,decide_eq_false hk]
 generalize letF _=a
 cases a<;>rfl
def spanG (p:Nat → Bool):Nat → Nat → Nat
 |0,k=>k
 |f+1,k=>bif p k then spanG p f (k+1)else k
def spanF (s:ByteArray):Nat:=spanG (fun k=>alnum (byteAt s k)) s.size 0
theorem b31 {s:ByteArray} (hs:s.size<9223372036854775807):Body Tryd.prog 31 [.string s] [] (.int .i64 (spanF s)) [] 100 0:=by
 refine body_of' mixed fx31 (by simp) fun E Q hP hn hcl hfin=>?_
 have hF:FnsOK E.P (lookF FL) scL:=hP▸FOKL
 let p:Nat → Bool:=fun k=>alnum (byteAt s k)
 let S:Nat → St:=fun k=>⟨mkT [3,0] [.int .i64 (k:Int),.string s],[],100⟩
 have lf:∀ {k:Nat}{l:Leaf},l.bs=[] → l.ts=[some (true,.int .i64 (k:Int)),some (true,.string s)] → LeafTo E [3,0] l (S k):=fun hb ht =>
  ⟨_,[],_,rfl,by rw[hn,hb];rfl,by rw[hn,hb,ht];exact⟨rfl,rfl,trivial⟩,by rw[hb];trivial⟩
 refine xwp_toLoop (s:=⟨_,_,_⟩) hF 1000 (p31_0 s) (S 0) (lf (k:=0) rfl rfl) ?_
 refine xwp_loopR (ι:=Nat) S (fun k=>k ≤ s.size ∧ spanG p (s.size-k) k=spanF s) (fun k=>s.size-k) 0 ⟨Nat.zero_le _,rfl⟩ fun k hk=>?_
 have hcr:=cl_round (S:=S) (I:=fun k=>k ≤ s.size ∧ spanG p (s.size-k) k=spanF s) (μ:=fun k=>s.size-k) (i:=k) (cl_ctx hcl [.bl 0,.sq x31_11])
 obtain⟨h1,h2⟩:=hk
 have out:spanF s=k → roundP E.toEnv S (fun k=>k ≤ s.size ∧ spanG p (s.size-k) k=spanF s) (fun k=>s.size-k) k (ctxP E.toEnv [.bl 0,.sq x31_11] Q) (.exit 0) (S k):=fun hk=>by
  show XWP E.toEnv x31_11 Q (S k)
  refine xwp_toEnd (s:=S k) hcl hF 1000 (p31_11 s k) ⟨mkT [2] [.int .i64 (k:Int)],[],100⟩ ⟨_,[],_,rfl,by rw[hn];rfl,by rw[hn];exact⟨rfl,trivial⟩,trivial⟩ (hfin _ _ (fin_of rfl trivial (by rw[hn]) (by rw[hk];rfl)))
 by_cases hlt:k<s.size
 ·have e:=q31_7 s k hlt
  obtain⟨f,hf⟩:∃ f,s.size-k=f+1:=⟨s.size-k-1,by omega⟩
  rw[hf]at h2
  cases ha:alnum (byteAt s k)with
  |true =>
   rw[ha,cond_true,wrap_i (n:=(k:Int)+1) (by omega) (by omega)]at e
   have h3:spanG p f (k+1)=spanF s:=by
    rw[← h2]
    show _=bif alnum (byteAt s k)then _ else _
    rw[ha,cond_true]
   exact xwp_toEnd (s:=S k) hcr hF 1000 e (S (k+1)) (lf (k:=k+1) rfl rfl) ⟨k+1,⟨hlt,by rw[show s.size-(k+1)=f by omega];exact h3⟩,by simp only;omega,Wk.refl _ _⟩
  |false =>
   rw[ha,cond_false]at e
   refine xwp_toEnd (s:=S k) hcr hF 1000 e (S k) (lf (k:=k) rfl rfl) (out ?_)
   rw[← h2]
   show(bif alnum (byteAt s k)then _ else _)=_
   rw[ha,cond_false]
 ·refine xwp_toEnd (s:=S k) hcr hF 1000 (q31_7e s k hlt) (S k) (lf (k:=k) rfl rfl) (out ?_)
  rw[← h2,show s.size-k=0 by omega]
  rfl
set_option linter.unusedVariables false
set_option linter.unusedSimpArgs false
theorem c31 {s:ByteArray} (hs:s.size<9223372036854775807) (n:Nat):ADet Tryd.prog 31 [.string s] [] (.int .i64 (spanF s)) [] n 0 :=
 adet_of_body (b31 hs) [] [] rfl rfl trivial rfl rfl trivial rfl
def con31:Con Tryd.prog where
 f:=31
 run:=fun vs h n=>match vs with
  |[.string s]=>some ([],.int .i64 (spanF s),[],0,Nat.blt s.size 9223372036854775807)
  |_=>none
 ok:=fun vs h n pre v upd news hx=>by
  split at hx
  ·simp only[Option.some.injEq,Prod.mk.injEq]at hx
   obtain⟨rfl,rfl,rfl,rfl,hs⟩:=hx
   rw[Nat.blt_eq]at hs
   exact⟨fun id hid=>by simp[fstL]at hid,c31 hs n⟩
  ·cases hx
def scG:Short:=scOf [con27,con28,con29]
theorem FOKG:FnsOK Tryd.prog (lookF FL) scG:=fok FOK _
def mxB (m:Int):List (Nat × Blk):=[(10,.glb 0 0 0 [.int .i64 m])]
set_option linter.unusedVariables false
set_option linter.unusedSimpArgs false
theorem p16_0 (s:ByteArray) (at_ m:Int):walk (lookF FL) scG 1000 x16 (argTm 0 [Value.string s,Value.int IntKind.i64 at_]) (mkH (mxB m)) 100 (Pj.mk [] [] [] []) (Pj.mk [] [] [] []) (Pj.mk [] [] [1,0] [10])=some (Stop.mk (Leaf.mk [] [] Exit.normal 100) (some (x16_37,[Cx.bl 0,Cx.sq x16_41]))):=by kernel_rfl
abbrev W16 (s:ByteArray) (k:Nat) (m:Int):Option Stop:=walk (lookF FL) scG 1000 x16_37 (mkT [1,0] [Value.int IntKind.i64 (↑k:Int),Value.string s]) (mkH (mxB m)) 100 (Pj.mk [1] [] [0] [10]) (Pj.mk [4,5] [] [] [10]) (Pj.mk [] [] [] [])
theorem p16_41 (s:ByteArray) (k:Nat) (m:Int):walk (lookF FL) scG 1000 x16_41 (mkT [1,0] [Value.int IntKind.i64 (↑k:Int),Value.string s]) (mkH (mxB m)) 100 (Pj.mk [] [] [] []) (Pj.mk [4,5] [] [] [10]) (Pj.mk [] [] [] [])=some (Stop.mk (Leaf.mk [some (true,Value.int IntKind.i64 (↑k:Int)),some (true,Value.bool true)] [] Exit.ret 100) none):=by kernel_rfl
def rest (s:ByteArray) (k:Nat):ByteArray:=s.extract k s.size
theorem rest_list (s:ByteArray) (k:Nat):(rest s k).data.toList=s.data.toList.drop k:=by
 unfold rest
 rw[Lib.extract_to_end]
theorem rest_size (s:ByteArray) (k:Nat):(rest s k).size=s.size-k:=by
 rw[Lib.size_eq,rest_list,List.length_drop,← Lib.size_eq]
def sl2:ByteArray:=⟨#[47,47]⟩
def slS:ByteArray:=⟨#[47,42]⟩
def sSl:ByteArray:=⟨#[42,47]⟩
def blanks:ByteArray:=⟨#[32,9,13,10]⟩
theorem hasP_len {r p:ByteArray} (h:hasP r p=true):p.size ≤ r.size:=by
 unfold hasP Lib.hasPrefix at h
 rw[Lib.size_eq p,Lib.size_eq r]
 exact(List.isPrefixOf_iff_prefix.1 h).length_le
def blank (c:Int):Bool:=decide (ixB blanks c ≥ 0)
def rdK (k:Nat) (b:Bool):Option Stop:=some (Stop.mk (Leaf.mk [some (true,.int .i64 (k:Int)),some (true,.bool b)] [] Exit.ret 100) none)
def onI (v:Int):Option Stop:=some (Stop.mk (Leaf.mk [some (true,.int .i64 v)] [] Exit.normal 100) none)
def okA (s:ByteArray) (k:Nat):Bool:=(decide (0 ≤ (k:Int))&&decide ((k:Int) ≤ (s.size:Int))&&decide ((s.size:Int) ≤ (s.size:Int))&&true||false)&&true
def okB (r:ByteArray):Bool:=(intRange 0 r.size&&true||false)&&true
def okC (r:ByteArray):Bool:=((rest r 2).size.blt 4294967281||false)&&((decide (2 ≤ (r.size:Int))&&decide ((r.size:Int) ≤ (r.size:Int))&&true||false)&&true)
theorem p16 (s:ByteArray) (k:Nat) (m:Int):W16 s k m=bif decide ((k:Int)<(s.size:Int))then bif okA s k then bif okB (rest s k)then
   bif blank (byteAt (rest s k) 0)then onI (IntKind.i64.wrap ((k:Int)+1))
   else bif hasP (rest s k) sl2 then
    bif decide (ixB (rest s k) 10<0)then onI (IntKind.i64.wrap ((k:Int)+((rest s k).size:Int)))else onI (IntKind.i64.wrap ((k:Int)+ixB (rest s k) 10))
   else bif hasP (rest s k) slS then bif okC (rest s k)then
     bif decide (ixS (rest (rest s k) 2) sSl<0)then rdK k false else onI (IntKind.i64.wrap ((k:Int)+IntKind.i64.wrap (ixS (rest (rest s k) 2) sSl+4)))
    else none
   else rdK k true
  else none else none else some (Stop.mk (Leaf.mk [some (true,.int .i64 (k:Int))] [] (Exit.exit 0) 100) none):=by kernel_rfl
theorem q16 (s:ByteArray) (k:Nat) (m:Int) (hk:k<s.size) (hs:s.size<4294967281):W16 s k m =
  bif blank (byteAt (rest s k) 0)then onI (IntKind.i64.wrap ((k:Int)+1))
  else bif hasP (rest s k) sl2 then
   bif decide (ixB (rest s k) 10<0)then onI (IntKind.i64.wrap ((k:Int)+((rest s k).size:Int)))else onI (IntKind.i64.wrap ((k:Int)+ixB (rest s k) 10))
  else bif hasP (rest s k) slS then
   bif decide (ixS (rest (rest s k) 2) sSl<0)then rdK k false else onI (IntKind.i64.wrap ((k:Int)+IntKind.i64.wrap (ixS (rest (rest s k) 2) sSl+4)))
  else rdK k true:=by
 have h1:(rest s k).size=s.size-k:=rest_size s k
 have a:okA s k=true:=by
  unfold okA
  rw[show decide (0 ≤ (k:Int))=true from decide_eq_true (by omega),show decide ((k:Int) ≤ (s.size:Int))=true from decide_eq_true (by omega),show decide ((s.size:Int) ≤ (s.size:Int))=true from decide_eq_true (by omega)];rfl
 have b:okB (rest s k)=true:=by
  unfold okB
  rw[show intRange 0 (rest s k).size=true by rw[show(0:Int)=((0:Nat):Int) from rfl,ir_nat];exact decide_eq_true (by omega)];rfl
 rw[p16,decide_eq_true (show(k:Int)<(s.size:Int) by omega),a,b]
 simp only[cond_true]
 cases h3:hasP (rest s k) slS with
 |false=>simp only[cond_false]
 |true =>
  have h5:=hasP_len h3
  rw[h1]at h5
  have h4:2 ≤ s.size-k:=h5
  have c:okC (rest s k)=true:=by
   unfold okC
   rw[show((rest (rest s k) 2).size.blt 4294967281)=true from lt_blt (by rw[rest_size,rest_size];omega),show decide (2 ≤ ((rest s k).size:Int))=true from decide_eq_true (by omega),show decide (((rest s k).size:Int) ≤ ((rest s k).size:Int))=true from decide_eq_true (by omega)];rfl
  rw[c]
  simp only[cond_true]
theorem q16e (s:ByteArray) (k:Nat) (m:Int) (hk:¬ k<s.size):W16 s k m=some (Stop.mk (Leaf.mk [some (true,.int .i64 (k:Int))] [] (Exit.exit 0) 100) none):=by
 rw[p16,decide_eq_false (show ¬ (k:Int)<(s.size:Int) by omega)]
 rfl
set_option linter.unusedVariables false
set_option linter.unusedSimpArgs false
theorem index_fit (p:List UInt8):∀ s:List UInt8,0 ≤ Lib.index s p → (Lib.index s p).toNat+p.length ≤ s.length
 |[],h=>by
  unfold Lib.index at h ⊢
  split at h
  ·rename_i hp
   cases p with
   |nil=>simp
   |cons=>simp at hp
  ·omega
 |b :: l,h=>by
  unfold Lib.index at h ⊢
  by_cases hp:p.isPrefixOf (b :: l)=true
  ·rw[if_pos hp]
   have:=(List.isPrefixOf_iff_prefix.1 hp).length_le
   simpa using this
  ·rw[if_neg hp]at h ⊢
   by_cases hn:(Lib.index l p==-1)=true
   ·rw[if_pos hn]at h;omega
   ·rw[if_neg hn]at h ⊢
    have hge:=Lib.index_ge l p
    have hne:Lib.index l p≠-1:=fun e=>hn (by rw[e];rfl)
    have:=index_fit p l (by omega)
    simp only[List.length_cons]
    omega
theorem ixS_fit {r:ByteArray} (h:¬ ixS r sSl<0):(ixS r sSl).toNat+2 ≤ r.size ∧ 0 ≤ ixS r sSl:=by
 unfold ixS at h ⊢
 have:=index_fit sSl.data.toList r.data.toList (by omega)
 rw[Lib.size_eq r]
 exact⟨this,by omega⟩
theorem ixB_fit (s:ByteArray) (k:Nat) (hp:hasP (rest s k) sl2=true) (h:¬ ixB (rest s k) 10<0):∃ o:Nat,ixB (rest s k) 10=(o:Int) ∧ k+o<s.size ∧ 0<o:=by
 have h1:ixB (rest s k) 10=Lib.indexByte (s.extract k s.size).data.toList 10:=rfl
 rcases Lib.indexByte_piece s k s.size 10 with e|⟨o,e,ho⟩
 ·rw[h1,e]at h;exact absurd (by decide) h
 ·refine⟨o,h1.trans e,ho,?_⟩
  cases o with
  |succ=>omega
  |zero =>
   unfold hasP Lib.hasPrefix at hp
   have e2:Lib.indexByte (rest s k).data.toList 10=0:=e
   obtain⟨t,ht⟩:=List.isPrefixOf_iff_prefix.1 hp
   rw[← ht]at e2
   have:sl2.data.toList++t=47 :: 47 :: t:=rfl
   rw[this]at e2
   unfold Lib.indexByte at e2
   rw[if_neg (by decide)]at e2
   have:=Lib.indexByte_ge (47 :: t) 10
   split at e2
   ·cases e2
   ·rename_i hn
    have hne:Lib.indexByte (47 :: t) 10≠-1:=fun e=>hn (by rw[e];rfl)
    omega
def gapG (s:ByteArray):Nat → Nat → Nat × Bool
 |0,k=>(k,true)
 |f + 1,k=>bif Nat.blt k s.size then
    bif blank (byteAt (rest s k) 0)then gapG s f (k+1)
    else bif hasP (rest s k) sl2 then bif decide (ixB (rest s k) 10<0)then gapG s f s.size else gapG s f (k+(ixB (rest s k) 10).toNat)
    else bif hasP (rest s k) slS then bif decide (ixS (rest (rest s k) 2) sSl<0)then(k,false)else gapG s f (k+(ixS (rest (rest s k) 2) sSl).toNat+4)
    else(k,true)
  else(k,true)
theorem gapG_end {s:ByteArray}{k:Nat} (h:¬ k<s.size) (f:Nat):gapG s f k=(k,true):=by
 cases f with
 |zero=>rfl
 |succ f =>
  have:Nat.blt k s.size=false:=by rw[blt_dec];exact decide_eq_false h
  simp only[gapG,this,cond_false]
def S16 (s:ByteArray) (m:Int) (k:Nat):St:=⟨mkT [1,0] [.int .i64 (k:Int),.string s],mkH (mxB m),100⟩
theorem b16 {s:ByteArray}{m:Int}{k0:Nat} (hs:s.size<4294967281) (hk0:k0 ≤ s.size) :
  Body Tryd.prog 16 [.string s,.int .i64 (k0:Int)] (mkH (mxB m)) (.tuple ⟨[.int .i64 ((gapG s s.size k0).1:Int),.bool (gapG s s.size k0).2]⟩) [] 100 0:=by
 refine body_of' mixed fx16 (by simp) fun E Q hP hn hcl hfin=>?_
 have hF:FnsOK E.P (lookF FL) scG:=hP▸FOKG
 obtain⟨R,hR⟩:∃ R,gapG s s.size k0=R:=⟨_,rfl⟩
 rw[hR]at hfin
 have lf:∀ {k:Nat}{l:Leaf},l.bs=mkH (mxB m) → l.ts=[some (true,.int .i64 (k:Int)),some (true,.string s)] → LeafTo E [1,0] l (S16 s m k):=fun hb ht =>
  ⟨_,mxB m,_,rfl,by rw[hn,hb];rfl,by rw[hn,hb,ht];exact⟨rfl,rfl,trivial⟩,by rw[hn,hb];exact⟨⟨rfl,rfl,rfl,rfl⟩,trivial⟩⟩
 have lr:∀ {k:Nat}{b:Bool}{l:Leaf},l.bs=mkH (mxB m) → l.ts=[some (true,.int .i64 (k:Int)),some (true,.bool b)] → LeafTo E [4,5] l ⟨mkT [4,5] [.int .i64 (k:Int),.bool b],mkH (mxB m),100⟩:=fun hb ht =>
  ⟨_,mxB m,_,rfl,by rw[hn,hb];rfl,by rw[hn,hb,ht];exact⟨rfl,rfl,trivial⟩,by rw[hn,hb];exact⟨⟨rfl,rfl,rfl,rfl⟩,trivial⟩⟩
 have fin:∀ {k:Nat}{b:Bool},R=(k,b) → Q .ret ⟨mkT [4,5] [.int .i64 (k:Int),.bool b],mkH (mxB m),100⟩:=fun h=>hfin _ _ (fin_of rfl ⟨rfl,trivial⟩ (by rw[hn]) (by rw[h];rfl))
 refine xwp_toLoop (s:=⟨_,_,_⟩) hF 1000 (p16_0 s (k0:Int) m) (S16 s m k0) (lf (k:=k0) rfl rfl) ?_
 refine xwp_loopR (ι:=Nat) (S16 s m) (fun k=>k ≤ s.size ∧ ∃ f,s.size-k ≤ f ∧ gapG s f k=R) (fun k=>s.size-k) k0 ⟨hk0,s.size,by omega,hR⟩ fun k hk=>?_
 have hcr:=cl_round (S:=S16 s m) (I:=fun k=>k ≤ s.size ∧ ∃ f,s.size-k ≤ f ∧ gapG s f k=R) (μ:=fun k=>s.size-k) (i:=k) (cl_ctx hcl [.bl 0,.sq x16_41])
 obtain⟨h1,f,hf,h2⟩:=hk
 by_cases hlt:k<s.size
 ·have e:=q16 s k m hlt hs
  obtain⟨f,rfl⟩:∃ f',f=f'+1:=⟨f-1,by omega⟩
  simp only[gapG,lt_blt hlt,cond_true]at h2
  have go:∀ k',k<k' → k' ≤ s.size → gapG s f k'=R → W16 s k m=onI (k':Int) → XWP E.toEnv x16_37 (roundP E.toEnv (S16 s m) (fun k=>k ≤ s.size ∧ ∃ f,s.size-k ≤ f ∧ gapG s f k=R) (fun k=>s.size-k) k (ctxP E.toEnv [.bl 0,.sq x16_41] Q)) (S16 s m k):=fun k' a b c d =>
   xwp_toEnd (s:=S16 s m k) hcr hF 1000 d (S16 s m k') (lf (k:=k') rfl rfl) ⟨k',⟨b,f,by omega,c⟩,by simp only;omega,Wk.refl _ _⟩
  have ret:∀ b,R=(k,b) → W16 s k m=rdK k b → XWP E.toEnv x16_37 (roundP E.toEnv (S16 s m) (fun k=>k ≤ s.size ∧ ∃ f,s.size-k ≤ f ∧ gapG s f k=R) (fun k=>s.size-k) k (ctxP E.toEnv [.bl 0,.sq x16_41] Q)) (S16 s m k):=fun b a d =>
   xwp_toEnd (s:=S16 s m k) hcr hF 1000 d _ (lr (k:=k) (b:=b) rfl rfl) (fin a)
  cases hb:blank (byteAt (rest s k) 0)with
  |true =>
   rw[hb,cond_true]at h2 e
   exact go (k+1) (by omega) hlt h2 (by rw[e,wrap_i (by omega) (by omega)];rfl)
  |false =>
   rw[hb,cond_false]at h2 e
   cases hp:hasP (rest s k) sl2 with
   |true =>
    rw[hp,cond_true]at h2 e
    by_cases hn0:ixB (rest s k) 10<0
    ·rw[decide_eq_true hn0,cond_true]at h2 e
     exact go s.size hlt (Nat.le_refl _) h2 (by rw[e,rest_size,wrap_i (by omega) (by omega)];congr 1;omega)
    ·rw[decide_eq_false hn0,cond_false]at h2 e
     obtain⟨o,ho,h3,h4⟩:=ixB_fit s k hp hn0
     rw[ho]at h2 e
     exact go (k+o) (by omega) (by omega) h2 (by rw[e,wrap_i (by omega) (by omega)];congr 1)
   |false =>
    rw[hp,cond_false]at h2 e
    cases hq:hasP (rest s k) slS with
    |true =>
     rw[hq,cond_true]at h2 e
     by_cases hn0:ixS (rest (rest s k) 2) sSl<0
     ·rw[decide_eq_true hn0,cond_true]at h2 e
      exact ret false h2.symm e
     ·rw[decide_eq_false hn0,cond_false]at h2 e
      obtain⟨h3,h4⟩:=ixS_fit hn0
      rw[rest_size,rest_size]at h3
      have h5:=hasP_len hq
      rw[rest_size]at h5
      have h6:2 ≤ s.size-k:=h5
      obtain⟨o,ho⟩:∃ o:Nat,ixS (rest (rest s k) 2) sSl=(o:Int):=⟨(ixS (rest (rest s k) 2) sSl).toNat,by omega⟩
      rw[ho]at h2 e h3
      simp only[Int.toNat_natCast]at h2 h3
      exact go (k+o+4) (by omega) (by omega) h2 (by rw[e,wrap_i (n:=(o:Int)+4) (by omega) (by omega),wrap_i (by omega) (by omega)];congr 1)
    |false =>
     rw[hq,cond_false]at h2 e
     exact ret true h2.symm e
 ·rw[gapG_end hlt]at h2
  refine xwp_toEnd (s:=S16 s m k) hcr hF 1000 (q16e s k m hlt) (S16 s m k) (lf (k:=k) rfl rfl) ?_
  show XWP E.toEnv x16_41 Q (S16 s m k)
  exact xwp_toEnd (s:=S16 s m k) hcl hF 1000 (p16_41 s k m) _ (lr (k:=k) (b:=true) rfl rfl) (fin h2.symm)
set_option linter.unusedVariables false
set_option linter.unusedSimpArgs false
def sB (s:ByteArray):Blk:=.rows s.size 1 (fun j=>[.int .u8 (byteAt s j)]) true false
abbrev V44 (i N:Nat) (n mx ct b:Int):List Value:=[.int .i64 (i:Int),.int .u64 n,.int .i64 (N:Int),.slice (some ⟨100,0,none⟩) N N,.bool false,.int .u64 mx,.int .u64 ct,.bool false,.int .i64 b]
abbrev K44:List Nat:=[101,13,100,99,12,11,10,8,1]
abbrev W44 (s:ByteArray) (i N:Nat) (n mx ct b:Int):Option Stop:=walk (lookF FL) noSc 1000 x44_120 (mkT K44 (V44 i N n mx ct b)) [(100,some (sB s))] 101 ⟨[101,13],[],[100,99,12,11,10,8,1],[100]⟩ ⟨[6,7],[],[],[100]⟩ ⟨[],[],[],[]⟩
def errR (v k:Int):Option Stop:=some (Stop.mk (Leaf.mk [some (true,.int .u64 v),some (true,.iface 91 (.int .i64 k))] [] Exit.ret 101) none)
def nx44 (i n:Int):Option Stop:=some (Stop.mk (Leaf.mk [some (true,.int .i64 i),some (true,.int .u64 n)] [] Exit.normal 101) none)
def isD (c:Int):Bool:=bif decide (48 ≤ c)then decide (c ≤ 57)else false
def lwr (c:Int):Int:=bits2 BinOp.or IntKind.u8 c 32
def isA (c:Int):Bool:=bif decide (97 ≤ lwr c)then decide (lwr c ≤ 122)else false
def dV (c:Int):Int:=IntKind.u8.wrap (c-48)
def aV (c:Int):Int:=IntKind.u8.wrap (IntKind.u8.wrap (lwr c-97)+10)
def mulU (n b:Int):Int:=IntKind.u64.wrap (n*IntKind.u64.wrap b)
def n1U (n b d:Int):Int:=IntKind.u64.wrap (mulU n b+IntKind.u64.wrap d)
def T2 (x:Bool):Bool:=((x||!x)&&true||false)&&((x&&true||!x)&&true)
def T3 (x:Bool):Bool:=((x||!x)&&true||false)&&((x&&true||!x)&&((x&&true&&true||!x)&&true))
def T4 (x:Bool):Bool:=((!x||x)&&true||false)&&((!x&&(!x&&true)||!!x)&&true)
def T1 (x:Bool):Bool:=((x||!x)&&true||false)&&true
def stp (i:Nat) (n mx ct b d:Int):Option Stop :=
 bif decide (d ≥ IntKind.u8.wrap b)then errR 0 2 else bif decide (n ≥ ct)then errR mx 1 else bif T4 (decide (n1U n b d<mulU n b))then
  bif bif decide (n1U n b d<mulU n b)then true else decide (n1U n b d>mx)then errR mx 1 else nx44 (IntKind.i64.wrap ((i:Int)+1)) (n1U n b d)else none
theorem p44 (s:ByteArray) (i N:Nat) (n mx ct b:Int):W44 s i N n mx ct b=bif decide ((i:Int)<(N:Int))then bif ((0+i).blt s.size&&true||false)&&((intRange (i:Int) N&&true||false)&&true)then
   bif T1 (byteAt s (0+i)==95)then bif bif byteAt s (0+i)==95 then false else false then none else bif T2 (decide (48 ≤ byteAt s (0+i)))then
    bif isD (byteAt s (0+i))then stp i n mx ct b (dV (byteAt s (0+i)))else bif T3 (decide (97 ≤ lwr (byteAt s (0+i))))then bif isA (byteAt s (0+i))then stp i n mx ct b (aV (byteAt s (0+i)))else errR 0 2 else none
   else none else none else none else some (Stop.mk (Leaf.mk [some (true,.int .i64 (i:Int)),some (true,.int .u64 n)] [] (Exit.exit 3) 101) none):=by kernel_rfl
theorem t1 (x:Bool):T1 x=true:=by cases x<;>rfl
theorem t2 (x:Bool):T2 x=true:=by cases x<;>rfl
theorem t3 (x:Bool):T3 x=true:=by cases x<;>rfl
theorem t4 (x:Bool):T4 x=true:=by cases x<;>rfl
def pu2 (n mx ct b d:Int):Int × Int :=
 bif decide (d ≥ IntKind.u8.wrap b)then(2,0)else bif decide (n ≥ ct)then(1,mx)else bif decide (n1U n b d<mulU n b)||decide (n1U n b d>mx)then(1,mx)else(0,n1U n b d)
def pu (n mx ct b c:Int):Int × Int:=bif isD c then pu2 n mx ct b (dV c)else bif isA c then pu2 n mx ct b (aV c)else(2,0)
def lf44 (i:Nat) (p:Int × Int):Option Stop:=bif p.1==0 then nx44 (IntKind.i64.wrap ((i:Int)+1)) p.2 else errR p.2 p.1
theorem stp_eq (i:Nat) (n mx ct b d:Int):stp i n mx ct b d=lf44 i (pu2 n mx ct b d):=by
 unfold stp pu2
 rw[t4]
 cases decide (d ≥ IntKind.u8.wrap b)<;>cases decide (n ≥ ct)<;>cases decide (n1U n b d<mulU n b)<;>cases decide (n1U n b d>mx)<;>rfl
theorem q44 (s:ByteArray) (i:Nat) (n mx ct b:Int) (hi:i<s.size):W44 s i s.size n mx ct b=lf44 i (pu n mx ct b (byteAt s i)):=by
 rw[p44,t1,t2,t3,decide_eq_true (show(i:Int)<(s.size:Int) by omega),lt_blt (show 0+i<s.size by omega),ir_nat,decide_eq_true hi,Nat.zero_add]
 unfold pu
 rw[stp_eq,stp_eq]
 cases isD (byteAt s i)<;>cases isA (byteAt s i)<;>cases (byteAt s i==95)<;>rfl
theorem q44e (s:ByteArray) (i:Nat) (n mx ct b:Int) (hi:¬ i<s.size):W44 s i s.size n mx ct b=some (Stop.mk (Leaf.mk [some (true,.int .i64 (i:Int)),some (true,.int .u64 n)] [] (Exit.exit 3) 101) none):=by
 rw[p44,decide_eq_false (show ¬ (i:Int)<(s.size:Int) by omega)]
 rfl
set_option linter.unusedVariables false
set_option linter.unusedSimpArgs false
abbrev A44 (s:ByteArray) (b:Int):Option Stop:=walk (lookF FL) noSc 1000 x44 (argTm 0 [Value.string s,.int .i64 b,.int .i64 63]) [] 100 ⟨[],[],[],[]⟩ ⟨[6,7],[],[],[]⟩ ⟨K44,[.tmp 99],[],[]⟩
def st44 (s:ByteArray) (ct b:Int):Option Stop:=bif s.toList==(ByteArray.mk #[]).toList then some (Stop.mk (Leaf.mk [some (true,Value.int IntKind.u64 0),some (true,Value.iface 91 (Value.int IntKind.i64 2))] [] Exit.ret 100) none)
 else some (Stop.mk (Leaf.mk ((V44 0 s.size 0 9223372036854775807 ct b).map fun v=>some (true,v)) [(100,some (sB s))] Exit.normal 101) (some (x44_120,[Cx.bl 3,Cx.sq x44_131])))
theorem p44_10 (s:ByteArray):A44 s 10=st44 s 1844674407370955162 10:=by kernel_rfl
theorem p44_16 (s:ByteArray):A44 s 16=st44 s 1152921504606846976 16:=by kernel_rfl
theorem p44_131 (s:ByteArray) (i N:Nat) (n mx ct b:Int):walk (lookF FL) noSc 1000 x44_131 (mkT K44 (V44 i N n mx ct b)) [(100,some (sB s))] 101 (Pj.mk [] [] [] []) (Pj.mk [6,7] [] [] [100]) (Pj.mk [] [] [] []) =
 some (Stop.mk (Leaf.mk [some (true,Value.int IntKind.u64 n),some (true,Value.nilIface)] [] Exit.ret 101) none):=by kernel_rfl
def puG (s:ByteArray) (mx ct b:Int):Nat → Nat → Int → Int × Int
 |0,i,n=>(0,n)
 |f+1,i,n=>bif (pu n mx ct b (byteAt s i)).1==0 then puG s mx ct b f (i+1) (pu n mx ct b (byteAt s i)).2 else((pu n mx ct b (byteAt s i)).1,(pu n mx ct b (byteAt s i)).2)
def errV (k:Int):Value:=bif k==0 then .nilIface else .iface 91 (.int .i64 k)
def ctOf (b ct:Int):Prop:=(b=10 ∧ ct=1844674407370955162) ∨ (b=16 ∧ ct=1152921504606846976)
theorem bis_sB {P:Program}{σ:Nm}{s:ByteArray}:BIs P σ (sB s) (sB s):=⟨rfl,rfl,fun j _=>rfl,.inl rfl,.inr rfl⟩
theorem nil_list {s:ByteArray} (h:0<s.size):(s.toList==(ByteArray.mk #[]).toList)=false:=by
 obtain⟨⟨l⟩⟩:=s
 cases l with
 |nil=>exact absurd h (Nat.lt_irrefl 0)
 |cons a l=>simp
def S44 (s:ByteArray) (ct b:Int) (z:Nat × Int):St:=⟨mkT K44 (V44 z.1 s.size z.2 9223372036854775807 ct b),[(100,some (sB s))],101⟩
theorem b44 {s:ByteArray}{ct b:Int} (hb:ctOf b ct) (hs:s.size<4611686018427387904) (h0:0<s.size){k v:Int} (hr:puG s 9223372036854775807 ct b s.size 0 0=(k,v)) :
  Body Tryd.prog 44 [.string s,.int .i64 b,.int .i64 63] [] (.tuple ⟨[.int .u64 v,errV k]⟩) [(100,some (sB s))] 100 1:=by
 refine body_of' mixed fx44 (by simp) fun E Q hP hn hcl hfin=>?_
 have hF:FnsOK E.P (lookF FL) noSc:=hP▸FOK
 have lf:∀ {z:Nat × Int}{l:Leaf},l.bs=[(100,some (sB s))] → l.ts=(V44 z.1 s.size z.2 9223372036854775807 ct b).map (fun v=>some (true,v)) → LeafTo E K44 l (S44 s ct b z):=fun hb ht =>
  ⟨_,[(100,sB s)],_,rfl,by rw[hn,hb];rfl,by rw[hn,hb,ht];exact⟨rfl,rfl,rfl,rfl,rfl,rfl,rfl,rfl,rfl,trivial⟩,by rw[hn,hb];exact⟨bis_sB,trivial⟩⟩
 have lr:∀ {a c:Value}{l:Leaf},(∀ σ:Nm,rn σ a=a) → (∀ σ:Nm,rn σ c=c) → l.bs=[(100,some (sB s))] → l.ts=[some (true,a),some (true,c)] → LeafTo E [6,7] l ⟨mkT [6,7] [a,c],[(100,some (sB s))],101⟩:=fun ha hc hb ht =>
  ⟨_,[(100,sB s)],_,rfl,by rw[hn,hb];rfl,by rw[hn,hb,ht];exact⟨(congrArg (fun x=>some (true,x)) (ha _)).symm,(congrArg (fun x=>some (true,x)) (hc _)).symm,trivial⟩,by rw[hn,hb];exact⟨bis_sB,trivial⟩⟩
 have e0:A44 s b=st44 s ct b:=by
  rcases hb with⟨rfl,rfl⟩|⟨rfl,rfl⟩
  ·exact p44_10 s
  ·exact p44_16 s
 unfold st44 at e0
 rw[nil_list h0,cond_false]at e0
 refine xwp_toLoop (s:=⟨_,_,_⟩) hF 1000 e0 (S44 s ct b (0,0)) (lf (z:=(0,0)) rfl rfl) ?_
 refine xwp_loopR (ι:=Nat × Int) (S44 s ct b) (fun z=>z.1 ≤ s.size ∧ puG s 9223372036854775807 ct b (s.size-z.1) z.1 z.2=(k,v)) (fun z=>s.size-z.1) (0,0) ⟨Nat.zero_le _,hr⟩ fun z hz=>?_
 have hcr:=cl_round (S:=S44 s ct b) (I:=fun z=>z.1 ≤ s.size ∧ puG s 9223372036854775807 ct b (s.size-z.1) z.1 z.2=(k,v)) (μ:=fun z=>s.size-z.1) (i:=z) (cl_ctx hcl [.bl 3,.sq x44_131])
 obtain⟨i,n⟩:=z
 obtain⟨h1,h2⟩:=hz
 simp only at h1 h2
 by_cases hlt:i<s.size
 ·have e:=q44 s i n 9223372036854775807 ct b hlt
  obtain⟨f,hf⟩:∃ f,s.size-i=f+1:=⟨s.size-i-1,by omega⟩
  rw[hf]at h2
  unfold puG at h2
  unfold lf44 at e
  cases hp:(pu n 9223372036854775807 ct b (byteAt s i)).1==0 with
  |true =>
   rw[hp,cond_true]at h2 e
   rw[wrap_i (n:=(i:Int)+1) (by omega) (by omega)]at e
   exact xwp_toEnd (s:=S44 s ct b (i,n)) hcr hF 1000 e (S44 s ct b (i+1,(pu n 9223372036854775807 ct b (byteAt s i)).2)) (lf (z:=(i+1,_)) rfl rfl) ⟨(i+1,_),⟨hlt,by simp only;rw[show s.size-(i+1)=f by omega];exact h2⟩,by simp only;omega,Wk.refl _ _⟩
  |false =>
   rw[hp,cond_false]at h2 e
   simp only[Prod.mk.injEq]at h2
   obtain⟨hk,hv⟩:=h2
   rw[hk,hv]at e
   rw[hk]at hp
   refine xwp_toEnd (s:=S44 s ct b (i,n)) hcr hF 1000 e _ (lr (a:=.int .u64 v) (c:=.iface 91 (.int .i64 k)) (fun _=>rfl) (fun _=>rfl) rfl rfl) ?_
   exact hfin _ _ (fin_of rfl ⟨rfl,trivial⟩ (by rw[hn]) (by unfold errV;rw[hp,cond_false];rfl))
 ·rw[show s.size-i=0 by omega]at h2
  obtain⟨rfl,rfl⟩:0=k ∧ n=v:=by simpa [puG]using h2
  refine xwp_toEnd (s:=S44 s ct b (i,n)) hcr hF 1000 (q44e s i n 9223372036854775807 ct b hlt) (S44 s ct b (i,n)) (lf (z:=(i,n)) rfl rfl) ?_
  show XWP E.toEnv x44_131 Q (S44 s ct b (i,n))
  exact xwp_toEnd (s:=S44 s ct b (i,n)) hcl hF 1000 (p44_131 s i s.size n 9223372036854775807 ct b) _ (lr (a:=.int .u64 n) (c:=.nilIface) (fun _=>rfl) (fun _=>rfl) rfl rfl) (hfin _ _ (fin_of rfl ⟨rfl,trivial⟩ (by rw[hn]) rfl))
set_option linter.unusedVariables false
set_option linter.unusedSimpArgs false
def ctI (b:Int):Int:=bif b==10 then 1844674407370955162 else 1152921504606846976
def puF (s:ByteArray) (b:Int):Int × Int:=puG s 9223372036854775807 (ctI b) b s.size 0 0
def errC:Nat → Value
 |0=>.nilIface
 |k+1=>.iface 91 (.int .i64 ((k+1:Nat):Int))
theorem errV_C:∀ k:Nat,errV (k:Int)=errC k
 |0=>rfl
 |k+1=>by
  unfold errV
  rw[show(((k+1:Nat):Int)==0)=false by rw[beq_eq_false_iff_ne];omega]
  rfl
theorem rn_errC (σ:Nm):∀ k:Nat,rn σ (errC k)=errC k
 |0=>rfl
 |k+1=>rfl
theorem names_new {n:Nat}{b:Blk} (h:b.ro=false):namesOK [] [(n,100)] 100 n 1 [(n,some b)]=true:=by
 simp[namesOK,updRW,h,Nat.blt_eq]
theorem c44 {s:ByteArray}{b v:Int}{k:Nat} (hb:b=10 ∨ b=16) (hs:s.size<4611686018427387904) (h0:0<s.size) (hr:puF s b=((k:Int),v)) (n:Nat) :
  ADet Tryd.prog 44 [.string s,.int .i64 b,.int .i64 63] [] (.tuple ⟨[.int .u64 v,errC k]⟩) [(n,some (sB s))] n 1:=by
 have hct:ctOf b (ctI b):=by
  rcases hb with rfl|rfl
  ·exact .inl ⟨rfl,rfl⟩
  ·exact .inr ⟨rfl,rfl⟩
 have h:=b44 hct hs h0 hr
 rw[errV_C]at h
 refine adet_of_body h [] [(n,100)] (names_new rfl) rfl trivial rfl ?_ ?_ ?_
 ·show Value.tuple _=_
  have:=rn_errC (asc ([(n,100)]++flip [])) k
  cases k<;>rfl
 ·refine⟨?_,trivial⟩
  simp only[natMem,flip,List.append_nil,asc,Nat.beq_refl,cond_true,List.cons_append,List.nil_append,hget]
  exact bis_sB
 ·simp[namesOf,nodupB,natMem,asc,flip,Nat.beq_refl]
def con44 (kk:Nat):Con Tryd.prog where
 f:=44
 run:=fun vs h n=>match vs with
  |[.string s,.int .i64 b,.int .i64 63]=>some ([],.tuple ⟨[.int .u64 (puF s b).2,errC kk]⟩,[(n,some (sB s))],1,(Nat.blt s.size 4611686018427387904&&Nat.blt 0 s.size)&&((b==10||b==16)&&((puF s b).1==(kk:Int))))
  |_=>none
 ok:=fun vs h n pre v upd news hx=>by
  split at hx
  ·rename_i s b
   simp only[Option.some.injEq,Prod.mk.injEq,Bool.and_eq_true,Bool.or_eq_true,beq_iff_eq]at hx
   obtain⟨rfl,rfl,rfl,rfl,⟨h1,h2⟩,h3,h4⟩:=hx
   rw[Nat.blt_eq]at h1 h2
   exact⟨fun id hid=>by simp[fstL]at hid,c44 h3 h1 h2 (Prod.ext h4 rfl) n⟩
  ·cases hx
set_option linter.unusedVariables false
set_option linter.unusedSimpArgs false
structure Gv where
 m:Int
 cap:Nat
 R:Nat
 oR:Nat
 t1:TypeId
 t2:TypeId
def glH (G:Gv):List (Nat × Blk):=[(10,.glb 0 0 0 [.int .i64 G.m]),(11,.glb 1 0 1 []),(12,.glb 2 0 0 [.slice (some ⟨13,0,none⟩) 336 G.cap]),(13,.glb G.R G.oR 4 []),(14,.glb 6 0 2 []),(15,.glb 7 0 3 []),
 (16,.glb 3 0 0 [.iface G.t1 (.pointer (some ⟨18,0,some 0⟩))]),(17,.glb 4 0 0 [.iface G.t2 (.pointer (some ⟨19,0,some 0⟩))])]
end Go.X
