import Derived.Test.YtghpjlmaamnnpaaDoorH22
import Derived.Test.YtghpjlmaamnnpaaDoorH21
set_option linter.all false
namespace Go.X
open Go Go.Proofs
set_option linter.unusedVariables false
set_option linter.unusedSimpArgs false
theorem b44e {s:ByteArray}{b:Int} (hb:b=10 ∨ b=16) (h0:s.size=0):Body Tryd.prog 44 [.string s,.int .i64 b,.int .i64 63] [] (.tuple ⟨[.int .u64 0,errC 2]⟩) [] 100 0:=by
 refine body_of' mixed fx44 (by simp) fun E Q hP hn hcl hfin=>?_
 have hF:FnsOK E.P (lookF FL) noSc:=hP▸FOK
 have e0:A44 s b=st44 s (ctI b) b:=by
  rcases hb with rfl|rfl
  ·exact p44_10 s
  ·exact p44_16 s
 have hs:(s.toList==(ByteArray.mk #[]).toList)=true:=by
  obtain⟨⟨l⟩⟩:=s
  cases l with
  |nil=>simp
  |cons a l=>exact absurd (show(a :: l).length=0 from h0) (by simp)
 unfold st44 at e0
 rw[hs,cond_true]at e0
 exact xwp_toEnd (s:=⟨_,_,_⟩) hcl hF 1000 e0 ⟨mkT [6,7] [.int .u64 0,.iface 91 (.int .i64 2)],[],100⟩ ⟨_,[],_,rfl,by rw[hn];rfl,by rw[hn];exact⟨rfl,rfl,trivial⟩,trivial⟩ (hfin _ _ (fin_of rfl trivial (by rw[hn]) rfl))
def con44e:Con Tryd.prog where
 f:=44
 run:=fun vs h n=>match vs with
  |[.string s,.int .i64 b,.int .i64 63]=>some ([],.tuple ⟨[.int .u64 0,errC 2]⟩,[],0,Nat.beq s.size 0&&(b==10||b==16))
  |_=>none
 ok:=fun vs h n pre v upd news hx=>by
  split at hx
  ·rename_i s b
   simp only[Option.some.injEq,Prod.mk.injEq,Bool.and_eq_true,Bool.or_eq_true,beq_iff_eq]at hx
   obtain⟨rfl,rfl,rfl,rfl,h1,h3⟩:=hx
   exact⟨fun id hid=>by simp[fstL]at hid,adet_of_body (b44e h3 (Nat.eq_of_beq_eq_true h1)) [] [] rfl rfl trivial rfl rfl trivial rfl⟩
  ·cases hx
def con44k:Nat → Con Tryd.prog
 |3=>con44e
 |k=>con44 k
def scN (kk:Nat):Short:=scOf [con20,con21,con22,con23,con44k kk,con45]
theorem FOKN (kk:Nat):FnsOK Tryd.prog (lookF FL) (scN kk):=fok FOK _
def gA (c1 c2 c3 c4 c5 c6 i0 i1 i2:Bool):Bool:=(((bif bif bif bif bif c1 then c2 else false then c3 else false then c4 else false then c5 else false then c6 else false)||!bif bif bif bif bif c1 then c2 else false then c3 else false then c4 else false then c5 else false then c6 else false)&&true||false)&&(((bif bif bif bif bif c1 then c2 else false then c3 else false then c4 else false then c5 else false then c6 else false)&&true||!bif bif bif bif bif c1 then c2 else false then c3 else false then c4 else false then c5 else false then c6 else false)&&((i1&&((bif bif bif bif bif c1 then c2 else false then c3 else false then c4 else false then c5 else false then c6 else false)&&true)||!bif bif bif bif bif c1 then c2 else false then c3 else false then c4 else false then c5 else false then c6 else false)&&((((bif bif bif bif c1 then c2 else false then c3 else false then c4 else false then c5 else false)||!bif bif bif bif c1 then c2 else false then c3 else false then c4 else false then c5 else false)&&true||false)&&(((bif bif bif bif c1 then c2 else false then c3 else false then c4 else false then c5 else false)&&true||!bif bif bif bif c1 then c2 else false then c3 else false then c4 else false then c5 else false)&&((i1&&((bif bif bif bif c1 then c2 else false then c3 else false then c4 else false then c5 else false)&&true)||!bif bif bif bif c1 then c2 else false then c3 else false then c4 else false then c5 else false)&&((((bif bif bif c1 then c2 else false then c3 else false then c4 else false)||!bif bif bif c1 then c2 else false then c3 else false then c4 else false)&&true||false)&&(((bif bif bif c1 then c2 else false then c3 else false then c4 else false)&&true||!bif bif bif c1 then c2 else false then c3 else false then c4 else false)&&((i1&&((bif bif bif c1 then c2 else false then c3 else false then c4 else false)&&true)||!bif bif bif c1 then c2 else false then c3 else false then c4 else false)&&((((bif bif c1 then c2 else false then c3 else false)||!bif bif c1 then c2 else false then c3 else false)&&true||false)&&(((bif bif c1 then c2 else false then c3 else false)&&true||!bif bif c1 then c2 else false then c3 else false)&&((i1&&((bif bif c1 then c2 else false then c3 else false)&&true)||!bif bif c1 then c2 else false then c3 else false)&&((((bif c1 then c2 else false)||!bif c1 then c2 else false)&&true||false)&&(((bif c1 then c2 else false)&&true||!bif c1 then c2 else false)&&((i2&&((bif c1 then c2 else false)&&true)||!bif c1 then c2 else false)&&(((c1||!c1)&&true||false)&&((c1&&true||!c1)&&((i0&&(c1&&true)||!c1)&&true)))))))))))))))))
def gB (d1 d2 d3 d4 i0 z:Bool):Bool:=(((!bif bif bif d1 then true else d2 then true else d3 then true else d4)||bif bif bif d1 then true else d2 then true else d3 then true else d4)&&true||false)&&(((!bif bif bif d1 then true else d2 then true else d3 then true else d4)&&((!bif bif bif d1 then true else d2 then true else d3 then true else d4)&&true)||!!bif bif bif d1 then true else d2 then true else d3 then true else d4)&&(((!bif bif bif d1 then true else d2 then true else d3 then true else d4)&&true&&(z&&true)||!!bif bif bif d1 then true else d2 then true else d3 then true else d4)&&((((!bif bif d1 then true else d2 then true else d3)||bif bif d1 then true else d2 then true else d3)&&true||false)&&(((!bif bif d1 then true else d2 then true else d3)&&true&&true||!!bif bif d1 then true else d2 then true else d3)&&((((!bif d1 then true else d2)||bif d1 then true else d2)&&true||false)&&(((!bif d1 then true else d2)&&true||!!bif d1 then true else d2)&&(((!bif d1 then true else d2)&&true||!!bif d1 then true else d2)&&(((!d1||d1)&&true||false)&&((!d1&&true||!!d1)&&((!d1&&true&&true||!!d1)&&((i0&&(!d1&&true)||!!d1)&&true)))))))))))
def zx:ByteArray:=⟨#[48,120]⟩
def ch3 (s:ByteArray):Bool:=bif bif bif bif bif bif ((s.size:Int)==3)then byteAt s 0==39 else false then byteAt s 2==39 else false then decide (byteAt s 1 ≥ 32)else false then decide (byteAt s 1 ≤ 126)else false then byteAt s 1 != 39 else false then byteAt s 1 != 92 else false
def bad0 (s:ByteArray):Bool:=bif bif bif (s.toList==(ByteArray.mk #[]).toList)then true else !digF (byteAt s 0)then true else decide ((s.size:Int)>20)then true else hasB s 95
def bad (s:ByteArray):Bool:=bif bad0 s then true else !((lowS s).toList==s.toList)
def gAs (s:ByteArray):Bool:=gA ((s.size:Int)==3) (byteAt s 0==39) (byteAt s 2==39) (decide (byteAt s 1 ≥ 32)) (decide (byteAt s 1 ≤ 126)) (byteAt s 1 != 39) (intRange 0 s.size) (intRange 1 s.size) (intRange 2 s.size)
def gBs (s:ByteArray):Bool:=gB (s.toList==(ByteArray.mk #[]).toList) (!digF (byteAt s 0)) (decide ((s.size:Int)>20)) (hasB s 95) (intRange 0 s.size) (s.size.blt 35184372088832)
def an (n:Nat) (v e:Int):Option Stop:=some ⟨⟨[some (true,.int .u64 v),some (true,.int .i64 e)],[],.ret,n⟩,none⟩
abbrev gIds:List Nat:=[10,11,12,13,14,15,16,17]
abbrev W14 (kk:Nat) (s:ByteArray) (G:Gv):Option Stop:=walk (lookF FL) (scN kk) 1000 x14 (argTm 0 [Value.string s]) (mkH (glH G)) 100 ⟨[],[],[],[]⟩ ⟨[2,3],[],[],gIds⟩ ⟨[],[],[],[]⟩
def fr14 (s:ByteArray) (K:ByteArray → Int → Option Stop):Option Stop :=
 bif gAs s then bif ch3 s then bif (intRange 1 s.size&&true||false)&&true then an 100 (IntKind.u64.wrap (byteAt s 1)) 0 else none
 else bif gBs s then bif bad s then an 100 0 10 else bif hasP s zx then K (cutP s zx) 16 else K s 10 else none else none
theorem p14_0 (s:ByteArray) (G:Gv):W14 0 s G=fr14 s fun t b=>bif t.size.blt 4611686018427387904&&Nat.blt 0 t.size&&(puF t b).fst==0&&true&&true&&true&&true&&true then an 101 (puF t b).snd 0 else none:=by kernel_rfl
theorem p14_1 (s:ByteArray) (G:Gv):W14 1 s G=fr14 s fun t b=>bif t.size.blt 4611686018427387904&&Nat.blt 0 t.size&&(puF t b).fst==1&&true&&(t.size.ble 281474976710656&&true&&true)&&true&&true&&true then an 102 0 10 else none:=by kernel_rfl
theorem p14_2 (s:ByteArray) (G:Gv):W14 2 s G=fr14 s fun t b=>bif t.size.blt 4611686018427387904&&Nat.blt 0 t.size&&(puF t b).fst==2&&true&&(t.size.ble 281474976710656&&true&&true)&&true&&true&&true then an 102 0 10 else none:=by kernel_rfl
theorem p14_3 (s:ByteArray) (G:Gv):W14 3 s G=fr14 s fun t b=>bif (t.size.beq 0&&true||false)&&true&&(t.size.ble 281474976710656&&true&&true)&&true&&true&&true then an 101 0 10 else none:=by kernel_rfl
theorem gA_ok:∀ c1 c2 c3 c4 c5 c6 i0 i1 i2:Bool,(c1=true → i0=true ∧ i1=true ∧ i2=true) → gA c1 c2 c3 c4 c5 c6 i0 i1 i2=true:=by decide
theorem gB_ok:∀ d1 d2 d3 d4 i0 z:Bool,z=true → (d1=false → i0=true) → gB d1 d2 d3 d4 i0 z=true:=by decide
set_option linter.unusedVariables false
set_option linter.unusedSimpArgs false
theorem rnL_ints (σ:Nm):∀ l:List Value,(∀ v∈l,∃ k n,v=.int k n) → rnL σ l=l
 |[],_=>rfl
 |v :: l,h=>by
  obtain⟨k,n,rfl⟩:=h v (.head _)
  show Value.int k n :: rnL σ l=_
  rw[rnL_ints σ l fun u hu=>h u (.tail _ hu)]
theorem tab_ints:∀ t:Nat,∀ v∈tabOf (t+1) [],∃ k n,v=Value.int k n
 |0,v,h=>by
  simp only[tabOf,List.mem_map]at h
  obtain⟨c,_,rfl⟩:=h;exact⟨_,_,rfl⟩
 |1,v,h=>by
  simp only[tabOf,List.mem_map]at h
  obtain⟨c,_,rfl⟩:=h;exact⟨_,_,rfl⟩
 |2,v,h=>by
  simp only[tabOf,List.mem_flatMap]at h
  obtain⟨c,_,h⟩:=h
  simp only[List.mem_cons,List.not_mem_nil,or_false]at h
  rcases h with rfl|rfl<;>exact⟨_,_,rfl⟩
 |t+3,v,h=>by
  simp only[tabOf,List.mem_flatMap]at h
  obtain⟨c,_,h⟩:=h
  simp only[List.mem_cons,List.not_mem_nil,or_false]at h
  rcases h with rfl|rfl|rfl|rfl|rfl<;>exact⟨_,_,rfl⟩
theorem bis_tab {P:Program}{σ:Nm}{k o t:Nat}:BIs P σ (.glb k o (t+1) []) (.glb k o (t+1) []):=⟨rfl,rfl,rfl,rnL_ints σ _ (tab_ints t)⟩
theorem nonempty_of {s:ByteArray} (h:(s.toList==(ByteArray.mk #[]).toList)=false):0<s.size:=by
 obtain⟨⟨l⟩⟩:=s
 cases l with
 |nil=>simp at h
 |cons a l=>exact Nat.succ_pos _
theorem ir_lit {k:Int}{n:Nat} (m:Nat) (hk:k=(m:Int)) (h:m<n):intRange k n=true:=by rw[hk,ir_nat];exact decide_eq_true h
theorem gAs_true (s:ByteArray):gAs s=true:=by
 refine gA_ok _ _ _ _ _ _ _ _ _ fun h=>?_
 have h3:s.size=3:=by have:=eq_of_beq h;omega
 exact⟨ir_lit 0 rfl (by omega),ir_lit 1 rfl (by omega),ir_lit 2 rfl (by omega)⟩
theorem gBs_true {s:ByteArray} (hs:s.size<35184372088832):gBs s=true:=by
 refine gB_ok _ _ _ _ _ _ (lt_blt hs) fun h=>ir_lit 0 rfl (nonempty_of h)
theorem bs_size (l:List UInt8):(bs l).size=l.length:=by rw[Lib.size_eq];rfl
theorem cutP_size {s p:ByteArray}:(cutP s p).size ≤ s.size:=by
 unfold cutP Lib.trimPrefix
 rw[bs_size,Lib.size_eq]
 split
 ·rw[List.length_drop];omega
 ·exact Nat.le_refl _
theorem pu2_code (n mx ct b d:Int):(pu2 n mx ct b d).1=0 ∨ (pu2 n mx ct b d).1=1 ∨ (pu2 n mx ct b d).1=2:=by
 unfold pu2
 cases decide (d ≥ IntKind.u8.wrap b)<;>cases decide (n ≥ ct)<;>cases (decide (n1U n b d<mulU n b)||decide (n1U n b d>mx))<;>simp
theorem pu_code (n mx ct b c:Int):(pu n mx ct b c).1=0 ∨ (pu n mx ct b c).1=1 ∨ (pu n mx ct b c).1=2:=by
 unfold pu
 cases isD c
 ·cases isA c
  ·exact .inr (.inr rfl)
  ·exact pu2_code ..
 ·exact pu2_code ..
theorem puG_code (s:ByteArray) (mx ct b:Int):∀ f i n,(puG s mx ct b f i n).1=0 ∨ (puG s mx ct b f i n).1=1 ∨ (puG s mx ct b f i n).1=2
 |0,i,n=>.inl rfl
 |f+1,i,n=>by
  unfold puG
  cases h:(pu n mx ct b (byteAt s i)).1==0 with
  |true=>exact puG_code s mx ct b f _ _
  |false=>exact pu_code ..
def meanT (s:ByteArray):ByteArray:=bif hasP s zx then cutP s zx else s
def meanB (s:ByteArray):Int:=bif hasP s zx then 16 else 10
def meanF (s:ByteArray):Int × Int :=
 bif ch3 s then(IntKind.u64.wrap (byteAt s 1),0)else bif bad s then(0,10)else bif Nat.beq (meanT s).size 0 then(0,10)
 else bif (puF (meanT s) (meanB s)).1==0 then((puF (meanT s) (meanB s)).2,0)else(0,10)
theorem fr14_eq {s:ByteArray} (hs:s.size<35184372088832) (K:ByteArray → Int → Option Stop):fr14 s K=bif ch3 s then an 100 (IntKind.u64.wrap (byteAt s 1)) 0 else bif bad s then an 100 0 10 else K (meanT s) (meanB s):=by
 unfold fr14 meanT meanB
 rw[gAs_true,gBs_true hs]
 simp only[cond_true]
 cases h:ch3 s with
 |true =>
  have h3:s.size=3:=by
   unfold ch3 at h
   cases hc:((s.size:Int)==3)with
   |true=>have:=eq_of_beq hc;omega
   |false=>rw[hc]at h;simp at h
  rw[show intRange 1 s.size=true from ir_lit 1 rfl (by omega)]
  rfl
 |false =>
  simp only[cond_false]
  cases bad s<;>cases hasP s zx<;>rfl
theorem m14 (s:ByteArray) (G:Gv) (hs:s.size<35184372088832):∃ kk n,W14 kk s G=an n (meanF s).1 (meanF s).2:=by
 unfold meanF
 have hT:(meanT s).size ≤ s.size:=by
  unfold meanT
  cases hasP s zx
  ·exact Nat.le_refl _
  ·exact cutP_size
 cases h1:ch3 s with
 |true=>exact⟨0,100,by rw[p14_0,fr14_eq hs,h1];rfl⟩
 |false =>
  cases h2:bad s with
  |true=>exact⟨0,100,by rw[p14_0,fr14_eq hs,h1,h2];rfl⟩
  |false =>
   simp only[cond_false]
   cases h3:Nat.beq (meanT s).size 0 with
   |true=>exact⟨3,101,by rw[p14_3,fr14_eq hs,h1,h2,cond_false,cond_false];simp only[h3];rw[Nat.ble_eq_true_of_le (show(meanT s).size ≤ 281474976710656 by omega)];rfl⟩
   |false =>
    have h0:0<(meanT s).size:=by
     rcases Nat.eq_zero_or_pos (meanT s).size with e|e
     ·rw[e]at h3;cases h3
     ·exact e
    have a1:(meanT s).size.blt 4611686018427387904=true:=lt_blt (by omega)
    have a2:Nat.blt 0 (meanT s).size=true:=lt_blt h0
    have a3:(meanT s).size.ble 281474976710656=true:=Nat.ble_eq_true_of_le (by omega)
    rcases puG_code (meanT s) 9223372036854775807 (ctI (meanB s)) (meanB s) (meanT s).size 0 0 with e|e|e
    ·have e:(puF (meanT s) (meanB s)).1=0:=e
     exact⟨0,101,by rw[p14_0,fr14_eq hs,h1,h2,cond_false,cond_false,a1,a2,e];rfl⟩
    ·have e:(puF (meanT s) (meanB s)).1=1:=e
     exact⟨1,102,by rw[p14_1,fr14_eq hs,h1,h2,cond_false,cond_false,a1,a2,a3,e];rfl⟩
    ·have e:(puF (meanT s) (meanB s)).1=2:=e
     exact⟨2,102,by rw[p14_2,fr14_eq hs,h1,h2,cond_false,cond_false,a1,a2,a3,e];rfl⟩
theorem b14 {s:ByteArray}{G:Gv} (hs:s.size<35184372088832):Body Tryd.prog 14 [.string s] (mkH (glH G)) (.tuple ⟨[.int .u64 (meanF s).1,.int .i64 (meanF s).2]⟩) [] 100 0:=by
 refine body_of' mixed fx14 (by simp) fun E Q hP hn hcl hfin=>?_
 obtain⟨kk,n,e⟩:=m14 s G hs
 have hF:FnsOK E.P (lookF FL) (scN kk):=hP▸FOKN kk
 refine xwp_toEnd (s:=⟨_,_,_⟩) hcl hF 1000 e ⟨mkT [2,3] [.int .u64 (meanF s).1,.int .i64 (meanF s).2],mkH (glH G),100⟩ ⟨_,glH G,_,rfl,by rw[hn];rfl,by rw[hn];exact⟨rfl,rfl,trivial⟩,?_⟩ (hfin _ _ (fin_of rfl ⟨rfl,rfl,rfl,rfl,rfl,rfl,rfl,rfl,trivial⟩ (by rw[hn]) rfl))
 rw[hn]
 exact⟨⟨rfl,rfl,rfl,rfl⟩,bis_tab,⟨rfl,rfl,rfl,rfl⟩,bis_tab,bis_tab,bis_tab,⟨rfl,rfl,rfl,rfl⟩,⟨rfl,rfl,rfl,rfl⟩,trivial⟩
set_option linter.unusedVariables false
set_option linter.unusedSimpArgs false
def getG (h:Hp):Option Gv:=match hget h 10,hget h 11,hget h 12,hget h 13 with
 |some (.glb 0 0 0 [.int .i64 m]),some (.glb 1 0 1 []),some (.glb 2 0 0 [.slice (some ⟨13,0,none⟩) 336 cap]),some (.glb R oR 4 [])=>match hget h 14,hget h 15,hget h 16,hget h 17 with
  |some (.glb 6 0 2 []),some (.glb 7 0 3 []),some (.glb 3 0 0 [.iface t1 (.pointer (some ⟨18,0,some 0⟩))]),some (.glb 4 0 0 [.iface t2 (.pointer (some ⟨19,0,some 0⟩))])=>some ⟨m,cap,R,oR,t1,t2⟩
  |_,_,_,_=>none
 |_,_,_,_=>none
theorem getG_ok {h:Hp}{G:Gv} (e:getG h=some G):∀ id∈fstL (mkH (glH G)),hget h id=hget (mkH (glH G)) id:=by
 unfold getG at e
 split at e
 ·split at e
  ·cases e
   intro id hid
   have:id=10 ∨ id=11 ∨ id=12 ∨ id=13 ∨ id=14 ∨ id=15 ∨ id=16 ∨ id=17:=by simpa [fstL,mkH,glH]using hid
   rcases this with rfl|rfl|rfl|rfl|rfl|rfl|rfl|rfl<;>assumption
  ·cases e
 ·cases e
def piG:List (Nat × Nat):=[(10,10),(11,11),(12,12),(13,13),(14,14),(15,15),(16,16),(17,17),(18,18),(19,19)]
theorem hs_gl {G:Gv}{P:Program}:HsOK P (asc piG) (hget (mkH (glH G))) [] (mkH (glH G)) :=
 ⟨⟨rfl,rfl,rfl,rfl⟩,bis_tab,⟨rfl,rfl,rfl,rfl⟩,bis_tab,bis_tab,bis_tab,⟨rfl,rfl,rfl,rfl⟩,⟨rfl,rfl,rfl,rfl⟩,trivial⟩
theorem c14 {s:ByteArray}{G:Gv} (hs:s.size<35184372088832) (n:Nat):ADet Tryd.prog 14 [.string s] (mkH (glH G)) (.tuple ⟨[.int .u64 (meanF s).1,.int .i64 (meanF s).2]⟩) [] n 0 :=
 adet_of_body (b14 hs) piG [] rfl rfl hs_gl rfl rfl ⟨⟨rfl,rfl,rfl,rfl⟩,bis_tab,⟨rfl,rfl,rfl,rfl⟩,bis_tab,bis_tab,bis_tab,⟨rfl,rfl,rfl,rfl⟩,⟨rfl,rfl,rfl,rfl⟩,trivial⟩ rfl
def con14:Con Tryd.prog where
 f:=14
 run:=fun vs h n=>match vs,getG h with
  |[.string s],some G=>some (mkH (glH G),.tuple ⟨[.int .u64 (meanF s).1,.int .i64 (meanF s).2]⟩,[],0,Nat.blt s.size 35184372088832)
  |_,_=>none
 ok:=fun vs h n pre v upd news hx=>by
  split at hx
  ·rename_i s G hg
   simp only[Option.some.injEq,Prod.mk.injEq]at hx
   obtain⟨rfl,rfl,rfl,rfl,hs⟩:=hx
   rw[Nat.blt_eq]at hs
   exact⟨getG_ok hg,c14 hs n⟩
  ·cases hx
set_option linter.unusedVariables false
set_option linter.unusedSimpArgs false
theorem c16 {s:ByteArray}{m:Int}{k:Nat} (hs:s.size<4294967281) (hk:k ≤ s.size) (n:Nat) :
  ADet Tryd.prog 16 [.string s,.int .i64 (k:Int)] (mkH (mxB m)) (.tuple ⟨[.int .i64 ((gapG s s.size k).1:Int),.bool (gapG s s.size k).2]⟩) [] n 0 :=
 adet_of_body (b16 hs hk) [(10,10)] [] rfl rfl ⟨⟨rfl,rfl,rfl,rfl⟩,trivial⟩ rfl rfl ⟨⟨rfl,rfl,rfl,rfl⟩,trivial⟩ rfl
def con16:Con Tryd.prog where
 f:=16
 run:=fun vs h n=>match vs,hget h 10 with
  |[.string s,.int .i64 (.ofNat k)],some (.glb 0 0 0 [.int .i64 m])=>some (mkH (mxB m),.tuple ⟨[.int .i64 ((gapG s s.size k).1:Int),.bool (gapG s s.size k).2]⟩,[],0,Nat.blt s.size 4294967281&&Nat.ble k s.size)
  |_,_=>none
 ok:=fun vs h n pre v upd news hx=>by
  split at hx
  ·rename_i s k m hg
   simp only[Option.some.injEq,Prod.mk.injEq,Bool.and_eq_true]at hx
   obtain⟨rfl,rfl,rfl,rfl,h1,h2⟩:=hx
   rw[Nat.blt_eq]at h1
   rw[Nat.ble_eq]at h2
   refine⟨fun id hid=>?_,c16 h1 h2 n⟩
   have:id=10:=by simpa [fstL,mkH,mxB]using hid
   subst this;exact hg
  ·cases hx
theorem t25 (c:Int):execC (lookF FL) noSc 1000 x25 (argTm 0 [Value.int IntKind.u8 c]) [] 100 (valK [2])=bif ((decide (c ≥ 48)||!decide (c ≥ 48))&&true||false)&&((decide (c ≥ 48)&&true||!decide (c ≥ 48))&&true)then some [Value.bool (bif decide (c ≥ 48)then decide (c ≤ 57)else false)]else none:=by kernel_rfl
theorem p25 (c:Int):execC (lookF FL) noSc 1000 x25 (argTm 0 [Value.int IntKind.u8 c]) [] 100 (valK [2])=some [Value.bool (digF c)]:=by
 rw[t25]
 unfold digF
 generalize decide (c ≥ 48)=a
 generalize decide (c ≤ 57)=b
 cases a<;>cases b<;>rfl
theorem c25 (c:Int) (n:Nat):ADet Tryd.prog 25 [Value.int IntKind.u8 c] [] (Value.bool (digF c)) [] n 0:=adet_tree FOK 1000 fx25 (by simp) [2] (p25 c) rfl rfl rfl rfl n
def con25:Con Tryd.prog:=pureC 25 g20 fun vs v n h=>by
 unfold g20 at h
 split at h
 ·cases h;exact c25 _ n
 ·cases h
end Go.X
namespace Go.X
open Go
set_option linter.unusedVariables false
theorem step_rel {P:Program}{N:Nat}{B:Base}{ce:CE}{hints:List (Nat × Nat)}{ops:Array Oper} (hce:CEok P ce){i:Nat}{o:Oper}{xo:XOper} (ho:ops[i]?=some o) (hco:compOper P N ops o=some xo)
  {j:Nat}{s:St}{r:Rec}{a:Act}{w:World}{Q:Exit → Act → World → Prop} (hs:StepR ce hints xo j s.t s.h s.n r) (hfr:∀ id,s.n ≤ id → id<s.n+r.news → B.ρ id=none)
  (hsp:∃ k,s.n+r.news ≤ k ∧ B.ρ k=none) (hr:Rel P N B s a w){K:Act → World → Prop} (hK:∀ a' w',Rel P N B ⟨r.put++s.t,r.upd++s.h,s.n+r.news⟩ a' w' → K a' w'):wpOp P ops Q i K a w:=by
 obtain⟨hBn,ρ,hcore,hfree⟩:=hr
 refine step_sound hce ho hco hs (ρ:=ρ) (g:=hget s.h) (fun k _ b v hl=>hcore.tm k b v hl) hcore.rel (fun _ _=>rfl) (fun id h1 h2=>?_) ?_ ?_
 ·rw[hfree id h1];exact hfr id h1 h2
 ·obtain⟨k,hk,hk'⟩:=hsp
  exact⟨k,hk,by rw[hfree k (by omega)];exact hk'⟩
 intro ρ' w' u hgood hu
 refine hK _ _ ⟨by simp only;omega,ρ',?_,fun id hid=>?_⟩
 ·have hput:=stepR_put hs
  refine Core.congr (hcore.step hgood hBn (tm_put (t:=s.t) (p:=r.put) (hcore.tm.mono hgood.le) hput (comp_dst hco) hcore.sz hu ?_ ?_)) (fun id=>hget_append _ _ _)
  ·intro k hk
   obtain⟨c,v,hp⟩:=hput
   rw[look_append,hp,hk,look_putT_eq]
  ·intro k hk
   obtain⟨c,v,hp⟩:=hput
   rw[look_append,hp,look_putT_ne hk]
 ·simp only at hid
  rw[← hfree id (by omega)]
  cases hx:ρ id with
  |some l=>exact hgood.le id l hx
  |none =>
   cases hx':ρ' id with
   |none=>rfl
   |some l =>
    have:=hgood.new id hx (by rw[hx'];simp)
    omega
theorem xwp_drawS {E:FEnv}{Q:Post}{l:List XOper}{ord:List (List Nat)} (ce:CE) (hce:CEok E.P ce) (S:(Nat → Bool) → St)
  (hstep:∀ (D:Nat → Bool) i xo,l[i]?=some xo → (∀ a,D a=true → ∀ j∈ord.getD a [],D j=true) → D i=false → (∀ j∈ord.getD i [],D j=true) → ∃ r,StepR ce [] xo i (S D).t (S D).h (S D).n r ∧
   Wk E.toEnv ⟨r.put++(S D).t,r.upd++(S D).h,(S D).n+r.news⟩ (S fun j=>decide (j=i)||D j))
  (hc0:∀ D D':Nat → Bool,(∀ i,i<l.length → D i=D' i) → Wk E.toEnv (S D) (S D'))
  (hQ:Q .normal (S fun _=>true)):XWP E.toEnv (.draw l ord) Q (S fun _=>false):=fun c hc a w hr=>by
 obtain⟨id,ops,rfl,hcs,ho,htp,hso⟩:=comp_draw hc
 have fin:∀ (listed:Array Bool) (a:Act) (w:World),(∀ j,j<ops.size → Dn listed j=true) → E.toEnv.rel (S (Dn listed)) a w → E.toEnv.post Q .normal a w:=fun listed a w hall h =>
  ⟨_,hQ,hc0 _ _ (fun i hi=>hall i (by rw[← hcs.1];exact hi)) a w h⟩
 have main:∀ (fuel:Nat) (listed:Array Bool) (a:Act) (w:World),listed.size=ops.size → (∀ i,Dn listed i=true → ∀ j∈ord.getD i [],Dn listed j=true) → unl listed.toList ≤ fuel →
   E.toEnv.rel (S (Dn listed)) a w → wpAny E.P .any ops (E.toEnv.post Q) fuel listed a w:=by
  intro fuel
  induction fuel with
  |zero =>
   intro listed a w hsz hsh hf hI
   have hall:∀ j,j<ops.size → Dn listed j=true:=fun j hj=>by
    have:=unl_zero listed.toList (by omega) j (by simpa [hsz]using hj)
    unfold Dn
    have h2:listed[j]?=some true:=by simpa using this
    simp[h2]
   refine⟨?_,fin listed a w hall hI⟩
   apply List.eq_nil_iff_forall_not_mem.2
   intro j hj
   obtain⟨h0,o,ho,_⟩:=mem_ready.1 hj
   have hlt:=(Array.getElem?_eq_some_iff.1 ho).1
   have h1:=hall j hlt
   unfold Dn at h1
   have hjl:j<listed.size:=by rw[hsz];exact hlt
   simp[hjl]at h0 h1
   rw[h0]at h1;cases h1
  |succ fuel ih =>
   intro listed a w hsz hsh hf hI
   refine⟨fun hrd=>fin listed a w (all_listed htp hsz hrd) hI,fun m hm=>?_⟩
   obtain⟨hun,o,hom,hall⟩:=mem_ready.1 hm
   have hmlt:m<ops.size:=(Array.getElem?_eq_some_iff.1 hom).1
   have hml:m<listed.size:=by rw[hsz];exact hmlt
   have hDm:Dn listed m=false:=by
    unfold Dn;simpa [hml]using hun
   have hpast:∀ j∈ord.getD m [],Dn listed j=true:=by
    intro j hj
    have h1:=List.all_eq_true.1 (List.all_eq_true.1 ho m (by simpa using hmlt)) j hj
    have ho2:ops.toList[m]?=some o:=by simpa using hom
    simp only[ho2]at h1
    obtain⟨e,he,hb⟩:=List.any_eq_true.1 h1
    simp only[Bool.and_eq_true,Bool.or_eq_true]at hb
    have hd:Dn listed e.on=true:=hall e (by simpa using he) hb.1
    rcases hb.2 with h|h
    ·rw[← Nat.eq_of_beq_eq_true h];exact hd
    ·exact hsh e.on hd j (by simpa using h)
   have hlm:m<l.length:=by rw[hcs.1];exact hmlt
   have hlo:l[m]?=some l[m]:=by simp[hlm]
   obtain⟨o',ho',hco⟩:=hcs.2 m l[m] hlo
   rw[hom]at ho';cases ho'
   obtain⟨r,hs,hwk⟩:=hstep (Dn listed) m l[m] hlo hsh hDm hpast
   refine step_rel hce hom hco hs (fun id h1 h2=>E.dom id (Nat.le_trans hI.1 h1)) ⟨_,Nat.le_refl _,E.dom _ (by have:=hI.1;omega)⟩ hI fun a' w' hr'=>ih _ a' w' (by simp[hsz]) ?_ ?_ ?_
   ·intro i hi j hj
    rw[dn_set hml]at hi ⊢
    by_cases e:i=m
    ·subst e;rw[hpast j hj];simp
    ·have:Dn listed i=true:=by simpa [e]using hi
     rw[hsh i this j hj];simp
   ·have h0:listed.toList[m]?=some false:=by simpa [hml]using hun
    have:=unl_set _ _ h0
    simp only[Array.toList_setIfInBounds]
    omega
   ·exact hc0 _ _ (fun i _=>(dn_set hml).symm) a' w' (hwk a' w' hr')
 have hd:∀ j,Dn (Array.replicate ops.size false) j=false:=fun j=>by
  unfold Dn
  by_cases h:j<ops.size<;>simp[h]
 refine wp_region_any E.mix (main _ _ _ _ (by simp) (fun i hi=>by rw[hd]at hi;cases hi) (by simp[unl_replicate]) ?_)
 refine hc0 _ _ (fun i _=>(hd i).symm) _ _ ?_
 obtain⟨hBn,ρ,hcore,hfree⟩:=hr
 exact⟨hBn,ρ,hcore.drew,hfree⟩
end Go.X
namespace Go.X
open Go Go.Proofs
set_option linter.unusedVariables false
set_option linter.unusedSimpArgs false
def tL:List (Bool × Nat × Value) → Tm
 |[]=>[]
 |(b,k,v) :: l=>bif b then(k,true,v) :: tL l else tL l
theorem tL_at:∀ {l:List (Bool × Nat × Value)}{p k:Nat}{v:Value},l[p]?=some (true,k,v) → (∀ m,m<p → ∀ x,l[m]?=some x → Nat.beq x.2.1 k=false) → look (tL l) k=some (true,v)
 |[],p,k,v,h,_=>by simp at h
 |(b,k',v') :: l,0,k,v,h,_=>by
  simp only[List.getElem?_cons_zero,Option.some.injEq,Prod.mk.injEq]at h
  obtain⟨rfl,rfl,rfl⟩:=h
  simp[tL,look]
 |(b,k',v') :: l,p+1,k,v,h,hne=>by
  have h0:Nat.beq k' k=false:=hne 0 (by omega) _ rfl
  have ih:=tL_at (l:=l) (p:=p) (k:=k) (v:=v) (by simpa using h) fun m hm x hx=>hne (m+1) (by omega) x (by simpa using hx)
  cases b
  ·exact ih
  ·show look ((k',true,v') :: tL l) k=_
   simp only[look,h0,cond_false];exact ih
theorem tL_set:∀ {l:List (Bool × Nat × Value)}{p k:Nat}{v:Value}{q:Nat}{x:Bool × Value},l[p]?=some (false,k,v) → (∀ m,m<p → ∀ x,l[m]?=some x → Nat.beq x.2.1 k=false) →
  look (tL (l.set p (true,k,v))) q=some x → look ((k,true,v) :: tL l) q=some x
 |[],p,k,v,q,x,h,_,_=>by simp at h
 |(b,k',v') :: l,0,k,v,q,x,h,_,hx=>by
  simp only[List.getElem?_cons_zero,Option.some.injEq,Prod.mk.injEq]at h
  obtain⟨rfl,rfl,rfl⟩:=h
  exact hx
 |(b,k',v') :: l,p+1,k,v,q,x,h,hne,hx=>by
  have h0:Nat.beq k' k=false:=hne 0 (by omega) _ rfl
  have hl:l[p]?=some (false,k,v):=by simpa using h
  have hn:∀ m,m<p → ∀ x,l[m]?=some x → Nat.beq x.2.1 k=false:=fun m hm x hx=>hne (m+1) (by omega) x (by simpa using hx)
  cases b
  ·show look ((k,true,v) :: tL l) q=some x
   exact tL_set (l:=l) hl hn hx
  ·have hx':look ((k',true,v') :: tL (l.set p (true,k,v))) q=some x:=hx
   show look ((k,true,v) :: (k',true,v') :: tL l) q=some x
   simp only[look]at hx' ⊢
   cases h1:Nat.beq k' q with
   |true =>
    rw[h1,cond_true]at hx'
    have:Nat.beq k q=false:=by
     cases h2:Nat.beq k q with
     |false=>rfl
     |true=>rw[← Nat.eq_of_beq_eq_true h2]at h1;rw[h1]at h0;cases h0
    rw[this,cond_false,cond_true];exact hx'
   |false =>
    rw[h1,cond_false]at hx'
    have:=tL_set hl hn hx'
    simp only[look]at this
    cases h2:Nat.beq k q with
    |true=>rw[h2]at this;exact this
    |false=>rw[h2]at this;exact this
theorem wk_look {E:Env} {t t':Tm} {h h':Hp}{n:Nat} (ht:∀ q x,look t' q=some x → look t q=some x) (hh:∀ id,hget h' id=hget h id):Wk E ⟨t,h,n⟩ ⟨t',h',n⟩:=fun a w hr=>by
 obtain⟨h1,ρ,hc,hf⟩:=hr
 refine⟨h1,ρ,Core.congr ⟨fun k b v e=>hc.tm k b v (ht k _ e),hc.sz,hc.df,hc.rel,hc.fr,hc.own,hc.le,hc.new⟩ hh,hf⟩
def kv (a b:Int):Value:=.agg ⟨[.int .u8 a,.int .u8 b]⟩
def MV:Value:=.map (some 100)
def LL (D:Nat → Bool):List (Bool × Nat × Value):=[(D 20,0,MV),(D 19,11,MV),(D 17,10,kv 124 124),(D 15,9,kv 38 38),(D 13,8,kv 33 61),(D 11,7,kv 61 61),(D 9,6,kv 62 61),(D 7,5,kv 60 61),(D 5,4,kv 62 62),(D 3,3,kv 60 60),(D 1,2,kv 45 62),(D 0,1,MV)]
def hasD (D:Nat → Bool) (q:Value):Bool:=(D 2&&keq q (kv 45 62))||((D 4&&keq q (kv 60 60))||((D 6&&keq q (kv 62 62))||((D 8&&keq q (kv 60 61))||((D 10&&keq q (kv 62 61))||((D 12&&keq q (kv 61 61))||((D 14&&keq q (kv 33 61))||((D 16&&keq q (kv 38 38))||((D 18&&keq q (kv 124 124))||(false)))))))))
def cntD (D:Nat → Bool):Nat:=(D 2).toNat+(D 4).toNat+(D 6).toNat+(D 8).toNat+(D 10).toNat+(D 12).toNat+(D 14).toNat+(D 16).toNat+(D 18).toNat
def mapD (D:Nat → Bool):Blk:=.map 68 3 (cntD D) (hasD D) (fun q=>.int .i64 (bif hasD D q then 2 else 0))
def S34 (D:Nat → Bool):St:=⟨tL (LL D),bif D 0 then[(100,some (mapD D))]else[],bif D 0 then 101 else 100⟩
def ord34:List (List Nat):=[[],[],[0,1],[],[0,3],[],[0,5],[],[0,7],[],[0,9],[],[0,11],[],[0,13],[],[0,15],[],[0,17],[0,1,2,3,4,5,6,7,8,9,10,11,12,13,14,15,16,17,18],[0,1,2,3,4,5,6,7,8,9,10,11,12,13,14,15,16,17,18,19]]
def mu (slot:Nat):XOper:=⟨none,.op (.mapupd 68 3 (.array 2 5) (.tmp 1) (.tmp slot) (.const (.int .i64 2))),none⟩
def muB (D:Nat → Bool) (k:Value):Blk:=.map 68 3 (cond (hasD D k) (cntD D) (cntD D+1)) (fun q=>keq q k||hasD D q) (fun q=>cond (keq q k) (.int .i64 2) (.int .i64 (bif hasD D q then 2 else 0)))
theorem mu_step {ce:CE}{D:Nat → Bool}{slot i:Nat}{k:Value} (h0:D 0=true) (hs:look (tL (LL D)) slot=some (true,k)) (h1:look (tL (LL D)) 1=some (true,MV)) (hk:keyOf (.array 2 5) k=true) :
  StepR ce [] (mu slot) i (S34 D).t (S34 D).h (S34 D).n ⟨[],[(100,some (muB D k))],[100],101,0⟩:=by
 unfold S34
 rw[h0]
 refine⟨rfl,true,rfl,.inr ⟨undefd,true,True,?_,⟨rfl,rfl,trivial⟩,rfl,fun e=>by cases e⟩⟩
 have he:evs (tL (LL D)) [.tmp 1,.tmp slot,.const (.int .i64 2)]=some (true,[MV,k,.int .i64 2]):=by
  simp only[evs,ev,hs,h1];rfl
 show effX _ (.mapupd 68 3 (.array 2 5) (.tmp 1) (.tmp slot) (.const (.int .i64 2))) (tL (LL D)) [(100,some (mapD D))] 101=_
 unfold effX
 rw[show XOp.opds (.mapupd 68 3 (.array 2 5) (.tmp 1) (.tmp slot) (.const (.int .i64 2)))=[.tmp 1,.tmp slot,.const (.int .i64 2)] from rfl,he]
 show some (Eff.mk [100] undefd [(100,some (muB D k))] 0 (keyOf (.array 2 5) k&&true) True)=_
 rw[hk];rfl
end Go.X
