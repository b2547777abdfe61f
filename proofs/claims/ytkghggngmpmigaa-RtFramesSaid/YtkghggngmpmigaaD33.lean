import Derived.Test.YtkghggngmpmigaaD32
import Derived.Test.YtkghggngmpmigaaD28
set_option linter.all false
namespace Go.X
open Go Go.Proofs
attribute [local congr] cond_ctx
theorem p83_1 (m:MS) (at_:Int):walk (lookF FL) noSc 1000 x83 (argTm 0 [pM,Value.int IntKind.u64 at_,Value.int IntKind.i64 1]) (mkH [(90,m.memB),(92,m.mB)]) 100 j0_ (Pj.mk [6,7] [] [] [90,92]) j0_=bif at_.tmod 1 != 0||decide (at_>IntKind.u64.wrap (↑m.sz:Int))||decide (IntKind.u64.wrap (IntKind.u64.wrap (↑m.sz:Int)-at_)<1)then some (Stop.mk (Leaf.mk [some (true,Value.slice none 0 0),some (true,Value.bool false)] [] Exit.ret 100) none)else bif decide (0<=at_)&&decide (at_<=IntKind.u64.wrap (at_+1))&&decide (IntKind.u64.wrap (at_+1)<=(↑m.sz:Int))then some (Stop.mk (Leaf.mk [some (true,Value.slice (some (Addr.mk 90 (at_.toNat*1) none)) (IntKind.u64.wrap (at_+1)-at_).toNat (m.sz-at_.toNat)),some (true,Value.bool true)] [] Exit.ret 100) none)else none:=Eq.trans (b:=bif (((!bif at_.tmod 1 != 0 then true else decide (at_>IntKind.u64.wrap (↑m.sz:Int)))||bif at_.tmod 1 != 0 then true else decide (at_>IntKind.u64.wrap (↑m.sz:Int)))&&true||false)&&(((!bif at_.tmod 1 != 0 then true else decide (at_>IntKind.u64.wrap (↑m.sz:Int)))&&((!bif at_.tmod 1 != 0 then true else decide (at_>IntKind.u64.wrap (↑m.sz:Int)))&&true)||!!bif at_.tmod 1 != 0 then true else decide (at_>IntKind.u64.wrap (↑m.sz:Int)))&&(((!bif at_.tmod 1 != 0 then true else decide (at_>IntKind.u64.wrap (↑m.sz:Int)))&&true||!!bif at_.tmod 1 != 0 then true else decide (at_>IntKind.u64.wrap (↑m.sz:Int)))&&(((!bif at_.tmod 1 != 0 then true else decide (at_>IntKind.u64.wrap (↑m.sz:Int)))&&((!bif at_.tmod 1 != 0 then true else decide (at_>IntKind.u64.wrap (↑m.sz:Int)))&&true)||!!bif at_.tmod 1 != 0 then true else decide (at_>IntKind.u64.wrap (↑m.sz:Int)))&&(((!bif at_.tmod 1 != 0 then true else decide (at_>IntKind.u64.wrap (↑m.sz:Int)))&&true||!!bif at_.tmod 1 != 0 then true else decide (at_>IntKind.u64.wrap (↑m.sz:Int)))&&(((!bif at_.tmod 1 != 0 then true else decide (at_>IntKind.u64.wrap (↑m.sz:Int)))&&true||!!bif at_.tmod 1 != 0 then true else decide (at_>IntKind.u64.wrap (↑m.sz:Int)))&&(((!bif at_.tmod 1 != 0 then true else decide (at_>IntKind.u64.wrap (↑m.sz:Int)))&&true||!!bif at_.tmod 1 != 0 then true else decide (at_>IntKind.u64.wrap (↑m.sz:Int)))&&(((!bif at_.tmod 1 != 0 then true else decide (at_>IntKind.u64.wrap (↑m.sz:Int)))&&true||!!bif at_.tmod 1 != 0 then true else decide (at_>IntKind.u64.wrap (↑m.sz:Int)))&&(((!bif at_.tmod 1 != 0 then true else decide (at_>IntKind.u64.wrap (↑m.sz:Int)))&&true||!!bif at_.tmod 1 != 0 then true else decide (at_>IntKind.u64.wrap (↑m.sz:Int)))&&(((!at_.tmod 1 != 0||at_.tmod 1 != 0)&&true||false)&&((!at_.tmod 1 != 0&&(!at_.tmod 1 != 0&&true)||!!at_.tmod 1 != 0)&&((!at_.tmod 1 != 0&&true||!!at_.tmod 1 != 0)&&((!at_.tmod 1 != 0&&true||!!at_.tmod 1 != 0)&&((!at_.tmod 1 != 0&&true||!!at_.tmod 1 != 0)&&((!at_.tmod 1 != 0&&true||!!at_.tmod 1 != 0)&&((!at_.tmod 1 != 0&&true||!!at_.tmod 1 != 0)&&true)))))))))))))))then bif bif bif at_.tmod 1 != 0 then true else decide (at_>IntKind.u64.wrap (↑m.sz:Int))then true else decide (IntKind.u64.wrap (IntKind.u64.wrap (↑m.sz:Int)-at_)<1)then some (Stop.mk (Leaf.mk [some (true,Value.slice none 0 0),some (true,Value.bool false)] [] Exit.ret 100) none)else bif (decide (0<=at_)&&decide (at_<=IntKind.u64.wrap (at_+1))&&decide (IntKind.u64.wrap (at_+1)<=(↑m.sz:Int))&&true||false)&&true then some (Stop.mk (Leaf.mk [some (true,Value.slice (some (Addr.mk 90 (0+at_.toNat*1) none)) (IntKind.u64.wrap (at_+1)-at_).toNat (m.sz-at_.toNat)),some (true,Value.bool true)] [] Exit.ret 100) none)else none else none) (by kernel_rfl) (by simp(contextual:=true) only[bn,bc])
theorem p83_4 (m:MS) (at_:Int):walk (lookF FL) noSc 1000 x83 (argTm 0 [pM,Value.int IntKind.u64 at_,Value.int IntKind.i64 4]) (mkH [(90,m.memB),(92,m.mB)]) 100 j0_ (Pj.mk [6,7] [] [] [90,92]) j0_=bif at_.tmod 4 != 0||decide (at_>IntKind.u64.wrap (↑m.sz:Int))||decide (IntKind.u64.wrap (IntKind.u64.wrap (↑m.sz:Int)-at_)<4)then some (Stop.mk (Leaf.mk [some (true,Value.slice none 0 0),some (true,Value.bool false)] [] Exit.ret 100) none)else bif decide (0<=at_)&&decide (at_<=IntKind.u64.wrap (at_+4))&&decide (IntKind.u64.wrap (at_+4)<=(↑m.sz:Int))then some (Stop.mk (Leaf.mk [some (true,Value.slice (some (Addr.mk 90 (at_.toNat*1) none)) (IntKind.u64.wrap (at_+4)-at_).toNat (m.sz-at_.toNat)),some (true,Value.bool true)] [] Exit.ret 100) none)else none:=Eq.trans (b:=bif (((!bif at_.tmod 4 != 0 then true else decide (at_>IntKind.u64.wrap (↑m.sz:Int)))||bif at_.tmod 4 != 0 then true else decide (at_>IntKind.u64.wrap (↑m.sz:Int)))&&true||false)&&(((!bif at_.tmod 4 != 0 then true else decide (at_>IntKind.u64.wrap (↑m.sz:Int)))&&((!bif at_.tmod 4 != 0 then true else decide (at_>IntKind.u64.wrap (↑m.sz:Int)))&&true)||!!bif at_.tmod 4 != 0 then true else decide (at_>IntKind.u64.wrap (↑m.sz:Int)))&&(((!bif at_.tmod 4 != 0 then true else decide (at_>IntKind.u64.wrap (↑m.sz:Int)))&&true||!!bif at_.tmod 4 != 0 then true else decide (at_>IntKind.u64.wrap (↑m.sz:Int)))&&(((!bif at_.tmod 4 != 0 then true else decide (at_>IntKind.u64.wrap (↑m.sz:Int)))&&((!bif at_.tmod 4 != 0 then true else decide (at_>IntKind.u64.wrap (↑m.sz:Int)))&&true)||!!bif at_.tmod 4 != 0 then true else decide (at_>IntKind.u64.wrap (↑m.sz:Int)))&&(((!bif at_.tmod 4 != 0 then true else decide (at_>IntKind.u64.wrap (↑m.sz:Int)))&&true||!!bif at_.tmod 4 != 0 then true else decide (at_>IntKind.u64.wrap (↑m.sz:Int)))&&(((!bif at_.tmod 4 != 0 then true else decide (at_>IntKind.u64.wrap (↑m.sz:Int)))&&true||!!bif at_.tmod 4 != 0 then true else decide (at_>IntKind.u64.wrap (↑m.sz:Int)))&&(((!bif at_.tmod 4 != 0 then true else decide (at_>IntKind.u64.wrap (↑m.sz:Int)))&&true||!!bif at_.tmod 4 != 0 then true else decide (at_>IntKind.u64.wrap (↑m.sz:Int)))&&(((!bif at_.tmod 4 != 0 then true else decide (at_>IntKind.u64.wrap (↑m.sz:Int)))&&true||!!bif at_.tmod 4 != 0 then true else decide (at_>IntKind.u64.wrap (↑m.sz:Int)))&&(((!bif at_.tmod 4 != 0 then true else decide (at_>IntKind.u64.wrap (↑m.sz:Int)))&&true||!!bif at_.tmod 4 != 0 then true else decide (at_>IntKind.u64.wrap (↑m.sz:Int)))&&(((!at_.tmod 4 != 0||at_.tmod 4 != 0)&&true||false)&&((!at_.tmod 4 != 0&&(!at_.tmod 4 != 0&&true)||!!at_.tmod 4 != 0)&&((!at_.tmod 4 != 0&&true||!!at_.tmod 4 != 0)&&((!at_.tmod 4 != 0&&true||!!at_.tmod 4 != 0)&&((!at_.tmod 4 != 0&&true||!!at_.tmod 4 != 0)&&((!at_.tmod 4 != 0&&true||!!at_.tmod 4 != 0)&&((!at_.tmod 4 != 0&&true||!!at_.tmod 4 != 0)&&true)))))))))))))))then bif bif bif at_.tmod 4 != 0 then true else decide (at_>IntKind.u64.wrap (↑m.sz:Int))then true else decide (IntKind.u64.wrap (IntKind.u64.wrap (↑m.sz:Int)-at_)<4)then some (Stop.mk (Leaf.mk [some (true,Value.slice none 0 0),some (true,Value.bool false)] [] Exit.ret 100) none)else bif (decide (0<=at_)&&decide (at_<=IntKind.u64.wrap (at_+4))&&decide (IntKind.u64.wrap (at_+4)<=(↑m.sz:Int))&&true||false)&&true then some (Stop.mk (Leaf.mk [some (true,Value.slice (some (Addr.mk 90 (0+at_.toNat*1) none)) (IntKind.u64.wrap (at_+4)-at_).toNat (m.sz-at_.toNat)),some (true,Value.bool true)] [] Exit.ret 100) none)else none else none) (by kernel_rfl) (by simp(contextual:=true) only[bn,bc])
theorem p83_8 (m:MS) (at_:Int):walk (lookF FL) noSc 1000 x83 (argTm 0 [pM,Value.int IntKind.u64 at_,Value.int IntKind.i64 8]) (mkH [(90,m.memB),(92,m.mB)]) 100 j0_ (Pj.mk [6,7] [] [] [90,92]) j0_=bif at_.tmod 8 != 0||decide (at_>IntKind.u64.wrap (↑m.sz:Int))||decide (IntKind.u64.wrap (IntKind.u64.wrap (↑m.sz:Int)-at_)<8)then some (Stop.mk (Leaf.mk [some (true,Value.slice none 0 0),some (true,Value.bool false)] [] Exit.ret 100) none)else bif decide (0<=at_)&&decide (at_<=IntKind.u64.wrap (at_+8))&&decide (IntKind.u64.wrap (at_+8)<=(↑m.sz:Int))then some (Stop.mk (Leaf.mk [some (true,Value.slice (some (Addr.mk 90 (at_.toNat*1) none)) (IntKind.u64.wrap (at_+8)-at_).toNat (m.sz-at_.toNat)),some (true,Value.bool true)] [] Exit.ret 100) none)else none:=Eq.trans (b:=bif (((!bif at_.tmod 8 != 0 then true else decide (at_>IntKind.u64.wrap (↑m.sz:Int)))||bif at_.tmod 8 != 0 then true else decide (at_>IntKind.u64.wrap (↑m.sz:Int)))&&true||false)&&(((!bif at_.tmod 8 != 0 then true else decide (at_>IntKind.u64.wrap (↑m.sz:Int)))&&((!bif at_.tmod 8 != 0 then true else decide (at_>IntKind.u64.wrap (↑m.sz:Int)))&&true)||!!bif at_.tmod 8 != 0 then true else decide (at_>IntKind.u64.wrap (↑m.sz:Int)))&&(((!bif at_.tmod 8 != 0 then true else decide (at_>IntKind.u64.wrap (↑m.sz:Int)))&&true||!!bif at_.tmod 8 != 0 then true else decide (at_>IntKind.u64.wrap (↑m.sz:Int)))&&(((!bif at_.tmod 8 != 0 then true else decide (at_>IntKind.u64.wrap (↑m.sz:Int)))&&((!bif at_.tmod 8 != 0 then true else decide (at_>IntKind.u64.wrap (↑m.sz:Int)))&&true)||!!bif at_.tmod 8 != 0 then true else decide (at_>IntKind.u64.wrap (↑m.sz:Int)))&&(((!bif at_.tmod 8 != 0 then true else decide (at_>IntKind.u64.wrap (↑m.sz:Int)))&&true||!!bif at_.tmod 8 != 0 then true else decide (at_>IntKind.u64.wrap (↑m.sz:Int)))&&(((!bif at_.tmod 8 != 0 then true else decide (at_>IntKind.u64.wrap (↑m.sz:Int)))&&true||!!bif at_.tmod 8 != 0 then true else decide (at_>IntKind.u64.wrap (↑m.sz:Int)))&&(((!bif at_.tmod 8 != 0 then true else decide (at_>IntKind.u64.wrap (↑m.sz:Int)))&&true||!!bif at_.tmod 8 != 0 then true else decide (at_>IntKind.u64.wrap (↑m.sz:Int)))&&(((!bif at_.tmod 8 != 0 then true else decide (at_>IntKind.u64.wrap (↑m.sz:Int)))&&true||!!bif at_.tmod 8 != 0 then true else decide (at_>IntKind.u64.wrap (↑m.sz:Int)))&&(((!bif at_.tmod 8 != 0 then true else decide (at_>IntKind.u64.wrap (↑m.sz:Int)))&&true||!!bif at_.tmod 8 != 0 then true else decide (at_>IntKind.u64.wrap (↑m.sz:Int)))&&(((!at_.tmod 8 != 0||at_.tmod 8 != 0)&&true||false)&&((!at_.tmod 8 != 0&&(!at_.tmod 8 != 0&&true)||!!at_.tmod 8 != 0)&&((!at_.tmod 8 != 0&&true||!!at_.tmod 8 != 0)&&((!at_.tmod 8 != 0&&true||!!at_.tmod 8 != 0)&&((!at_.tmod 8 != 0&&true||!!at_.tmod 8 != 0)&&((!at_.tmod 8 != 0&&true||!!at_.tmod 8 != 0)&&((!at_.tmod 8 != 0&&true||!!at_.tmod 8 != 0)&&true)))))))))))))))then bif bif bif at_.tmod 8 != 0 then true else decide (at_>IntKind.u64.wrap (↑m.sz:Int))then true else decide (IntKind.u64.wrap (IntKind.u64.wrap (↑m.sz:Int)-at_)<8)then some (Stop.mk (Leaf.mk [some (true,Value.slice none 0 0),some (true,Value.bool false)] [] Exit.ret 100) none)else bif (decide (0<=at_)&&decide (at_<=IntKind.u64.wrap (at_+8))&&decide (IntKind.u64.wrap (at_+8)<=(↑m.sz:Int))&&true||false)&&true then some (Stop.mk (Leaf.mk [some (true,Value.slice (some (Addr.mk 90 (0+at_.toNat*1) none)) (IntKind.u64.wrap (at_+8)-at_).toNat (m.sz-at_.toNat)),some (true,Value.bool true)] [] Exit.ret 100) none)else none else none) (by kernel_rfl) (by simp(contextual:=true) only[bn,bc])
def plB (sz:Nat) (a n:Int):Bool:=a % n==0&&(decide (0<=a)&&decide (a+n<=sz))
theorem u64_id {x:Int} (h:0<=x) (h':x<18446744073709551616):IntKind.u64.wrap x=x:=by
 have:IntKind.u64.wrap x=x % 18446744073709551616:=by simp[IntKind.wrap,IntKind.bits,IntKind.signed]
 omega
def szB (sz:Nat):Bool:=decide (sz<=4194304)
theorem szB_iff {sz:Nat}:szB sz=true ↔ sz<=4194304:=by simp[szB]
def slM (m:MS) (a n:Int):Value:=.slice (some ⟨90,a.toNat*1,none⟩) n.toNat (m.sz-a.toNat)
theorem bis_mem {P:Program}{σ:Nm}{m:MS}:BIs P σ m.memB m.memB:=bis_rw fun _ _=>rfl
section
variable (m:MS) (a:Int)
theorem w83_1 (hs:szB m.sz=true) (ha:uB a=true):walk (lookF FL) noSc 1000 x83 (argTm 0 [pM,.int .u64 a,.int .i64 1]) (mkH [(90,m.memB),(92,m.mB)]) 100 j0_ (Pj.mk [6,7] [] [] [90,92]) j0_ =
  bif plB m.sz a 1 then some (Stop.mk (Leaf.mk [some (true,slM m a 1),some (true,.bool true)] [] Exit.ret 100) none)else some (Stop.mk (Leaf.mk [some (true,Value.slice none 0 0),some (true,Value.bool false)] [] Exit.ret 100) none):=by
 have hs:=szB_iff.1 hs
 have ha:=uB_iff.1 ha
 rw[p83_1,u64_id (x:=(m.sz:Int)) (by omega) (by omega)]
 have e0:a.tmod 1=a % 1:=Int.tmod_eq_emod_of_nonneg ha.1
 rw[e0]
 unfold plB
 by_cases h1:a % 1=0
 ·by_cases h2:a<=m.sz
  ·rw[u64_id (x:=(m.sz:Int)-a) (by omega) (by omega)]
   by_cases h3:a+1<=m.sz
   ·have g1:((a % 1 != 0)||decide (a>(m.sz:Int))||decide ((m.sz:Int)-a<1))=false:=by simp[h1];omega
    have g2:(a % 1==0&&(decide (0<=a)&&decide (a+1<=(m.sz:Int))))=true:=by simp[h1,h3,ha.1]
    rw[g1,g2,cond_false,cond_true,u64_id (x:=a+1) (by omega) (by omega)]
    have g3:(decide (0<=a)&&decide (a<=a+1)&&decide (a+1<=(m.sz:Int)))=true:=by simp;omega
    rw[g3,cond_true,show a+1-a=1 by omega]
    rfl
   ·have g1:((a % 1 != 0)||decide (a>(m.sz:Int))||decide ((m.sz:Int)-a<1))=true:=by simp;omega
    have g2:(a % 1==0&&(decide (0<=a)&&decide (a+1<=(m.sz:Int))))=false:=by simp;omega
    rw[g1,g2];rfl
  ·have g1:((a % 1 != 0)||decide (a>(m.sz:Int))||decide (IntKind.u64.wrap ((m.sz:Int)-a)<1))=true:=by simp;omega
   have g2:(a % 1==0&&(decide (0<=a)&&decide (a+1<=(m.sz:Int))))=false:=by simp;omega
   rw[g1,g2];rfl
 ·have g0:(a % 1 != 0)=true:=bne_iff_ne.2 h1
  have g0':(a % 1==0)=false:=beq_eq_false_iff_ne.2 h1
  rw[g0,g0'];rfl
theorem w83_4 (hs:szB m.sz=true) (ha:uB a=true):walk (lookF FL) noSc 1000 x83 (argTm 0 [pM,.int .u64 a,.int .i64 4]) (mkH [(90,m.memB),(92,m.mB)]) 100 j0_ (Pj.mk [6,7] [] [] [90,92]) j0_ =
  bif plB m.sz a 4 then some (Stop.mk (Leaf.mk [some (true,slM m a 4),some (true,.bool true)] [] Exit.ret 100) none)else some (Stop.mk (Leaf.mk [some (true,Value.slice none 0 0),some (true,Value.bool false)] [] Exit.ret 100) none):=by
 have hs:=szB_iff.1 hs
 have ha:=uB_iff.1 ha
 rw[p83_4,u64_id (x:=(m.sz:Int)) (by omega) (by omega)]
 have e0:a.tmod 4=a % 4:=Int.tmod_eq_emod_of_nonneg ha.1
 rw[e0]
 unfold plB
 by_cases h1:a % 4=0
 ·by_cases h2:a<=m.sz
  ·rw[u64_id (x:=(m.sz:Int)-a) (by omega) (by omega)]
   by_cases h3:a+4<=m.sz
   ·have g1:((a % 4 != 0)||decide (a>(m.sz:Int))||decide ((m.sz:Int)-a<4))=false:=by simp[h1];omega
    have g2:(a % 4==0&&(decide (0<=a)&&decide (a+4<=(m.sz:Int))))=true:=by simp[h1,h3,ha.1]
    rw[g1,g2,cond_false,cond_true,u64_id (x:=a+4) (by omega) (by omega)]
    have g3:(decide (0<=a)&&decide (a<=a+4)&&decide (a+4<=(m.sz:Int)))=true:=by simp;omega
    rw[g3,cond_true,show a+4-a=4 by omega]
    rfl
   ·have g1:((a % 4 != 0)||decide (a>(m.sz:Int))||decide ((m.sz:Int)-a<4))=true:=by simp;omega
    have g2:(a % 4==0&&(decide (0<=a)&&decide (a+4<=(m.sz:Int))))=false:=by simp;omega
    rw[g1,g2];rfl
  ·have g1:((a % 4 != 0)||decide (a>(m.sz:Int))||decide (IntKind.u64.wrap ((m.sz:Int)-a)<4))=true:=by simp;omega
   have g2:(a % 4==0&&(decide (0<=a)&&decide (a+4<=(m.sz:Int))))=false:=by simp;omega
   rw[g1,g2];rfl
 ·have g0:(a % 4 != 0)=true:=bne_iff_ne.2 h1
  have g0':(a % 4==0)=false:=beq_eq_false_iff_ne.2 h1
  rw[g0,g0'];rfl
theorem w83_8 (hs:szB m.sz=true) (ha:uB a=true):walk (lookF FL) noSc 1000 x83 (argTm 0 [pM,.int .u64 a,.int .i64 8]) (mkH [(90,m.memB),(92,m.mB)]) 100 j0_ (Pj.mk [6,7] [] [] [90,92]) j0_ =
  bif plB m.sz a 8 then some (Stop.mk (Leaf.mk [some (true,slM m a 8),some (true,.bool true)] [] Exit.ret 100) none)else some (Stop.mk (Leaf.mk [some (true,Value.slice none 0 0),some (true,Value.bool false)] [] Exit.ret 100) none):=by
 have hs:=szB_iff.1 hs
 have ha:=uB_iff.1 ha
 rw[p83_8,u64_id (x:=(m.sz:Int)) (by omega) (by omega)]
 have e0:a.tmod 8=a % 8:=Int.tmod_eq_emod_of_nonneg ha.1
 rw[e0]
 unfold plB
 by_cases h1:a % 8=0
 ·by_cases h2:a<=m.sz
  ·rw[u64_id (x:=(m.sz:Int)-a) (by omega) (by omega)]
   by_cases h3:a+8<=m.sz
   ·have g1:((a % 8 != 0)||decide (a>(m.sz:Int))||decide ((m.sz:Int)-a<8))=false:=by simp[h1];omega
    have g2:(a % 8==0&&(decide (0<=a)&&decide (a+8<=(m.sz:Int))))=true:=by simp[h1,h3,ha.1]
    rw[g1,g2,cond_false,cond_true,u64_id (x:=a+8) (by omega) (by omega)]
    have g3:(decide (0<=a)&&decide (a<=a+8)&&decide (a+8<=(m.sz:Int)))=true:=by simp;omega
    rw[g3,cond_true,show a+8-a=8 by omega]
    rfl
   ·have g1:((a % 8 != 0)||decide (a>(m.sz:Int))||decide ((m.sz:Int)-a<8))=true:=by simp;omega
    have g2:(a % 8==0&&(decide (0<=a)&&decide (a+8<=(m.sz:Int))))=false:=by simp;omega
    rw[g1,g2];rfl
  ·have g1:((a % 8 != 0)||decide (a>(m.sz:Int))||decide (IntKind.u64.wrap ((m.sz:Int)-a)<8))=true:=by simp;omega
   have g2:(a % 8==0&&(decide (0<=a)&&decide (a+8<=(m.sz:Int))))=false:=by simp;omega
   rw[g1,g2];rfl
 ·have g0:(a % 8 != 0)=true:=bne_iff_ne.2 h1
  have g0':(a % 8==0)=false:=beq_eq_false_iff_ne.2 h1
  rw[g0,g0'];rfl
end
theorem body_walk {f N n0 news:Nat}{rts:List Rx}{x:XCode}{vs:List Value}{pre upd:Hp}{vv:Value}{F:Fns}{sc:Short} (hF:FnsOK Try.prog F sc) (hf:fnx Try.prog f=some (N,rts,x)) (hlen:vs.length<=N){p r q:Pj}{l:Leaf}
  (he:walk F sc 1000 x (argTm 0 vs) pre n0 p r q=some ⟨l,none⟩) (hfin:finE l.e=true) (s':St)
  (hl:∀ ρ w hd,LeafTo (envOf Try.prog N n0 pre mixed ρ w hd) ((pjOf p r l.e).ks++(pjOf p r l.e).uk) (ext (pjOf p r l.e) (argTm 0 vs) pre l) s')
  (hsub:SubB s'.h [] (upd++pre)) (hn:s'.n=n0+news) (hr:resV s'.t (upd++pre) rts=some vv):Body Try.prog f vs pre vv upd n0 news :=
 body_of mixed hf hlen fun ρ w hd=>xwp_toEnd (E:=envOf Try.prog N n0 pre mixed ρ w hd) (s:=⟨argTm 0 vs,pre,n0⟩) cl_fin hF 1000 he s' (hl ρ w hd) (fin_of hfin hsub hn hr)
def pre83 (m:MS):List (Nat × Blk):=[(90,m.memB),(92,m.mB)]
abbrev πM:List (Nat × Nat):=[(90,90),(91,91),(92,92),(40,40)]
def nOK (n:Int):Bool:=n==1||(n==4||n==8)
theorem w83 (m:MS) (a:Int) (hs:szB m.sz=true) (ha:uB a=true){n:Int} (hn:nOK n=true):walk (lookF FL) noSc 1000 x83 (argTm 0 [pM,.int .u64 a,.int .i64 n]) (mkH (pre83 m)) 100 j0_ (Pj.mk [6,7] [] [] [90,92]) j0_ =
  bif plB m.sz a n then some (Stop.mk (Leaf.mk [some (true,slM m a n),some (true,.bool true)] [] Exit.ret 100) none)else some (Stop.mk (Leaf.mk [some (true,Value.slice none 0 0),some (true,Value.bool false)] [] Exit.ret 100) none):=by
 simp only[nOK,Bool.or_eq_true,beq_iff_eq]at hn
 rcases hn with rfl|rfl|rfl
 ·exact w83_1 m a hs ha
 ·exact w83_4 m a hs ha
 ·exact w83_8 m a hs ha
theorem bd83 (m:MS) (a:Int) (hs:szB m.sz=true) (ha:uB a=true){n:Int} (hn:nOK n=true) (h:plB m.sz a n=true):Body Try.prog 64 [pM,.int .u64 a,.int .i64 n] (mkH (pre83 m)) (.tuple ⟨[slM m a n,.bool true]⟩) [] 100 0:=by
 have e:=w83 m a hs ha hn
 rw[h,cond_true]at e
 exact body_walk FOK fx83 (by simp) e rfl ⟨mkT [6,7] [slM m a _,.bool true],mkH (pre83 m),100⟩ (fun ρ w hd=>⟨_,_,_,rfl,rfl,⟨rfl,rfl,trivial⟩,bis_mem,rfl,trivial⟩) ⟨rfl,rfl,trivial⟩ rfl rfl
theorem bd83n (m:MS) (a:Int) (hs:szB m.sz=true) (ha:uB a=true){n:Int} (hn:nOK n=true) (h:plB m.sz a n=false):Body Try.prog 64 [pM,.int .u64 a,.int .i64 n] (mkH (pre83 m)) (.tuple ⟨[.slice none 0 0,.bool false]⟩) [] 100 0:=by
 have e:=w83 m a hs ha hn
 rw[h,cond_false]at e
 exact body_walk FOK fx83 (by simp) e rfl ⟨mkT [6,7] [.slice none 0 0,.bool false],mkH (pre83 m),100⟩ (fun ρ w hd=>⟨_,_,_,rfl,rfl,⟨rfl,rfl,trivial⟩,bis_mem,rfl,trivial⟩) ⟨rfl,rfl,trivial⟩ rfl rfl
theorem c83 (m:MS) (a:Int) (hs:szB m.sz=true) (ha:uB a=true){k:Int} (hk:nOK k=true) (h:plB m.sz a k=true) (n:Nat):ADet Try.prog 64 [pM,.int .u64 a,.int .i64 k] (mkH (pre83 m)) (.tuple ⟨[slM m a k,.bool true]⟩) [] n 0 :=
 adet_of_body (bd83 m a hs ha hk h) πM [] rfl rfl ⟨bis_mem,rfl,trivial⟩ rfl rfl ⟨bis_mem,rfl,trivial⟩ rfl
theorem c83n (m:MS) (a:Int) (hs:szB m.sz=true) (ha:uB a=true){k:Int} (hk:nOK k=true) (h:plB m.sz a k=false) (n:Nat):ADet Try.prog 64 [pM,.int .u64 a,.int .i64 k] (mkH (pre83 m)) (.tuple ⟨[.slice none 0 0,.bool false]⟩) [] n 0 :=
 adet_of_body (bd83n m a hs ha hk h) πM [] rfl rfl ⟨bis_mem,rfl,trivial⟩ rfl rfl ⟨bis_mem,rfl,trivial⟩ rfl
def Has (h:Hp) (pre:List (Nat × Blk)):Prop:=match pre with
 |[]=>True
 |(id,b) :: l=>hget h id=some b/\Has h l
theorem has_pre {h:Hp}:∀ {pre:List (Nat × Blk)},Has h pre->nodupB (pre.map (·.1))=true->∀ id∈fstL (mkH pre),hget h id=hget (mkH pre) id
 |[],_,_,id,hid=>by cases hid
 |(k,b) :: l,hh,hnd,id,hid=>by
  simp only[mkH,fstL,List.mem_cons]at hid
  simp only[mkH,hget]
  cases hb:Nat.beq k id with
  |true=>rw[<- Nat.eq_of_beq_eq_true hb];exact hh.1
  |false =>
   simp only[List.map_cons,nodupB,Bool.and_eq_true]at hnd
   refine has_pre hh.2 hnd.2 id (hid.resolve_left fun e=>?_)
   subst e;simp at hb
noncomputable def con83 (m:MS):Con Try.prog where
 f:=64
 run:=fun vs h n=>match vs with
  |[.pointer (some ⟨92,0,some 0⟩),.int .u64 a,.int .i64 k]=>some (mkH (pre83 m),.tuple ⟨[slM m a k,.bool true]⟩,[],0,decP (Has h (pre83 m))&&(szB m.sz&&(uB a&&(nOK k&&plB m.sz a k))))
  |_=>none
 ok:=fun vs h n pre v upd news hx=>by
  split at hx
  ·simp only[Option.some.injEq,Prod.mk.injEq,Bool.and_eq_true]at hx
   obtain⟨rfl,rfl,rfl,rfl,hA,h1,h2,h3,h4⟩:=hx
   exact⟨has_pre (of_decP hA) rfl,c83 m _ h1 h2 h3 h4 n⟩
  ·cases hx
noncomputable def con83n (m:MS):Con Try.prog where
 f:=64
 run:=fun vs h n=>match vs with
  |[.pointer (some ⟨92,0,some 0⟩),.int .u64 a,.int .i64 k]=>some (mkH (pre83 m),.tuple ⟨[.slice none 0 0,.bool false]⟩,[],0,decP (Has h (pre83 m))&&(szB m.sz&&(uB a&&(nOK k&&!plB m.sz a k))))
  |_=>none
 ok:=fun vs h n pre v upd news hx=>by
  split at hx
  ·simp only[Option.some.injEq,Prod.mk.injEq,Bool.and_eq_true,Bool.not_eq_true']at hx
   obtain⟨rfl,rfl,rfl,rfl,hA,h1,h2,h3,h4⟩:=hx
   exact⟨has_pre (of_decP hA) rfl,c83n m _ h1 h2 h3 h4 n⟩
  ·cases hx
def num4 (f:Nat->Int) (k:Nat):Int:=bits2 .or .u64 (bits2 .or .u64 (bits2 .or .u64 (bits2 .or .u64 0 (IntKind.u64.wrap (IntKind.u64.wrap (f (k+0))*1))) (IntKind.u64.wrap (IntKind.u64.wrap (f (k+1))*256))) (IntKind.u64.wrap (IntKind.u64.wrap (f (k+2))*65536))) (IntKind.u64.wrap (IntKind.u64.wrap (f (k+3))*16777216))
def w32 (m:MS):Int:=IntKind.u32.wrap (num4 m.mem (m.pl.toNat*1))
def knNew (k:KM) (w:Int):Blk:=.map 83 60 (bif k.has (.int .u32 w)then k.n else k.n+1) (fun q=>keq q (.int .u32 w)||k.has q) (fun q=>match keq q (.int .u32 w)with
 |true=>(decA w).i
 |false=>(k.ans q).i)
noncomputable abbrev sc72 (m:MS):Short:=scOf [con83 m,con20]
noncomputable abbrev sc72n (m:MS):Short:=scOf [con83n m]
theorem FOK72 (m:MS):FnsOK Try.prog (lookF FL) (sc72 m):=fok FOK _
theorem FOK72n (m:MS):FnsOK Try.prog (lookF FL) (sc72n m):=fok FOK _
attribute [local congr] cond_ctx
theorem p72_ (m:MS):walk (lookF FL) (sc72 m) 1000 x72 (argTm 0 [pM]) (mkH [(90,m.memB),(91,m.kn.blk),(92,m.mB)]) 100 j0_ (Pj.mk [3,2] [Ref.id 91,Ref.tmp 2] [] [90,92]) j0_=bif decP (Has (mkH m.H) (pre83 m))&&(szB m.sz&&(uB m.pl&&plB m.sz m.pl 4))then bif decide (m.pl.toNat*1+0<m.sz)&&(decide (m.pl.toNat*1+1<m.sz)&&(decide (m.pl.toNat*1+2<m.sz)&&decide (m.pl.toNat*1+3<m.sz)))then bif !m.kn.has (Value.int IntKind.u32 (w32 m))then bif decP (DecU (w32 m))then bif (decA (w32 m)).err != 0 then some (Stop.mk (Leaf.mk [some (true,Value.bool false),some (true,Value.pointer (some (Addr.mk 100 0 (some 0))))] [(91,some m.kn.blk),(100,some (decA (w32 m)).b)] Exit.ret 103) none)else some (Stop.mk (Leaf.mk [some (true,Value.bool true),some (true,Value.pointer (some (Addr.mk 100 0 (some 0))))] [(91,some (knNew m.kn (w32 m))),(100,some (decA (w32 m)).b)] Exit.ret 103) none)else none else some (Stop.mk (Leaf.mk [some (true,Value.bool true),some (true,Value.pointer (some (Addr.mk 100 0 (some 0))))] [(91,some m.kn.blk),(100,some (m.kn.ans (.int .u32 (w32 m))).b)] Exit.ret 102) none)else none else none:=Eq.trans (b:=bif (decP (Has (mkH m.H) (pre83 m))&&(szB m.sz&&(uB m.pl&&plB m.sz m.pl 4))||false)&&true then bif (((m.pl.toNat*1+0).blt m.sz&&true||false)&&true&&true&&true&&(((m.pl.toNat*1+1).blt m.sz&&true||false)&&true&&true&&true&&(((m.pl.toNat*1+2).blt m.sz&&true||false)&&true&&true&&true&&(((m.pl.toNat*1+3).blt m.sz&&true||false)&&true&&true&&true&&true)))&&true&&true&&true||false)&&true then bif !m.kn.has (Value.int IntKind.u32 (w32 m))then bif decP (DecU (w32 m))&&true then bif (decA (w32 m)).err != 0 then some (Stop.mk (Leaf.mk [some (true,Value.bool false),some (true,Value.pointer (some (Addr.mk 100 0 (some 0))))] [(91,some m.kn.blk),(100,some (decA (w32 m)).b)] Exit.ret 103) none)else some (Stop.mk (Leaf.mk [some (true,Value.bool true),some (true,Value.pointer (some (Addr.mk 100 0 (some 0))))] [(91,some (knNew m.kn (w32 m))),(100,some (decA (w32 m)).b)] Exit.ret 103) none)else none else some (Stop.mk (Leaf.mk [some (true,Value.bool true),some (true,Value.pointer (some (Addr.mk 100 0 (some 0))))] [(91,some m.kn.blk),(100,some (m.kn.ans (.int .u32 (w32 m))).b)] Exit.ret 102) none)else none else none) (by kernel_rfl) (by simp(contextual:=true) only[bn,bc])
theorem p72n (m:MS):walk (lookF FL) (sc72n m) 1000 x72 (argTm 0 [pM]) (mkH [(90,m.memB),(91,m.kn.blk),(92,m.mB)]) 100 j0_ (Pj.mk [3,2] [Ref.tmp 2] [] [90,91,92]) j0_=bif decP (Has (mkH m.H) (pre83 m))&&(szB m.sz&&(uB m.pl&&!plB m.sz m.pl 4))then some (Stop.mk (Leaf.mk [some (true,Value.bool false),some (true,Value.pointer (some (Addr.mk 100 0 (some 0))))] [(100,some var0)] Exit.ret 101) none)else none:=Eq.trans (b:=bif (decP (Has (mkH m.H) (pre83 m))&&(szB m.sz&&(uB m.pl&&!plB m.sz m.pl 4))||false)&&true then some (Stop.mk (Leaf.mk [some (true,Value.bool false),some (true,Value.pointer (some (Addr.mk 100 0 (some 0))))] [(100,some var0)] Exit.ret 101) none)else none) (by kernel_rfl) (by simp(contextual:=true) only[bn,bc])
def KM.add (k:KM) (w:Int):KM:=⟨bif k.has (.int .u32 w)then k.n else k.n+1,fun q=>keq q (.int .u32 w)||k.has q⟩
theorem under35:Try.prog.underlying 83=some (.int .u32):=by kernel_rfl
theorem bis_kn {σ:Nm}{k:KM}:BIs Try.prog σ k.blk k.blk:=⟨rfl,rfl,rfl,fun d q _ _=>⟨rfl,rfl⟩⟩
theorem bis_knNew {σ:Nm}{k:KM}{w:Int}:BIs Try.prog σ (k.add w).blk (knNew k w):=⟨rfl,rfl,rfl,fun d q hd hq=>⟨rfl,by
 rw[under35]at hd
 cases hd
 obtain⟨x,rfl⟩:∃ x,q=.int .u32 x:=by
  cases q<;>simp[keyOf]at hq
  subst hq;exact⟨_,rfl⟩
 show((k.add w).ans (.int .u32 x)).i=_
 unfold KM.ans KM.add
 simp only
 cases hk:keq (.int .u32 x) (.int .u32 w)with
 |true =>
  have:x=w:=by simpa [keq]using hk
  subst this
  rfl
 |false=>rfl⟩⟩
def KM.OK (k:KM):Prop:=∀ w,k.has (.int .u32 w)=true->(decA w).err=0
theorem KM.OK.add {k:KM} (h:k.OK){w:Int} (hw:(decA w).err=0):(k.add w).OK:=fun x hx=>by
 simp only[KM.add,Bool.or_eq_true]at hx
 rcases hx with hx|hx
 ·have:x=w:=by simpa [keq]using hx
  rw[this];exact hw
 ·exact h x hx
def MS.kn' (m:MS):KM:=bif m.kn.has (.int .u32 (w32 m))||(decA (w32 m)).err != 0 then m.kn else m.kn.add (w32 m)
theorem idx4 {m:MS} (h:plB m.sz m.pl 4=true):(decide (m.pl.toNat*1+0<m.sz)&&(decide (m.pl.toNat*1+1<m.sz)&&(decide (m.pl.toNat*1+2<m.sz)&&decide (m.pl.toNat*1+3<m.sz))))=true:=by
 unfold plB at h
 simp only[Bool.and_eq_true,beq_iff_eq,decide_eq_true_eq]at h
 simp;omega
theorem has_83 (m:MS):Has (mkH m.H) (pre83 m):=⟨rfl,rfl,trivial⟩
abbrev r72:Pj:=⟨[3,2],[.id 91,.tmp 2],[],[90,92]⟩
theorem w72 (m:MS) (hs:szB m.sz=true) (hp:uB m.pl=true) (hb:plB m.sz m.pl 4=true) (hu:DecU (w32 m)) (hk:m.kn.OK):∃ K n,BIs Try.prog (stayOr 100 [(91,91),(100,100),(90,90),(92,92)]) (m.kn').blk K/\101<=n /\
  walk (lookF FL) (sc72 m) 1000 x72 (argTm 0 [pM]) (mkH m.H) 100 j0_ r72 j0_ =
   some ⟨⟨[some (true,.bool ((decA (w32 m)).err==0)),some (true,.pointer (some ⟨100,0,some 0⟩))],[(91,some K),(100,some (decA (w32 m)).b)],.ret,n⟩,none⟩:=by
 have e:=p72_ m
 rw[decP_true (has_83 m),hs,hp,hb,idx4 hb]at e
 simp only[Bool.and_self,cond_true]at e
 cases hh:m.kn.has (.int .u32 (w32 m))with
 |true =>
  have h0:=hk _ hh
  rw[hh]at e
  simp only[Bool.not_true,cond_false]at e
  refine⟨m.kn.blk,102,?_,by omega,?_⟩
  ·unfold MS.kn';rw[hh];exact bis_kn
  ·have:m.kn.ans (.int .u32 (w32 m))=decA (w32 m):=by unfold KM.ans;rw[hh];rfl
   rw[this]at e
   rw[h0]
   exact e
 |false =>
  rw[hh,decP_true hu]at e
  simp only[Bool.not_false,cond_true]at e
  cases he:((decA (w32 m)).err==0)with
  |true =>
   have g:((decA (w32 m)).err != 0)=false:=by unfold bne;rw[he];rfl
   rw[g]at e
   refine⟨knNew m.kn (w32 m),103,?_,by omega,e⟩
   unfold MS.kn';rw[hh,g];exact bis_knNew
  |false =>
   have g:((decA (w32 m)).err != 0)=true:=by unfold bne;rw[he];rfl
   rw[g]at e
   refine⟨m.kn.blk,103,?_,by omega,e⟩
   unfold MS.kn';rw[hh,g];exact bis_kn
theorem bd72 (m:MS) (hs:szB m.sz=true) (hp:uB m.pl=true) (hb:plB m.sz m.pl 4=true) (hu:DecU (w32 m)) (hk:m.kn.OK) :
  Body Try.prog 57 [pM] (mkH m.H) (.tuple ⟨[(decA (w32 m)).i,.bool ((decA (w32 m)).err==0)]⟩) [(100,some (decA (w32 m)).b),(91,some (m.kn').blk)] 100 1:=by
 obtain⟨K,n,hK,hn,e⟩:=w72 m hs hp hb hu hk
 exact body_walk (FOK72 m) fx72 (by simp) e rfl ⟨mkT [3,2] [.bool ((decA (w32 m)).err==0),.pointer (some ⟨100,0,some 0⟩)],mkH [(91,(m.kn').blk),(100,(decA (w32 m)).b),(90,m.memB),(92,m.mB)],101⟩
  (fun ρ w hd=>⟨_,_,_,rfl,rfl,⟨rfl,rfl,trivial⟩,hK,rfl,bis_mem,rfl,trivial⟩) ⟨rfl,rfl,rfl,trivial,rfl,trivial⟩ rfl rfl
theorem asc_new (d:Nat) (l:List (Nat × Nat)):asc ((d+100,100) :: l) (d+100)=some 100:=by simp[asc]
theorem nOK1 (d:Nat):(Nat.ble (d+100) (d+100)&&Nat.blt (d+100) (d+100+1)&&true)=true:=by simp[Nat.blt]
theorem adet_new1 {f:FuncId}{vs:List Value}{pre:List (Nat × Blk)}{v:Value}{b:Blk}{upd:Hp} (h:Body Try.prog f vs (mkH pre) v ((100,some b) :: upd) 100 1){n:Nat} (hn:100<=n)
  (hvs:rnL (asc πM) vs=vs) (hpre:HsOK Try.prog (asc πM) (hget (mkH pre)) [] (mkH pre)) (hpn:nodupB (namesOf (asc πM) [] (mkH pre))=true)
  (hb:b.ro=false) (hur:updRW upd=true) (hv:∀ d,rn (asc ((d+100,100) :: πM)) v=v) (hbb:∀ d,BIs Try.prog (asc ((d+100,100) :: πM)) b b)
  (hup:∀ d,HsOK Try.prog (asc ((d+100,100) :: πM)) (hget ((100,some b) :: upd++mkH pre)) [d+100] (upd++mkH pre)) (hun:∀ d,natMem 100 (namesOf (asc ((d+100,100) :: πM)) [d+100] (upd++mkH pre))=false/\nodupB (namesOf (asc ((d+100,100) :: πM)) [d+100] (upd++mkH pre))=true) :
  ADet Try.prog f vs (mkH pre) v ((n,some b) :: upd) n 1:=by
 obtain⟨d,rfl⟩:∃ d,n=d+100:=⟨n-100,by omega⟩
 refine adet_of_body h πM [(d+100,100)] ?_ hvs hpre hpn (hv d) ?_ ?_
 ·simp only[namesOK,List.all_cons,List.all_nil,updRW,hb,hur,Bool.not_false]
  rw[nOK1]
  rfl
 ·refine⟨?_,hup d⟩
  show(match asc ((d+100,100) :: πM) (d+100)with|some id0=>(match hget ((100,some b) :: upd++mkH pre) id0 with|some x=>BIs Try.prog (asc ((d+100,100) :: πM)) b x|none=>False)|none=>False)
  rw[asc_new]
  exact hbb d
 ·show nodupB (match natMem (d+100) [],some b,asc ((d+100,100) :: πM) (d+100)with|false,some _,some x=>x :: namesOf (asc ((d+100,100) :: πM)) [d+100] (upd++mkH pre)|_,_,_=>_)=true
  rw[asc_new]
  show(!natMem 100 _&&nodupB _)=true
  rw[(hun d).1,(hun d).2];rfl
theorem c72 (m:MS) (hs:szB m.sz=true) (hp:uB m.pl=true) (hb:plB m.sz m.pl 4=true) (hu:DecU (w32 m)) (hk:m.kn.OK){n:Nat} (hn:100<=n) :
  ADet Try.prog 57 [pM] (mkH m.H) (.tuple ⟨[(decA (w32 m)).i,.bool ((decA (w32 m)).err==0)]⟩) [(n,some (decA (w32 m)).b),(91,some (m.kn').blk)] n 1 :=
 adet_new1 (pre:=m.H) (bd72 m hs hp hb hu hk) hn rfl ⟨bis_mem,bis_kn,rfl,trivial⟩ rfl rfl rfl (fun d=>rfl) (fun d=>rfl) (fun d=>⟨bis_kn,bis_mem,trivial,rfl,trivial⟩) (fun d=>⟨rfl,rfl⟩)
end Go.X
