import Derived.Test.YtghpjlmaamnnpaaDoorH27
import Derived.Laws.Bits64
set_option linter.all false
namespace Go.X
open Go Go.Proofs
set_option linter.unusedVariables false
set_option linter.unusedSimpArgs false
def g26 (c u:Bool):Bool:=((c||!c)&&true||false)&&((c&&(c&&true)||!c)&&((u&&(c&&(c&&(c&&true)))||!c)&&((c&&(c&&true)||!c)&&((c&&true||!c)&&true))))
def g15a (c0 i0:Bool):Bool:=((c0||!c0)&&true||false)&&((c0&&true||!c0)&&((i0&&(c0&&true)||!c0)&&true))
def g15b (c2 c3 c4 c5 i1 i2:Bool):Bool:=(((bif bif bif c2 then c3 else false then c4 else false then c5 else false)||!bif bif bif c2 then c3 else false then c4 else false then c5 else false)&&true||false)&&(((bif bif bif c2 then c3 else false then c4 else false then c5 else false)&&true||!bif bif bif c2 then c3 else false then c4 else false then c5 else false)&&((i1&&((bif bif bif c2 then c3 else false then c4 else false then c5 else false)&&true)||!bif bif bif c2 then c3 else false then c4 else false then c5 else false)&&((((bif bif c2 then c3 else false then c4 else false)||!bif bif c2 then c3 else false then c4 else false)&&true||false)&&(((bif bif c2 then c3 else false then c4 else false)&&true||!bif bif c2 then c3 else false then c4 else false)&&((i1&&((bif bif c2 then c3 else false then c4 else false)&&true)||!bif bif c2 then c3 else false then c4 else false)&&((((bif c2 then c3 else false)||!bif c2 then c3 else false)&&true||false)&&(((bif c2 then c3 else false)&&true||!bif c2 then c3 else false)&&((i1&&((bif c2 then c3 else false)&&true)||!bif c2 then c3 else false)&&(((c2||!c2)&&true||false)&&((c2&&true||!c2)&&((i1&&(c2&&true)||!c2)&&((i2&&true||false)&&true))))))))))))
def g15c (c0 c1 i0:Bool):Bool:=(((!bif c0 then true else c1)||bif c0 then true else c1)&&true||false)&&(((!bif c0 then true else c1)&&true||!!bif c0 then true else c1)&&(((!bif c0 then true else c1)&&true&&true||!!bif c0 then true else c1)&&((i0&&((!bif c0 then true else c1)&&true)||!!bif c0 then true else c1)&&(((!c0||c0)&&true||false)&&((!c0&&true||!!c0)&&((!c0&&true||!!c0)&&true))))))
def g15d (c z:Bool):Bool:=((!c||c)&&true||false)&&((!c&&(!c&&true)||!!c)&&((!z&&(!c&&(!c&&true))||!!c)&&((!c&&true||!!c)&&true)))
def g15e (c i:Bool):Bool:=((c||!c)&&true||false)&&((c&&true||!c)&&((i&&(c&&(c&&true))||!c)&&((i&&true||false)&&true)))
def e26 (s w:ByteArray) (k:Nat):Int:=IntKind.i64.wrap ((k:Int)+(w.size:Int))
theorem p26 (s w:ByteArray) (k:Nat):walk (lookF FL) noSc 1000 x26 (argTm 0 [.string s,.int .i64 (k:Int),.string w]) [] 100 ⟨[],[],[],[]⟩ ⟨[6],[],[],[]⟩ ⟨[],[],[],[]⟩ =
  bif g26 (decide (e26 s w k ≤ (s.size:Int))) (decide (0 ≤ (k:Int))&&decide ((k:Int) ≤ e26 s w k)&&decide (e26 s w k ≤ (s.size:Int)))then
   some ⟨⟨[some (true,.bool (bif decide (e26 s w k ≤ (s.size:Int))then(s.extract k (e26 s w k).toNat).toList==w.toList else false))],[],.ret,100⟩,none⟩else none:=by kernel_rfl
def stF (s:ByteArray) (k:Nat) (w:ByteArray):Bool:=w.data.toList.isPrefixOf (s.data.toList.drop k)
theorem pre_take {w l:List UInt8}:(l.take w.length==w)=w.isPrefixOf l:=by
 rw[Bool.eq_iff_iff,List.isPrefixOf_iff_prefix,beq_iff_eq]
 constructor
 ·intro h;rw[← h];exact List.take_prefix _ _
 ·intro h;exact(List.prefix_iff_eq_take.1 h).symm
theorem b26 {s w:ByteArray}{k:Nat} (hk:k ≤ s.size) (hs:s.size<4611686018427387904) (hw:w.size<4611686018427387904):Body Tryd.prog 26 [.string s,.int .i64 (k:Int),.string w] [] (.bool (stF s k w)) [] 100 0:=by
 refine body_of' mixed fx26 (by simp) fun E Q hP hn hcl hfin=>?_
 have hF0:FnsOK E.P (lookF FL) noSc:=hP▸FOK
 have he:e26 s w k=((k+w.size:Nat):Int):=by unfold e26;rw[wrap_i (by omega) (by omega)];omega
 have e:=p26 s w k
 rw[he]at e
 have fin:∀ {a:Bool},a=stF s k w → walk (lookF FL) noSc 1000 x26 (argTm 0 [.string s,.int .i64 (k:Int),.string w]) [] 100 ⟨[],[],[],[]⟩ ⟨[6],[],[],[]⟩ ⟨[],[],[],[]⟩=some ⟨⟨[some (true,.bool a)],[],.ret,100⟩,none⟩ → XWP E.toEnv x26 Q ⟨argTm 0 [.string s,.int .i64 (k:Int),.string w],[],100⟩:=fun {a} h e =>
  xwp_toEnd (s:=⟨_,_,_⟩) hcl hF0 1000 e ⟨mkT [6] [.bool a],[],100⟩ ⟨_,[],_,rfl,by rw[hn];rfl,by rw[hn];exact⟨rfl,trivial⟩,trivial⟩ (hfin _ _ (fin_of rfl trivial (by rw[hn]) (by rw[h];rfl)))
 by_cases h:k+w.size ≤ s.size
 ·rw[decide_eq_true (show((k+w.size:Nat):Int) ≤ (s.size:Int) by omega),decide_eq_true (show 0 ≤ (k:Int) by omega),decide_eq_true (show(k:Int) ≤ ((k+w.size:Nat):Int) by omega),Int.toNat_natCast]at e
  refine fin ?_ e
  unfold stF
  rw[toList_data,toList_data,ext_list,Nat.add_sub_cancel_left,Lib.size_eq w]
  exact pre_take
 ·rw[decide_eq_false (show ¬ ((k+w.size:Nat):Int) ≤ (s.size:Int) by omega),Bool.and_false]at e
  refine fin ?_ e
  unfold stF
  cases hp:w.data.toList.isPrefixOf (s.data.toList.drop k)with
  |false=>rfl
  |true =>
   have:=(List.isPrefixOf_iff_prefix.1 hp).length_le
   rw[List.length_drop,← Lib.size_eq,← Lib.size_eq]at this
   omega
theorem c26 {s w:ByteArray}{k:Nat} (hk:k ≤ s.size) (hs:s.size<4611686018427387904) (hw:w.size<4611686018427387904) (n:Nat):ADet Tryd.prog 26 [.string s,.int .i64 (k:Int),.string w] [] (.bool (stF s k w)) [] n 0 :=
 adet_of_body (b26 hk hs hw) [] [] rfl rfl trivial rfl rfl trivial rfl
def con26:Con Tryd.prog where
 f:=26
 run:=fun vs h n=>match vs with
  |[.string s,.int .i64 (.ofNat k),.string w]=>some ([],.bool (stF s k w),[],0,Nat.ble k s.size&&(Nat.blt s.size 4611686018427387904&&Nat.blt w.size 4611686018427387904))
  |_=>none
 ok:=fun vs h n pre v upd news hx=>by
  split at hx
  ·simp only[Option.some.injEq,Prod.mk.injEq,Bool.and_eq_true]at hx
   obtain⟨rfl,rfl,rfl,rfl,h1,h2,h3⟩:=hx
   rw[Nat.ble_eq]at h1
   rw[Nat.blt_eq]at h2 h3
   exact⟨fun id hid=>by simp[fstL]at hid,c26 h1 h2 h3 n⟩
  ·cases hx
def scM5:Short:=scOf [con25,con26]
theorem FOKM5:FnsOK Tryd.prog (lookF FL) scM5:=fok FOK _
abbrev k15:List Nat:=[4,6,5,0]
def rm (v:Int) (b:Bool):Option Stop:=some ⟨⟨[some (true,.int .u64 v),some (true,.bool b)],[],.ret,100⟩,none⟩
def gt15:Option Stop:=some ⟨⟨[],[],.normal,100⟩,none⟩
theorem p15_0 (s:ByteArray):walk (lookF FL) scM5 1000 (.region x15_0) (argTm 0 [.string s]) [] 100 ⟨[],[],[0],[]⟩ ⟨[],[],[],[]⟩ ⟨[],[],[],[]⟩=gt15:=by kernel_rfl
theorem p15_11 (s:ByteArray):walk (lookF FL) scM5 1000 x15_11 (mkT [0] [.string s]) [] 100 ⟨[],[],[0],[]⟩ ⟨[2,3],[],[],[]⟩ ⟨[],[],[],[]⟩=bif g15a ((s.size:Int)==3) (intRange 0 s.size)then bif bif (s.size:Int)==3 then byteAt s 0==39 else false then
  bif g15b (byteAt s 2==39) (decide (byteAt s 1 ≥ 32)) (decide (byteAt s 1 ≤ 126)) (byteAt s 1 != 39) (intRange 1 s.size) (intRange 2 s.size)then
   bif bif bif bif bif byteAt s 2==39 then decide (byteAt s 1 ≥ 32)else false then decide (byteAt s 1 ≤ 126)else false then byteAt s 1 != 39 else false then byteAt s 1 != 92 else false then bif (intRange 1 s.size&&true||false)&&true then rm (IntKind.u64.wrap (byteAt s 1)) true else none else rm 0 false else none else gt15 else none:=by kernel_rfl
theorem p15_16 (s:ByteArray):walk (lookF FL) scM5 1000 x15_16 (mkT [0] [.string s]) [] 100 ⟨[],[],[0],[]⟩ ⟨[2,3],[],[],[]⟩ ⟨[],[],[],[]⟩=bif g15c (s.toList==(ByteArray.mk #[]).toList) (decide ((s.size:Int)>20)) (intRange 0 s.size)then
  bif bif bif s.toList==(ByteArray.mk #[]).toList then true else decide ((s.size:Int)>20)then true else !digF (byteAt s 0)then rm 0 false else gt15 else none:=by kernel_rfl
theorem p15_17 (s:ByteArray):walk (lookF FL) scM5 1000 (.region x15_17) (mkT [0] [.string s]) [] 100 ⟨[4,5],[],[0],[]⟩ ⟨[],[],[],[]⟩ ⟨[],[],[],[]⟩=some ⟨⟨[iv 0,some (true,.int .u64 10)],[],.normal,100⟩,none⟩:=by kernel_rfl
theorem p15_23 (s:ByteArray):walk (lookF FL) scM5 1000 x15_23 (mkT [4,5,0] [.int .i64 0,.int .u64 10,.string s]) [] 100 ⟨[4,5],[],[0],[]⟩ ⟨[],[],[],[]⟩ ⟨[],[],[],[]⟩=bif (Nat.ble 0 s.size&&(Nat.blt s.size 4611686018427387904&&true)||false)&&true then bif stF s 0 zx then some ⟨⟨[iv 2,some (true,.int .u64 16)],[],.normal,100⟩,none⟩else some ⟨⟨[iv 0,some (true,.int .u64 10)],[],.normal,100⟩,none⟩else none:=by kernel_rfl
theorem p15_61 (s:ByteArray) (k:Nat) (b:Int):walk (lookF FL) scM5 1000 x15_61 (mkT [4,5,0] [.int .i64 (k:Int),.int .u64 b,.string s]) [] 100 ⟨[],[],[],[]⟩ ⟨[2,3],[],[],[]⟩ ⟨[4,6],[],[5,0],[]⟩=bif (k:Int)==(s.size:Int)then rm 0 false else some ⟨⟨[iv k,some (true,.int .u64 0)],[],.normal,100⟩,some (x15_54,[.bl 0,.sq x15_58])⟩:=by kernel_rfl
def st15 (k:Nat) (n b D:Int):Option Stop:=bif g15d (decide (D ≥ b)) (decide (b=0))then bif bif decide (D ≥ b)then true else decide (n>IntKind.u64.wrap ((IntKind.u64.wrap (9223372036854775807-D)).tdiv b))then rm 0 false
 else some ⟨⟨[iv (IntKind.i64.wrap ((k:Int)+1)),some (true,.int .u64 (IntKind.u64.wrap (IntKind.u64.wrap (n*b)+D)))],[],.normal,100⟩,none⟩else none
theorem p15_l (s:ByteArray) (k:Nat) (n b:Int):walk (lookF FL) scM5 1000 x15_54 (mkT k15 [.int .i64 (k:Int),.int .u64 n,.int .u64 b,.string s]) [] 100 ⟨[4,6],[],[5,0],[]⟩ ⟨[2,3],[],[],[]⟩ ⟨[],[],[],[]⟩=bif decide ((k:Int)<(s.size:Int))then bif (intRange k s.size&&true||false)&&true then
  bif digF (byteAt s k)then bif (intRange k s.size&&true||false)&&true then st15 k n b (IntKind.u64.wrap (IntKind.u8.wrap (byteAt s k-48)))else none
  else bif g15e (decide (byteAt s k ≥ 97)) (intRange k s.size)then bif bif decide (byteAt s k ≥ 97)then decide (byteAt s k ≤ 102)else false then bif (intRange k s.size&&true||false)&&true then st15 k n b (IntKind.u64.wrap (IntKind.u64.wrap (IntKind.u8.wrap (byteAt s k-97))+10))else none
   else st15 k n b 99 else none else none
  else some ⟨⟨[iv k,some (true,.int .u64 n)],[],.exit 0,100⟩,none⟩:=by kernel_rfl
theorem p15_e (s:ByteArray) (k:Nat) (n b:Int):walk (lookF FL) scM5 1000 x15_58 (mkT k15 [.int .i64 (k:Int),.int .u64 n,.int .u64 b,.string s]) [] 100 ⟨[],[],[],[]⟩ ⟨[2,3],[],[],[]⟩ ⟨[],[],[],[]⟩=rm n true:=by kernel_rfl
set_option linter.unusedVariables false
set_option linter.unusedSimpArgs false
theorem st15_eq {k n b d:Nat}{D:Int} (hD:D=(d:Int)) (hd:d ≤ 99) (hn:n<9223372036854775808) (hb:b=10 ∨ b=16) (hk:k<9223372036854775807) :
  st15 k n b D=if d<b ∧ n*b+d<9223372036854775808 then some ⟨⟨[iv ((k+1:Nat):Int),some (true,.int .u64 ((n*b+d:Nat):Int))],[],.normal,100⟩,none⟩else rm 0 false:=by
 subst hD
 unfold st15
 rw[decide_eq_false (show ¬ (b:Int)=0 by omega)]
 by_cases h1:d<b
 ·rw[decide_eq_false (show ¬ (d:Int) ≥ (b:Int) by omega)]
  have hq:IntKind.u64.wrap ((IntKind.u64.wrap (9223372036854775807-(d:Int))).tdiv (b:Int))=((9223372036854775807-d) / b:Nat):=by
   have e1:IntKind.u64.wrap (9223372036854775807-(d:Int))=((9223372036854775807-d:Nat):Int):=by rw[IntKind.wrap_u64];omega
   rw[e1,Int.tdiv_eq_ediv_of_nonneg (by omega)]
   have e2:(((9223372036854775807-d:Nat):Int) / (b:Int))=(((9223372036854775807-d) / b:Nat):Int):=by simp
   rw[e2,IntKind.wrap_u64]
   have:=Nat.div_le_self (9223372036854775807-d) b
   generalize (9223372036854775807-d) / b=q at this
   omega
  rw[hq]
  have hiff:(n:Int)>(((9223372036854775807-d) / b:Nat):Int) ↔ ¬ n*b+d<9223372036854775808:=by
   rcases hb with rfl|rfl<;>omega
  by_cases h2:n*b+d<9223372036854775808
  ·rw[decide_eq_false (fun h=>hiff.1 h h2),if_pos ⟨h1,h2⟩,wrap_i (by omega) (by omega)]
   have e3:IntKind.u64.wrap (IntKind.u64.wrap ((n:Int)*(b:Int))+(d:Int))=((n*b+d:Nat):Int):=by
    rw[IntKind.wrap_u64,IntKind.wrap_u64]
    rcases hb with rfl|rfl<;>omega
   rw[e3]
   rfl
  ·rw[decide_eq_true (hiff.2 h2),if_neg (fun h=>h2 h.2)];rfl
 ·rw[decide_eq_true (show(d:Int) ≥ (b:Int) by omega),if_neg (fun h=>h1 h.1)];rfl
abbrev W15 (s:ByteArray) (k:Nat) (n b:Int):Option Stop:=walk (lookF FL) scM5 1000 x15_54 (mkT k15 [.int .i64 (k:Int),.int .u64 n,.int .u64 b,.string s]) [] 100 ⟨[4,6],[],[5,0],[]⟩ ⟨[2,3],[],[],[]⟩ ⟨[],[],[],[]⟩
theorem q15_l {s:ByteArray}{k n b:Nat} (hk:k<s.size) (hs:s.size ≤ 20) (hn:n<9223372036854775808) (hb:b=10 ∨ b=16) :
  W15 s k n b=if dig (at_ s.data.toList k)<b ∧ n*b+dig (at_ s.data.toList k)<9223372036854775808 then some ⟨⟨[iv ((k+1:Nat):Int),some (true,.int .u64 ((n*b+dig (at_ s.data.toList k):Nat):Int))],[],.normal,100⟩,none⟩else rm 0 false:=by
 have hc:=at_lt s.data.toList k
 rw[W15,p15_l,decide_eq_true (show(k:Int)<(s.size:Int) by omega),ir_nat,decide_eq_true hk,byteAt_nat]
 generalize at_ s.data.toList k=c at hc
 simp only[Bool.and_self,Bool.true_or,cond_true]
 by_cases hd:48 ≤ c ∧ c ≤ 57
 ·have e1:digF (c:Int)=true:=by unfold digF;rw[decide_eq_true (by omega),decide_eq_true (by omega)];rfl
  have e2:dig c=c-48:=by unfold dig;rw[if_pos hd]
  have e3:IntKind.u64.wrap (IntKind.u8.wrap ((c:Int)-48))=((c-48:Nat):Int):=by
   have:IntKind.u8.wrap ((c:Int)-48)=((c-48:Nat):Int):=by simp[IntKind.wrap,IntKind.bits,IntKind.signed];omega
   rw[this,IntKind.wrap_u64];omega
  rw[e1,cond_true,e2]
  exact st15_eq e3 (by omega) hn hb (by omega)
 ·have e1:digF (c:Int)=false:=by
   unfold digF
   cases h:decide ((c:Int) ≥ 48)with
   |false=>rfl
   |true=>have:=of_decide_eq_true h;exact decide_eq_false (by omega)
  rw[e1,cond_false]
  by_cases ha:97 ≤ c ∧ c ≤ 102
  ·have e2:dig c=c-87:=by unfold dig;rw[if_neg hd,if_pos ha]
   have e3:IntKind.u64.wrap (IntKind.u64.wrap (IntKind.u8.wrap ((c:Int)-97))+10)=((c-87:Nat):Int):=by
    have:IntKind.u8.wrap ((c:Int)-97)=((c-97:Nat):Int):=by simp[IntKind.wrap,IntKind.bits,IntKind.signed];omega
    rw[this,IntKind.wrap_u64,IntKind.wrap_u64];omega
   rw[decide_eq_true (show(c:Int) ≥ 97 by omega),decide_eq_true (show(c:Int) ≤ 102 by omega),e2]
   exact st15_eq e3 (by omega) hn hb (by omega)
  ·have e2:dig c=99:=by unfold dig;rw[if_neg hd,if_neg ha]
   have e4:(bif decide ((c:Int) ≥ 97)then decide ((c:Int) ≤ 102)else false)=false:=by
    cases h:decide ((c:Int) ≥ 97)with
    |false=>rfl
    |true=>have:=of_decide_eq_true h;exact decide_eq_false (by omega)
   have e5:g15e (decide ((c:Int) ≥ 97)) true=true:=by cases decide ((c:Int) ≥ 97)<;>rfl
   rw[e5,e4,e2]
   exact st15_eq (d:=99) rfl (by omega) hn hb (by omega)
def rmF (s:ByteArray):Int × Bool:=match meanL s.data.toList with
 |some n=>((n:Int),true)
 |none=>(0,false)
theorem stF_zx (s:ByteArray):stF s 0 zx=[48,120].isPrefixOf s.data.toList:=by unfold stF;rw[List.drop_zero];rfl
theorem b15 {s:ByteArray} (hs:s.size<4611686018427387904):Body Tryd.prog 15 [.string s] [] (.tuple ⟨[.int .u64 (rmF s).1,.bool (rmF s).2]⟩) [] 100 0:=by
 refine body_of' mixed fx15 (by simp) fun E Q hP hn hcl hfin=>?_
 have hF:FnsOK E.P (lookF FL) scM5:=hP▸FOKM5
 have lf:∀ {ks:List Nat}{vs:List Value}{l:Leaf},l.bs=[] → tsOK (stayOr 100 []) l.ts vs → LeafTo E ks l ⟨mkT ks vs,[],100⟩:=fun hb ht=>⟨_,[],_,rfl,by rw[hn,hb];rfl,by rw[hn,hb];exact ht,by rw[hb];trivial⟩
 have fin:∀ {v:Int}{b:Bool},rmF s=(v,b) → Q .ret ⟨mkT [2,3] [.int .u64 v,.bool b],[],100⟩:=fun h=>hfin _ _ (fin_of rfl trivial (by rw[hn]) (by rw[h];rfl))
 have S0:St:=⟨mkT [0] [.string s],[],100⟩
 refine xwp_seq (xwp_toEnd (s:=⟨_,_,_⟩) (cl_seqP hcl) hF 1000 (p15_0 s) ⟨mkT [0] [.string s],[],100⟩ (lf rfl ⟨rfl,trivial⟩) ?_)
 have e1:=p15_11 s
 have hsz3:((s.size:Int)==3)=decide (s.size=3):=int_beq _ 3
 have gd1:g15a ((s.size:Int)==3) (intRange 0 s.size)=true:=by
  rw[hsz3]
  by_cases h:s.size=3
  ·rw[decide_eq_true h,show intRange 0 s.size=true from ir_lit 0 rfl (by omega)];rfl
  ·rw[decide_eq_false h];cases intRange 0 s.size<;>rfl
 rw[gd1,cond_true]at e1
 have hl:=Lib.size_eq s
 by_cases hq:s.size=3 ∧ byteAt s 0=39
 ·have hc:(bif (s.size:Int)==3 then byteAt s 0==39 else false)=true:=by rw[hsz3,decide_eq_true hq.1,hq.2];rfl
  have i1:intRange 1 s.size=true:=ir_lit 1 rfl (by omega)
  have i2:intRange 2 s.size=true:=ir_lit 2 rfl (by omega)
  have gd2:∀ a b c d:Bool,g15b a b c d true true=true:=by decide
  rw[hc,i1,i2,gd2]at e1
  simp only[cond_true,Bool.and_self,Bool.true_or]at e1
  have h39:at_ s.data.toList 0=39:=by have:=hq.2;rw[byteAt_nat]at this;omega
  have hch:ch3L s.data.toList=(bif bif bif bif byteAt s 2==39 then decide (byteAt s 1 ≥ 32)else false then decide (byteAt s 1 ≤ 126)else false then byteAt s 1 != 39 else false then byteAt s 1 != 92 else false):=by
   rw[← ch3_eq]
   unfold ch3
   rw[hsz3,decide_eq_true hq.1,hq.2]
   cases byteAt s 2==39<;>rfl
  rw[← hch]at e1
  cases hx:ch3L s.data.toList with
  |true =>
   rw[hx,cond_true]at e1
   refine xwp_seq (xwp_toEnd (s:=⟨_,_,_⟩) (cl_seqP hcl) hF 1000 e1 ⟨mkT [2,3] [.int .u64 (IntKind.u64.wrap (byteAt s 1)),.bool true],[],100⟩ (lf rfl ⟨rfl,rfl,trivial⟩) (fin ?_))
   unfold rmF meanL
   rw[hx,if_pos rfl]
   have:=at_lt s.data.toList 1
   show(((at_ s.data.toList 1:Nat):Int),true)=_
   rw[byteAt_nat,IntKind.wrap_u64]
   congr 1;omega
  |false =>
   rw[hx,cond_false]at e1
   refine xwp_seq (xwp_toEnd (s:=⟨_,_,_⟩) (cl_seqP hcl) hF 1000 e1 ⟨mkT [2,3] [.int .u64 0,.bool false],[],100⟩ (lf rfl ⟨rfl,rfl,trivial⟩) (fin ?_))
   unfold rmF meanL
   rw[hx,if_neg (by simp),if_pos (.inr (.inl (by omega)))]
 ·have hc:(bif (s.size:Int)==3 then byteAt s 0==39 else false)=false:=by
   rw[hsz3]
   by_cases h:s.size=3
   ·rw[decide_eq_true h,cond_true]
    simpa using fun h2=>hq ⟨h,h2⟩
   ·rw[decide_eq_false h];rfl
  rw[hc,cond_false]at e1
  have hch:ch3L s.data.toList=false:=by
   rw[← ch3_eq]
   cases hx:ch3 s with
   |false=>rfl
   |true =>
    exfalso
    have h3:=ch3_size hx
    unfold ch3 at hx
    rw[hsz3,decide_eq_true h3,cond_true]at hx
    cases h0:byteAt s 0==39 with
    |true=>exact hq ⟨h3,eq_of_beq h0⟩
    |false=>rw[h0]at hx;cases hx
  refine xwp_seq (xwp_toEnd (s:=⟨_,_,_⟩) (cl_seqP hcl) hF 1000 e1 ⟨mkT [0] [.string s],[],100⟩ (lf rfl ⟨rfl,trivial⟩) ?_)
  have e2:=p15_16 s
  have hpre:(bif bif s.toList==(ByteArray.mk #[]).toList then true else decide ((s.size:Int)>20)then true else !digF (byteAt s 0))=decide (preB s.data.toList):=by
   rw[toList_data,empL]
   by_cases h0:s.data.toList=[]
   ·have hp0:preB s.data.toList:=.inl h0
    rw[decide_eq_true hp0,h0];rfl
   ·have h1:(s.data.toList==[])=false:=by simpa using h0
    rw[h1,cond_false]
    by_cases h2:20<s.data.toList.length
    ·rw[decide_eq_true (show(s.size:Int)>20 by omega),decide_eq_true (show preB s.data.toList from .inr (.inr h2))];rfl
    ·rw[decide_eq_false (show ¬ (s.size:Int)>20 by omega),cond_false]
     unfold digF
     rw[byteAt_nat]
     by_cases h3:48 ≤ at_ s.data.toList 0 ∧ at_ s.data.toList 0 ≤ 57
     ·rw[decide_eq_true (by omega),decide_eq_true (by omega),decide_eq_false]
      ·rfl
      ·rintro(h|h|h)
       ·exact h0 h
       ·exact h h3
       ·exact h2 h
     ·rw[decide_eq_true (show preB s.data.toList from .inr (.inl h3))]
      cases h:decide ((at_ s.data.toList 0:Int) ≥ 48)with
      |false=>rfl
      |true =>
       have:=of_decide_eq_true h
       rw[decide_eq_false (by omega)];rfl
  have gd3:g15c (s.toList==(ByteArray.mk #[]).toList) (decide ((s.size:Int)>20)) (intRange 0 s.size)=true:=by
   rw[toList_data,empL]
   cases hs0:s.data.toList with
   |nil=>cases decide ((s.size:Int)>20)<;>cases intRange 0 s.size<;>rfl
   |cons a l =>
    have:0<s.size:=by rw[hl,hs0];exact Nat.succ_pos _
    rw[show intRange 0 s.size=true from ir_lit 0 rfl this]
    cases decide ((s.size:Int)>20)<;>rfl
  rw[gd3,cond_true,hpre]at e2
  by_cases hp:preB s.data.toList
  ·rw[decide_eq_true hp,cond_true]at e2
   refine xwp_seq (xwp_toEnd (s:=⟨_,_,_⟩) (cl_seqP hcl) hF 1000 e2 ⟨mkT [2,3] [.int .u64 0,.bool false],[],100⟩ (lf rfl ⟨rfl,rfl,trivial⟩) (fin ?_))
   unfold rmF meanL
   rw[hch,if_neg (by simp),if_pos hp]
  rw[decide_eq_false hp,cond_false]at e2
  refine xwp_seq (xwp_toEnd (s:=⟨_,_,_⟩) (cl_seqP hcl) hF 1000 e2 ⟨mkT [0] [.string s],[],100⟩ (lf rfl ⟨rfl,trivial⟩) ?_)
  refine xwp_seq (xwp_toEnd (s:=⟨_,_,_⟩) (cl_seqP hcl) hF 1000 (p15_17 s) ⟨mkT [4,5,0] [.int .i64 0,.int .u64 10,.string s],[],100⟩ (lf rfl ⟨rfl,rfl,rfl,trivial⟩) ?_)
  have hp':=hp
  unfold preB at hp'
  simp only[not_or,Classical.not_not]at hp'
  obtain⟨hp1,hp2,hp3⟩:=hp'
  have hpos:0<s.data.toList.length:=List.length_pos_iff.2 hp1
  have e3:=p15_23 s
  rw[show Nat.ble 0 s.size=true by simp,lt_blt (show s.size<4611686018427387904 by omega),stF_zx]at e3
  obtain⟨K,hK⟩:∃ K:Nat,K=if [48,120].isPrefixOf s.data.toList then 2 else 0:=⟨_,rfl⟩
  have hb:=baseL_or s.data.toList
  have htail:tailL s.data.toList=s.data.toList.drop K:=by
   unfold tailL;rw[hK]
   split<;>rfl
  have hKle:K ≤ s.size:=by
   rw[hK]
   split
   ·rename_i h
    have:=(List.isPrefixOf_iff_prefix.1 h).length_le
    simp at this;omega
   ·omega
  have hm:meanL s.data.toList=if tailL s.data.toList=[]then none else numL (baseL s.data.toList) (tailL s.data.toList) 0:=by
   unfold meanL
   rw[hch,if_neg (by simp),if_neg hp]
  have tolp:XWP E.toEnv x15_61 Q ⟨mkT [4,5,0] [.int .i64 (K:Int),.int .u64 (baseL s.data.toList:Int),.string s],[],100⟩:=by
   have e4:=p15_61 s K (baseL s.data.toList:Int)
   by_cases hend:K=s.size
   ·rw[show((K:Int)==(s.size:Int))=true by rw[hend];simp,cond_true]at e4
    refine xwp_toEnd (s:=⟨_,_,_⟩) hcl hF 1000 e4 ⟨mkT [2,3] [.int .u64 0,.bool false],[],100⟩ (lf rfl ⟨rfl,rfl,trivial⟩) (fin ?_)
    unfold rmF
    rw[hm,htail,if_pos (by rw[List.drop_eq_nil_iff];omega)]
   ·rw[show((K:Int)==(s.size:Int))=false by simpa using fun h=>hend (by omega),cond_false]at e4
    have hne:tailL s.data.toList≠[]:=by
     rw[htail]
     intro h
     rw[List.drop_eq_nil_iff]at h
     omega
    rw[if_neg hne,htail]at hm
    let S:Nat × Nat → St:=fun z=>⟨mkT k15 [.int .i64 (z.1:Int),.int .u64 (z.2:Int),.int .u64 (baseL s.data.toList:Int),.string s],[],100⟩
    let I:Nat × Nat → Prop:=fun z=>z.1 ≤ s.size ∧ z.2<9223372036854775808 ∧ numL (baseL s.data.toList) (s.data.toList.drop z.1) z.2=meanL s.data.toList
    refine xwp_toLoop (s:=⟨_,_,_⟩) hF 1000 e4 (S (K,0)) (lf rfl ⟨rfl,rfl,rfl,rfl,trivial⟩) ?_
    refine xwp_loopR (ι:=Nat × Nat) S I (fun z=>s.size-z.1) (K,0) ⟨hKle,show 0<9223372036854775808 by decide,hm.symm⟩ fun z hz=>?_
    have hcr:=cl_round (S:=S) (I:=I) (μ:=fun z=>s.size-z.1) (i:=z) (cl_ctx hcl [.bl 0,.sq x15_58])
    obtain⟨k,n⟩:=z
    obtain⟨z1,z2,z3⟩:=hz
    simp only at z1 z2 z3
    by_cases hlt:k<s.size
    ·obtain⟨c,d1,d2⟩:=drop_at (l:=s.data.toList) (i:=k) (by omega)
     rw[d1,numL,d2]at z3
     have e5:=q15_l (s:=s) (k:=k) (n:=n) hlt (by omega) z2 hb
     by_cases hc5:dig (at_ s.data.toList k)<baseL s.data.toList ∧ n*baseL s.data.toList+dig (at_ s.data.toList k)<9223372036854775808
     ·rw[if_pos hc5]at e5 z3
      exact xwp_toEnd (s:=S (k,n)) hcr hF 1000 e5 (S (k+1,n*baseL s.data.toList+dig (at_ s.data.toList k))) (lf rfl ⟨rfl,rfl,rfl,rfl,trivial⟩) ⟨(k+1,n*baseL s.data.toList+dig (at_ s.data.toList k)),⟨hlt,hc5.2,z3⟩,by simp only;omega,Wk.refl _ _⟩
     ·rw[if_neg hc5]at e5 z3
      refine xwp_toEnd (s:=S (k,n)) hcr hF 1000 e5 ⟨mkT [2,3] [.int .u64 0,.bool false],[],100⟩ (lf rfl ⟨rfl,rfl,trivial⟩) (fin ?_)
      unfold rmF
      rw[← z3]
    ·have hk:k=s.size:=by omega
     subst hk
     have e5:W15 s s.size n (baseL s.data.toList:Int)=some ⟨⟨[iv s.size,some (true,.int .u64 (n:Int))],[],.exit 0,100⟩,none⟩:=by
      rw[W15,p15_l,decide_eq_false (Int.lt_irrefl _)];rfl
     refine xwp_toEnd (s:=S (s.size,n)) hcr hF 1000 e5 (S (s.size,n)) (lf rfl ⟨rfl,rfl,rfl,rfl,trivial⟩) ?_
     show XWP E.toEnv x15_58 Q (S (s.size,n))
     refine xwp_toEnd (s:=S (s.size,n)) hcl hF 1000 (p15_e s s.size n (baseL s.data.toList:Int)) ⟨mkT [2,3] [.int .u64 (n:Int),.bool true],[],100⟩ (lf rfl ⟨rfl,rfl,trivial⟩) (fin ?_)
     have:s.data.toList.drop s.size=[]:=by rw[List.drop_eq_nil_iff];omega
     rw[this]at z3
     unfold rmF
     rw[← z3];rfl
  unfold baseL at tolp
  cases hx:[48,120].isPrefixOf s.data.toList with
  |true =>
   rw[hx]at e3 hK tolp
   simp only[if_true]at hK tolp
   subst hK
   exact xwp_seq (xwp_toEnd (s:=⟨_,_,_⟩) (cl_seqP hcl) hF 1000 e3 ⟨mkT [4,5,0] [.int .i64 ((2:Nat):Int),.int .u64 ((16:Nat):Int),.string s],[],100⟩ (lf rfl ⟨rfl,rfl,rfl,trivial⟩) tolp)
  |false =>
   rw[hx]at e3 hK tolp
   simp only[Bool.false_eq_true,if_false]at hK tolp
   subst hK
   exact xwp_seq (xwp_toEnd (s:=⟨_,_,_⟩) (cl_seqP hcl) hF 1000 e3 ⟨mkT [4,5,0] [.int .i64 ((0:Nat):Int),.int .u64 ((10:Nat):Int),.string s],[],100⟩ (lf rfl ⟨rfl,rfl,rfl,trivial⟩) tolp)
def con15:Con Tryd.prog where
 f:=15
 run:=fun vs h n=>match vs with
  |[.string s]=>some ([],.tuple ⟨[.int .u64 (rmF s).1,.bool (rmF s).2]⟩,[],0,Nat.blt s.size 4611686018427387904)
  |_=>none
 ok:=fun vs h n pre v upd news hx=>by
  split at hx
  ·simp only[Option.some.injEq,Prod.mk.injEq]at hx
   obtain⟨rfl,rfl,rfl,rfl,h1⟩:=hx
   rw[Nat.blt_eq]at h1
   exact⟨fun id hid=>by simp[fstL]at hid,adet_of_body (b15 h1) [] [] rfl rfl trivial rfl rfl trivial rfl⟩
  ·cases hx
end Go.X
