import Derived.Test.YtghpjlmaamnnpaaDoorC26
import Derived.Laws.Bits64
set_option linter.all false
namespace Go.X
open Go Go.Proofs
set_option linter.unusedVariables false
set_option linter.unusedSimpArgs false
def dig (c:Nat):Nat:=if 48 ≤ c ∧ c ≤ 57 then c-48 else if 97 ≤ c ∧ c ≤ 102 then c-87 else 99
def numL (b:Nat):List UInt8 → Nat → Option Nat
 |[],n=>some n
 |c :: l,n=>if dig c.toNat<b ∧ n*b+dig c.toNat<9223372036854775808 then numL b l (n*b+dig c.toNat)else none
def upp (c:Nat):Bool:=decide (65 ≤ c)&&decide (c ≤ 90)
set_option maxRecDepth 100000 in
theorem cls:∀ c:Fin 256,(isD (c.val:Int)=(decide (48 ≤ c.val)&&decide (c.val ≤ 57))) ∧ (isA (c.val:Int)=((decide (97 ≤ c.val)&&decide (c.val ≤ 122))||upp c.val)) ∧
  (isD (c.val:Int)=true → dV (c.val:Int)=((c.val-48:Nat):Int)) ∧ (isA (c.val:Int)=true → upp c.val=false → aV (c.val:Int)=((c.val-87:Nat):Int)):=by decide +kernel
theorem pu2_eq {n d b:Nat} (hb:b=10 ∨ b=16) (hn:n<9223372036854775808) (hd:d<256) :
  pu2 (n:Int) 9223372036854775807 (ctI (b:Int)) (b:Int) (d:Int)=(if d<b then if n*b+d<9223372036854775808 then(0,((n*b+d:Nat):Int))else(1,9223372036854775807)else(2,0)):=by
 have e8:IntKind.u8.wrap (b:Int)=(b:Int):=by rcases hb with rfl|rfl<;>decide
 unfold pu2
 rw[e8]
 by_cases h1:d<b
 ·rw[if_pos h1,decide_eq_false (show ¬ (d:Int) ≥ (b:Int) by omega),cond_false]
  by_cases h2:(n:Int) ≥ ctI (b:Int)
  ·rw[decide_eq_true h2,cond_true,if_neg ?_]
   rcases hb with rfl|rfl
   ·have:(ctI (10:Int))=1844674407370955162:=rfl
    have h2:(n:Int) ≥ ctI (10:Int):=h2
    omega
   ·have:(ctI (16:Int))=1152921504606846976:=rfl
    have h2:(n:Int) ≥ ctI (16:Int):=h2
    omega
  ·rw[decide_eq_false h2,cond_false]
   have hm:mulU (n:Int) (b:Int)=((n*b:Nat):Int):=by
    unfold mulU
    rw[IntKind.wrap_u64,IntKind.wrap_u64]
    rcases hb with rfl|rfl
    ·have:(ctI (10:Int))=1844674407370955162:=rfl
     have h2:¬ (n:Int) ≥ ctI (10:Int):=h2
     omega
    ·have:(ctI (16:Int))=1152921504606846976:=rfl
     have h2:¬ (n:Int) ≥ ctI (16:Int):=h2
     omega
   have hlt:n*b<18446744073709551616:=by
    rcases hb with rfl|rfl
    ·have:(ctI (10:Int))=1844674407370955162:=rfl
     have h2:¬ (n:Int) ≥ ctI (10:Int):=h2
     omega
    ·have:(ctI (16:Int))=1152921504606846976:=rfl
     have h2:¬ (n:Int) ≥ ctI (16:Int):=h2
     omega
   have hn1:n1U (n:Int) (b:Int) (d:Int)=((n*b+d:Nat):Int) % 18446744073709551616:=by
    unfold n1U
    rw[hm,IntKind.wrap_u64,IntKind.wrap_u64]
    omega
   rw[hn1,hm]
   generalize n*b=q at hlt
   by_cases h3:q+d<9223372036854775808
   ·rw[if_pos h3,decide_eq_false (by omega),decide_eq_false (by omega)]
    simp only[Bool.or_self,cond_false,Prod.mk.injEq,true_and]
    omega
   ·rw[if_neg h3]
    have:(decide (((q+d:Nat):Int) % 18446744073709551616<(q:Int))||decide (((q+d:Nat):Int) % 18446744073709551616>9223372036854775807))=true:=by
     rw[Bool.or_eq_true,decide_eq_true_eq,decide_eq_true_eq]
     omega
    rw[this,cond_true]
 ·rw[if_neg h1,decide_eq_true (show(d:Int) ≥ (b:Int) by omega),cond_true]
theorem pu_eq {n b c:Nat} (hb:b=10 ∨ b=16) (hn:n<9223372036854775808) (hc:c<256) (hu:upp c=false) :
  (dig c<b ∧ n*b+dig c<9223372036854775808 → pu (n:Int) 9223372036854775807 (ctI (b:Int)) (b:Int) (c:Int)=(0,((n*b+dig c:Nat):Int))) ∧
  (¬ (dig c<b ∧ n*b+dig c<9223372036854775808) → (pu (n:Int) 9223372036854775807 (ctI (b:Int)) (b:Int) (c:Int)).1≠0):=by
 obtain⟨h1,h2,h3,h4⟩:=cls ⟨c,hc⟩
 simp only at h1 h2 h3 h4
 have hb99:¬ 99<b:=by omega
 unfold pu
 cases hd:isD (c:Int)with
 |true =>
  rw[hd]at h1
  rw[h3 hd,cond_true,pu2_eq hb hn (by omega)]
  have h1:=h1.symm
  simp only[Bool.and_eq_true,decide_eq_true_eq]at h1
  have e:dig c=c-48:=by unfold dig;rw[if_pos h1]
  rw[e]
  by_cases g1:c-48<b
  ·by_cases g2:n*b+(c-48)<9223372036854775808
   ·rw[if_pos g1,if_pos g2];exact⟨fun _=>rfl,fun h=>absurd ⟨g1,g2⟩ h⟩
   ·rw[if_pos g1,if_neg g2];exact⟨fun h=>absurd h.2 g2,fun _=>by simp⟩
  ·rw[if_neg g1];exact⟨fun h=>absurd h.1 g1,fun _=>by simp⟩
 |false =>
  rw[hd]at h1
  rw[cond_false]
  have h1:=h1.symm
  simp only[Bool.and_eq_false_imp,decide_eq_true_eq,decide_eq_false_iff_not]at h1
  cases ha:isA (c:Int)with
  |true =>
   rw[ha,hu,Bool.or_false]at h2
   rw[h4 ha hu,cond_true,pu2_eq hb hn (by omega)]
   have h2:=h2.symm
   simp only[Bool.and_eq_true,decide_eq_true_eq]at h2
   by_cases g0:c ≤ 102
   ·have e:dig c=c-87:=by unfold dig;rw[if_neg (by omega),if_pos (by omega)]
    rw[e]
    by_cases g1:c-87<b
    ·by_cases g2:n*b+(c-87)<9223372036854775808
     ·rw[if_pos g1,if_pos g2];exact⟨fun _=>rfl,fun h=>absurd ⟨g1,g2⟩ h⟩
     ·rw[if_pos g1,if_neg g2];exact⟨fun h=>absurd h.2 g2,fun _=>by simp⟩
    ·rw[if_neg g1];exact⟨fun h=>absurd h.1 g1,fun _=>by simp⟩
   ·have e:dig c=99:=by unfold dig;rw[if_neg (by omega),if_neg (by omega)]
    rw[e,if_neg (by omega)]
    exact⟨fun h=>absurd h.1 hb99,fun _=>by simp⟩
  |false =>
   rw[ha,hu,Bool.or_false]at h2
   have h2:=h2.symm
   simp only[Bool.and_eq_false_imp,decide_eq_true_eq,decide_eq_false_iff_not]at h2
   have e:dig c=99:=by unfold dig;rw[if_neg (by omega),if_neg (by omega)]
   rw[e,cond_false]
   exact⟨fun h=>absurd h.1 hb99,fun _=>by simp⟩
set_option linter.unusedVariables false
set_option linter.unusedSimpArgs false
def at_ (l:List UInt8) (i:Nat):Nat:=(l.getD i 0).toNat
def ch3L (l:List UInt8):Bool:=decide (l.length=3)&&(decide (at_ l 0=39)&&(decide (at_ l 2=39)&&(decide (32 ≤ at_ l 1)&&(decide (at_ l 1 ≤ 126)&&(decide (at_ l 1≠39)&&decide (at_ l 1≠92))))))
def tailL (l:List UInt8):List UInt8:=if [48,120].isPrefixOf l then l.drop 2 else l
def baseL (l:List UInt8):Nat:=if [48,120].isPrefixOf l then 16 else 10
def meanL (l:List UInt8):Option Nat :=
 if ch3L l then some (at_ l 1)
 else if l=[] ∨ ¬ (48 ≤ at_ l 0 ∧ at_ l 0 ≤ 57) ∨ 20<l.length then none
 else if tailL l=[]then none else numL (baseL l) (tailL l) 0
def ansL:Option Nat → Int × Int
 |some n=>((n:Int),0)
 |none=>(0,10)
theorem byteAt_nat (s:ByteArray) (i:Nat):byteAt s i=(at_ s.data.toList i:Int):=rfl
theorem at_lt (l:List UInt8) (i:Nat):at_ l i<256:=(l.getD i 0).toNat_lt
theorem drop_at {l:List UInt8}{i:Nat} (h:i<l.length):∃ c,l.drop i=c :: l.drop (i+1) ∧ c.toNat=at_ l i:=by
 refine⟨l[i],List.drop_eq_getElem_cons h,?_⟩
 simp[at_,List.getD,h]
theorem puG_numL {s:ByteArray}{b:Nat} (hb:b=10 ∨ b=16) (hu:∀ j,j<s.size → upp (at_ s.data.toList j)=false):∀ (f i n:Nat),i+f=s.size → n<9223372036854775808 →
  (∀ m,numL b (s.data.toList.drop i) n=some m → puG s 9223372036854775807 (ctI (b:Int)) (b:Int) f i (n:Int)=(0,(m:Int))) ∧
  (numL b (s.data.toList.drop i) n=none → (puG s 9223372036854775807 (ctI (b:Int)) (b:Int) f i (n:Int)).1≠0)
 |0,i,n,hi,hn=>by
  have:s.data.toList.drop i=[]:=by rw[List.drop_eq_nil_iff,← Lib.size_eq];omega
  rw[this]
  refine⟨fun m h=>?_,fun h=>?_⟩
  ·cases h;rfl
  ·cases h
 |f+1,i,n,hi,hn=>by
  have hlt:i<s.data.toList.length:=by rw[← Lib.size_eq];omega
  obtain⟨c,h1,h2⟩:=drop_at hlt
  obtain⟨g1,g2⟩:=pu_eq hb hn (at_lt s.data.toList i) (hu i (by omega))
  rw[h1,numL,puG,byteAt_nat,h2]
  by_cases hc:dig (at_ s.data.toList i)<b ∧ n*b+dig (at_ s.data.toList i)<9223372036854775808
  ·rw[if_pos hc,g1 hc]
   exact puG_numL hb hu f (i+1) _ (by omega) hc.2
  ·rw[if_neg hc]
   refine⟨fun m h=>(by cases h),fun _=>?_⟩
   have:=g2 hc
   rw[show((pu (n:Int) 9223372036854775807 (ctI (b:Int)) (b:Int) (at_ s.data.toList i:Int)).1==0)=false by simp[this],cond_false]
   exact this
theorem puG_acc {s:ByteArray}{mx ct b:Int}:∀ (f i:Nat) (n:Int),i+f=s.size → (puG s mx ct b f i n).1=0 → ∀ j,i ≤ j → j<s.size → isD (byteAt s j)=true ∨ isA (byteAt s j)=true
 |0,i,n,hi,h,j,h1,h2=>by omega
 |f+1,i,n,hi,h,j,h1,h2=>by
  rw[puG]at h
  cases hz:(pu n mx ct b (byteAt s i)).1==0 with
  |false=>rw[hz]at h;simp only[cond_false]at h;rw[h]at hz;cases hz
  |true =>
   rw[hz,cond_true]at h
   by_cases e:j=i
   ·subst e
    unfold pu at hz
    cases hd:isD (byteAt s j)with
    |true=>exact .inl rfl
    |false =>
     cases ha:isA (byteAt s j)with
     |true=>exact .inr rfl
     |false=>rw[hd,ha]at hz;cases hz
   ·exact puG_acc f (i+1) _ (by omega) h j (by omega) h2
theorem numL_acc {b:Nat} (hb:b=10 ∨ b=16):∀ {l:List UInt8}{n m:Nat},numL b l n=some m → ∀ c∈l,(48 ≤ c.toNat ∧ c.toNat ≤ 57) ∨ (97 ≤ c.toNat ∧ c.toNat ≤ 102)
 |[],_,_,_,c,h=>by cases h
 |a :: l,n,m,h,c,hc=>by
  rw[numL]at h
  split at h
  ·rename_i hd
   rcases List.mem_cons.1 hc with e|e
   ·subst e
    have:=hd.1
    unfold dig at this
    split at this
    ·exact .inl ‹_›
    ·split at this
     ·exact .inr ‹_›
     ·omega
   ·exact numL_acc hb h c e
  ·cases h
theorem indexByte_no {c:UInt8}:∀ {l:List UInt8},(∀ b∈l,b≠c) → Lib.indexByte l c=-1
 |[],_=>by unfold Lib.indexByte;rfl
 |a :: l,h=>by
  unfold Lib.indexByte
  rw[if_neg (by simpa using h a List.mem_cons_self),indexByte_no fun b hb=>h b (List.mem_cons_of_mem _ hb)]
  rfl
theorem lower_id:∀ {l:List UInt8},(∀ b∈l,upp b.toNat=false) → Lib.toLowerA l=l
 |[],_=>rfl
 |a :: l,h=>by
  have ha:=h a List.mem_cons_self
  have ih:=lower_id fun b hb=>h b (List.mem_cons_of_mem _ hb)
  unfold Lib.toLowerA at ih ⊢
  rw[List.map_cons,ih]
  have:Lib.lowerB a=a:=by
   unfold Lib.lowerB Lib.isUpperB
   rw[if_neg]
   intro hc
   simp only[Bool.and_eq_true,decide_eq_true_eq,UInt8.le_iff_toNat_le]at hc
   unfold upp at ha
   have h1:(65:UInt8).toNat=65:=rfl
   have h2:(90:UInt8).toNat=90:=rfl
   simp only[Bool.and_eq_false_imp,decide_eq_true_eq,decide_eq_false_iff_not]at ha
   omega
  rw[this]
set_option maxRecDepth 100000 in
theorem lowerB_ne:∀ c:Fin 256,upp c.val=true → Lib.lowerB (UInt8.ofNat c.val)≠UInt8.ofNat c.val:=by decide +kernel
theorem lower_no:∀ {l:List UInt8},Lib.toLowerA l=l → ∀ b∈l,upp b.toNat=false
 |[],_,b,hb=>by cases hb
 |a :: l,h,b,hb=>by
  unfold Lib.toLowerA at h
  rw[List.map_cons,List.cons.injEq]at h
  rcases List.mem_cons.1 hb with e|e
  ·subst e
   cases hu:upp b.toNat with
   |false=>rfl
   |true =>
    have:=lowerB_ne ⟨b.toNat,b.toNat_lt⟩ hu
    simp only[UInt8.ofNat_toNat]at this
    exact absurd h.1 this
  ·exact lower_no (l:=l) h.2 b e
theorem lowS_list (s:ByteArray):(lowS s).toList=Lib.toLowerD s.data.toList:=by
 unfold lowS bs
 simp
theorem toList_data (s:ByteArray):s.toList=s.data.toList:=by
 simp[ByteArray.toList_eq]
set_option linter.unusedVariables false
set_option linter.unusedSimpArgs false
theorem empL:(ByteArray.mk #[]).toList=[]:=by simp
theorem int_beq (a b:Nat):(((a:Int)==(b:Int)))=decide (a=b):=by
 rw[Bool.eq_iff_iff];simp;omega
theorem ch3_eq (s:ByteArray):ch3 s=ch3L s.data.toList:=by
 unfold ch3 ch3L
 have e0:((s.size:Int)==3)=decide (s.data.toList.length=3):=by rw[← Lib.size_eq];exact int_beq _ 3
 have e1:(byteAt s 0==39)=decide (at_ s.data.toList 0=39):=int_beq _ 39
 have e2:(byteAt s 2==39)=decide (at_ s.data.toList 2=39):=int_beq _ 39
 have e3:decide (byteAt s 1 ≥ 32)=decide (32 ≤ at_ s.data.toList 1):=decide_eq_decide.2 (by rw[byteAt_nat];omega)
 have e4:decide (byteAt s 1 ≤ 126)=decide (at_ s.data.toList 1 ≤ 126):=decide_eq_decide.2 (by rw[byteAt_nat];omega)
 have e5:(byteAt s 1 != 39)=decide (at_ s.data.toList 1≠39):=by
  show(!(byteAt s 1==39))=_
  rw[show(byteAt s 1==39)=decide (at_ s.data.toList 1=39) from int_beq _ 39];simp
 have e6:(byteAt s 1 != 92)=decide (at_ s.data.toList 1≠92):=by
  show(!(byteAt s 1==92))=_
  rw[show(byteAt s 1==92)=decide (at_ s.data.toList 1=92) from int_beq _ 92];simp
 rw[e0,e1,e2,e3,e4,e5,e6]
 generalize decide (s.data.toList.length=3)=a0
 generalize decide (at_ s.data.toList 0=39)=a1
 generalize decide (at_ s.data.toList 2=39)=a2
 generalize decide (32 ≤ at_ s.data.toList 1)=a3
 generalize decide (at_ s.data.toList 1 ≤ 126)=a4
 generalize decide (at_ s.data.toList 1≠39)=a5
 generalize decide (at_ s.data.toList 1≠92)=a6
 cases a0<;>cases a1<;>cases a2<;>cases a3<;>cases a4<;>cases a5<;>cases a6<;>rfl
theorem meanT_list (s:ByteArray):(meanT s).data.toList=tailL s.data.toList:=by
 unfold meanT tailL hasP Lib.hasPrefix
 have hz:zx.data.toList=[48,120]:=rfl
 rw[hz]
 cases hp:[48,120].isPrefixOf s.data.toList with
 |true =>
  rw[cond_true,if_pos rfl]
  unfold cutP Lib.trimPrefix Lib.hasPrefix bs
  rw[hz]
  simp[hp]
 |false=>rw[cond_false,if_neg (by simp)]
theorem meanB_eq (s:ByteArray):meanB s=(baseL s.data.toList:Int):=by
 unfold meanB baseL hasP Lib.hasPrefix
 have hz:zx.data.toList=[48,120]:=rfl
 rw[hz]
 cases hp:[48,120].isPrefixOf s.data.toList with
 |true=>rw[cond_true,if_pos rfl];rfl
 |false=>rw[cond_false,if_neg (by simp)];rfl
theorem tail_mem {l:List UInt8}{c:UInt8} (h:c∈l):c∈tailL l ∨ c=48 ∨ c=120:=by
 unfold tailL
 split
 ·rename_i hp
  obtain⟨t,rfl⟩:=List.isPrefixOf_iff_prefix.1 hp
  simp at h ⊢
  rcases h with h|h|h
  ·exact .inr (.inl h)
  ·exact .inr (.inr h)
  ·exact .inl h
 ·exact .inl h
theorem baseL_or (l:List UInt8):baseL l=10 ∨ baseL l=16:=by
 unfold baseL;split
 ·exact .inr rfl
 ·exact .inl rfl
abbrev preB (l:List UInt8):Prop:=l=[] ∨ ¬ (48 ≤ at_ l 0 ∧ at_ l 0 ≤ 57) ∨ 20<l.length
theorem bad_pre {s:ByteArray} (h:preB s.data.toList):bad s=true:=by
 unfold bad
 have:bad0 s=true:=by
  unfold bad0
  rcases h with h|h|h
  ·rw[toList_data,h,empL];rfl
  ·have:digF (byteAt s 0)=false:=by
    unfold digF
    rw[byteAt_nat]
    cases h1:decide ((at_ s.data.toList 0:Int) ≥ 48)with
    |false=>rfl
    |true =>
     have:=of_decide_eq_true h1
     exact decide_eq_false (by omega)
   rw[this]
   cases (s.toList==(ByteArray.mk #[]).toList)<;>rfl
  ·have:decide ((s.size:Int)>20)=true:=decide_eq_true (by rw[Lib.size_eq];omega)
   rw[this]
   cases (s.toList==(ByteArray.mk #[]).toList)<;>cases digF (byteAt s 0)<;>rfl
 rw[this];rfl
theorem bad_not {s:ByteArray} (h:¬ preB s.data.toList):bad s=(hasB s 95||!((lowS s).toList==s.toList)):=by
 unfold preB at h
 simp only[not_or,Classical.not_not]at h
 obtain⟨h1,h2,h3⟩:=h
 unfold bad bad0
 have e1:(s.toList==(ByteArray.mk #[]).toList)=false:=by
  rw[toList_data,empL]
  cases hl:s.data.toList with
  |nil=>exact absurd hl h1
  |cons a l=>rfl
 have e2:digF (byteAt s 0)=true:=by
  unfold digF
  rw[byteAt_nat,decide_eq_true (by omega),decide_eq_true (by omega)];rfl
 have e3:decide ((s.size:Int)>20)=false:=decide_eq_false (by rw[Lib.size_eq];omega)
 rw[e1,e2,e3]
 cases hasB s 95<;>rfl
theorem mean_eq (s:ByteArray):meanF s=ansL (meanL s.data.toList):=by
 unfold meanF meanL
 rw[ch3_eq]
 cases hc:ch3L s.data.toList with
 |true =>
  rw[cond_true,if_pos rfl]
  have:=at_lt s.data.toList 1
  show(IntKind.u64.wrap (byteAt s 1),(0:Int))=((at_ s.data.toList 1:Int),0)
  rw[byteAt_nat,IntKind.wrap_u64]
  congr 1
  omega
 |false =>
  rw[cond_false,if_neg (by simp)]
  by_cases hp:preB s.data.toList
  ·rw[bad_pre hp,cond_true,if_pos hp];rfl
  ·rw[if_neg hp]
   by_cases ht:tailL s.data.toList=[]
   ·rw[if_pos ht]
    have:Nat.beq (meanT s).size 0=true:=by rw[Lib.size_eq,meanT_list,ht];rfl
    rw[this]
    cases bad s<;>rfl
   ·rw[if_neg ht]
    have h0:Nat.beq (meanT s).size 0=false:=by
     rw[Lib.size_eq,meanT_list]
     cases hl:tailL s.data.toList with
     |nil=>exact absurd hl ht
     |cons a l=>rfl
    rw[h0]
    simp only[cond_false]
    have hb:=baseL_or s.data.toList
    have hmem:∀ {t:ByteArray}{j:Nat},j<t.size → ∃ c∈t.data.toList,c.toNat=at_ t.data.toList j:=fun {t j} hj=>by
     rw[Lib.size_eq]at hj
     exact⟨t.data.toList[j],List.getElem_mem hj,by unfold at_;rw[List.getD_eq_getElem?_getD,List.getElem?_eq_getElem hj];rfl⟩
    cases hn:numL (baseL s.data.toList) (tailL s.data.toList) 0 with
    |some m =>
     have hall:=numL_acc hb hn
     have hs:∀ c∈s.data.toList,c≠95 ∧ upp c.toNat=false ∧ c.toNat<128:=fun c hc=>by
      have key:(48 ≤ c.toNat ∧ c.toNat ≤ 57) ∨ (97 ≤ c.toNat ∧ c.toNat ≤ 120):=by
       rcases tail_mem hc with h|rfl|rfl
       ·have:=hall c h;omega
       ·exact .inl ⟨by decide,by decide⟩
       ·exact .inr ⟨by decide,by decide⟩
      refine⟨fun e=>?_,?_,by omega⟩
      ·subst e
       have:(95:UInt8).toNat=95:=rfl
       omega
      ·unfold upp
       cases h1:decide (65 ≤ c.toNat)with
       |false=>rfl
       |true=>have:=of_decide_eq_true h1;exact decide_eq_false (by omega)
     have e1:hasB s 95=false:=by
      unfold hasB
      rw[indexByte_no fun c hc=>(hs c hc).1];rfl
     have e2:((lowS s).toList==s.toList)=true:=by
      rw[lowS_list,Lib.toLowerD_ascii _ fun c hc=>(hs c hc).2.2,lower_id fun c hc=>(hs c hc).2.1,toList_data]
      simp
     rw[bad_not hp,e1,e2]
     have hu:∀ j,j<(meanT s).size → upp (at_ (meanT s).data.toList j)=false:=fun j hj=>by
      obtain⟨c,hc,e⟩:=hmem hj
      rw[meanT_list]at hc
      rw[← e]
      have:=hall c hc
      unfold upp
      cases h1:decide (65 ≤ c.toNat)with
      |false=>rfl
      |true=>have:=of_decide_eq_true h1;exact decide_eq_false (by omega)
     have hx:=(puG_numL (s:=meanT s) hb hu (meanT s).size 0 0 (by omega) (by omega)).1 m (by rw[meanT_list];exact hn)
     unfold puF
     rw[meanB_eq,show((0:Int))=((0:Nat):Int) from rfl,hx]
     rfl
    |none =>
     show _=((0:Int),(10:Int))
     cases hbad:bad s with
     |true=>rfl
     |false =>
      rw[cond_false]
      rw[bad_not hp]at hbad
      simp only[Bool.or_eq_false_iff,Bool.not_eq_false']at hbad
      cases hz:(puF (meanT s) (meanB s)).1==0 with
      |false=>rfl
      |true =>
       exfalso
       have hz':(puF (meanT s) (meanB s)).1=0:=eq_of_beq hz
       unfold puF at hz'
       have hacc:=puG_acc _ 0 0 (by omega) hz'
       have hlow:∀ c∈tailL s.data.toList,c.toNat<128:=fun c hc=>by
        rw[← meanT_list]at hc
        obtain⟨j,hj,e⟩:=List.getElem_of_mem hc
        have hj':j<(meanT s).size:=by rw[Lib.size_eq];exact hj
        have:=hacc j (Nat.zero_le _) hj'
        have ea:at_ (meanT s).data.toList j=c.toNat:=by rw[← e];unfold at_;rw[List.getD_eq_getElem?_getD,List.getElem?_eq_getElem hj];rfl
        rw[byteAt_nat,ea]at this
        obtain⟨h1,h2,_,_⟩:=cls ⟨c.toNat,c.toNat_lt⟩
        simp only at h1 h2
        rw[h1,h2]at this
        unfold upp at this
        simp only[Bool.and_eq_true,Bool.or_eq_true,decide_eq_true_eq]at this
        omega
       have hasc:∀ c∈s.data.toList,c.toNat<128:=fun c hc=>by
        rcases tail_mem hc with h|rfl|rfl
        ·exact hlow c h
        ·decide
        ·decide
       have hl:=eq_of_beq hbad.2
       rw[lowS_list,Lib.toLowerD_ascii _ hasc,toList_data]at hl
       have hno:=lower_no hl
       have hsub:∀ c∈tailL s.data.toList,c∈s.data.toList:=fun c hc=>by
        unfold tailL at hc
        split at hc
        ·exact List.mem_of_mem_drop hc
        ·exact hc
       have hu:∀ j,j<(meanT s).size → upp (at_ (meanT s).data.toList j)=false:=fun j hj=>by
        obtain⟨c,hc,e⟩:=hmem hj
        rw[meanT_list]at hc
        rw[← e]
        exact hno c (hsub c hc)
       have hx:=(puG_numL (s:=meanT s) hb hu (meanT s).size 0 0 (by omega) (by omega)).2 (by rw[meanT_list];exact hn)
       rw[meanB_eq]at hz'
       exact hx hz'
set_option linter.unusedVariables false
set_option linter.unusedSimpArgs false
def hexS:ByteArray:=⟨#[48,49,50,51,52,53,54,55,56,57,97,98,99,100,101,102]⟩
def cD (x:Int):UInt8:=u8Of [.int .u8 (IntKind.u8.wrap (IntKind.u64.wrap (48+x.tmod 10)))]
def cH (x:Int):ByteArray:=hexS.extract (x.tmod 16).toNat (IntKind.u64.wrap (x.tmod 16+1)).toNat
abbrev k7:List Nat:=[3,5,4,0]
abbrev j7:List Nat:=[4,6,3,0]
def uv (n:Int):Option (Bool × Value):=some (true,.int .u64 n)
def sv (s:ByteArray):Option (Bool × Value):=some (true,.string s)
def g7 (b:Bool):Bool:=((!b||b)&&true||false)&&((!b&&true||!!b)&&true)
theorem p7_0 (n:Int) (G:Gv):walk (lookF FL) sc10 1000 x7 (argTm 0 [.int .u64 n]) (mkH (glH G)) 100 ⟨[],[],[],[]⟩ ⟨[],[],[],[]⟩ ⟨[3,5,4],[],[0],gIds⟩=some ⟨⟨[sv ⟨#[]⟩,uv n,sv ⟨#[]⟩],[],.normal,101⟩,some (x7_15,[.bl 0,.sq x7_43])⟩:=by kernel_rfl
theorem p7_1 (s:ByteArray) (n x:Int) (G:Gv):walk (lookF FL) noSc 1000 x7_15 (mkT k7 [.string s,.int .u64 x,.string ⟨#[]⟩,.int .u64 n]) (mkH (glH G)) 101 ⟨[3,5],[],[4,0],gIds⟩ ⟨[],[],[],[]⟩ ⟨[],[],[],[]⟩=bif g7 (decide (x>0))then
  bif bif decide (x>0)then true else s.toList==(ByteArray.mk #[]).toList then bif (decide (1+s.size ≤ 9223372036854775807)&&true||false)&&true then some ⟨⟨[sv ⟨⟨[cD x]++s.data.toList⟩⟩,uv (IntKind.u64.wrap (x.tdiv 10))],[],.normal,102⟩,none⟩else none
  else some ⟨⟨[sv s,uv x],[],.exit 0,101⟩,none⟩else none:=by kernel_rfl
theorem p7_2 (s:ByteArray) (n x:Int) (G:Gv):walk (lookF FL) noSc 1000 x7_43 (mkT k7 [.string s,.int .u64 x,.string ⟨#[]⟩,.int .u64 n]) (mkH (glH G)) 101 ⟨[],[],[],[]⟩ ⟨[],[],[],[]⟩ ⟨[4,6],[],[3,0],gIds⟩=some ⟨⟨[sv ⟨#[]⟩,uv n],[],.normal,101⟩,some (x7_27,[.bl 2,.sq x7_42])⟩:=by kernel_rfl
theorem p7_3 (s t:ByteArray) (n x:Int) (G:Gv):walk (lookF FL) noSc 1000 x7_27 (mkT j7 [.string t,.int .u64 x,.string s,.int .u64 n]) (mkH (glH G)) 101 ⟨[4,6],[],[3,0],gIds⟩ ⟨[],[],[],[]⟩ ⟨[],[],[],[]⟩=bif g7 (decide (x>0))then
  bif bif decide (x>0)then true else t.toList==(ByteArray.mk #[]).toList then bif (decide ((cH x).size+t.size ≤ 9223372036854775807)&&true||false)&&((decide (0 ≤ x.tmod 16)&&decide (x.tmod 16 ≤ IntKind.u64.wrap (x.tmod 16+1))&&decide (IntKind.u64.wrap (x.tmod 16+1) ≤ 16)&&true||false)&&true)then
   some ⟨⟨[sv ⟨⟨(cH x).data.toList++t.data.toList⟩⟩,uv (IntKind.u64.wrap (x.tdiv 16))],[],.normal,101⟩,none⟩else none
  else some ⟨⟨[sv t,uv x],[],.exit 2,101⟩,none⟩else none:=by kernel_rfl
def xT (t:ByteArray):ByteArray:=⟨⟨[48,120]++t.data.toList⟩⟩
def gE (a b:Bool):Bool:=((a||!a)&&true||false)&&((a&&true||!a)&&true)
def gF (a b c:Bool):Bool:=(((bif bif a then b else false then c else false)||!bif bif a then b else false then c else false)&&true||false)&&(((bif bif a then b else false then c else false)&&((bif bif a then b else false then c else false)&&true)||!bif bif a then b else false then c else false)&&((((bif a then b else false)||!bif a then b else false)&&true||false)&&(((bif a then b else false)&&((bif a then b else false)&&true)||!bif a then b else false)&&(((a||!a)&&true||false)&&((a&&true||!a)&&true)))))
theorem p7_4 (s t:ByteArray) (n x:Int) (G:Gv):walk (lookF FL) sc10 1000 x7_42 (mkT j7 [.string t,.int .u64 x,.string s,.int .u64 n]) (mkH (glH G)) 101 ⟨[],[],[],[]⟩ ⟨[2],[],[],gIds⟩ ⟨[],[],[],[]⟩=bif (s.size.blt 35184372088832||false)&&true then bif ((xT t).size.blt 35184372088832||false)&&((decide (2+t.size ≤ 9223372036854775807)&&true||false)&&true)then
  bif decide (n ≥ 9223372036854775808)then bif gE ((meanF s).2==10) false then some ⟨⟨[some (true,.bool (bif (meanF s).2==10 then(meanF (xT t)).2==10 else false))],[],.ret,101⟩,none⟩else none
  else bif gF ((meanF s).2==0) ((meanF (xT t)).2==0) ((meanF s).1==n)then some ⟨⟨[some (true,.bool (bif bif bif (meanF s).2==0 then(meanF (xT t)).2==0 else false then(meanF s).1==n else false then(meanF (xT t)).1==n else false))],[],.ret,101⟩,none⟩else none else none else none:=by kernel_rfl
def valL (b:Nat):List UInt8 → Nat → Nat
 |[],n=>n
 |c :: l,n=>valL b l (n*b+dig c.toNat)
theorem valL_ge {b:Nat} (hb:0<b):∀ (l:List UInt8) (n:Nat),n ≤ valL b l n
 |[],n=>Nat.le_refl _
 |c :: l,n=>by
  have:=valL_ge hb l (n*b+dig c.toNat)
  have h2:n ≤ n*b:=Nat.le_mul_of_pos_right n hb
  rw[valL];omega
theorem numL_val {b:Nat} (hb:0<b):∀ (l:List UInt8) (n:Nat),(∀ c∈l,dig c.toNat<b) → n<9223372036854775808 → numL b l n=if valL b l n<9223372036854775808 then some (valL b l n)else none
 |[],n,_,hn=>by rw[valL,if_pos hn];rfl
 |c :: l,n,h,hn=>by
  rw[numL,valL]
  have h1:=h c List.mem_cons_self
  by_cases h2:n*b+dig c.toNat<9223372036854775808
  ·rw[if_pos ⟨h1,h2⟩]
   exact numL_val hb l _ (fun d hd=>h d (List.mem_cons_of_mem _ hd)) h2
  ·rw[if_neg (fun h=>h2 h.2),if_neg]
   have:=valL_ge hb l (n*b+dig c.toNat)
   omega
structure Dg (b n x:Nat) (l:List UInt8):Prop where
 val:valL b l x=n
 digs:∀ c∈l,dig c.toNat<b ∧ ((48 ≤ c.toNat ∧ c.toNat ≤ 57) ∨ (97 ≤ c.toNat ∧ c.toNat ≤ 102))
 len:x*b ^ l.length ≤ n
 len1:l.length ≤ 1 ∨ b ^ (l.length-1) ≤ n
theorem Dg.step {b n x:Nat}{l:List UInt8}{c:UInt8} (hb:0<b) (h:Dg b n x l) (hx:0<x ∨ l=[]) (hc:dig c.toNat=x % b) (hc2:(48 ≤ c.toNat ∧ c.toNat ≤ 57) ∨ (97 ≤ c.toNat ∧ c.toNat ≤ 102)):Dg b n (x / b) (c :: l):=by
 refine⟨?_,fun d hd=>?_,?_,?_⟩
 ·rw[valL,hc,Nat.div_add_mod' x b];exact h.val
 ·rcases List.mem_cons.1 hd with e|e
  ·subst e;exact⟨by rw[hc];exact Nat.mod_lt _ hb,hc2⟩
  ·exact h.digs d e
 ·have h1:=h.len
  have h2:x / b*b ≤ x:=Nat.div_mul_le_self x b
  rw[List.length_cons,Nat.pow_succ,Nat.mul_comm (b ^ l.length) b,← Nat.mul_assoc]
  exact Nat.le_trans (Nat.mul_le_mul_right _ h2) h1
 ·rcases hx with h0|h0
  ·right
   rw[List.length_cons,Nat.add_sub_cancel]
   have h1:=h.len
   exact Nat.le_trans (Nat.le_mul_of_pos_left _ h0) h1
  ·left;subst h0;simp
theorem Dg.start (b n:Nat):Dg b n n []:=⟨rfl,fun c h=>(by cases h),by simp,.inl (Nat.zero_le _)⟩
theorem ch3L_no {l:List UInt8} (h:at_ l 0≠39):ch3L l=false:=by
 unfold ch3L
 rw[decide_eq_false h]
 simp
def limO (n:Nat):Option Nat:=if n<9223372036854775808 then some n else none
theorem mean_dec {n:Nat}{l:List UInt8} (hn:n<18446744073709551616) (h:Dg 10 n 0 l) (hl:l≠[]):meanL l=limO n:=by
 obtain⟨c,r,rfl⟩:∃ c r,l=c :: r:=by
  cases l with
  |nil=>exact absurd rfl hl
  |cons c r=>exact⟨c,r,rfl⟩
 have hd:∀ d∈c :: r,48 ≤ d.toNat ∧ d.toNat ≤ 57:=fun d hd=>by
  obtain⟨h1,h2⟩:=h.digs d hd
  rcases h2 with h2|h2
  ·exact h2
  ·exfalso
   unfold dig at h1
   rw[if_neg (by omega),if_pos h2]at h1
   omega
 have hc:=hd c List.mem_cons_self
 have h0:at_ (c :: r) 0=c.toNat:=rfl
 have hlen:(c :: r).length ≤ 20:=by
  rcases h.len1 with h1|h1
  ·omega
  ·rcases Nat.lt_or_ge 20 (c :: r).length with h2|h2
   ·have h3:10 ^ 20 ≤ 10 ^ ((c :: r).length-1):=Nat.pow_le_pow_right (by decide) (by omega)
    have h4:(10:Nat) ^ 20=100000000000000000000:=by decide
    omega
   ·exact h2
 have hpre:[48,120].isPrefixOf (c :: r)=false:=by
  cases r with
  |nil=>simp[List.isPrefixOf]
  |cons d r =>
   simp only[List.isPrefixOf,Bool.and_eq_false_imp,beq_iff_eq]
   intro _ e
   have:=hd d (List.mem_cons_of_mem _ List.mem_cons_self)
   rw[← e]at this
   exact absurd this.2 (by decide)
 unfold meanL
 rw[ch3L_no (by omega),if_neg (by simp),if_neg ?_]
 ·have e1:tailL (c :: r)=c :: r:=by unfold tailL;rw[hpre];rfl
  have e2:baseL (c :: r)=10:=by unfold baseL;rw[hpre];rfl
  rw[e1,e2,if_neg (by simp),numL_val (by decide) _ _ (fun d hd=>(h.digs d hd).1) (by decide),h.val]
  rfl
 ·rintro(h1|h1|h1)
  ·cases h1
  ·exact h1 ⟨by omega,by omega⟩
  ·omega
theorem mean_hex {n:Nat}{l:List UInt8} (hn:n<18446744073709551616) (h:Dg 16 n 0 l) (hl:l≠[]):meanL (48 :: 120 :: l)=limO n:=by
 have h0:at_ (48 :: 120 :: l) 0=48:=rfl
 have hlen:l.length ≤ 16:=by
  rcases h.len1 with h1|h1
  ·omega
  ·rcases Nat.lt_or_ge 16 l.length with h2|h2
   ·have h3:16 ^ 16 ≤ 16 ^ (l.length-1):=Nat.pow_le_pow_right (by decide) (by omega)
    have h4:(16:Nat) ^ 16=18446744073709551616:=by decide
    omega
   ·exact h2
 have hpre:[48,120].isPrefixOf (48 :: 120 :: l)=true:=by simp[List.isPrefixOf]
 unfold meanL
 rw[ch3L_no (by omega),if_neg (by simp),if_neg ?_]
 ·have e1:tailL (48 :: 120 :: l)=l:=by unfold tailL;rw[hpre];rfl
  have e2:baseL (48 :: 120 :: l)=16:=by unfold baseL;rw[hpre];rfl
  rw[e1,e2,if_neg hl,numL_val (by decide) _ _ (fun d hd=>(h.digs d hd).1) (by decide),h.val]
  rfl
 ·rintro(h1|h1|h1)
  ·cases h1
  ·exact h1 ⟨by omega,by omega⟩
  ·simp only[List.length_cons]at h1;omega
theorem cD_dig (x:Nat):dig (cD (x:Int)).toNat=x % 10 ∧ (48 ≤ (cD (x:Int)).toNat ∧ (cD (x:Int)).toNat ≤ 57):=by
 have h1:((x:Int).tmod 10)=((x % 10:Nat):Int):=by rw[Int.tmod_eq_emod_of_nonneg (by omega)];omega
 have h2:x % 10<10:=Nat.mod_lt _ (by decide)
 unfold cD
 rw[h1]
 generalize x % 10=d at h2
 have key:∀ d:Fin 10,dig (u8Of [.int .u8 (IntKind.u8.wrap (IntKind.u64.wrap (48+(d.val:Int))))]).toNat=d.val ∧ 48 ≤ (u8Of [.int .u8 (IntKind.u8.wrap (IntKind.u64.wrap (48+(d.val:Int))))]).toNat ∧ (u8Of [.int .u8 (IntKind.u8.wrap (IntKind.u64.wrap (48+(d.val:Int))))]).toNat ≤ 57:=by decide +kernel
 exact key ⟨d,h2⟩
theorem cH_dig (x:Nat):∃ c:UInt8,(cH (x:Int)).data.toList=[c] ∧ (cH (x:Int)).size=1 ∧ dig c.toNat=x % 16 ∧ ((48 ≤ c.toNat ∧ c.toNat ≤ 57) ∨ (97 ≤ c.toNat ∧ c.toNat ≤ 102)):=by
 have h1:((x:Int).tmod 16)=((x % 16:Nat):Int):=by rw[Int.tmod_eq_emod_of_nonneg (by omega)];omega
 have h2:x % 16<16:=Nat.mod_lt _ (by decide)
 have h3:(IntKind.u64.wrap (((x % 16:Nat):Int)+1)).toNat=x % 16+1:=by rw[IntKind.wrap_u64];omega
 have key:∀ d:Fin 16,((hexS.data.toList.drop d.val).take (d.val+1-d.val))=[hexS.data.toList.getD d.val 0] ∧ dig (hexS.data.toList.getD d.val 0).toNat=d.val ∧ ((48 ≤ (hexS.data.toList.getD d.val 0).toNat ∧ (hexS.data.toList.getD d.val 0).toNat ≤ 57) ∨ (97 ≤ (hexS.data.toList.getD d.val 0).toNat ∧ (hexS.data.toList.getD d.val 0).toNat ≤ 102)):=by decide +kernel
 obtain⟨k1,k2,k3⟩:=key ⟨x % 16,h2⟩
 have hl:(cH (x:Int)).data.toList=[hexS.data.toList.getD (x % 16) 0]:=by
  unfold cH
  rw[h1,h3,ext_list,Int.toNat_natCast]
  exact k1
 exact⟨_,hl,by rw[Lib.size_eq,hl];rfl,k2,k3⟩
end Go.X
