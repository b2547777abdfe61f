import Derived.WalkKit
import Derived.ProofKit
import Derived.OpenShut
import Derived.ChangeOld
import Derived.Below
import Derived.SevenTiedAt
import Derived.Test.YtghpjlmaamnnpaaDoorTie
import Derived.Test.YtghpjlmaamnnpaaDoorCards
import Derived.Test.YtghpjlmaamnnpaaDoorH26
import Derived.Laws.Bits64
set_option linter.all false
namespace Go.X
open Go Go.Proofs Go.Proofs.YtghpjlmaamnnpaaDoor
set_option linter.unusedVariables false
theorem call_ro {P:Program}{f:FuncId}{vs:List Value}{b:Bool}{n0:Nat}{pre:Hp}{args:Array Value}{w:World} (h:Body P f vs pre (.bool b) [] n0 0) (ρ:Rn) (hd:∀ id,n0 ≤ id → ρ id=none)
  (hr:RelH P ρ (hget pre) w) (hro:∀ id b,hget pre id=some b → b.ro=true) (ha:VL ρ vs args.toList) :
  Calls P f args w fun e w'=>e=.returned (.bool b) ∧ Go.RowKit.Below w.heap.size w w':=by
 refine(h.2 ρ w args ha hr hd).mono fun e w' he=>?_
 cases e with
 |returned c =>
  obtain⟨ρ',good,hv⟩:=he
  rw[v_bool hv]
  refine⟨rfl,good.fr.os,good.fr.tape,good.fr.output,good.fr.size,fun k hk=>good.fr.block k hk ?_⟩
  rintro⟨id,b,l,h0,h1,_⟩
  rw[hro id b h0]at h1;cases h1
 |_=>exact he.elim
theorem gl_ro {G:Gv}{id:Nat}{b:Blk} (h:hget (mkH (glH G)) id=some b):b.ro=true:=by
 have hm':=mkH_mem h
 simp only[glH,List.mem_cons,List.not_mem_nil,or_false,Prod.mk.injEq]at hm'
 rcases hm' with⟨rfl,rfl⟩|⟨rfl,rfl⟩|⟨rfl,rfl⟩|⟨rfl,rfl⟩|⟨rfl,rfl⟩|⟨rfl,rfl⟩|⟨rfl,rfl⟩|⟨rfl,rfl⟩<;>rfl
theorem call_gl {f:FuncId}{vs:List Value}{n0:Nat}{args:Array Value}{W:World} (h:∀ G,Body Tryd.prog f vs (mkH (glH G)) (.bool true) [] n0 0) (hn:20 ≤ n0) (hL:laidMetH Tryd.prog laid0 W) (hsh:W.ShapedOpen Tryd.prog)
  (ha:∀ ρ,VL ρ vs args.toList):Calls Tryd.prog f args W fun e w'=>e=.returned (.bool true) ∧ Go.RowKit.Below W.heap.size W w':=by
 obtain⟨G,ρ,hr,h20,_⟩:=rel_of hL hsh
 exact call_ro (h G) ρ (fun id hid=>h20 id (by omega)) hr (fun id b hb=>gl_ro hb) (ha ρ)
theorem okWide_str {P:Program}{w:World}{r:Reach}{base:Nat}{t:TypeId}{v:Value} (ht:P.underlying t=some .string) (h:Value.okWide P w r base t v):∃ s,v=.string s:=by
 simp only[Value.okWide,ht,Cell.okWide]at h
 cases v<;>simp_all [Cell.ok]
theorem rih {H:Type}{enc:TypeId × Value → H}{a:Assume}{C:Checked}{os:Os}{f:FuncId}{fn:Func}{s:ChangeSpec}{conds:List PathCond}{apart fresh handsOn again:Bool}{laid:List (String × DataW Unit)}
  (own:ownKnob C.prog.godebug=none) (started:os.Started) (noInit:C.prog.inits.idxOf? f=none) (hfn:C.prog.funcs[f]?=some fn)
  (witness:∃ (w:World) (tape:Tape) (i:Input),w.os=os ∧ (w.forCall tape i).Shaped C.prog ∧ i.vars=[] ∧ Input.okWide C.prog (w.forCall tape i) .any w.heap.size f i ∧
   ((s.pre enc C.prog fn conds apart (w.forCall tape i).memory i.args ∧ laidMetH C.prog laid (w.forCall tape i).memory) ∧ sizedMet enc C.prog fn (OpenSpec.ofChange s) apart (w.forCall tape i).memory i.args) ∧ a.holds C.prog (lone (Frame.enter C.prog f i.args .normal) [] (w.forCall tape i)))
  (contract:∀ (W:World) (base:Nat) (args:Array Value) (ds gs:List (DataW H)) (before:List MemPlace),
   (∀ (j:Nat) t v,fn.params[j]?=some t → args[j]?=some v → Value.okWide C.prog W .any base t v) →
   DataW.Whole enc C.prog fn.params.toList s.vars apart W args.toList ds gs before → laidMetH C.prog laid W → W.ShapedOpen C.prog →
   Calls C.prog f args W fun e W'=>∃ v,e=.returned v ∧ s.post enc C.prog fn apart fresh handsOn again W args v W') :
  ReturnsInHanded a C os f .any (fun w args=>(s.pre enc C.prog fn conds apart w args ∧ laidMetH C.prog laid w) ∧ sizedMet enc C.prog fn (OpenSpec.ofChange s) apart w args) (s.post enc C.prog fn apart fresh handsOn again):=by
 refine returnsInHanded_of_calls own started noInit witness ?_
 intro w tape i _ hsh _ hok hpre hholds
 obtain⟨_,_,_,fn',hfn',_,_,_,_,hval⟩:=hok
 have e:fn'=fn:=Option.some.inj (hfn'.symm.trans hfn)
 subst e
 obtain⟨⟨⟨ds,gs,before,hw,hc⟩,hx⟩,hz⟩:=hpre
 have hw':=DataW.Whole.of_heap (w':=w.forCall tape i) (by rfl) hw
 refine(contract (w.forCall tape i) w.heap.size i.args ds gs before hval hw' (hx.of_heap (by rfl)) hsh).mono fun e W' ⟨v,he,hp⟩=>?_
 subst he
 exact ChangeSpec.post_blind hp
theorem lay_fits (os:Os):(World.holding Tryd.prog os ⟨#[],#[],[]⟩).layFits Tryd.prog laid0 []=true:=by kernel_rfl
theorem lay_ifaces (os:Os):(World.holding Tryd.prog os ⟨#[],#[],[]⟩).layIfaces Tryd.prog laid0 (World.laidAll Tryd.prog os laid0)=true:=by kernel_rfl
end Go.X
namespace Go.X
open Go Go.Proofs
set_option linter.unusedVariables false
set_option linter.unusedSimpArgs false
noncomputable def con11R (R:Sum (Nat × Int) (List Tk)):Con Tryd.prog where
 f:=11
 run:=fun vs h n=>match vs,getG h with
  |[.string s],some G=>match R with
   | .inl (p,e)=>some (mkH (glH G),.tuple ⟨[.slice none 0 0,.int .i64 (p:Int),.int .i64 e]⟩,[],0,decP (lexF s=R))
   | .inr l=>some (mkH (glH G),.tuple ⟨[newS n l.length,.int .i64 0,.int .i64 0]⟩,[(n,some (tkL l))],1,Nat.ble 20 n&&decP (lexF s=R))
  |_,_=>none
 ok:=fun vs h n pre v upd news hx=>by
  split at hx
  ·rename_i s G hg
   split at hx
   ·simp only[Option.some.injEq,Prod.mk.injEq]at hx
    obtain⟨rfl,rfl,rfl,rfl,hs⟩:=hx
    exact⟨getG_ok hg,c11_err (of_decP hs) n⟩
   ·simp only[Option.some.injEq,Prod.mk.injEq,Bool.and_eq_true]at hx
    obtain⟨rfl,rfl,rfl,rfl,hs,hr⟩:=hx
    rw[Nat.ble_eq]at hs
    exact⟨getG_ok hg,c11_ok (of_decP hr) n hs⟩
  ·cases hx
set_option linter.unusedVariables false
set_option linter.unusedSimpArgs false
theorem lexG_len {s:ByteArray}:∀ {f p:Nat} {l l':List Tk}{ok:Bool},l.length ≤ 2500 → lexG s f l p ok=.inr l' → l'.length ≤ 2501
 |0,p,l,l',ok,_,h=>by cases h
 |f+1,p,l,l',ok,hl,h=>by
  rw[lexG]at h
  cases ok with
  |false=>cases h
  |true =>
   simp only[Bool.not_true,cond_false]at h
   cases hpe:Nat.beq p s.size with
   |true=>rw[hpe]at h;cases h;simpa using hl
   |false =>
    rw[hpe,cond_false]at h
    cases hz:(tokF (rest s p)).2==0 with
    |true=>rw[hz]at h;cases h
    |false =>
     rw[hz,cond_false]at h
     cases hm:Nat.beq l.length 2500 with
     |true=>rw[hm]at h;cases h
     |false =>
      rw[hm,cond_false]at h
      refine lexG_len ?_ h
      have:l.length≠2500:=fun h=>by rw[h]at hm;cases hm
      simp;omega
theorem lexF_len {s:ByteArray}{l:List Tk} (h:lexF s=.inr l):l.length ≤ 2501:=by
 unfold lexF at h
 by_cases hb:(s.size:Int)>8192
 ·rw[decide_eq_true hb]at h;cases h
 ·rw[decide_eq_false hb,cond_false]at h
  exact lexG_len (by simp) h
set_option linter.unusedVariables false
set_option linter.unusedSimpArgs false
def dig (c:Nat):Nat:=if 48 ≤ c ∧ c ≤ 57 then c-48 else if 97 ≤ c ∧ c ≤ 102 then c-87 else 99
def numL (b:Nat):List UInt8 → Nat → Option Nat
 |[],n=>some n
 |c :: l,n=>if dig c.toNat<b ∧ n*b+dig c.toNat<9223372036854775808 then numL b l (n*b+dig c.toNat)else none
def upp (c:Nat):Bool:=decide (65 ≤ c)&&decide (c ≤ 90)
set_option maxRecDepth 100000 in
theorem cls:∀ c:Fin 256,(isD (c.val:Int)=(decide (48 ≤ c.val)&&decide (c.val ≤ 57))) ∧ (isA (c.val:Int)=((decide (97 ≤ c.val)&&decide (c.val ≤ 122))||upp c.val)) ∧
  (isD (c.val:Int)=true → dV (c.val:Int)=((c.val-48:Nat):Int)) ∧ (isA (c.val:Int)=true → upp c.val=false → aV (c.val:Int)=((c.val-87:Nat):Int)):=by decide +kernel
theorem pu2_eq {n d b:Nat} (hb:b=10 ∨ b=16) (hn:n<9223372036854775808) (hd:d<256) :
  pu2 (n:Int) 9223372036854775807 (ctI (b:Int)) (b:Int) (d:Int)=(if d<b then if n*b+d<9223372036854775808 then(0,((n*b+d:Nat):Int))else(1,9223372036854775807)else(2,0)):=by
 have e8:IntKind.u8.wrap (b:Int)=(b:Int):=by rcases hb with rfl|rfl<;>decide
 unfold pu2
 rw[e8]
 by_cases h1:d<b
 ·rw[if_pos h1,decide_eq_false (show ¬ (d:Int) ≥ (b:Int) by omega),cond_false]
  by_cases h2:(n:Int) ≥ ctI (b:Int)
  ·rw[decide_eq_true h2,cond_true,if_neg ?_]
   rcases hb with rfl|rfl
   ·have:(ctI (10:Int))=1844674407370955162:=rfl
    have h2:(n:Int) ≥ ctI (10:Int):=h2
    omega
   ·have:(ctI (16:Int))=1152921504606846976:=rfl
    have h2:(n:Int) ≥ ctI (16:Int):=h2
    omega
  ·rw[decide_eq_false h2,cond_false]
   have hm:mulU (n:Int) (b:Int)=((n*b:Nat):Int):=by
    unfold mulU
    rw[IntKind.wrap_u64,IntKind.wrap_u64]
    rcases hb with rfl|rfl
    ·have:(ctI (10:Int))=1844674407370955162:=rfl
     have h2:¬ (n:Int) ≥ ctI (10:Int):=h2
     omega
    ·have:(ctI (16:Int))=1152921504606846976:=rfl
     have h2:¬ (n:Int) ≥ ctI (16:Int):=h2
     omega
   have hlt:n*b<18446744073709551616:=by
    rcases hb with rfl|rfl
    ·have:(ctI (10:Int))=1844674407370955162:=rfl
     have h2:¬ (n:Int) ≥ ctI (10:Int):=h2
     omega
    ·have:(ctI (16:Int))=1152921504606846976:=rfl
     have h2:¬ (n:Int) ≥ ctI (16:Int):=h2
     omega
   have hn1:n1U (n:Int) (b:Int) (d:Int)=((n*b+d:Nat):Int) % 18446744073709551616:=by
    unfold n1U
    rw[hm,IntKind.wrap_u64,IntKind.wrap_u64]
    omega
   rw[hn1,hm]
   generalize n*b=q at hlt
   by_cases h3:q+d<9223372036854775808
   ·rw[if_pos h3,decide_eq_false (by omega),decide_eq_false (by omega)]
    simp only[Bool.or_self,cond_false,Prod.mk.injEq,true_and]
    omega
   ·rw[if_neg h3]
    have:(decide (((q+d:Nat):Int) % 18446744073709551616<(q:Int))||decide (((q+d:Nat):Int) % 18446744073709551616>9223372036854775807))=true:=by
     rw[Bool.or_eq_true,decide_eq_true_eq,decide_eq_true_eq]
     omega
    rw[this,cond_true]
 ·rw[if_neg h1,decide_eq_true (show(d:Int) ≥ (b:Int) by omega),cond_true]
theorem pu_eq {n b c:Nat} (hb:b=10 ∨ b=16) (hn:n<9223372036854775808) (hc:c<256) (hu:upp c=false) :
  (dig c<b ∧ n*b+dig c<9223372036854775808 → pu (n:Int) 9223372036854775807 (ctI (b:Int)) (b:Int) (c:Int)=(0,((n*b+dig c:Nat):Int))) ∧
  (¬ (dig c<b ∧ n*b+dig c<9223372036854775808) → (pu (n:Int) 9223372036854775807 (ctI (b:Int)) (b:Int) (c:Int)).1≠0):=by
 obtain⟨h1,h2,h3,h4⟩:=cls ⟨c,hc⟩
 simp only at h1 h2 h3 h4
 have hb99:¬ 99<b:=by omega
 unfold pu
 cases hd:isD (c:Int)with
 |true =>
  rw[hd]at h1
  rw[h3 hd,cond_true,pu2_eq hb hn (by omega)]
  have h1:=h1.symm
  simp only[Bool.and_eq_true,decide_eq_true_eq]at h1
  have e:dig c=c-48:=by unfold dig;rw[if_pos h1]
  rw[e]
  by_cases g1:c-48<b
  ·by_cases g2:n*b+(c-48)<9223372036854775808
   ·rw[if_pos g1,if_pos g2];exact⟨fun _=>rfl,fun h=>absurd ⟨g1,g2⟩ h⟩
   ·rw[if_pos g1,if_neg g2];exact⟨fun h=>absurd h.2 g2,fun _=>by simp⟩
  ·rw[if_neg g1];exact⟨fun h=>absurd h.1 g1,fun _=>by simp⟩
 |false =>
  rw[hd]at h1
  rw[cond_false]
  have h1:=h1.symm
  simp only[Bool.and_eq_false_imp,decide_eq_true_eq,decide_eq_false_iff_not]at h1
  cases ha:isA (c:Int)with
  |true =>
   rw[ha,hu,Bool.or_false]at h2
   rw[h4 ha hu,cond_true,pu2_eq hb hn (by omega)]
   have h2:=h2.symm
   simp only[Bool.and_eq_true,decide_eq_true_eq]at h2
   by_cases g0:c ≤ 102
   ·have e:dig c=c-87:=by unfold dig;rw[if_neg (by omega),if_pos (by omega)]
    rw[e]
    by_cases g1:c-87<b
    ·by_cases g2:n*b+(c-87)<9223372036854775808
     ·rw[if_pos g1,if_pos g2];exact⟨fun _=>rfl,fun h=>absurd ⟨g1,g2⟩ h⟩
     ·rw[if_pos g1,if_neg g2];exact⟨fun h=>absurd h.2 g2,fun _=>by simp⟩
    ·rw[if_neg g1];exact⟨fun h=>absurd h.1 g1,fun _=>by simp⟩
   ·have e:dig c=99:=by unfold dig;rw[if_neg (by omega),if_neg (by omega)]
    rw[e,if_neg (by omega)]
    exact⟨fun h=>absurd h.1 hb99,fun _=>by simp⟩
  |false =>
   rw[ha,hu,Bool.or_false]at h2
   have h2:=h2.symm
   simp only[Bool.and_eq_false_imp,decide_eq_true_eq,decide_eq_false_iff_not]at h2
   have e:dig c=99:=by unfold dig;rw[if_neg (by omega),if_neg (by omega)]
   rw[e,cond_false]
   exact⟨fun h=>absurd h.1 hb99,fun _=>by simp⟩
set_option linter.unusedVariables false
set_option linter.unusedSimpArgs false
def at_ (l:List UInt8) (i:Nat):Nat:=(l.getD i 0).toNat
def ch3L (l:List UInt8):Bool:=decide (l.length=3)&&(decide (at_ l 0=39)&&(decide (at_ l 2=39)&&(decide (32 ≤ at_ l 1)&&(decide (at_ l 1 ≤ 126)&&(decide (at_ l 1≠39)&&decide (at_ l 1≠92))))))
def tailL (l:List UInt8):List UInt8:=if [48,120].isPrefixOf l then l.drop 2 else l
def baseL (l:List UInt8):Nat:=if [48,120].isPrefixOf l then 16 else 10
def meanL (l:List UInt8):Option Nat :=
 if ch3L l then some (at_ l 1)
 else if l=[] ∨ ¬ (48 ≤ at_ l 0 ∧ at_ l 0 ≤ 57) ∨ 20<l.length then none
 else if tailL l=[]then none else numL (baseL l) (tailL l) 0
def ansL:Option Nat → Int × Int
 |some n=>((n:Int),0)
 |none=>(0,10)
theorem byteAt_nat (s:ByteArray) (i:Nat):byteAt s i=(at_ s.data.toList i:Int):=rfl
theorem at_lt (l:List UInt8) (i:Nat):at_ l i<256:=(l.getD i 0).toNat_lt
theorem drop_at {l:List UInt8}{i:Nat} (h:i<l.length):∃ c,l.drop i=c :: l.drop (i+1) ∧ c.toNat=at_ l i:=by
 refine⟨l[i],List.drop_eq_getElem_cons h,?_⟩
 simp[at_,List.getD,h]
theorem puG_numL {s:ByteArray}{b:Nat} (hb:b=10 ∨ b=16) (hu:∀ j,j<s.size → upp (at_ s.data.toList j)=false):∀ (f i n:Nat),i+f=s.size → n<9223372036854775808 →
  (∀ m,numL b (s.data.toList.drop i) n=some m → puG s 9223372036854775807 (ctI (b:Int)) (b:Int) f i (n:Int)=(0,(m:Int))) ∧
  (numL b (s.data.toList.drop i) n=none → (puG s 9223372036854775807 (ctI (b:Int)) (b:Int) f i (n:Int)).1≠0)
 |0,i,n,hi,hn=>by
  have:s.data.toList.drop i=[]:=by rw[List.drop_eq_nil_iff,← Lib.size_eq];omega
  rw[this]
  refine⟨fun m h=>?_,fun h=>?_⟩
  ·cases h;rfl
  ·cases h
 |f+1,i,n,hi,hn=>by
  have hlt:i<s.data.toList.length:=by rw[← Lib.size_eq];omega
  obtain⟨c,h1,h2⟩:=drop_at hlt
  obtain⟨g1,g2⟩:=pu_eq hb hn (at_lt s.data.toList i) (hu i (by omega))
  rw[h1,numL,puG,byteAt_nat,h2]
  by_cases hc:dig (at_ s.data.toList i)<b ∧ n*b+dig (at_ s.data.toList i)<9223372036854775808
  ·rw[if_pos hc,g1 hc]
   exact puG_numL hb hu f (i+1) _ (by omega) hc.2
  ·rw[if_neg hc]
   refine⟨fun m h=>(by cases h),fun _=>?_⟩
   have:=g2 hc
   rw[show((pu (n:Int) 9223372036854775807 (ctI (b:Int)) (b:Int) (at_ s.data.toList i:Int)).1==0)=false by simp[this],cond_false]
   exact this
theorem puG_acc {s:ByteArray}{mx ct b:Int}:∀ (f i:Nat) (n:Int),i+f=s.size → (puG s mx ct b f i n).1=0 → ∀ j,i ≤ j → j<s.size → isD (byteAt s j)=true ∨ isA (byteAt s j)=true
 |0,i,n,hi,h,j,h1,h2=>by omega
 |f+1,i,n,hi,h,j,h1,h2=>by
  rw[puG]at h
  cases hz:(pu n mx ct b (byteAt s i)).1==0 with
  |false=>rw[hz]at h;simp only[cond_false]at h;rw[h]at hz;cases hz
  |true =>
   rw[hz,cond_true]at h
   by_cases e:j=i
   ·subst e
    unfold pu at hz
    cases hd:isD (byteAt s j)with
    |true=>exact .inl rfl
    |false =>
     cases ha:isA (byteAt s j)with
     |true=>exact .inr rfl
     |false=>rw[hd,ha]at hz;cases hz
   ·exact puG_acc f (i+1) _ (by omega) h j (by omega) h2
theorem numL_acc {b:Nat} (hb:b=10 ∨ b=16):∀ {l:List UInt8}{n m:Nat},numL b l n=some m → ∀ c∈l,(48 ≤ c.toNat ∧ c.toNat ≤ 57) ∨ (97 ≤ c.toNat ∧ c.toNat ≤ 102)
 |[],_,_,_,c,h=>by cases h
 |a :: l,n,m,h,c,hc=>by
  rw[numL]at h
  split at h
  ·rename_i hd
   rcases List.mem_cons.1 hc with e|e
   ·subst e
    have:=hd.1
    unfold dig at this
    split at this
    ·exact .inl ‹_›
    ·split at this
     ·exact .inr ‹_›
     ·omega
   ·exact numL_acc hb h c e
  ·cases h
theorem indexByte_no {c:UInt8}:∀ {l:List UInt8},(∀ b∈l,b≠c) → Lib.indexByte l c=-1
 |[],_=>by unfold Lib.indexByte;rfl
 |a :: l,h=>by
  unfold Lib.indexByte
  rw[if_neg (by simpa using h a List.mem_cons_self),indexByte_no fun b hb=>h b (List.mem_cons_of_mem _ hb)]
  rfl
theorem lower_id:∀ {l:List UInt8},(∀ b∈l,upp b.toNat=false) → Lib.toLowerA l=l
 |[],_=>rfl
 |a :: l,h=>by
  have ha:=h a List.mem_cons_self
  have ih:=lower_id fun b hb=>h b (List.mem_cons_of_mem _ hb)
  unfold Lib.toLowerA at ih ⊢
  rw[List.map_cons,ih]
  have:Lib.lowerB a=a:=by
   unfold Lib.lowerB Lib.isUpperB
   rw[if_neg]
   intro hc
   simp only[Bool.and_eq_true,decide_eq_true_eq,UInt8.le_iff_toNat_le]at hc
   unfold upp at ha
   have h1:(65:UInt8).toNat=65:=rfl
   have h2:(90:UInt8).toNat=90:=rfl
   simp only[Bool.and_eq_false_imp,decide_eq_true_eq,decide_eq_false_iff_not]at ha
   omega
  rw[this]
set_option maxRecDepth 100000 in
theorem lowerB_ne:∀ c:Fin 256,upp c.val=true → Lib.lowerB (UInt8.ofNat c.val)≠UInt8.ofNat c.val:=by decide +kernel
theorem lower_no:∀ {l:List UInt8},Lib.toLowerA l=l → ∀ b∈l,upp b.toNat=false
 |[],_,b,hb=>by cases hb
 |a :: l,h,b,hb=>by
  unfold Lib.toLowerA at h
  rw[List.map_cons,List.cons.injEq]at h
  rcases List.mem_cons.1 hb with e|e
  ·subst e
   cases hu:upp b.toNat with
   |false=>rfl
   |true =>
    have:=lowerB_ne ⟨b.toNat,b.toNat_lt⟩ hu
    simp only[UInt8.ofNat_toNat]at this
    exact absurd h.1 this
  ·exact lower_no (l:=l) h.2 b e
theorem lowS_list (s:ByteArray):(lowS s).toList=Lib.toLowerD s.data.toList:=by
 unfold lowS bs
 simp
theorem toList_data (s:ByteArray):s.toList=s.data.toList:=by
 simp[ByteArray.toList_eq]
set_option linter.unusedVariables false
set_option linter.unusedSimpArgs false
theorem empL:(ByteArray.mk #[]).toList=[]:=by simp
theorem int_beq (a b:Nat):(((a:Int)==(b:Int)))=decide (a=b):=by
 rw[Bool.eq_iff_iff];simp;omega
theorem ch3_eq (s:ByteArray):ch3 s=ch3L s.data.toList:=by
 unfold ch3 ch3L
 have e0:((s.size:Int)==3)=decide (s.data.toList.length=3):=by rw[← Lib.size_eq];exact int_beq _ 3
 have e1:(byteAt s 0==39)=decide (at_ s.data.toList 0=39):=int_beq _ 39
 have e2:(byteAt s 2==39)=decide (at_ s.data.toList 2=39):=int_beq _ 39
 have e3:decide (byteAt s 1 ≥ 32)=decide (32 ≤ at_ s.data.toList 1):=decide_eq_decide.2 (by rw[byteAt_nat];omega)
 have e4:decide (byteAt s 1 ≤ 126)=decide (at_ s.data.toList 1 ≤ 126):=decide_eq_decide.2 (by rw[byteAt_nat];omega)
 have e5:(byteAt s 1 != 39)=decide (at_ s.data.toList 1≠39):=by
  show(!(byteAt s 1==39))=_
  rw[show(byteAt s 1==39)=decide (at_ s.data.toList 1=39) from int_beq _ 39];simp
 have e6:(byteAt s 1 != 92)=decide (at_ s.data.toList 1≠92):=by
  show(!(byteAt s 1==92))=_
  rw[show(byteAt s 1==92)=decide (at_ s.data.toList 1=92) from int_beq _ 92];simp
 rw[e0,e1,e2,e3,e4,e5,e6]
 generalize decide (s.data.toList.length=3)=a0
 generalize decide (at_ s.data.toList 0=39)=a1
 generalize decide (at_ s.data.toList 2=39)=a2
 generalize decide (32 ≤ at_ s.data.toList 1)=a3
 generalize decide (at_ s.data.toList 1 ≤ 126)=a4
 generalize decide (at_ s.data.toList 1≠39)=a5
 generalize decide (at_ s.data.toList 1≠92)=a6
 cases a0<;>cases a1<;>cases a2<;>cases a3<;>cases a4<;>cases a5<;>cases a6<;>rfl
theorem meanT_list (s:ByteArray):(meanT s).data.toList=tailL s.data.toList:=by
 unfold meanT tailL hasP Lib.hasPrefix
 have hz:zx.data.toList=[48,120]:=rfl
 rw[hz]
 cases hp:[48,120].isPrefixOf s.data.toList with
 |true =>
  rw[cond_true,if_pos rfl]
  unfold cutP Lib.trimPrefix Lib.hasPrefix bs
  rw[hz]
  simp[hp]
 |false=>rw[cond_false,if_neg (by simp)]
theorem meanB_eq (s:ByteArray):meanB s=(baseL s.data.toList:Int):=by
 unfold meanB baseL hasP Lib.hasPrefix
 have hz:zx.data.toList=[48,120]:=rfl
 rw[hz]
 cases hp:[48,120].isPrefixOf s.data.toList with
 |true=>rw[cond_true,if_pos rfl];rfl
 |false=>rw[cond_false,if_neg (by simp)];rfl
theorem tail_mem {l:List UInt8}{c:UInt8} (h:c∈l):c∈tailL l ∨ c=48 ∨ c=120:=by
 unfold tailL
 split
 ·rename_i hp
  obtain⟨t,rfl⟩:=List.isPrefixOf_iff_prefix.1 hp
  simp at h ⊢
  rcases h with h|h|h
  ·exact .inr (.inl h)
  ·exact .inr (.inr h)
  ·exact .inl h
 ·exact .inl h
theorem baseL_or (l:List UInt8):baseL l=10 ∨ baseL l=16:=by
 unfold baseL;split
 ·exact .inr rfl
 ·exact .inl rfl
abbrev preB (l:List UInt8):Prop:=l=[] ∨ ¬ (48 ≤ at_ l 0 ∧ at_ l 0 ≤ 57) ∨ 20<l.length
theorem bad_pre {s:ByteArray} (h:preB s.data.toList):bad s=true:=by
 unfold bad
 have:bad0 s=true:=by
  unfold bad0
  rcases h with h|h|h
  ·rw[toList_data,h,empL];rfl
  ·have:digF (byteAt s 0)=false:=by
    unfold digF
    rw[byteAt_nat]
    cases h1:decide ((at_ s.data.toList 0:Int) ≥ 48)with
    |false=>rfl
    |true =>
     have:=of_decide_eq_true h1
     exact decide_eq_false (by omega)
   rw[this]
   cases (s.toList==(ByteArray.mk #[]).toList)<;>rfl
  ·have:decide ((s.size:Int)>20)=true:=decide_eq_true (by rw[Lib.size_eq];omega)
   rw[this]
   cases (s.toList==(ByteArray.mk #[]).toList)<;>cases digF (byteAt s 0)<;>rfl
 rw[this];rfl
theorem bad_not {s:ByteArray} (h:¬ preB s.data.toList):bad s=(hasB s 95||!((lowS s).toList==s.toList)):=by
 unfold preB at h
 simp only[not_or,Classical.not_not]at h
 obtain⟨h1,h2,h3⟩:=h
 unfold bad bad0
 have e1:(s.toList==(ByteArray.mk #[]).toList)=false:=by
  rw[toList_data,empL]
  cases hl:s.data.toList with
  |nil=>exact absurd hl h1
  |cons a l=>rfl
 have e2:digF (byteAt s 0)=true:=by
  unfold digF
  rw[byteAt_nat,decide_eq_true (by omega),decide_eq_true (by omega)];rfl
 have e3:decide ((s.size:Int)>20)=false:=decide_eq_false (by rw[Lib.size_eq];omega)
 rw[e1,e2,e3]
 cases hasB s 95<;>rfl
theorem mean_eq (s:ByteArray):meanF s=ansL (meanL s.data.toList):=by
 unfold meanF meanL
 rw[ch3_eq]
 cases hc:ch3L s.data.toList with
 |true =>
  rw[cond_true,if_pos rfl]
  have:=at_lt s.data.toList 1
  show(IntKind.u64.wrap (byteAt s 1),(0:Int))=((at_ s.data.toList 1:Int),0)
  rw[byteAt_nat,IntKind.wrap_u64]
  congr 1
  omega
 |false =>
  rw[cond_false,if_neg (by simp)]
  by_cases hp:preB s.data.toList
  ·rw[bad_pre hp,cond_true,if_pos hp];rfl
  ·rw[if_neg hp]
   by_cases ht:tailL s.data.toList=[]
   ·rw[if_pos ht]
    have:Nat.beq (meanT s).size 0=true:=by rw[Lib.size_eq,meanT_list,ht];rfl
    rw[this]
    cases bad s<;>rfl
   ·rw[if_neg ht]
    have h0:Nat.beq (meanT s).size 0=false:=by
     rw[Lib.size_eq,meanT_list]
     cases hl:tailL s.data.toList with
     |nil=>exact absurd hl ht
     |cons a l=>rfl
    rw[h0]
    simp only[cond_false]
    have hb:=baseL_or s.data.toList
    have hmem:∀ {t:ByteArray}{j:Nat},j<t.size → ∃ c∈t.data.toList,c.toNat=at_ t.data.toList j:=fun {t j} hj=>by
     rw[Lib.size_eq]at hj
     exact⟨t.data.toList[j],List.getElem_mem hj,by unfold at_;rw[List.getD_eq_getElem?_getD,List.getElem?_eq_getElem hj];rfl⟩
    cases hn:numL (baseL s.data.toList) (tailL s.data.toList) 0 with
    |some m =>
     have hall:=numL_acc hb hn
     have hs:∀ c∈s.data.toList,c≠95 ∧ upp c.toNat=false ∧ c.toNat<128:=fun c hc=>by
      have key:(48 ≤ c.toNat ∧ c.toNat ≤ 57) ∨ (97 ≤ c.toNat ∧ c.toNat ≤ 120):=by
       rcases tail_mem hc with h|rfl|rfl
       ·have:=hall c h;omega
       ·exact .inl ⟨by decide,by decide⟩
       ·exact .inr ⟨by decide,by decide⟩
      refine⟨fun e=>?_,?_,by omega⟩
      ·subst e
       have:(95:UInt8).toNat=95:=rfl
       omega
      ·unfold upp
       cases h1:decide (65 ≤ c.toNat)with
       |false=>rfl
       |true=>have:=of_decide_eq_true h1;exact decide_eq_false (by omega)
     have e1:hasB s 95=false:=by
      unfold hasB
      rw[indexByte_no fun c hc=>(hs c hc).1];rfl
     have e2:((lowS s).toList==s.toList)=true:=by
      rw[lowS_list,Lib.toLowerD_ascii _ fun c hc=>(hs c hc).2.2,lower_id fun c hc=>(hs c hc).2.1,toList_data]
      simp
     rw[bad_not hp,e1,e2]
     have hu:∀ j,j<(meanT s).size → upp (at_ (meanT s).data.toList j)=false:=fun j hj=>by
      obtain⟨c,hc,e⟩:=hmem hj
      rw[meanT_list]at hc
      rw[← e]
      have:=hall c hc
      unfold upp
      cases h1:decide (65 ≤ c.toNat)with
      |false=>rfl
      |true=>have:=of_decide_eq_true h1;exact decide_eq_false (by omega)
     have hx:=(puG_numL (s:=meanT s) hb hu (meanT s).size 0 0 (by omega) (by omega)).1 m (by rw[meanT_list];exact hn)
     unfold puF
     rw[meanB_eq,show((0:Int))=((0:Nat):Int) from rfl,hx]
     rfl
    |none =>
     show _=((0:Int),(10:Int))
     cases hbad:bad s with
     |true=>rfl
     |false =>
      rw[cond_false]
      rw[bad_not hp]at hbad
      simp only[Bool.or_eq_false_iff,Bool.not_eq_false']at hbad
      cases hz:(puF (meanT s) (meanB s)).1==0 with
      |false=>rfl
      |true =>
       exfalso
       have hz':(puF (meanT s) (meanB s)).1=0:=eq_of_beq hz
       unfold puF at hz'
       have hacc:=puG_acc _ 0 0 (by omega) hz'
       have hlow:∀ c∈tailL s.data.toList,c.toNat<128:=fun c hc=>by
        rw[← meanT_list]at hc
        obtain⟨j,hj,e⟩:=List.getElem_of_mem hc
        have hj':j<(meanT s).size:=by rw[Lib.size_eq];exact hj
        have:=hacc j (Nat.zero_le _) hj'
        have ea:at_ (meanT s).data.toList j=c.toNat:=by rw[← e];unfold at_;rw[List.getD_eq_getElem?_getD,List.getElem?_eq_getElem hj];rfl
        rw[byteAt_nat,ea]at this
        obtain⟨h1,h2,_,_⟩:=cls ⟨c.toNat,c.toNat_lt⟩
        simp only at h1 h2
        rw[h1,h2]at this
        unfold upp at this
        simp only[Bool.and_eq_true,Bool.or_eq_true,decide_eq_true_eq]at this
        omega
       have hasc:∀ c∈s.data.toList,c.toNat<128:=fun c hc=>by
        rcases tail_mem hc with h|rfl|rfl
        ·exact hlow c h
        ·decide
        ·decide
       have hl:=eq_of_beq hbad.2
       rw[lowS_list,Lib.toLowerD_ascii _ hasc,toList_data]at hl
       have hno:=lower_no hl
       have hsub:∀ c∈tailL s.data.toList,c∈s.data.toList:=fun c hc=>by
        unfold tailL at hc
        split at hc
        ·exact List.mem_of_mem_drop hc
        ·exact hc
       have hu:∀ j,j<(meanT s).size → upp (at_ (meanT s).data.toList j)=false:=fun j hj=>by
        obtain⟨c,hc,e⟩:=hmem hj
        rw[meanT_list]at hc
        rw[← e]
        exact hno c (hsub c hc)
       have hx:=(puG_numL (s:=meanT s) hb hu (meanT s).size 0 0 (by omega) (by omega)).2 (by rw[meanT_list];exact hn)
       rw[meanB_eq]at hz'
       exact hx hz'
end Go.X
