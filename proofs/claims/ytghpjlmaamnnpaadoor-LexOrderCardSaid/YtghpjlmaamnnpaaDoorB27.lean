import Derived.WalkKit
import Derived.ProofKit
import Derived.OpenShut
import Derived.ChangeOld
import Derived.Below
import Derived.SevenTiedAt
import Derived.Test.YtghpjlmaamnnpaaDoorTie
import Derived.Test.YtghpjlmaamnnpaaDoorCards
import Derived.Test.YtghpjlmaamnnpaaDoorB26
set_option linter.all false
namespace Go.X
open Go Go.Proofs Go.Proofs.YtghpjlmaamnnpaaDoor
set_option linter.unusedVariables false
theorem call_ro {P:Program}{f:FuncId}{vs:List Value}{b:Bool}{n0:Nat}{pre:Hp}{args:Array Value}{w:World} (h:Body P f vs pre (.bool b) [] n0 0) (ρ:Rn) (hd:∀ id,n0 ≤ id → ρ id=none)
  (hr:RelH P ρ (hget pre) w) (hro:∀ id b,hget pre id=some b → b.ro=true) (ha:VL ρ vs args.toList) :
  Calls P f args w fun e w'=>e=.returned (.bool b) ∧ Go.RowKit.Below w.heap.size w w':=by
 refine(h.2 ρ w args ha hr hd).mono fun e w' he=>?_
 cases e with
 |returned c =>
  obtain⟨ρ',good,hv⟩:=he
  rw[v_bool hv]
  refine⟨rfl,good.fr.os,good.fr.tape,good.fr.output,good.fr.size,fun k hk=>good.fr.block k hk ?_⟩
  rintro⟨id,b,l,h0,h1,_⟩
  rw[hro id b h0]at h1;cases h1
 |_=>exact he.elim
theorem gl_ro {G:Gv}{id:Nat}{b:Blk} (h:hget (mkH (glH G)) id=some b):b.ro=true:=by
 have hm':=mkH_mem h
 simp only[glH,List.mem_cons,List.not_mem_nil,or_false,Prod.mk.injEq]at hm'
 rcases hm' with⟨rfl,rfl⟩|⟨rfl,rfl⟩|⟨rfl,rfl⟩|⟨rfl,rfl⟩|⟨rfl,rfl⟩|⟨rfl,rfl⟩|⟨rfl,rfl⟩|⟨rfl,rfl⟩<;>rfl
theorem call_gl {f:FuncId}{vs:List Value}{n0:Nat}{args:Array Value}{W:World} (h:∀ G,Body Tryd.prog f vs (mkH (glH G)) (.bool true) [] n0 0) (hn:20 ≤ n0) (hL:laidMetH Tryd.prog laid0 W) (hsh:W.ShapedOpen Tryd.prog)
  (ha:∀ ρ,VL ρ vs args.toList):Calls Tryd.prog f args W fun e w'=>e=.returned (.bool true) ∧ Go.RowKit.Below W.heap.size W w':=by
 obtain⟨G,ρ,hr,h20,_⟩:=rel_of hL hsh
 exact call_ro (h G) ρ (fun id hid=>h20 id (by omega)) hr (fun id b hb=>gl_ro hb) (ha ρ)
theorem okWide_str {P:Program}{w:World}{r:Reach}{base:Nat}{t:TypeId}{v:Value} (ht:P.underlying t=some .string) (h:Value.okWide P w r base t v):∃ s,v=.string s:=by
 simp only[Value.okWide,ht,Cell.okWide]at h
 cases v<;>simp_all [Cell.ok]
theorem rih {H:Type}{enc:TypeId × Value → H}{a:Assume}{C:Checked}{os:Os}{f:FuncId}{fn:Func}{s:ChangeSpec}{conds:List PathCond}{apart fresh handsOn again:Bool}{laid:List (String × DataW Unit)}
  (own:ownKnob C.prog.godebug=none) (started:os.Started) (noInit:C.prog.inits.idxOf? f=none) (hfn:C.prog.funcs[f]?=some fn)
  (witness:∃ (w:World) (tape:Tape) (i:Input),w.os=os ∧ (w.forCall tape i).Shaped C.prog ∧ i.vars=[] ∧ Input.okWide C.prog (w.forCall tape i) .any w.heap.size f i ∧
   ((s.pre enc C.prog fn conds apart (w.forCall tape i).memory i.args ∧ laidMetH C.prog laid (w.forCall tape i).memory) ∧ sizedMet enc C.prog fn (OpenSpec.ofChange s) apart (w.forCall tape i).memory i.args) ∧ a.holds C.prog (lone (Frame.enter C.prog f i.args .normal) [] (w.forCall tape i)))
  (contract:∀ (W:World) (base:Nat) (args:Array Value) (ds gs:List (DataW H)) (before:List MemPlace),
   (∀ (j:Nat) t v,fn.params[j]?=some t → args[j]?=some v → Value.okWide C.prog W .any base t v) →
   DataW.Whole enc C.prog fn.params.toList s.vars apart W args.toList ds gs before → laidMetH C.prog laid W → W.ShapedOpen C.prog →
   Calls C.prog f args W fun e W'=>∃ v,e=.returned v ∧ s.post enc C.prog fn apart fresh handsOn again W args v W') :
  ReturnsInHanded a C os f .any (fun w args=>(s.pre enc C.prog fn conds apart w args ∧ laidMetH C.prog laid w) ∧ sizedMet enc C.prog fn (OpenSpec.ofChange s) apart w args) (s.post enc C.prog fn apart fresh handsOn again):=by
 refine returnsInHanded_of_calls own started noInit witness ?_
 intro w tape i _ hsh _ hok hpre hholds
 obtain⟨_,_,_,fn',hfn',_,_,_,_,hval⟩:=hok
 have e:fn'=fn:=Option.some.inj (hfn'.symm.trans hfn)
 subst e
 obtain⟨⟨⟨ds,gs,before,hw,hc⟩,hx⟩,hz⟩:=hpre
 have hw':=DataW.Whole.of_heap (w':=w.forCall tape i) (by rfl) hw
 refine(contract (w.forCall tape i) w.heap.size i.args ds gs before hval hw' (hx.of_heap (by rfl)) hsh).mono fun e W' ⟨v,he,hp⟩=>?_
 subst he
 exact ChangeSpec.post_blind hp
theorem lay_fits (os:Os):(World.holding Tryd.prog os ⟨#[],#[],[]⟩).layFits Tryd.prog laid0 []=true:=by kernel_rfl
theorem lay_ifaces (os:Os):(World.holding Tryd.prog os ⟨#[],#[],[]⟩).layIfaces Tryd.prog laid0 (World.laidAll Tryd.prog os laid0)=true:=by kernel_rfl
end Go.X
namespace Go.X
open Go Go.Proofs
set_option linter.unusedVariables false
set_option linter.unusedSimpArgs false
noncomputable def con11R (R:Sum (Nat × Int) (List Tk)):Con Tryd.prog where
 f:=11
 run:=fun vs h n=>match vs,getG h with
  |[.string s],some G=>match R with
   | .inl (p,e)=>some (mkH (glH G),.tuple ⟨[.slice none 0 0,.int .i64 (p:Int),.int .i64 e]⟩,[],0,decP (lexF s=R))
   | .inr l=>some (mkH (glH G),.tuple ⟨[newS n l.length,.int .i64 0,.int .i64 0]⟩,[(n,some (tkL l))],1,Nat.ble 20 n&&decP (lexF s=R))
  |_,_=>none
 ok:=fun vs h n pre v upd news hx=>by
  split at hx
  ·rename_i s G hg
   split at hx
   ·simp only[Option.some.injEq,Prod.mk.injEq]at hx
    obtain⟨rfl,rfl,rfl,rfl,hs⟩:=hx
    exact⟨getG_ok hg,c11_err (of_decP hs) n⟩
   ·simp only[Option.some.injEq,Prod.mk.injEq,Bool.and_eq_true]at hx
    obtain⟨rfl,rfl,rfl,rfl,hs,hr⟩:=hx
    rw[Nat.ble_eq]at hs
    exact⟨getG_ok hg,c11_ok (of_decP hr) n hs⟩
  ·cases hx
set_option linter.unusedVariables false
set_option linter.unusedSimpArgs false
def tokN (s:ByteArray) (p:Nat):Nat:=(tokF (rest s p)).2.toNat
def tkAt (s:ByteArray) (p:Nat):Tk:=⟨(tokF (rest s p)).1,s.extract p (p+tokN s p),p⟩
inductive Lx (s:ByteArray):Nat → List Tk → Prop
 |done {p:Nat} (hp:p=s.size):Lx s p [⟨0,⟨#[]⟩,s.size⟩]
 |tok {p:Nat}{l:List Tk} (hp:p<s.size) (hz:(tokF (rest s p)).2≠0) (hg:(gapG s s.size (p+tokN s p)).2=true) (h:Lx s (gapG s s.size (p+tokN s p)).1 l):Lx s p (tkAt s p :: l)
theorem tokN_rng {s:ByteArray}{p:Nat} (hp:p<s.size) (hz:(tokF (rest s p)).2≠0):0<tokN s p ∧ p+tokN s p ≤ s.size ∧ (tokF (rest s p)).2=(tokN s p:Int):=by
 have h:=tokF_rng (s:=rest s p) (by rw[rest_size];omega)
 rw[rest_size]at h
 unfold tokN
 omega
theorem lexG_lx {s:ByteArray}:∀ {f p:Nat} {l l':List Tk}{ok:Bool},p ≤ s.size → lexG s f l p ok=.inr l' → ok=true ∧ ∃ r,l'=l++r ∧ Lx s p r
 |0,p,l,l',ok,_,h=>by cases h
 |f+1,p,l,l',ok,hp,h=>by
  rw[lexG]at h
  cases ok with
  |false=>cases h
  |true =>
   simp only[Bool.not_true,cond_false]at h
   refine⟨rfl,?_⟩
   cases hpe:Nat.beq p s.size with
   |true =>
    rw[hpe]at h
    have:=Nat.eq_of_beq_eq_true hpe
    subst this
    cases h
    exact⟨_,rfl,.done rfl⟩
   |false =>
    rw[hpe,cond_false]at h
    have hlt:p<s.size:=by
     rcases Nat.lt_or_ge p s.size with h|h
     ·exact h
     ·have:p=s.size:=by omega
      rw[this,Nat.beq_refl]at hpe;cases hpe
    cases hz:(tokF (rest s p)).2==0 with
    |true=>rw[hz]at h;cases h
    |false =>
     rw[hz,cond_false]at h
     have hz':(tokF (rest s p)).2≠0:=fun h=>by rw[h]at hz;cases hz
     cases hm:Nat.beq l.length 2500 with
     |true=>rw[hm]at h;cases h
     |false =>
      rw[hm,cond_false]at h
      obtain⟨h1,h2,h3⟩:=tokN_rng hlt hz'
      obtain⟨g1,r,rfl,g2⟩:=lexG_lx (gapG_rng s s.size (p+tokN s p) h2).2 h
      exact⟨tkAt s p :: r,by simp[tkAt,tokN],.tok hlt hz' g1 g2⟩
theorem lexF_lx {s:ByteArray}{l:List Tk} (h:lexF s=.inr l):s.size ≤ 8192 ∧ (gapG s s.size 0).2=true ∧ Lx s (gapG s s.size 0).1 l:=by
 unfold lexF at h
 by_cases hb:(s.size:Int)>8192
 ·rw[decide_eq_true hb]at h;cases h
 ·rw[decide_eq_false hb,cond_false]at h
  obtain⟨h1,r,h2,h3⟩:=lexG_lx (gapG_rng s s.size 0 (Nat.zero_le _)).2 h
  rw[List.nil_append]at h2
  subst h2
  exact⟨by omega,h1,h3⟩
theorem lexG_len {s:ByteArray}:∀ {f p:Nat} {l l':List Tk}{ok:Bool},l.length ≤ 2500 → lexG s f l p ok=.inr l' → l'.length ≤ 2501
 |0,p,l,l',ok,_,h=>by cases h
 |f+1,p,l,l',ok,hl,h=>by
  rw[lexG]at h
  cases ok with
  |false=>cases h
  |true =>
   simp only[Bool.not_true,cond_false]at h
   cases hpe:Nat.beq p s.size with
   |true=>rw[hpe]at h;cases h;simpa using hl
   |false =>
    rw[hpe,cond_false]at h
    cases hz:(tokF (rest s p)).2==0 with
    |true=>rw[hz]at h;cases h
    |false =>
     rw[hz,cond_false]at h
     cases hm:Nat.beq l.length 2500 with
     |true=>rw[hm]at h;cases h
     |false =>
      rw[hm,cond_false]at h
      refine lexG_len ?_ h
      have:l.length≠2500:=fun h=>by rw[h]at hm;cases hm
      simp;omega
theorem lexF_len {s:ByteArray}{l:List Tk} (h:lexF s=.inr l):l.length ≤ 2501:=by
 unfold lexF at h
 by_cases hb:(s.size:Int)>8192
 ·rw[decide_eq_true hb]at h;cases h
 ·rw[decide_eq_false hb,cond_false]at h
  exact lexG_len (by simp) h
theorem lexG_err {s:ByteArray}:∀ {f p:Nat}{l:List Tk}{ok:Bool}{q:Nat}{e:Int},lexG s f l p ok=.inl (q,e) → e=10 ∨ e=3
 |0,p,l,ok,q,e,h=>by cases h;exact .inl rfl
 |f+1,p,l,ok,q,e,h=>by
  rw[lexG]at h
  cases ok with
  |false=>cases h;exact .inl rfl
  |true =>
   simp only[Bool.not_true,cond_false]at h
   cases hpe:Nat.beq p s.size with
   |true=>rw[hpe]at h;cases h
   |false =>
    rw[hpe,cond_false]at h
    cases hz:(tokF (rest s p)).2==0 with
    |true=>rw[hz]at h;cases h;exact .inl rfl
    |false =>
     rw[hz,cond_false]at h
     cases hm:Nat.beq l.length 2500 with
     |true=>rw[hm]at h;cases h;exact .inr rfl
     |false=>rw[hm,cond_false]at h;exact lexG_err h
theorem lexF_err {s:ByteArray}{q:Nat}{e:Int} (h:lexF s=.inl (q,e)):e=10 ∨ e=3:=by
 unfold lexF at h
 by_cases hb:(s.size:Int)>8192
 ·rw[decide_eq_true hb]at h;cases h;exact .inr rfl
 ·rw[decide_eq_false hb,cond_false]at h
  exact lexG_err h
theorem lx_pos {s:ByteArray}{p:Nat}{r:List Tk} (h:Lx s p r):p ≤ s.size ∧ 0<r.length:=by
 cases h with
 |done hp=>exact⟨by omega,Nat.succ_pos _⟩
 |tok hp=>exact⟨Nat.le_of_lt hp,Nat.succ_pos _⟩
theorem tkAt_size {s:ByteArray}{p:Nat} (hp:p<s.size) (hz:(tokF (rest s p)).2≠0):(tkAt s p).text.size=tokN s p:=by
 obtain⟨_,h2,_⟩:=tokN_rng hp hz
 show(s.extract p (p+tokN s p)).size=_
 rw[ByteArray.size_extract];omega
set_option linter.unusedVariables false
set_option linter.unusedSimpArgs false
noncomputable def sc5 (R:Sum (Nat × Int) (List Tk)):Short:=scOf [con10,con11R R]
theorem FOK5 (R:Sum (Nat × Int) (List Tk)):FnsOK Tryd.prog (lookF FL) (sc5 R):=fok FOK _
abbrev k5:List Nat:=[30,6,29,28,3,0]
abbrev v5 (i N a:Nat) (s:ByteArray):List Value:=[.int .i64 (i:Int),.int .i64 (a:Int),.int .i64 (N:Int),newS 100 N,newS 100 N,.string s]
def r5 (b:Bool) (n:Nat):Option Stop:=some ⟨⟨[some (true,.bool b)],[],.ret,n⟩,none⟩
theorem p5_e (s:ByteArray) (G:Gv) (p:Nat) (e:Int):walk (lookF FL) (sc5 (.inl (p,e))) 1000 x5 (argTm 0 [.string s]) (mkH (glH G)) 100 ⟨[],[],[],[]⟩ ⟨[2],[],[],gIds⟩ ⟨[],[],[],[]⟩=bif decide ((s.size:Int)>8192)then r5 true 100 else bif (decP (lexF s=.inl (p,e))||false)&&true then bif e != 0 then r5 true 100 else some ⟨⟨[],[],.normal,100⟩,some (x5_35,[.bl 0,.sq x5_40])⟩else none:=by kernel_rfl
theorem p5_r (s:ByteArray) (G:Gv) (l:List Tk):walk (lookF FL) (sc5 (.inr l)) 1000 x5 (argTm 0 [.string s]) (mkH (glH G)) 100 ⟨[],[],[],[]⟩ ⟨[2],[],[],gIds⟩ ⟨[30,6,29,28,3],[.tmp 3],[0],gIds⟩=bif decide ((s.size:Int)>8192)then r5 true 100 else bif decP (lexF s=.inr l)&&true then
  some ⟨⟨[iv 0,iv 0,iv l.length,some (true,newS 100 l.length),some (true,newS 100 l.length)],[(100,some (tkL l))],.normal,101⟩,some (x5_35,[.bl 0,.sq x5_40])⟩else none:=by kernel_rfl
def gd5 (d1 d2 d3 u:Bool):Bool:=(((!bif bif d1 then true else d2 then true else d3)||bif bif d1 then true else d2 then true else d3)&&true||false)&&(((!bif bif d1 then true else d2 then true else d3)&&((!bif bif d1 then true else d2 then true else d3)&&true)||!!bif bif d1 then true else d2 then true else d3)&&(((!bif bif d1 then true else d2 then true else d3)&&true||!!bif bif d1 then true else d2 then true else d3)&&((u&&((!bif bif d1 then true else d2 then true else d3)&&((!bif bif d1 then true else d2 then true else d3)&&((!bif bif d1 then true else d2 then true else d3)&&true)))||!!bif bif d1 then true else d2 then true else d3)&&(((!bif bif d1 then true else d2 then true else d3)&&((!bif bif d1 then true else d2 then true else d3)&&true)||!!bif bif d1 then true else d2 then true else d3)&&(((!bif bif d1 then true else d2 then true else d3)&&true||!!bif bif d1 then true else d2 then true else d3)&&(((!bif bif d1 then true else d2 then true else d3)&&true||!!bif bif d1 then true else d2 then true else d3)&&(((!bif bif d1 then true else d2 then true else d3)&&true||!!bif bif d1 then true else d2 then true else d3)&&(((!bif bif d1 then true else d2 then true else d3)&&true||!!bif bif d1 then true else d2 then true else d3)&&((((!bif d1 then true else d2)||bif d1 then true else d2)&&true||false)&&(((!bif d1 then true else d2)&&((!bif d1 then true else d2)&&true)||!!bif d1 then true else d2)&&(((!bif d1 then true else d2)&&((!bif d1 then true else d2)&&true)||!!bif d1 then true else d2)&&(((!bif d1 then true else d2)&&true||!!bif d1 then true else d2)&&(((!bif d1 then true else d2)&&true||!!bif d1 then true else d2)&&(((!bif d1 then true else d2)&&true||!!bif d1 then true else d2)&&(((!bif d1 then true else d2)&&true||!!bif d1 then true else d2)&&(((!d1||d1)&&true||false)&&((!d1&&true||!!d1)&&((!d1&&true||!!d1)&&true))))))))))))))))))
def d5a (t:Tk) (a:Nat):Bool:=decide ((t.at_:Int)<(a:Int))
def d5b (t:Tk):Bool:=t.text.toList==(ByteArray.mk #[]).toList
def d5c (t:Tk) (s:ByteArray):Bool:=decide ((t.text.size:Int)>IntKind.i64.wrap ((s.size:Int)-(t.at_:Int)))
def w5 (t:Tk):Int:=IntKind.i64.wrap ((t.at_:Int)+(t.text.size:Int))
def u5 (t:Tk) (s:ByteArray):Bool:=decide (0 ≤ (t.at_:Int))&&decide ((t.at_:Int) ≤ w5 t)&&decide (w5 t ≤ (s.size:Int))
def z5 (t:Tk) (s:ByteArray):Bool:=t.kind==0&&(t.text.toList==(ByteArray.mk #[]).toList&&((t.at_:Int)==(s.size:Int)&&true))
theorem p5_l (s:ByteArray) (G:Gv) (i N a:Nat) (f:Nat → Tk):walk (lookF FL) noSc 1000 x5_35 (mkT k5 (v5 i N a s)) (mkH ((100,tkB N f) :: glH G)) 101 ⟨[30,6],[],[29,28,3,0],100 :: gIds⟩ ⟨[2],[],[],gIds⟩ ⟨[],[],[],[]⟩=bif decide ((i:Int)<(N:Int))then bif ((0+i).blt N&&true||false)&&((intRange i N&&true||false)&&true)then
  bif (i:Int)==IntKind.i64.wrap ((N:Int)-1)then r5 (z5 (f (0+i)) s) 102 else bif gd5 (d5a (f (0+i)) a) (d5b (f (0+i))) (d5c (f (0+i)) s) (u5 (f (0+i)) s)then
   bif bif bif bif d5a (f (0+i)) a then true else d5b (f (0+i))then true else d5c (f (0+i)) s then true else !((s.extract (f (0+i)).at_ (w5 (f (0+i))).toNat).toList==(f (0+i)).text.toList)then r5 false 102
   else some ⟨⟨[iv (IntKind.i64.wrap ((i:Int)+1)),iv (w5 (f (0+i)))],[],.normal,102⟩,none⟩else none else none else some ⟨⟨[iv i,iv a],[],.exit 0,101⟩,none⟩:=by kernel_rfl
def OrdL (s:ByteArray):Nat → List Tk → Prop
 |a,[]=>False
 |a,[t]=>t=⟨0,⟨#[]⟩,s.size⟩
 |a,t :: u :: l=>a ≤ t.at_ ∧ 0<t.text.size ∧ t.at_+t.text.size ≤ s.size ∧ s.extract t.at_ (t.at_+t.text.size)=t.text ∧ OrdL s (t.at_+t.text.size) (u :: l)
theorem ordL_lx {s:ByteArray}{p:Nat}{r:List Tk} (h:Lx s p r):∀ a,a ≤ p → OrdL s a r:=by
 induction h with
 |done hp=>intro a _;rfl
 |@tok p r hp hz hg h ih =>
  intro a ha
  obtain⟨h1,h2,h3⟩:=tokN_rng hp hz
  have hsz:=tkAt_size hp hz
  have hgr:=gapG_rng s s.size (p+tokN s p) h2
  cases r with
  |nil=>exact absurd (lx_pos h).2 (Nat.lt_irrefl _)
  |cons u r =>
   refine⟨ha,by omega,by rw[hsz];exact h2,by rw[hsz];rfl,?_⟩
   rw[hsz]
   exact ih _ hgr.1
theorem toList_ne {t:ByteArray} (h:0<t.size):(t.toList==(ByteArray.mk #[]).toList)=false:=by
 cases hb:(t.toList==(ByteArray.mk #[]).toList)with
 |false=>rfl
 |true =>
  exfalso
  obtain⟨⟨l⟩⟩:=t
  cases l with
  |nil=>exact absurd h (Nat.lt_irrefl 0)
  |cons a l=>simp at hb
theorem gd5_ok:∀ u:Bool,u=true → gd5 false false false u=true:=by decide
def S5 (s:ByteArray) (G:Gv) (l:List Tk) (z:Nat × Nat):St:=⟨mkT k5 (v5 z.1 l.length z.2 s),mkH ((100,tkL l) :: glH G),101⟩
theorem b5 {s:ByteArray}{G:Gv}:Body Tryd.prog 5 [.string s] (mkH (glH G)) (.bool true) [] 100 0:=by
 refine body_of' mixed fx5 (by simp) fun E Q hP hn hcl hfin=>?_
 have hF0:FnsOK E.P (lookF FL) noSc:=hP▸FOK
 have hq:Q .ret ⟨mkT [2] [.bool true],mkH (glH G),100⟩:=hfin _ _ (fin_of rfl ⟨rfl,rfl,rfl,rfl,rfl,rfl,rfl,rfl,trivial⟩ (by rw[hn]) rfl)
 have lr:∀ {n:Nat},100 ≤ n → LeafTo E [2] ⟨[some (true,.bool true)],mkH (glH G),.ret,n⟩ ⟨mkT [2] [.bool true],mkH (glH G),100⟩:=fun hl =>
  ⟨_,glH G,_,rfl,by rw[hn];rfl,by rw[hn];exact⟨rfl,trivial⟩,by rw[hn];exact gl_bs⟩
 cases hR:lexF s with
 |inl pe =>
  obtain⟨p,e⟩:=pe
  have hF:FnsOK E.P (lookF FL) (sc5 (.inl (p,e))):=by rw[hP];exact FOK5 _
  have e0:=p5_e s G p e
  rw[decP_true hR]at e0
  have hne:(e != 0)=true:=by
   rcases lexF_err hR with rfl|rfl<;>rfl
  rw[hne]at e0
  cases hb:decide ((s.size:Int)>8192)with
  |true=>rw[hb]at e0;exact xwp_toEnd (s:=⟨_,_,_⟩) hcl hF 1000 e0 _ (lr (Nat.le_refl _)) hq
  |false=>rw[hb]at e0;exact xwp_toEnd (s:=⟨_,_,_⟩) hcl hF 1000 e0 _ (lr (Nat.le_refl _)) hq
 |inr l =>
  have hF:FnsOK E.P (lookF FL) (sc5 (.inr l)):=by rw[hP];exact FOK5 _
  have e0:=p5_r s G l
  rw[decP_true hR]at e0
  obtain⟨h0,h1,h2⟩:=lexF_lx hR
  rw[decide_eq_false (by omega)]at e0
  have hlen:=lexF_len hR
  refine xwp_toLoop (s:=⟨_,_,_⟩) hF 1000 e0 (S5 s G l (0,0)) ⟨_,_ :: glH G,_,rfl,by rw[hn];rfl,by rw[hn];exact⟨rfl,rfl,rfl,rfl,rfl,rfl,trivial⟩,by rw[hn];exact⟨bis_tkL,gl_bs⟩⟩ ?_
  let I:Nat × Nat → Prop:=fun z=>z.1<l.length ∧ z.2 ≤ s.size ∧ OrdL s z.2 (l.drop z.1)
  refine xwp_loopR (ι:=Nat × Nat) (S5 s G l) I (fun z=>l.length-z.1) (0,0) ⟨(lx_pos h2).2,Nat.zero_le _,ordL_lx h2 0 (Nat.zero_le _)⟩ fun z hz=>?_
  have hcr:=cl_round (S:=S5 s G l) (I:=I) (μ:=fun z=>l.length-z.1) (i:=z) (cl_ctx hcl [.bl 0,.sq x5_40])
  obtain⟨i,a⟩:=z
  obtain⟨hi,ha,ho⟩:=hz
  simp only at hi ha ho
  have e1:=p5_l s G i l.length a (fun j=>l.getD j tk0)
  rw[decide_eq_true (by omega),Nat.zero_add,lt_blt hi,ir_nat,decide_eq_true hi,wrap_i (n:=(l.length:Int)-1) (by omega) (by omega)]at e1
  simp only[Bool.and_self,Bool.true_or,cond_true]at e1
  obtain⟨t,r,hd⟩:∃ t r,l.drop i=t :: r:=by
   cases hd:l.drop i with
   |nil=>rw[List.drop_eq_nil_iff]at hd;omega
   |cons t r=>exact⟨t,r,rfl⟩
  have ht:l.getD i tk0=t:=by
   have:(l.drop i)[0]?=some t:=by rw[hd];rfl
   rw[List.getElem?_drop,Nat.add_zero]at this
   simp[List.getD,this]
  rw[ht]at e1
  have hr1:r.length+1=l.length-i:=by
   have:=congrArg List.length hd
   simpa using this.symm
  have hdr:l.drop (i+1)=r:=by
   rw[← List.drop_drop,hd];rfl
  rw[hd]at ho
  cases r with
  |nil =>
   have ho:t=⟨0,⟨#[]⟩,s.size⟩:=ho
   subst ho
   have hz:((i:Int)==(l.length:Int)-1)=true:=by simp at hr1 ⊢;omega
   rw[hz,cond_true]at e1
   have z:z5 ⟨0,⟨#[]⟩,s.size⟩ s=true:=by unfold z5;simp
   rw[z]at e1
   exact xwp_toEnd (s:=S5 s G l (i,a)) hcr hF0 1000 e1 _ (lr (by decide)) hq
  |cons u r =>
   obtain⟨o1,o2,o3,o4,o5⟩:=ho
   have hz:((i:Int)==(l.length:Int)-1)=false:=by
    simp only[List.length_cons]at hr1
    simp;omega
   have hw:w5 t=((t.at_+t.text.size:Nat):Int):=by unfold w5;rw[wrap_i (by omega) (by omega)];omega
   have f1:d5a t a=false:=decide_eq_false (by omega)
   have f2:d5b t=false:=toList_ne o2
   have f3:d5c t s=false:=by unfold d5c;rw[wrap_i (by omega) (by omega)];exact decide_eq_false (by omega)
   have f4:u5 t s=true:=by
    unfold u5
    rw[hw,decide_eq_true (show 0 ≤ (t.at_:Int) by omega),decide_eq_true (show(t.at_:Int) ≤ _ by omega),decide_eq_true (show((t.at_+t.text.size:Nat):Int) ≤ (s.size:Int) by omega)];rfl
   rw[hz,f1,f2,f3,f4,gd5_ok true rfl,hw,wrap_i (by omega) (by omega)]at e1
   simp only[cond_true,cond_false,Int.toNat_natCast,o4,beq_self_eq_true,Bool.not_true]at e1
   exact xwp_toEnd (s:=S5 s G l (i,a)) hcr hF0 1000 e1 (S5 s G l (i+1,t.at_+t.text.size)) ⟨_,_ :: glH G,_,rfl,by rw[hn];rfl,by rw[hn];exact⟨rfl,rfl,rfl,rfl,rfl,rfl,trivial⟩,by rw[hn];exact⟨bis_tkL,gl_bs⟩⟩
    ⟨(i+1,t.at_+t.text.size),⟨by simp only[List.length_cons]at hr1;omega,o3,by simp only;rw[hdr];exact o5⟩,by simp only;omega,Wk.refl _ _⟩
end Go.X
