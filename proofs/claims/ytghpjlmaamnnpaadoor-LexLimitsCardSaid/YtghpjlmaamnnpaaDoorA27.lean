import Derived.WalkKit
import Derived.ProofKit
import Derived.OpenShut
import Derived.ChangeOld
import Derived.Below
import Derived.SevenTiedAt
import Derived.Test.YtghpjlmaamnnpaaDoorTie
import Derived.Test.YtghpjlmaamnnpaaDoorCards
import Derived.Test.YtghpjlmaamnnpaaDoorA26
import Derived.Laws.Bits64
set_option linter.all false
namespace Go.X
open Go Go.Proofs Go.Proofs.YtghpjlmaamnnpaaDoor
set_option linter.unusedVariables false
theorem call_ro {P:Program}{f:FuncId}{vs:List Value}{b:Bool}{n0:Nat}{pre:Hp}{args:Array Value}{w:World} (h:Body P f vs pre (.bool b) [] n0 0) (ρ:Rn) (hd:∀ id,n0 ≤ id → ρ id=none)
  (hr:RelH P ρ (hget pre) w) (hro:∀ id b,hget pre id=some b → b.ro=true) (ha:VL ρ vs args.toList) :
  Calls P f args w fun e w'=>e=.returned (.bool b) ∧ Go.RowKit.Below w.heap.size w w':=by
 refine(h.2 ρ w args ha hr hd).mono fun e w' he=>?_
 cases e with
 |returned c =>
  obtain⟨ρ',good,hv⟩:=he
  rw[v_bool hv]
  refine⟨rfl,good.fr.os,good.fr.tape,good.fr.output,good.fr.size,fun k hk=>good.fr.block k hk ?_⟩
  rintro⟨id,b,l,h0,h1,_⟩
  rw[hro id b h0]at h1;cases h1
 |_=>exact he.elim
theorem gl_ro {G:Gv}{id:Nat}{b:Blk} (h:hget (mkH (glH G)) id=some b):b.ro=true:=by
 have hm':=mkH_mem h
 simp only[glH,List.mem_cons,List.not_mem_nil,or_false,Prod.mk.injEq]at hm'
 rcases hm' with⟨rfl,rfl⟩|⟨rfl,rfl⟩|⟨rfl,rfl⟩|⟨rfl,rfl⟩|⟨rfl,rfl⟩|⟨rfl,rfl⟩|⟨rfl,rfl⟩|⟨rfl,rfl⟩<;>rfl
theorem call_gl {f:FuncId}{vs:List Value}{n0:Nat}{args:Array Value}{W:World} (h:∀ G,Body Tryd.prog f vs (mkH (glH G)) (.bool true) [] n0 0) (hn:20 ≤ n0) (hL:laidMetH Tryd.prog laid0 W) (hsh:W.ShapedOpen Tryd.prog)
  (ha:∀ ρ,VL ρ vs args.toList):Calls Tryd.prog f args W fun e w'=>e=.returned (.bool true) ∧ Go.RowKit.Below W.heap.size W w':=by
 obtain⟨G,ρ,hr,h20,_⟩:=rel_of hL hsh
 exact call_ro (h G) ρ (fun id hid=>h20 id (by omega)) hr (fun id b hb=>gl_ro hb) (ha ρ)
theorem okWide_has {P:Program}{w:World}{r:Reach}{base:Nat}{t:TypeId}{v:Value}{k:IntKind} (ht:P.underlying t=some (.int k)) (h:Value.okWide P w r base t v):∃ n,v=.int k n ∧ k.has n:=by
 simp only[Value.okWide,ht,Cell.okWide]at h
 cases v<;>simp_all [Cell.ok]
theorem rih {H:Type}{enc:TypeId × Value → H}{a:Assume}{C:Checked}{os:Os}{f:FuncId}{fn:Func}{s:ChangeSpec}{conds:List PathCond}{apart fresh handsOn again:Bool}{laid:List (String × DataW Unit)}
  (own:ownKnob C.prog.godebug=none) (started:os.Started) (noInit:C.prog.inits.idxOf? f=none) (hfn:C.prog.funcs[f]?=some fn)
  (witness:∃ (w:World) (tape:Tape) (i:Input),w.os=os ∧ (w.forCall tape i).Shaped C.prog ∧ i.vars=[] ∧ Input.okWide C.prog (w.forCall tape i) .any w.heap.size f i ∧
   ((s.pre enc C.prog fn conds apart (w.forCall tape i).memory i.args ∧ laidMetH C.prog laid (w.forCall tape i).memory) ∧ sizedMet enc C.prog fn (OpenSpec.ofChange s) apart (w.forCall tape i).memory i.args) ∧ a.holds C.prog (lone (Frame.enter C.prog f i.args .normal) [] (w.forCall tape i)))
  (contract:∀ (W:World) (base:Nat) (args:Array Value) (ds gs:List (DataW H)) (before:List MemPlace),
   (∀ (j:Nat) t v,fn.params[j]?=some t → args[j]?=some v → Value.okWide C.prog W .any base t v) →
   DataW.Whole enc C.prog fn.params.toList s.vars apart W args.toList ds gs before → laidMetH C.prog laid W → W.ShapedOpen C.prog →
   Calls C.prog f args W fun e W'=>∃ v,e=.returned v ∧ s.post enc C.prog fn apart fresh handsOn again W args v W') :
  ReturnsInHanded a C os f .any (fun w args=>(s.pre enc C.prog fn conds apart w args ∧ laidMetH C.prog laid w) ∧ sizedMet enc C.prog fn (OpenSpec.ofChange s) apart w args) (s.post enc C.prog fn apart fresh handsOn again):=by
 refine returnsInHanded_of_calls own started noInit witness ?_
 intro w tape i _ hsh _ hok hpre hholds
 obtain⟨_,_,_,fn',hfn',_,_,_,_,hval⟩:=hok
 have e:fn'=fn:=Option.some.inj (hfn'.symm.trans hfn)
 subst e
 obtain⟨⟨⟨ds,gs,before,hw,hc⟩,hx⟩,hz⟩:=hpre
 have hw':=DataW.Whole.of_heap (w':=w.forCall tape i) (by rfl) hw
 refine(contract (w.forCall tape i) w.heap.size i.args ds gs before hval hw' (hx.of_heap (by rfl)) hsh).mono fun e W' ⟨v,he,hp⟩=>?_
 subst he
 exact ChangeSpec.post_blind hp
theorem lay_fits (os:Os):(World.holding Tryd.prog os ⟨#[],#[],[]⟩).layFits Tryd.prog laid0 []=true:=by kernel_rfl
theorem lay_ifaces (os:Os):(World.holding Tryd.prog os ⟨#[],#[],[]⟩).layIfaces Tryd.prog laid0 (World.laidAll Tryd.prog os laid0)=true:=by kernel_rfl
end Go.X
namespace Go.X
open Go Go.Proofs
set_option linter.unusedVariables false
set_option linter.unusedSimpArgs false
noncomputable def con11R (R:Sum (Nat × Int) (List Tk)):Con Tryd.prog where
 f:=11
 run:=fun vs h n=>match vs,getG h with
  |[.string s],some G=>match R with
   | .inl (p,e)=>some (mkH (glH G),.tuple ⟨[.slice none 0 0,.int .i64 (p:Int),.int .i64 e]⟩,[],0,decP (lexF s=R))
   | .inr l=>some (mkH (glH G),.tuple ⟨[newS n l.length,.int .i64 0,.int .i64 0]⟩,[(n,some (tkL l))],1,Nat.ble 20 n&&decP (lexF s=R))
  |_,_=>none
 ok:=fun vs h n pre v upd news hx=>by
  split at hx
  ·rename_i s G hg
   split at hx
   ·simp only[Option.some.injEq,Prod.mk.injEq]at hx
    obtain⟨rfl,rfl,rfl,rfl,hs⟩:=hx
    exact⟨getG_ok hg,c11_err (of_decP hs) n⟩
   ·simp only[Option.some.injEq,Prod.mk.injEq,Bool.and_eq_true]at hx
    obtain⟨rfl,rfl,rfl,rfl,hs,hr⟩:=hx
    rw[Nat.ble_eq]at hs
    exact⟨getG_ok hg,c11_ok (of_decP hr) n hs⟩
  ·cases hx
set_option linter.unusedVariables false
set_option linter.unusedSimpArgs false
theorem hasP_no {r p:ByteArray}{c:Int} (h0:0<r.size) (hp:p.data.toList.head?=some 47) (h:byteAt r 0≠47):hasP r p=false:=by
 unfold hasP Lib.hasPrefix
 unfold byteAt at h
 rw[Lib.size_eq]at h0
 cases hr:r.data.toList with
 |nil=>rw[hr]at h0;exact absurd h0 (by decide)
 |cons a l =>
  cases hq:p.data.toList with
  |nil=>rw[hq]at hp;cases hp
  |cons b q =>
   rw[hq]at hp
   simp only[List.head?_cons,Option.some.injEq]at hp
   subst hp
   rw[hr]at h
   simp only[List.getD_cons_zero]at h
   simp only[List.isPrefixOf,Bool.and_eq_false_imp,beq_iff_eq]
   intro e
   subst e
   exact absurd rfl h
theorem gapG_stop {s:ByteArray}{k:Nat} (hk:k<s.size) (hb:blank (byteAt s k)=false) (h47:byteAt s k≠47) (f:Nat):gapG s f k=(k,true):=by
 cases f with
 |zero=>rfl
 |succ f =>
  have e:byteAt (rest s k) 0=byteAt s k:=by rw[byteAt_rest,Nat.add_zero]
  have h0:0<(rest s k).size:=by rw[rest_size];omega
  unfold gapG
  rw[lt_blt hk,e,hb,hasP_no (c:=0) h0 rfl (by rw[e];exact h47),hasP_no (c:=0) h0 rfl (by rw[e];exact h47)]
  rfl
theorem gapG_blank {s:ByteArray}{k:Nat} (hk:k<s.size) (hb:blank (byteAt s k)=true) (f:Nat):gapG s (f+1) k=gapG s f (k+1):=by
 have e:byteAt (rest s k) 0=byteAt s k:=by rw[byteAt_rest,Nat.add_zero]
 rw[gapG,lt_blt hk,e,hb]
 rfl
theorem gap_blanks {s:ByteArray}{n:Nat} (h:∀ j,n ≤ j → j<s.size → byteAt s j=32):∀ f k,n ≤ k → k ≤ s.size → s.size-k ≤ f → gapG s f k=(s.size,true)
 |0,k,h1,h2,h3=>by
  have:k=s.size:=by omega
  subst this;rfl
 |f+1,k,h1,h2,h3=>by
  by_cases hk:k<s.size
  ·rw[gapG_blank hk (by rw[h k h1 hk];rfl)]
   exact gap_blanks h f (k+1) (by omega) hk (by omega)
  ·have:k=s.size:=by omega
   subst this
   exact gapG_end (by omega) _
theorem tok_tilde {s:ByteArray} (h:byteAt s 0=126):tokF s=(3,1):=by
 unfold tokF
 rw[h]
 have h2:two17 s 126=false:=by
  unfold two17
  have:hasD (fun _=>true) (kv 126 (byteAt s 1))=false:=by simp[hasD,keq,kv]
  rw[this];rfl
 rw[h2]
 cases decide ((s.size:Int)>1)<;>rfl
section
variable {s:ByteArray}{n:Nat} (hn:n ≤ s.size) (h1:∀ j,j<n → byteAt s j=126) (h2:∀ j,n ≤ j → j<s.size → byteAt s j=32)
include hn h1 h2
theorem lim_gap (k:Nat) (hk:k ≤ n):gapG s s.size k=(if k<n then k else s.size,true):=by
 by_cases h:k<n
 ·rw[if_pos h]
  exact gapG_stop (by omega) (by rw[h1 k h];rfl) (by rw[h1 k h];decide) _
 ·rw[if_neg h]
  exact gap_blanks h2 _ k (by omega) (by omega) (by omega)
theorem lim_ok (h:n ≤ 2500):∀ f k (l:List Tk),k ≤ n → n-k<f → l.length=k → ∃ l',lexG s f l (gapG s s.size k).1 (gapG s s.size k).2=.inr l' ∧ l'.length=n+1
 |0,k,l,hk,hf,hl=>by omega
 |f+1,k,l,hk,hf,hl=>by
  rw[lim_gap hn h1 h2 k hk]
  by_cases hkn:k<n
  ·rw[if_pos hkn]
   have ht:tokF (rest s k)=(3,1):=tok_tilde (by rw[byteAt_rest,Nat.add_zero,h1 k hkn])
   have e1:Nat.beq k s.size=false:=by
    cases hb:Nat.beq k s.size with
    |false=>rfl
    |true=>have:=Nat.eq_of_beq_eq_true hb;omega
   have e2:Nat.beq l.length 2500=false:=by
    cases hb:Nat.beq l.length 2500 with
    |false=>rfl
    |true=>have:=Nat.eq_of_beq_eq_true hb;omega
   simp only[lexG,ht,e1,e2,Bool.not_true,cond_false,Int.toNat_one,show((1:Int)==0)=false from rfl]
   exact lim_ok h f (k+1) _ (by omega) (by omega) (by simp;omega)
  ·rw[if_neg hkn]
   have:k=n:=by omega
   subst this
   simp only[lexG,Nat.beq_refl,Bool.not_true,cond_false,cond_true]
   exact⟨_,rfl,by simp;omega⟩
theorem lim_full (h:2500<n):∀ f k (l:List Tk),k ≤ 2500 → n-k<f → l.length=k → lexG s f l (gapG s s.size k).1 (gapG s s.size k).2=.inl (2500,3)
 |0,k,l,hk,hf,hl=>by omega
 |f+1,k,l,hk,hf,hl=>by
  rw[lim_gap hn h1 h2 k (by omega),if_pos (by omega)]
  have ht:tokF (rest s k)=(3,1):=tok_tilde (by rw[byteAt_rest,Nat.add_zero,h1 k (by omega)])
  have e1:Nat.beq k s.size=false:=by
   cases hb:Nat.beq k s.size with
   |false=>rfl
   |true=>have:=Nat.eq_of_beq_eq_true hb;omega
  by_cases hk2:k=2500
  ·subst hk2
   simp only[lexG,ht,e1,hl,Bool.not_true,cond_false,show((1:Int)==0)=false from rfl,Nat.beq_refl,cond_true]
  ·have e2:Nat.beq l.length 2500=false:=by
    cases hb:Nat.beq l.length 2500 with
    |false=>rfl
    |true=>have:=Nat.eq_of_beq_eq_true hb;omega
   simp only[lexG,ht,e1,e2,Bool.not_true,cond_false,Int.toNat_one,show((1:Int)==0)=false from rfl]
   exact lim_full h f (k+1) _ (by omega) (by omega) (by simp;omega)
theorem lim_law:(s.size>8192 ∧ lexF s=.inl (8192,3)) ∨ (s.size ≤ 8192 ∧ 2500<n ∧ lexF s=.inl (2500,3)) ∨ (s.size ≤ 8192 ∧ n ≤ 2500 ∧ ∃ l,lexF s=.inr l ∧ l.length=n+1):=by
 unfold lexF
 by_cases hb:(s.size:Int)>8192
 ·rw[decide_eq_true hb]
  exact .inl ⟨by omega,rfl⟩
 ·rw[decide_eq_false hb]
  by_cases hm:n ≤ 2500
  ·obtain⟨l,h3,h4⟩:=lim_ok hn h1 h2 hm (s.size+1) 0 [] (by omega) (by omega) rfl
   exact .inr (.inr ⟨by omega,hm,l,h3,h4⟩)
  ·exact .inr (.inl ⟨by omega,by omega,lim_full hn h1 h2 (by omega) (s.size+1) 0 [] (by omega) (by omega) rfl⟩)
end
set_option linter.unusedVariables false
set_option linter.unusedSimpArgs false
def sc8:Short:=scOf [con10]
theorem FOK8:FnsOK Tryd.prog (lookF FL) sc8:=fok FOK _
abbrev v8 (i N n b:Nat):List Value:=[.int .i64 (i:Int),.int .i64 (N:Int),.slice (some ⟨100,0,none⟩) N N,.int .i64 (n:Int),.int .i64 (b:Int)]
abbrev k8:List Nat:=[26,25,5,0,1]
def byB (N:Nat) (f:Nat → Int):Blk:=.rows N 1 (fun j=>[.int .u8 (f j)]) false false
def a8 (n:Int):Int:=IntKind.i64.wrap ((IntKind.u64.wrap n).tmod 2510)
def b8' (b:Int):Int:=IntKind.i64.wrap ((IntKind.u64.wrap b).tmod 8200)
def s8 (n b:Int):Int:=IntKind.i64.wrap (a8 n+b8' b)
theorem p8_0 (n b:Int) (G:Gv):walk (lookF FL) sc8 1000 x8 (argTm 0 [.int .i64 n,.int .i64 b]) (mkH (glH G)) 100 ⟨[],[],[],[]⟩ ⟨[],[],[],[]⟩ ⟨[26,25,5,0,1],[.tmp 5],[],gIds⟩ =
  bif decide (0 ≤ s8 n b)&&decide (s8 n b ≤ s8 n b)&&decide (s8 n b*3 ≤ 1099511627776)&&true&&true then
   some ⟨⟨[iv 0,iv (s8 n b).toNat,some (true,.slice (some ⟨100,0,none⟩) (s8 n b).toNat (s8 n b).toNat),iv (a8 n),iv (b8' b)],[(100,some (byB (s8 n b).toNat fun _=>0))],.normal,101⟩,some (x8_23,[.bl 0,.sq x8_42])⟩else none:=by kernel_rfl
def g8 (i N:Nat):Bool:=(0+i).blt N&&true&&((intRange i N&&true||false)&&true)
section
variable (n N i:Nat) (b:Nat) (f:Nat → Int) (G:Gv)
theorem p8_9:walk (lookF FL) noSc 1000 (.region x8_9) (mkT k8 (v8 i N n b)) (mkH ((100,byB N f) :: glH G)) 101 ⟨[27],[],k8,100 :: gIds⟩ ⟨[],[],[],[]⟩ ⟨[],[],[],[]⟩=some ⟨⟨[some (true,.bool (decide ((i:Int)<N)))],[],.normal,101⟩,none⟩:=by kernel_rfl
theorem p8_11:walk (lookF FL) noSc 1000 (.region x8_11) (mkT k8 (v8 i N n b)) (mkH ((100,byB N f) :: glH G)) 101 ⟨[6],[],k8,100 :: gIds⟩ ⟨[],[],[],[]⟩ ⟨[],[],[],[]⟩=some ⟨⟨[iv i],[],.normal,101⟩,none⟩:=by kernel_rfl
theorem p8_12:walk (lookF FL) noSc 1000 (.region x8_12) (mkT (6 :: k8) (.int .i64 (i:Int) :: v8 i N n b)) (mkH ((100,byB N f) :: glH G)) 101 ⟨[],[.id 100],6 :: k8,gIds⟩ ⟨[],[],[],[]⟩ ⟨[],[],[],[]⟩ =
  bif g8 i N then some ⟨⟨[],[(100,some (.rows N 1 (rowSet (fun j=>[.int .u8 (f j)]) (0+i) [.int .u8 32]) false false))],.normal,101⟩,none⟩else none:=by kernel_rfl
theorem p8_16:walk (lookF FL) noSc 1000 x8_16 (mkT (6 :: k8) (.int .i64 (i:Int) :: v8 i N n b)) (mkH ((100,byB N f) :: glH G)) 101 ⟨[],[.id 100],k8,gIds⟩ ⟨[],[],[],[]⟩ ⟨[],[],[],[]⟩ =
  bif decide ((i:Int)<(n:Int))then bif g8 i N then some ⟨⟨[],[(100,some (.rows N 1 (rowSet (fun j=>[.int .u8 (f j)]) (0+i) [.int .u8 126]) false false))],.normal,101⟩,none⟩else none
  else some ⟨⟨[],[(100,some (byB N f))],.normal,101⟩,none⟩:=by kernel_rfl
theorem p8_20:walk (lookF FL) noSc 1000 (.region x8_20) (mkT k8 (v8 i N n b)) (mkH ((100,byB N f) :: glH G)) 101 ⟨[26],[],[25,5,0,1],100 :: gIds⟩ ⟨[],[],[],[]⟩ ⟨[],[],[],[]⟩=some ⟨⟨[iv (IntKind.i64.wrap ((i:Int)+1))],[],.normal,101⟩,none⟩:=by kernel_rfl
def txt8 (N:Nat) (f:Nat → Int):ByteArray:=⟨((List.range N).map fun j=>u8Of [.int .u8 (f (0+j))]).toArray⟩
def gd8 (N:Nat) (f:Nat → Int):Bool:=(((0+N).ble N&&true&&(List.range N).all fun j=>isU8 [.int .u8 (f (0+j))])&&true||false)&&true
theorem p8_27e (p:Nat) (e:Int):walk (lookF FL) (scOf [con11R (.inl (p,e))]) 1000 (.region x8_27) (mkT k8 (v8 i N n b)) (mkH ((100,byB N f) :: glH G)) 101 ⟨[7,8,9],[],[0,1],gIds⟩ ⟨[],[],[],[]⟩ ⟨[],[],[],[]⟩ =
  bif (decP (lexF (txt8 N f)=.inl (p,e))||false)&&gd8 N f then some ⟨⟨[some (true,.slice none 0 0),iv p,iv e],[],.normal,101⟩,none⟩else none:=by kernel_rfl
theorem p8_27r (l:List Tk):walk (lookF FL) (scOf [con11R (.inr l)]) 1000 (.region x8_27) (mkT k8 (v8 i N n b)) (mkH ((100,byB N f) :: glH G)) 101 ⟨[7,8,9],[.tmp 7],[0,1],gIds⟩ ⟨[],[],[],[]⟩ ⟨[],[],[],[]⟩ =
  bif decP (lexF (txt8 N f)=.inr l)&&gd8 N f then some ⟨⟨[some (true,newS 101 l.length),iv 0,iv 0],[(101,some (tkL l))],.normal,102⟩,none⟩else none:=by kernel_rfl
end
def r8 (a:Bool):Option Stop:=some ⟨⟨[some (true,.bool a)],[],.ret,101⟩,none⟩
def q8 (m bl:Nat) (p e L:Int):Option Stop:=bif decide (IntKind.i64.wrap ((m:Int)+(bl:Int))>8192)then bif ((e==3||!e==3)&&true||false)&&((e==3&&true||!e==3)&&true)then r8 (bif e==3 then p==8192 else false)else none
 else bif decide ((m:Int)>2500)then bif ((e==3||!e==3)&&true||false)&&((e==3&&true||!e==3)&&true)then r8 (bif e==3 then p==2500 else false)else none
 else bif ((e==0||!e==0)&&true||false)&&((e==0&&(e==0&&true)||!e==0)&&((e==0&&true||!e==0)&&((e==0&&true||!e==0)&&true)))then r8 (bif e==0 then L==IntKind.i64.wrap ((m:Int)+1)else false)else none
theorem p8_r (m bl:Nat) (p e:Int) (G:Gv):walk (lookF FL) sc8 1000 x8_41 (mkT [7,8,9,0,1] [.slice none 0 0,.int .i64 p,.int .i64 e,.int .i64 (m:Int),.int .i64 (bl:Int)]) (mkH (glH G)) 101 ⟨[],[],[],[]⟩ ⟨[4],[],[],gIds⟩ ⟨[],[],[],[]⟩=q8 m bl p e 0:=by kernel_rfl
theorem p8_s (m bl L:Nat) (p e:Int) (G:Gv) (ll:List Tk):walk (lookF FL) sc8 1000 x8_41 (mkT [7,8,9,0,1] [newS 100 L,.int .i64 p,.int .i64 e,.int .i64 (m:Int),.int .i64 (bl:Int)]) (mkH ((100,tkL ll) :: glH G)) 101 ⟨[],[],[],[]⟩ ⟨[4],[],[],gIds⟩ ⟨[],[],[],[]⟩=q8 m bl p e L:=by kernel_rfl
set_option linter.unusedVariables false
set_option linter.unusedSimpArgs false
theorem a8_eq (n:Int):∃ m:Nat,a8 n=(m:Int) ∧ m<2510:=by
 unfold a8
 have h:=wrap_u64_nonneg n
 have h1:=Int.tmod_nonneg 2510 h
 have h2:=Int.tmod_lt_of_pos (IntKind.u64.wrap n) (show(0:Int)<2510 by decide)
 exact⟨((IntKind.u64.wrap n).tmod 2510).toNat,by rw[wrap_i (by omega) (by omega)];omega,by omega⟩
theorem b8_eq (n:Int):∃ m:Nat,b8' n=(m:Int) ∧ m<8200:=by
 unfold b8'
 have h:=wrap_u64_nonneg n
 have h1:=Int.tmod_nonneg 8200 h
 have h2:=Int.tmod_lt_of_pos (IntKind.u64.wrap n) (show(0:Int)<8200 by decide)
 exact⟨((IntKind.u64.wrap n).tmod 8200).toNat,by rw[wrap_i (by omega) (by omega)];omega,by omega⟩
def f8 (m i:Nat):Nat → Int:=fun j=>if j<i then(if j<m then 126 else 32)else 0
theorem bis_by {P:Program}{σ:Nm}{N:Nat}{f:Nat → Int}:BIs P σ (byB N f) (byB N f):=⟨rfl,rfl,fun _ _=>rfl,.inr (.inl rfl),.inr rfl⟩
theorem bis_set {P:Program}{σ:Nm}{N i:Nat}{f g:Nat → Int}{c:Int} (h:∀ j,j<N → g j=if j=i then c else f j):BIs P σ (byB N g) (.rows N 1 (rowSet (fun j=>[.int .u8 (f j)]) (0+i) [.int .u8 c]) false false):=by
 refine⟨rfl,rfl,fun j hj=>?_,.inr (.inl rfl),.inr rfl⟩
 show[Value.int .u8 (g j)]=cond (Nat.beq j (0+i)) [.int .u8 c] [.int .u8 (f j)]
 rw[h j hj,Nat.zero_add]
 by_cases e:j=i
 ·subst e;rw[if_pos rfl,Nat.beq_refl];rfl
 ·rw[if_neg e]
  have:Nat.beq j i=false:=by
   cases hb:Nat.beq j i with
   |false=>rfl
   |true=>exact absurd (Nat.eq_of_beq_eq_true hb) e
  rw[this];rfl
theorem txt_size (N:Nat) (f:Nat → Int):(txt8 N f).size=N:=by
 rw[Lib.size_eq];simp[txt8]
theorem txt_at {N:Nat}{f:Nat → Int}{j:Nat} (hj:j<N) (h:0 ≤ f j ∧ f j<256):byteAt (txt8 N f) j=f j:=by
 unfold byteAt txt8
 simp[List.getD,hj,u8Of]
 omega
theorem gd8_true (N:Nat) (f:Nat → Int):gd8 N f=true:=by
 unfold gd8
 rw[Nat.zero_add,show N.ble N=true by simp]
 simp[isU8]
theorem b8 {n b:Int}{G:Gv}:Body Tryd.prog 8 [.int .i64 n,.int .i64 b] (mkH (glH G)) (.bool true) [] 100 0:=by
 refine body_of' mixed fx8 (by simp) fun E Q hP hn hcl hfin=>?_
 have hF:FnsOK E.P (lookF FL) sc8:=hP▸FOK8
 have hF0:FnsOK E.P (lookF FL) noSc:=hP▸FOK
 obtain⟨m,hm,hm2⟩:=a8_eq n
 obtain⟨c,hc,hc2⟩:=b8_eq b
 have hs:s8 n b=((m+c:Nat):Int):=by
  unfold s8
  rw[hm,hc,wrap_i (by omega) (by omega)];omega
 have e0:=p8_0 n b G
 rw[hs,hm,hc,decide_eq_true (show 0 ≤ ((m+c:Nat):Int) by omega),decide_eq_true (show((m+c:Nat):Int) ≤ ((m+c:Nat):Int) by omega),decide_eq_true (show((m+c:Nat):Int)*3 ≤ 1099511627776 by omega)]at e0
 simp only[Bool.and_self,cond_true,Int.toNat_natCast]at e0
 obtain⟨N,hN⟩:∃ N,m+c=N:=⟨_,rfl⟩
 rw[hN]at e0
 let S:Nat → St:=fun i=>⟨mkT k8 (v8 i N m c),mkH ((100,byB N (f8 m i)) :: glH G),101⟩
 refine xwp_toLoop (s:=⟨_,_,_⟩) hF 1000 e0 (S 0) ⟨_,_ :: glH G,_,rfl,by rw[hn];rfl,by rw[hn];exact⟨rfl,rfl,rfl,rfl,rfl,trivial⟩,by rw[hn];exact⟨⟨rfl,rfl,fun j _=>rfl,.inr (.inl rfl),.inr rfl⟩,gl_bs⟩⟩ ?_
 refine xwp_loopR (ι:=Nat) S (fun i=>i ≤ N) (fun i=>N-i) 0 (Nat.zero_le _) fun i hi=>?_
 have hcr:=cl_round (S:=S) (I:=fun i=>i ≤ N) (μ:=fun i=>N-i) (i:=i) (cl_ctx hcl [.bl 0,.sq x8_42])
 let mk:List Nat → List Value → (Nat → Int) → St:=fun ks vs f=>⟨mkT ks vs,mkH ((100,byB N f) :: glH G),101⟩
 have lf:∀ {ks:List Nat}{vs:List Value}{f:Nat → Int}{l:Leaf}{bk:Blk},l.bs=(100,some bk) :: mkH (glH G) → l.n=101 → tsOK (stayOr 100 (pis ((100,byB N f) :: glH G) ((100,some bk) :: mkH (glH G)))) l.ts vs →
   BIs E.P (stayOr 100 (pis ((100,byB N f) :: glH G) ((100,some bk) :: mkH (glH G)))) (byB N f) bk → LeafTo E ks l (mk ks vs f):=fun hb hl ht hk =>
  ⟨_,_ :: glH G,_,rfl,by rw[hn,hb];rfl,by rw[hn,hb];exact ht,by rw[hn,hb];exact⟨hk,gl_bs⟩⟩
 have hdrop:∀ {k:Nat}{v:Value}{i n b:Nat}{f:Nat → Int},natMem k k8=false → Wk E.toEnv (mk (k :: k8) (v :: v8 i N n b) f) (mk k8 (v8 i N n b) f):=fun {k v i n b f} hk =>
  wk_look (fun q x h=>by
   show(bif Nat.beq k q then some (true,v)else look (mkT k8 (v8 i N n b)) q)=some x
   have h:look (mkT k8 (v8 i N n b)) q=some x:=h
   cases hb:Nat.beq k q with
   |false=>exact h
   |true =>
    have:=Nat.eq_of_beq_eq_true hb
    subst this
    simp only[natMem,Bool.or_eq_false_iff]at hk
    obtain⟨h1,h2,h3,h4,h5,_⟩:=hk
    simp only[mkT,look,h1,h2,h3,h4,h5,cond_false]at h
    cases h) fun _=>rfl
 refine xwp_seq (xwp_toEnd (s:=S i) (cl_seqP hcr) hF0 1000 (p8_9 m N i c (f8 m i) G) (mk (27 :: k8) (.bool (decide ((i:Int)<N)) :: v8 i N m c) (f8 m i)) (lf rfl rfl ⟨rfl,rfl,rfl,rfl,rfl,rfl,trivial⟩ bis_by) ?_)
 refine xwp_seq (xwp_if (t:=decide ((i:Int)<N)) rfl (fun hl=>XWP.wk (hdrop rfl) (xwp_skip ?_)) (fun hl=>XWP.wk (hdrop rfl) (xwp_exit ?_)))
 ·have hlt:i<N:=by have:=of_decide_eq_true hl;omega
  have hg:g8 i N=true:=by
   unfold g8
   rw[Nat.zero_add,lt_blt hlt,ir_nat,decide_eq_true hlt];rfl
  show XWP E.toEnv x8_21 _ (S i)
  refine xwp_seq (xwp_block ?_)
  have hcb:=cl_blockP (id:=1) (cl_seqP (x:=.region x8_20) hcr)
  refine xwp_seq (xwp_toEnd (s:=S i) (cl_seqP hcb) hF0 1000 (p8_11 m N i c (f8 m i) G) (mk (6 :: k8) (.int .i64 (i:Int) :: v8 i N m c) (f8 m i)) (lf rfl rfl ⟨rfl,rfl,rfl,rfl,rfl,rfl,trivial⟩ bis_by) ?_)
  have e1:=p8_12 m N i c (f8 m i) G
  rw[hg,cond_true]at e1
  let f1:Nat → Int:=fun j=>if j=i then 32 else f8 m i j
  refine xwp_seq (xwp_toEnd (s:=mk (6 :: k8) (.int .i64 (i:Int) :: v8 i N m c) (f8 m i)) (cl_seqP hcb) hF0 1000 e1 (mk (6 :: k8) (.int .i64 (i:Int) :: v8 i N m c) f1) (lf rfl rfl ⟨rfl,rfl,rfl,rfl,rfl,rfl,trivial⟩ (bis_set fun j _=>rfl)) ?_)
  have e2:=p8_16 m N i c f1 G
  rw[hg]at e2
  have last:∀ {f2:Nat → Int},(∀ j,j<N → f2 j=f8 m (i+1) j) → seqP (XWP E.toEnv (.region x8_20) (roundP E.toEnv S (fun i=>i ≤ N) (fun i=>N-i) i (ctxP E.toEnv [.bl 0,.sq x8_42] Q))) (roundP E.toEnv S (fun i=>i ≤ N) (fun i=>N-i) i (ctxP E.toEnv [.bl 0,.sq x8_42] Q)) .normal (mk k8 (v8 i N m c) f2):=fun {f2} hf=>by
   have e3:=p8_20 m N i c f2 G
   rw[wrap_i (by omega) (by omega)]at e3
   exact xwp_toEnd (s:=mk k8 (v8 i N m c) f2) hcr hF0 1000 e3 (S (i+1)) (lf (f:=f8 m (i+1)) rfl rfl ⟨rfl,rfl,rfl,rfl,rfl,trivial⟩ ⟨rfl,rfl,fun j hj=>by show[Value.int .u8 (f8 m (i+1) j)]=[.int .u8 (f2 j)];rw[hf j hj],.inr (.inl rfl),.inr rfl⟩)
    ⟨i+1,hlt,by simp only;omega,Wk.refl _ _⟩
  cases hm3:decide ((i:Int)<(m:Int))with
  |true =>
   have:=of_decide_eq_true hm3
   rw[hm3,cond_true,cond_true]at e2
   refine xwp_toEnd (s:=mk (6 :: k8) (.int .i64 (i:Int) :: v8 i N m c) f1) hcb hF0 1000 e2 (mk k8 (v8 i N m c) (fun j=>if j=i then 126 else f1 j)) (lf rfl rfl ⟨rfl,rfl,rfl,rfl,rfl,trivial⟩ (bis_set fun j _=>rfl)) (last fun j hj=>?_)
   simp only[f1,f8]
   by_cases h1:j=i
   ·subst h1
    rw[if_pos rfl,if_pos (by omega),if_pos (by omega)]
   ·rw[if_neg h1,if_neg h1]
    by_cases h2:j<i
    ·rw[if_pos h2,if_pos (show j<i+1 by omega)]
    ·rw[if_neg h2,if_neg (show ¬ j<i+1 by omega)]
  |false =>
   have:=of_decide_eq_false hm3
   rw[hm3,cond_false]at e2
   refine xwp_toEnd (s:=mk (6 :: k8) (.int .i64 (i:Int) :: v8 i N m c) f1) hcb hF0 1000 e2 (mk k8 (v8 i N m c) f1) (lf rfl rfl ⟨rfl,rfl,rfl,rfl,rfl,trivial⟩ bis_by) (last fun j hj=>?_)
   simp only[f1,f8]
   by_cases h1:j=i
   ·subst h1
    rw[if_pos rfl,if_pos (by omega),if_neg (by omega)]
   ·rw[if_neg h1]
    by_cases h2:j<i
    ·rw[if_pos h2,if_pos (show j<i+1 by omega)]
    ·rw[if_neg h2,if_neg (show ¬ j<i+1 by omega)]
 ·have:i=N:=by have:=of_decide_eq_false hl;omega
  subst this
  show XWP E.toEnv x8_42 Q (S i)
  have hsz:=txt_size i (f8 m i)
  have fb:∀ {a:Bool} {s':St},a=true → LeafTo E [4] ⟨[some (true,.bool a)],mkH (glH G),.ret,101⟩ ⟨mkT [4] [.bool true],mkH (glH G),100⟩:=fun h=>by
   subst h
   exact⟨_,glH G,_,rfl,by rw[hn];rfl,by rw[hn];exact⟨rfl,trivial⟩,by rw[hn];exact gl_bs⟩
  have hq:Q .ret ⟨mkT [4] [.bool true],mkH (glH G),100⟩:=hfin _ _ (fin_of rfl ⟨rfl,rfl,rfl,rfl,rfl,rfl,rfl,rfl,trivial⟩ (by rw[hn]) rfl)
  have hw:IntKind.i64.wrap ((m:Int)+(c:Int))=(i:Int):=by rw[wrap_i (by omega) (by omega)];omega
  have hw1:IntKind.i64.wrap ((m:Int)+1)=((m+1:Nat):Int):=by rw[wrap_i (by omega) (by omega)];omega
  have gd:=gd8_true i (f8 m i)
  have err:∀ {p:Nat}{e:Int},lexF (txt8 i (f8 m i))=.inl (p,e) → q8 m c p e 0=r8 true → XWP E.toEnv x8_42 Q (S i):=fun {p e} h1 h2=>by
   have hF2:FnsOK E.P (lookF FL) (scOf [con11R (.inl (p,e))]):=by rw[hP];exact fok FOK _
   have e1:=p8_27e m i i c (f8 m i) G p e
   rw[decP_true h1,gd]at e1
   have e2:=p8_r m c p e G
   rw[h2]at e2
   refine xwp_seq (xwp_toEnd (s:=S i) (cl_seqP hcl) hF2 1000 e1 ⟨mkT [7,8,9,0,1] [.slice none 0 0,.int .i64 (p:Int),.int .i64 e,.int .i64 (m:Int),.int .i64 (c:Int)],mkH (glH G),101⟩ ⟨_,glH G,_,rfl,by rw[hn];rfl,by rw[hn];exact⟨rfl,rfl,rfl,rfl,rfl,trivial⟩,by rw[hn];exact gl_bs⟩ ?_)
   exact xwp_toEnd (s:=⟨_,_,_⟩) hcl hF 1000 e2 _ (fb (s':=S i) rfl) hq
  have okk:∀ {l:List Tk},lexF (txt8 i (f8 m i))=.inr l → q8 m c 0 0 l.length=r8 true → XWP E.toEnv x8_42 Q (S i):=fun {l} h1 h2=>by
   have hF2:FnsOK E.P (lookF FL) (scOf [con11R (.inr l)]):=by rw[hP];exact fok FOK _
   have e1:=p8_27r m i i c (f8 m i) G l
   rw[decP_true h1,gd]at e1
   have e2:=p8_s m c l.length 0 0 G l
   rw[h2]at e2
   refine xwp_seq (xwp_toEnd (s:=S i) (cl_seqP hcl) hF2 1000 e1 ⟨mkT [7,8,9,0,1] [newS 100 l.length,.int .i64 0,.int .i64 0,.int .i64 (m:Int),.int .i64 (c:Int)],mkH ((100,tkL l) :: glH G),101⟩ ⟨_,_ :: glH G,_,rfl,by rw[hn];rfl,by rw[hn];exact⟨rfl,rfl,rfl,rfl,rfl,trivial⟩,by rw[hn];exact⟨bis_tkL,gl_bs⟩⟩ ?_)
   exact xwp_toEnd (s:=⟨_,_,_⟩) hcl hF 1000 e2 _ (fb (s':=S i) rfl) hq
  have hat:∀ j,j<i → byteAt (txt8 i (f8 m i)) j=f8 m i j:=fun j hj=>txt_at hj (by unfold f8;split<;>(try split)<;>omega)
  rcases lim_law (s:=txt8 i (f8 m i)) (n:=m) (by omega) (fun j hj=>by rw[hat j (by omega)];unfold f8;rw[if_pos (by omega),if_pos hj]) (fun j h1 h2=>by rw[hat j (by omega)];unfold f8;rw[if_pos (by omega),if_neg (by omega)])with⟨h1,h2⟩|⟨h1,h2,h3⟩|⟨h1,h2,l,h3,h4⟩
  ·exact err h2 (by unfold q8;rw[hw,decide_eq_true (by omega)];rfl)
  ·exact err h3 (by unfold q8;rw[hw,decide_eq_false (by omega),decide_eq_true (show(m:Int)>2500 by omega)];rfl)
  ·exact okk h3 (by unfold q8;rw[hw,decide_eq_false (by omega),decide_eq_false (show ¬ (m:Int)>2500 by omega),hw1,h4];simp)
end Go.X
