import Derived.Test.YtghpjlmaamnnpaaDoorH25
import Derived.Test.YtghpjlmaamnnpaaDoorRows
import Derived.Lay
import Derived.Lib.LaidCaseMet
import Derived.Stop.LaidErr
import Derived.Stop.Joined
import Derived.Shelf.Vars
import Derived.Handed
import Derived.LaidHandle
import Derived.MakeChecks
set_option linter.all false
namespace Go.X
open Go Go.Proofs
set_option linter.unusedVariables false
set_option linter.unusedSimpArgs false
def tk0:Tk:=⟨0,⟨#[]⟩,0⟩
def tkL (l:List Tk):Blk:=tkB l.length fun j=>l.getD j tk0
def vTk:List Tk → Value
 |[]=>.slice none 0 0
 |t :: l=>newS 101 (l.length+1)
def exT:List Tk → List (Nat × Blk)
 |[]=>[]
 |t :: l=>[(101,tkL (t :: l))]
def S11 (s:ByteArray) (G:Gv) (z:List Tk × Nat × Bool):St:=⟨mkT [6,7,5,0] [.int .i64 (z.2.1:Int),.bool z.2.2,vTk z.1,.string s],mkH (exT z.1++glH G),102⟩
def v11:Sum (Nat × Int) (List Tk) → Value
 | .inl (p,e)=>.tuple ⟨[.slice none 0 0,.int .i64 (p:Int),.int .i64 e]⟩
 | .inr l=>.tuple ⟨[newS 100 l.length,.int .i64 0,.int .i64 0]⟩
def u11 (a:Nat):Sum (Nat × Int) (List Tk) → Hp
 | .inl _=>[]
 | .inr l=>[(a,some (tkL l))]
def n11:Sum (Nat × Int) (List Tk) → Nat
 | .inl _=>0
 | .inr _=>1
theorem rnL_tk {σ:Nm}{t:Tk}:rnL σ (tkRow t)=tkRow t:=rfl
theorem bis_app {P:Program}{σ:Nm}{l:List Tk}{t:Tk}{f:Nat → List Value}{g:Nat → List Value} (hf:∀ j,j<l.length → f j=tkRow (l.getD j tk0)) (hg:g 0=tkRow t) :
  BIs P σ (tkL (l++[t])) (.rows (l.length+1) 3 (rowCat f 0 l.length g) true false):=by
 refine⟨by simp,rfl,fun j hj=>?_,.inl rfl,.inr rfl⟩
 show rnL σ (tkRow ((l++[t]).getD j tk0))=cond (Nat.blt j l.length) (f (0+j)) (g (j-l.length))
 by_cases h:j<l.length
 ·rw[lt_blt h,cond_true,Nat.zero_add,hf j h,show(l++[t]).getD j tk0=l.getD j tk0 by simp[List.getD,List.getElem?_append_left h]]
  exact rnL_tk
 ·have hb:Nat.blt j l.length=false:=by rw[blt_dec];simp;omega
  have:j=l.length:=by omega
  subst this
  rw[hb,cond_false,Nat.sub_self,hg,show(l++[t]).getD l.length tk0=t by simp[List.getD]]
  exact rnL_tk
theorem bis_tkL {P:Program}{σ:Nm}{l:List Tk}:BIs P σ (tkL l) (tkL l):=⟨rfl,rfl,fun _ _=>rnL_tk,.inl rfl,.inr rfl⟩
theorem vTk_app (l:List Tk) (t:Tk):vTk (l++[t])=newS 101 (l.length+1):=by
 cases l with
 |nil=>rfl
 |cons a l=>simp[vTk]
theorem exT_app (l:List Tk) (t:Tk):exT (l++[t])=[(101,tkL (l++[t]))]:=by
 cases l with
 |nil=>rfl
 |cons a l=>rfl
theorem gApp_ok {n:Nat} (h:n ≤ 2500):gApp n=true:=by
 unfold gApp
 rw[show(n+1).ble n=false by rw[ble_dec];simp,show n.ble n=true by simp,show(0+n).ble n=true by simp,decide_eq_true (by omega)];rfl
theorem b11 {s:ByteArray}{G:Gv}:Body Tryd.prog 11 [.string s] (mkH (glH G)) (v11 (lexF s)) (u11 100 (lexF s)) 100 (n11 (lexF s)):=by
 refine body_of' mixed fx11 (by simp) fun E Q hP hn hcl hfin=>?_
 have hF:FnsOK E.P (lookF FL) sc11:=hP▸FOK11
 obtain⟨R,hR⟩:∃ R,lexF s=R:=⟨_,rfl⟩
 rw[hR]at hfin
 have lr:∀ {p:Nat}{e:Int}{n:Nat}{h0:List (Nat × Option Blk)},100 ≤ n → LeafTo E [2,3,4] ⟨[some (true,.slice none 0 0),iv p,iv e],mkH (glH G),.ret,n⟩ ⟨mkT [2,3,4] [.slice none 0 0,.int .i64 (p:Int),.int .i64 e],mkH (glH G),100⟩:=fun hl =>
  ⟨_,glH G,_,rfl,by rw[hn];rfl,by rw[hn];exact⟨rfl,rfl,rfl,trivial⟩,by rw[hn];exact gl_bs⟩
 have fin:∀ {p:Nat}{e:Int},R=.inl (p,e) → Q .ret ⟨mkT [2,3,4] [.slice none 0 0,.int .i64 (p:Int),.int .i64 e],mkH (glH G),100⟩:=fun h=>by
  subst h
  exact hfin _ _ (fin_of rfl ⟨rfl,rfl,rfl,rfl,rfl,rfl,rfl,rfl,trivial⟩ (by rw[hn];rfl) rfl)
 by_cases hbig:(s.size:Int)>8192
 ·have e:=p11_0 s G
  rw[decide_eq_true hbig,cond_true]at e
  refine xwp_toEnd (s:=⟨_,_,_⟩) hcl hF 1000 e _ (lr (p:=8192) (e:=3) (h0:=[]) (Nat.le_refl _)) (fin ?_)
  rw[← hR,lexF,decide_eq_true hbig,cond_true]
 have hsz:s.size ≤ 8192:=by omega
 have e0:=p11_0 s G
 rw[decide_eq_false hbig,cond_false,show s.size.blt 4294967281=true from lt_blt (by omega)]at e0
 simp only[Bool.and_self,Bool.true_or,cond_true]at e0
 have hg0:=gapG_rng s s.size 0 (Nat.zero_le _)
 refine xwp_toLoop (s:=⟨_,_,_⟩) hF 1000 e0 (S11 s G ([],(gapG s s.size 0).1,(gapG s s.size 0).2)) ⟨_,glH G,_,rfl,by rw[hn];rfl,by rw[hn];exact⟨rfl,rfl,rfl,rfl,trivial⟩,by rw[hn];exact gl_bs⟩ ?_
 let I:List Tk × Nat × Bool → Prop:=fun z=>z.2.1 ≤ s.size ∧ z.1.length ≤ 2500 ∧ ∃ f,s.size-z.2.1<f ∧ lexG s f z.1 z.2.1 z.2.2=R
 let μ:List Tk × Nat × Bool → Nat:=fun z=>s.size-z.2.1
 refine xwp_loopR (ι:=List Tk × Nat × Bool) (S11 s G) I μ _ ⟨hg0.2,Nat.zero_le _,s.size+1,by simp only;omega,by rw[← hR,lexF,decide_eq_false hbig,cond_false]⟩ fun z hz=>?_
 have hcr:=cl_round (S:=S11 s G) (I:=I) (μ:=μ) (i:=z) (cl_ctx hcl [.bl 0])
 obtain⟨l,p,ok⟩:=z
 obtain⟨hp,hl,f,hf,hx⟩:=hz
 simp only at hp hl hf hx
 obtain⟨f,rfl⟩:∃ f',f=f'+1:=⟨f-1,by omega⟩
 rw[lexG]at hx
 have hcs:=cl_seqP (x:=.region x11_38) hcr
 refine xwp_seq ?_
 have hgo:∀ {l':List Tk}{q:Nat},p<q → q ≤ s.size → l'.length ≤ 2500 → lexG s f l' (gapG s s.size q).1 (gapG s s.size q).2=R →
   XWP E.toEnv (.region x11_38) (roundP E.toEnv (S11 s G) I μ (l,p,ok) (ctxP E.toEnv [.bl 0] Q)) ⟨mkT [5,6,0] [vTk l',.int .i64 (q:Int),.string s],mkH (exT l'++glH G),102⟩:=by
  intro l' q h1 h2 h3 h4
  have hg:=gapG_rng s s.size q h2
  have gd:(s.size.blt 4294967281&&q.ble s.size||false)&&true=true:=by rw[show s.size.blt 4294967281=true from lt_blt (by omega),Nat.ble_eq_true_of_le h2];rfl
  have nx:roundP E.toEnv (S11 s G) I μ (l,p,ok) (ctxP E.toEnv [.bl 0] Q) .normal (S11 s G (l',(gapG s s.size q).1,(gapG s s.size q).2)) :=
   ⟨(l',(gapG s s.size q).1,(gapG s s.size q).2),⟨hg.2,h3,f,by simp only;omega,h4⟩,by show s.size-_<s.size-p;simp only;omega,Wk.refl _ _⟩
  cases l' with
  |nil =>
   have e:=p11_gn s G q (.slice none 0 0)
   rw[show((s.size.blt 4294967281&&q.ble s.size||false)&&true)=true from gd,cond_true]at e
   refine xwp_toEnd (s:=⟨_,_,_⟩) hcr hF 1000 e (S11 s G ([],(gapG s s.size q).1,(gapG s s.size q).2)) ?_ nx
   exact⟨_,glH G,_,rfl,by rw[hn];rfl,by rw[hn];exact⟨rfl,rfl,rfl,rfl,trivial⟩,by rw[hn];exact gl_bs⟩
  |cons a l0 =>
   have e:=p11_gb s G q (l0.length+1) (fun j=>(a :: l0).getD j tk0)
   rw[show((s.size.blt 4294967281&&q.ble s.size||false)&&true)=true from gd,cond_true]at e
   refine xwp_toEnd (s:=⟨_,_,_⟩) hcr hF 1000 e (S11 s G (a :: l0,(gapG s s.size q).1,(gapG s s.size q).2)) ?_ nx
   exact⟨_,(101,tkL (a :: l0)) :: glH G,_,rfl,by rw[hn];rfl,by rw[hn];exact⟨rfl,rfl,rfl,rfl,trivial⟩,by rw[hn];exact⟨bis_tkL,gl_bs⟩⟩
 have hrt:=rest_size s p
 have hr:=fun h:p<s.size=>tokF_rng (s:=rest s p) (by omega)
 have gt:p<s.size → gTk s p=true:=fun h=>by
  unfold gTk
  rw[show Nat.blt 0 (rest s p).size=true from lt_blt (by omega),show(rest s p).size.blt 35184372088832=true from lt_blt (by omega),decide_eq_true (show 0 ≤ (p:Int) by omega),decide_eq_true (show(p:Int) ≤ (s.size:Int) by omega),decide_eq_true (show(s.size:Int) ≤ (s.size:Int) by omega)];rfl
 have hq:p<s.size → qTk s p=((p+(tokF (rest s p)).2.toNat:Nat):Int):=fun h=>by
  have:=hr h
  unfold qTk
  rw[wrap_i (by omega) (by omega)];omega
 have ga:p<s.size → gAt s p=true:=fun h=>by
  have:=hr h
  unfold gAt
  rw[hq h,decide_eq_true (show 0 ≤ (p:Int) by omega),decide_eq_true (show(p:Int) ≤ _ by omega),decide_eq_true (show((p+(tokF (rest s p)).2.toNat:Nat):Int) ≤ (s.size:Int) by omega)];rfl
 have nw:p<s.size → tkNew s p 0=tkRow ⟨(tokF (rest s p)).1,s.extract p (p+(tokF (rest s p)).2.toNat),p⟩:=fun h=>by
  unfold tkNew
  rw[hq h];rfl
 have lr2:∀ {l':List Tk}{f0:Nat → List Value},(∀ j,j<l'.length → f0 j=tkRow (l'.getD j tk0)) → LeafTo E [2,3,4] ⟨[some (true,newS 103 (l'.length+1)),iv 0,iv 0],(103,some (.rows (l'.length+1) 3 (rowCat f0 0 l'.length (tkEnd p)) true false)) :: mkH (glH G),.ret,104⟩
   ⟨mkT [2,3,4] [newS 100 (l'.length+1),.int .i64 0,.int .i64 0],mkH ((100,tkL (l'++[⟨0,⟨#[]⟩,p⟩])) :: glH G),101⟩:=fun h =>
  ⟨_,_ :: glH G,_,rfl,by rw[hn];rfl,by rw[hn];exact⟨rfl,rfl,rfl,trivial⟩,by rw[hn];exact⟨bis_app h rfl,gl_bs⟩⟩
 have fin2:∀ {l':List Tk},R=.inr (l'++[⟨0,⟨#[]⟩,p⟩]) → Q .ret ⟨mkT [2,3,4] [newS 100 (l'.length+1),.int .i64 0,.int .i64 0],mkH ((100,tkL (l'++[⟨0,⟨#[]⟩,p⟩])) :: glH G),101⟩:=fun {l'} h=>by
  subst h
  exact hfin _ _ (fin_of rfl ⟨rfl,rfl,rfl,rfl,rfl,rfl,rfl,rfl,rfl,trivial⟩ (by rw[hn];rfl) (by
   show some (Value.tuple ⟨[newS 100 (l'.length+1),.int .i64 0,.int .i64 0]⟩)=some (Value.tuple ⟨[newS 100 (l'++[(⟨0,⟨#[]⟩,p⟩:Tk)]).length,.int .i64 0,.int .i64 0]⟩)
   rw[List.length_append];rfl))
 have lm:∀ {l':List Tk}{f0:Nat → List Value},p<s.size → (∀ j,j<l'.length → f0 j=tkRow (l'.getD j tk0)) → LeafTo E [5,6,0] ⟨[some (true,newS 103 (l'.length+1)),iv (qTk s p),some (true,.string s)],(103,some (.rows (l'.length+1) 3 (rowCat f0 0 l'.length (tkNew s p)) true false)) :: mkH (glH G),.normal,104⟩
   ⟨mkT [5,6,0] [vTk (l'++[⟨(tokF (rest s p)).1,s.extract p (p+(tokF (rest s p)).2.toNat),p⟩]),.int .i64 ((p+(tokF (rest s p)).2.toNat:Nat):Int),.string s],mkH (exT (l'++[⟨(tokF (rest s p)).1,s.extract p (p+(tokF (rest s p)).2.toNat),p⟩])++glH G),102⟩:=fun h hf0=>by
  rw[vTk_app,exT_app,hq h]
  exact⟨_,_ :: glH G,_,rfl,by rw[hn];rfl,by rw[hn];exact⟨rfl,rfl,rfl,trivial⟩,by rw[hn];exact⟨bis_app hf0 (nw h),gl_bs⟩⟩
 have pe:((p:Int)==(s.size:Int))=Nat.beq p s.size:=by
  rw[Bool.eq_iff_iff];simp[Nat.beq_eq];omega
 cases l with
 |nil =>
  have e:=p11_n s G p ok
  have e2:=p11_ne s G p
  rw[pe]at e e2
  cases ok with
  |false=>exact xwp_toEnd (s:=S11 s G ([],p,false)) hcs hF 1000 e _ (lr (h0:=[]) (show 100 ≤ 102 by decide)) (fin hx.symm)
  |true =>
   simp only[Bool.not_true,cond_false]at e hx
   cases hpe:Nat.beq p s.size with
   |true =>
    rw[hpe,cond_true]at hx e2
    exact xwp_toEnd (s:=S11 s G ([],p,true)) hcs hF 1000 e2 _ (lr2 (l':=[]) (f0:=fun _=>[]) fun j hj=>absurd hj (Nat.not_lt_zero _)) (fin2 (l':=[]) hx.symm)
   |false =>
    rw[hpe,cond_false]at hx e
    have hlt:p<s.size:=by
     rcases Nat.lt_or_ge p s.size with h|h
     ·exact h
     ·have:p=s.size:=by omega
      rw[this,Nat.beq_refl]at hpe;cases hpe
    rw[gt hlt,cond_true]at e
    cases hz:(tokF (rest s p)).2==0 with
    |true =>
     rw[hz,cond_true]at hx e
     exact xwp_toEnd (s:=S11 s G ([],p,true)) hcs hF 1000 e _ (lr (h0:=[]) (show 100 ≤ 102 by decide)) (fin hx.symm)
    |false =>
     rw[hz,cond_false]at hx e
     rw[ga hlt,show decide (36 ≤ 1099511627776)=true from rfl]at e
     simp only[Bool.and_self,cond_true]at e
     have hz':(tokF (rest s p)).2≠0:=fun h=>by rw[h]at hz;cases hz
     have:=hr hlt
     refine xwp_toEnd (s:=S11 s G ([],p,true)) hcs hF 1000 e _ (lm (l':=[]) (f0:=fun _=>[]) hlt fun j hj=>absurd hj (Nat.not_lt_zero _)) (hgo (l':=[_]) (by omega) (by omega) (by simp) hx)
 |cons a l0 =>
  have e:=p11_b s G p ok (l0.length+1) (fun j=>(a :: l0).getD j tk0)
  have e2:=p11_be s G p (l0.length+1) (fun j=>(a :: l0).getD j tk0)
  rw[pe,gApp_ok (show l0.length+1 ≤ 2500 from hl)]at e e2
  cases ok with
  |false=>exact xwp_toEnd (s:=S11 s G (a :: l0,p,false)) hcs hF 1000 e _ (lr (h0:=[]) (show 100 ≤ 102 by decide)) (fin hx.symm)
  |true =>
   simp only[Bool.not_true,cond_false]at e hx
   cases hpe:Nat.beq p s.size with
   |true =>
    rw[hpe,cond_true]at hx e2
    simp only[Bool.and_self,cond_true]at e2
    exact xwp_toEnd (s:=S11 s G (a :: l0,p,true)) hcs hF 1000 e2 _ (lr2 (l':=a :: l0) fun j hj=>rfl) (fin2 (l':=a :: l0) hx.symm)
   |false =>
    rw[hpe,cond_false]at hx e
    have hlt:p<s.size:=by
     rcases Nat.lt_or_ge p s.size with h|h
     ·exact h
     ·have:p=s.size:=by omega
      rw[this,Nat.beq_refl]at hpe;cases hpe
    rw[gt hlt,cond_true]at e
    cases hz:(tokF (rest s p)).2==0 with
    |true =>
     rw[hz,cond_true]at hx e
     exact xwp_toEnd (s:=S11 s G (a :: l0,p,true)) hcs hF 1000 e _ (lr (h0:=[]) (show 100 ≤ 102 by decide)) (fin hx.symm)
    |false =>
     rw[hz,cond_false]at hx e
     have ne:(((l0.length+1:Nat):Int)==2500)=Nat.beq (l0.length+1) 2500:=by
      rw[Bool.eq_iff_iff];simp[Nat.beq_eq];omega
     rw[ne]at e
     have hx:(bif Nat.beq (l0.length+1) 2500 then _ else _)=R:=hx
     cases hm:Nat.beq (l0.length+1) 2500 with
     |true =>
      rw[hm,cond_true]at hx e
      exact xwp_toEnd (s:=S11 s G (a :: l0,p,true)) hcs hF 1000 e _ (lr (h0:=[]) (show 100 ≤ 102 by decide)) (fin hx.symm)
     |false =>
      rw[hm,cond_false]at hx e
      rw[ga hlt]at e
      simp only[Bool.and_self,cond_true]at e
      have hz':(tokF (rest s p)).2≠0:=fun h=>by rw[h]at hz;cases hz
      have:=hr hlt
      have hl2:l0.length+1≠2500:=fun h=>by rw[h]at hm;cases hm
      have hl3:l0.length+1 ≤ 2500:=hl
      refine xwp_toEnd (s:=S11 s G (a :: l0,p,true)) hcs hF 1000 e _ (lm (l':=a :: l0) hlt fun j hj=>rfl) (hgo (by omega) (by omega) (by simp;omega) hx)
theorem c11_err {s:ByteArray}{G:Gv}{p:Nat}{e:Int} (h:lexF s=.inl (p,e)) (n:Nat):ADet Tryd.prog 11 [.string s] (mkH (glH G)) (.tuple ⟨[.slice none 0 0,.int .i64 (p:Int),.int .i64 e]⟩) [] n 0:=by
 have hb:=b11 (s:=s) (G:=G)
 rw[h]at hb
 exact adet_of_body hb piG [] rfl rfl hs_gl rfl rfl ⟨⟨rfl,rfl,rfl,rfl⟩,bis_tab,⟨rfl,rfl,rfl,rfl⟩,bis_tab,bis_tab,bis_tab,⟨rfl,rfl,rfl,rfl⟩,⟨rfl,rfl,rfl,rfl⟩,trivial⟩ rfl
theorem c11_ok {s:ByteArray}{G:Gv}{l:List Tk} (h:lexF s=.inr l) (a:Nat) (ha:20 ≤ a):ADet Tryd.prog 11 [.string s] (mkH (glH G)) (.tuple ⟨[newS a l.length,.int .i64 0,.int .i64 0]⟩) [(a,some (tkL l))] a 1:=by
 have hb:=b11 (s:=s) (G:=G)
 rw[h]at hb
 obtain⟨a,rfl⟩:∃ b,a=b+20:=⟨a-20,by omega⟩
 refine adet_of_body hb piG [(a+20,100)] ?_ rfl hs_gl rfl ?_ ?_ ?_
 ·unfold namesOK
  rw[show(piG.all fun p=>Nat.blt p.1 100&&isSomeEq (asc piG p.1) p.2)=true from rfl]
  simp[updRW,Nat.blt_eq,tkL,tkB,Blk.ro]
 ·show ren _ 4 (Value.tuple _)=_
  simp[ren,renP,renL,newS,asc,flip,Nat.beq_refl]
  rfl
 ·refine⟨?_,?_⟩
  ·simp only[natMem,flip,asc,Nat.beq_refl,cond_true,List.cons_append,List.nil_append,hget]
   exact bis_tkL
  ·exact⟨⟨rfl,rfl,rfl,rfl⟩,bis_tab,⟨rfl,rfl,rfl,rfl⟩,bis_tab,bis_tab,bis_tab,⟨rfl,rfl,rfl,rfl⟩,⟨rfl,rfl,rfl,rfl⟩,trivial⟩
 ·simp[namesOf,nodupB,natMem,asc,flip,Nat.beq_refl]
  exact⟨rfl,rfl⟩
def con11:Con Tryd.prog where
 f:=11
 run:=fun vs h n=>match vs,getG h with
  |[.string s],some G=>match lexF s with
   | .inl (p,e)=>some (mkH (glH G),.tuple ⟨[.slice none 0 0,.int .i64 (p:Int),.int .i64 e]⟩,[],0,true)
   | .inr l=>some (mkH (glH G),.tuple ⟨[newS n l.length,.int .i64 0,.int .i64 0]⟩,[(n,some (tkL l))],1,Nat.ble 20 n)
  |_,_=>none
 ok:=fun vs h n pre v upd news hx=>by
  split at hx
  ·rename_i s G hg
   split at hx
   ·rename_i p e hr
    simp only[Option.some.injEq,Prod.mk.injEq,and_true]at hx
    obtain⟨rfl,rfl,rfl,rfl⟩:=hx
    exact⟨getG_ok hg,c11_err hr n⟩
   ·rename_i l hr
    simp only[Option.some.injEq,Prod.mk.injEq]at hx
    obtain⟨rfl,rfl,rfl,rfl,hs⟩:=hx
    rw[Nat.ble_eq]at hs
    exact⟨getG_ok hg,c11_ok hr n hs⟩
  ·cases hx
set_option linter.unusedVariables false
set_option linter.unusedSimpArgs false
def sc10:Short:=scOf [con11,con14]
theorem FOK10:FnsOK Tryd.prog (lookF FL) sc10:=fok FOK _
theorem p10 (G:Gv):walk (lookF FL) sc10 1000 x10 (argTm 0 []) (mkH (glH G)) 100 ⟨[],[],[],[]⟩ ⟨[0],[],[],gIds⟩ ⟨[],[],[],[]⟩=some ⟨⟨[some (true,.bool true)],[],.ret,101⟩,none⟩:=by kernel_rfl
theorem b10 {G:Gv}:Body Tryd.prog 10 [] (mkH (glH G)) (.bool true) [] 100 0:=by
 refine body_of' mixed fx10 (by simp) fun E Q hP hn hcl hfin=>?_
 have hF:FnsOK E.P (lookF FL) sc10:=hP▸FOK10
 exact xwp_toEnd (s:=⟨_,_,_⟩) hcl hF 1000 (p10 G) ⟨mkT [0] [.bool true],mkH (glH G),100⟩ ⟨_,glH G,_,rfl,by rw[hn];rfl,by rw[hn];exact⟨rfl,trivial⟩,by rw[hn];exact gl_bs⟩ (hfin _ _ (fin_of rfl ⟨rfl,rfl,rfl,rfl,rfl,rfl,rfl,rfl,trivial⟩ (by rw[hn]) rfl))
theorem c10 {G:Gv} (n:Nat):ADet Tryd.prog 10 [] (mkH (glH G)) (.bool true) [] n 0 :=
 adet_of_body b10 piG [] rfl rfl hs_gl rfl rfl ⟨⟨rfl,rfl,rfl,rfl⟩,bis_tab,⟨rfl,rfl,rfl,rfl⟩,bis_tab,bis_tab,bis_tab,⟨rfl,rfl,rfl,rfl⟩,⟨rfl,rfl,rfl,rfl⟩,trivial⟩ rfl
def con10:Con Tryd.prog where
 f:=10
 run:=fun vs h n=>match vs,getG h with
  |[],some G=>some (mkH (glH G),.bool true,[],0,true)
  |_,_=>none
 ok:=fun vs h n pre v upd news hx=>by
  split at hx
  ·rename_i G hg
   simp only[Option.some.injEq,Prod.mk.injEq,and_true]at hx
   obtain⟨rfl,rfl,rfl,rfl⟩:=hx
   exact⟨getG_ok hg,c10 n⟩
  ·cases hx
end Go.X
namespace Go.X
open Go Go.Proofs Go.Proofs.YtghpjlmaamnnpaaDoor
set_option linter.unusedVariables false
set_option linter.unusedSimpArgs false
def laid0:List (String × DataW Unit):=Rows.lexReadsRow.laid
theorem d_first:(Rows.laid_unicode_utf8_first)=Lib.firstData:=by kernel_rfl
theorem d_accept:(Rows.laid_unicode_utf8_acceptRanges:DataW Unit)=Lib.acceptData:=by kernel_rfl
theorem d_case:Rows.laid_unicode_CaseRanges=Lib.caseData:=by kernel_rfl
theorem d_space:(Rows.laid_strings_asciiSpace:DataW Unit)=Lib.tabData .u8 ((List.range 256).map fun c=>(if Lib.isSp (UInt8.ofNat c)then 1 else 0:Int)):=by kernel_rfl
theorem tabIs_of_reads {P:Program}{W:World}{name:String}{k:IntKind}{zs:List Int}{g:Nat}{t e:TypeId}{n:Nat} (hg:P.globalNamed name=some g) (hty:(P.globals[g]?).map (·.type)=some t) (ht:P.underlying t=some (.array n e))
  (he:P.underlying e=some (.int k)) (hce:P.cellsOf e=1) (hct:P.cellsOf t=n) (h:Lib.VarReads P W name (Lib.tabData k zs)):Lib.TabIs P W name k zs:=by
 obtain⟨g',t',cs,fuel,p,hg',ht',hvar,hd⟩:=h
 obtain rfl:=Option.some.inj (hg.symm.trans hg')
 obtain rfl:=Option.some.inj (hty.symm.trans ht')
 unfold Lib.TabIs
 have:=Lib.cells_of_tab ht he hce hct hd
 rw[hvar,← this]
theorem star : "*" ++ "errors.errorString" = "*errors.errorString" := by decide
theorem row125 (u : TypeId) (h : Tryd.prog.typeName? 3 u = some "*errors.errorString") : u = 125 :=
 typeName_ptr_named (nm := "errors.errorString") (by rw [star]; kernel_rfl) (by kernel_rfl) (by decide) u (by rw [star]; exact h)
theorem cells9:Tryd.prog.cellsOf 9=1:=by kernel_rfl
theorem cells5:Tryd.prog.cellsOf 5=1:=by kernel_rfl
theorem cells97:Tryd.prog.cellsOf 97=256:=by kernel_rfl
theorem cells127:Tryd.prog.cellsOf 127=1:=by kernel_rfl
theorem max_of {W:World} (h:W.ShapedOpen Tryd.prog):∃ m,W.cell? ⟨0,0,none⟩=some (.int .i64 m) :=
 cell_of_shapedOpen_int (P:=Tryd.prog) (zero:=#[.int .i64 0]) (t:=3) h (of_decide_eq_true (by kernel_rfl)) (by kernel_rfl) rfl (by kernel_rfl) (by kernel_rfl) Tryd.underlying3
theorem e6:Tryd.lays159_ren.g 3=6 ∧ Tryd.lays159_ren.g 4=7 ∧ Tryd.lays159_ren.g 13=2:=⟨by kernel_rfl,by kernel_rfl,by kernel_rfl⟩
theorem utf_of {W : World} (h3 : Lib.VarReads Tryd.prog W "unicode/utf8.first" Lib.firstData) (h4 : Lib.VarReads Tryd.prog W "unicode/utf8.acceptRanges" Lib.acceptData) : Lib.Utf8Tabs (Tryd.lays159_ren.g 3) (Tryd.lays159_ren.g 4) W :=
 utf8Tabs_of_reads { Tryd.lays159 with } ⟨by kernel_rfl,by kernel_rfl,by kernel_rfl,by kernel_rfl,by kernel_rfl,by kernel_rfl,by kernel_rfl⟩ h3 h4
theorem casev_of {W : World} (h : Lib.VarReads Tryd.prog W "unicode.CaseRanges" Lib.caseData) : Lib.CaseVar (Tryd.lays159_ren.g 13) Lib.caseA W :=
 caseVar_of_reads { Tryd.lays159 with } (by kernel_rfl) ⟨by kernel_rfl,by kernel_rfl,by kernel_rfl,by kernel_rfl,by kernel_rfl,by kernel_rfl⟩ h
theorem sent_of {W : World} {n : String} {text : List UInt8} {g : Nat} {r : List (String × DataW Unit)} (h : laidMet Tryd.prog ((n, .iface "*errors.errorString" (.ptr (.agg [.lit (.string text)]))) :: r) W)
  (hg:Tryd.prog.globalNamed n=some g) (ht:(Tryd.prog.globals[g]?).map (·.type)=(Tryd.prog.globals[3]?).map (·.type)):∃ (a:Addr) (s:ByteArray),W.cell? ⟨g,0,none⟩=some (.iface 125 (.pointer (some a))):=by
 obtain⟨a,s,hv,_⟩:=laid_sentinel h hg (ht.trans (show _=some 55 by kernel_rfl)) Tryd.underlying55 row125 Tryd.underlying125 Tryd.underlying127 rfl rfl Tryd.underlying9 cells127 cells9
 exact⟨a,s,by simpa using World.var?_cell hg hv 0⟩
theorem mkH_mem:∀ {l:List (Nat × Blk)}{id:Nat}{b:Blk},hget (mkH l) id=some b → (id,b)∈l
 |[],_,_,h=>by cases h
 |(k,c) :: l,id,b,h=>by
  simp only[mkH,hget]at h
  cases hb:Nat.beq k id with
  |true =>
   rw[hb]at h
   cases h
   rw[← Nat.eq_of_beq_eq_true hb]
   exact .head _
  |false=>rw[hb]at h;exact .tail _ (mkH_mem h)
def rhL (R oR:Nat) (a0 a1:Addr):Rn
 |10=>some ⟨⟨0,0,none⟩,0,0⟩
 |11=>some ⟨⟨1,0,none⟩,0,0⟩
 |12=>some ⟨⟨2,0,none⟩,0,0⟩
 |13=>some ⟨⟨R,oR,none⟩,0,0⟩
 |14=>some ⟨⟨6,0,none⟩,0,0⟩
 |15=>some ⟨⟨7,0,none⟩,0,0⟩
 |16=>some ⟨⟨3,0,none⟩,0,0⟩
 |17=>some ⟨⟨4,0,none⟩,0,0⟩
 |18=>some ⟨a0,0,0⟩
 |19=>some ⟨a1,0,0⟩
 |_=>none
theorem tab_at {w:World}{k:Nat}{zs:List Int}{c:Array Value} (h:∀ i,w.cell? ⟨k,i,none⟩=c[i]?) (hc:c=(zs.map fun z=>Value.int .u8 z).toArray) (hz:zs≠[]){ρ:Rn}{l:L} (hl:l.addr=⟨k,0,none⟩){t:Nat}
  (ht:tabOf t []=zs.map fun z=>.int .u8 z):Holds Tryd.prog ρ w l (.glb k 0 t []):=by
 subst hc
 refine⟨hl,?_,fun i v hv=>?_⟩
 ·cases zs with
  |nil=>exact absurd rfl hz
  |cons z zs =>
   have h0:=h 0
   exact World.block_lt_of_cell? w ⟨k,0,none⟩ (h0.trans (by rfl))
 ·rw[ht]at hv
  have:=h i
  rw[List.getElem?_toArray,hv]at this
  rw[Nat.zero_add]
  rw[List.getElem?_map,Option.map_eq_some_iff]at hv
  obtain⟨z,_,rfl⟩:=hv
  exact⟨_,this,rfl,.int _ _⟩
theorem rel_of {W:World} (h:laidMetH Tryd.prog laid0 W) (hsh:W.ShapedOpen Tryd.prog):∃ (G:Gv) (ρ:Rn),RelH Tryd.prog ρ (hget (mkH (glH G))) W ∧ (∀ id,20 ≤ id → ρ id=none) ∧ ∀ id,id<10 → ρ id=none:=by
 rw[MakeChecks.laidMetH_plain _ _ _ (by kernel_rfl)]at h
 obtain⟨m,hm⟩:=max_of hsh
 obtain⟨a1,s1,h1⟩:=sent_of h.tail.tail.tail.tail (g:=4) (by kernel_rfl) (by kernel_rfl)
 obtain⟨a0,s0,h0⟩:=sent_of h.tail.tail.tail.tail.tail (g:=3) (by kernel_rfl) (by kernel_rfl)
 have r3 := Lib.laidMet.reads h (n := "unicode/utf8.acceptRanges") (d := Rows.laid_unicode_utf8_acceptRanges) (.tail _ (.tail _ (.tail _ (.head _))))
 have r7 := Lib.laidMet.reads h (n := "strings.asciiSpace") (d := Rows.laid_strings_asciiSpace) (.tail _ (.tail _ (.tail _ (.tail _ (.tail _ (.tail _ (.tail _ (.head _))))))))
 have r8 := Lib.laidMet.reads h (n := "unicode.CaseRanges") (d := Rows.laid_unicode_CaseRanges) (.tail _ (.tail _ (.tail _ (.tail _ (.tail _ (.tail _ (.tail _ (.tail _ (.head _)))))))))
 have r9 := Lib.laidMet.reads h (n := "unicode/utf8.first") (d := Rows.laid_unicode_utf8_first) (.tail _ (.tail _ (.tail _ (.tail _ (.tail _ (.tail _ (.tail _ (.tail _ (.tail _ (.head _))))))))))
 rw[d_accept]at r3
 rw[d_space]at r7
 rw[d_case]at r8
 rw[d_first]at r9
 have ht:=tabIs_of_reads (g:=1) (t:=97) (by kernel_rfl) (by kernel_rfl) Tryd.underlying97 Tryd.underlying5 cells5 cells97 r7
 obtain⟨u3,u4⟩:=utf_of r9 r3
 obtain⟨R,oR,cap,hc,hT⟩:=casev_of r8
 rw[e6.2.2]at hc
 rw[e6.1]at u3
 rw[e6.2.1]at u4
 have hz:∀ i,W.cell? ⟨1,i,none⟩=((((List.range 256).map fun c=>(if Lib.isSp (UInt8.ofNat c)then 1 else 0:Int)).map fun z=>Value.int .u8 z).toArray)[i]?:=fun i=>World.var?_cell (by kernel_rfl) ht i
 have lt:∀ {k o:Nat}{v:Value},W.cell? ⟨k,o,none⟩=some v → k<W.heap.size:=fun h=>World.block_lt_of_cell? W ⟨_,_,none⟩ h
 have z0:∀ a:Addr,a.add 0=a:=fun a=>by simp[Addr.add]
 refine⟨⟨m,cap,R,oR,125,125⟩,rhL R oR a0 a1,⟨fun id b hb=>?_,fun id b id' b' l l' hb _ _ hro=>?_⟩,fun id hid=>?_,fun id hid=>?_⟩
 ·have hm':=mkH_mem hb
  simp only[glH,List.mem_cons,List.not_mem_nil,or_false,Prod.mk.injEq]at hm'
  rcases hm' with⟨rfl,rfl⟩|⟨rfl,rfl⟩|⟨rfl,rfl⟩|⟨rfl,rfl⟩|⟨rfl,rfl⟩|⟨rfl,rfl⟩|⟨rfl,rfl⟩|⟨rfl,rfl⟩
  ·refine⟨_,rfl,rfl,lt hm,fun i v hv=>?_⟩
   match i,hv with
   |0,hv=>cases hv;exact⟨_,hm,rfl,.int _ _⟩
  ·refine⟨_,rfl,tab_at hz rfl (by decide) rfl ?_⟩
   simp[tabOf,List.map_map,Function.comp_def]
  ·refine⟨_,rfl,rfl,lt hc,fun i v hv=>?_⟩
   match i,hv with
   |0,hv =>
    cases hv
    refine⟨_,hc,rfl,?_⟩
    have:V (rhL R oR a0 a1) (.slice (some ⟨13,0,none⟩) 336 cap) (.slice (some ((⟨R,oR,none⟩:Addr).add 0)) 336 cap):=V.slc (l:=⟨⟨R,oR,none⟩,0,0⟩) (len:=336) (cap:=cap) (idx:=0) rfl
    rw[z0]at this
    rw[case_size]
    exact this
  ·refine⟨_,rfl,rfl,?_,fun i v hv=>?_⟩
   ·exact lt (hT 0 (by rw[case_size];omega)).1
   ·have hi:i<336*5:=by
     have:=(List.getElem?_eq_some_iff.1 hv).1
     rw[show(tabOf 4 []).length=1680 by kernel_rfl]at this
     exact this
    have hx:Lib.caseT[i / 5]?=some (Lib.caseA.getD (i / 5) (0,0,0,0,0)):=by
     have:i / 5<Lib.caseT.length:=by
      rw[show Lib.caseT.length=336 by kernel_rfl];omega
     simp[Lib.caseA,Array.getD,this]
    have hf:=Lib.flat5 Lib.caseT (i / 5) _ hx (i % 5) (Nat.mod_lt _ (by omega))
    have hi5:i / 5*5+i % 5=i:=by omega
    rw[hi5]at hf
    have hv':(Lib.caseT.flatMap Lib.cells5)[i]?=some v:=hv
    rw[hf]at hv'
    obtain⟨c0,c1,c2,c3,c4⟩:=hT (i / 5) (by rw[case_size];omega)
    have fin:W.cell? ⟨R,oR+i,none⟩=(Lib.cells5 (Lib.caseA.getD (i / 5) (0,0,0,0,0)))[i % 5]?:=by
     rw[show oR+i=oR+i / 5*5+i % 5 by omega]
     have hm:i % 5<5:=Nat.mod_lt _ (by omega)
     match hk:i % 5,hm with
     |0,_=>exact c0
     |1,_=>exact c1
     |2,_=>exact c2
     |3,_=>exact c3
     |4,_=>exact c4
    rw[hv']at fin
    refine⟨v,fin,?_⟩
    have hm:i % 5<5:=Nat.mod_lt _ (by omega)
    match hk:i % 5,hm with
    |0,_=>rw[hk]at hv';cases hv';exact⟨rfl,.int _ _⟩
    |1,_=>rw[hk]at hv';cases hv';exact⟨rfl,.int _ _⟩
    |2,_=>rw[hk]at hv';cases hv';exact⟨rfl,.int _ _⟩
    |3,_=>rw[hk]at hv';cases hv';exact⟨rfl,.int _ _⟩
    |4,_=>rw[hk]at hv';cases hv';exact⟨rfl,.int _ _⟩
  ·refine⟨_,rfl,rfl,lt (u3 0 (by omega)),fun i v hv=>?_⟩
   have hi:i<256:=by
    have:=(List.getElem?_eq_some_iff.1 hv).1
    rw[show(tabOf 2 []).length=256 by kernel_rfl]at this
    exact this
   rw[Nat.zero_add]
   simp only[tabOf,List.getElem?_map,List.getElem?_range hi,Option.map_some,Option.some.injEq]at hv
   subst hv
   exact⟨_,u3 i hi,rfl,.int _ _⟩
  ·refine⟨_,rfl,rfl,lt (u4 0 (by omega)).1,fun i v hv=>?_⟩
   have hi:i<32:=by
    have:=(List.getElem?_eq_some_iff.1 hv).1
    rw[show(tabOf 3 []).length=32 by kernel_rfl]at this
    exact this
   rw[Nat.zero_add]
   obtain⟨f1,f2⟩:=flat2 (fun i=>.int .u8 (Lib.accLo i)) (fun i=>.int .u8 (Lib.accHi i)) (List.range 16) (i / 2) (i / 2) (List.getElem?_range (by omega))
   obtain⟨g1,g2⟩:=u4 (i / 2) (by omega)
   rcases (show i=2*(i / 2) ∨ i=2*(i / 2)+1 by omega)with e|e
   ·rw[e]at hv ⊢
    have:=hv.symm.trans f1
    cases this
    exact⟨_,g1,rfl,.int _ _⟩
   ·rw[e]at hv ⊢
    have:=hv.symm.trans f2
    cases this
    exact⟨_,g2,rfl,.int _ _⟩
  ·refine⟨_,rfl,rfl,lt h0,fun i v hv=>?_⟩
   match i,hv with
   |0,hv =>
    cases hv
    refine⟨_,h0,rfl,.iface ?_⟩
    have:V (rhL R oR a0 a1) (.pointer (some ⟨18,0,some 0⟩)) (.pointer (some (a0.add 0))):=V.ptr (l:=⟨a0,0,0⟩) (idx:=0) (fo:=0) rfl
    rw[z0]at this
    exact this
  ·refine⟨_,rfl,rfl,lt h1,fun i v hv=>?_⟩
   match i,hv with
   |0,hv =>
    cases hv
    refine⟨_,h1,rfl,.iface ?_⟩
    have:V (rhL R oR a0 a1) (.pointer (some ⟨19,0,some 0⟩)) (.pointer (some (a1.add 0))):=V.ptr (l:=⟨a1,0,0⟩) (idx:=0) (fo:=0) rfl
    rw[z0]at this
    exact this
 ·have hm':=mkH_mem hb
  simp only[glH,List.mem_cons,List.not_mem_nil,or_false,Prod.mk.injEq]at hm'
  rcases hm' with⟨rfl,rfl⟩|⟨rfl,rfl⟩|⟨rfl,rfl⟩|⟨rfl,rfl⟩|⟨rfl,rfl⟩|⟨rfl,rfl⟩|⟨rfl,rfl⟩|⟨rfl,rfl⟩<;>cases hro
 ·unfold rhL
  split<;>first|omega|rfl
 ·unfold rhL
  split<;>first|omega|rfl
end Go.X
