import Derived.Test.YtghpjlmaamnnpaaDoorH30
import Derived.Test.YtghpjlmaamnnpaaDoorH27
import Derived.Test.YtghpjlmaamnnpaaDoorH29
set_option linter.all false
namespace Go.X
open Go Go.Proofs
set_option linter.unusedVariables false
set_option linter.unusedSimpArgs false
def scU3:Short:=scOf [con18,con19]
theorem FOKU3:FnsOK Tryd.prog (lookF FL) scU3:=fok FOK _
def gTk2 (s:ByteArray) (p:Nat):Bool:=(p.blt s.size&&s.size.blt 4611686018427387904||false)&&true
def gAt2 (s:ByteArray) (p:Nat):Bool:=(decide (0 ≤ (p:Int))&&decide ((p:Int) ≤ (tkA s p).2)&&decide ((tkA s p).2 ≤ (s.size:Int))&&true||false)&&true
def gG2 (s:ByteArray) (p:Nat):Bool:=(p.ble s.size&&s.size.blt 4611686018427387904||false)&&true
def tkNew2 (s:ByteArray) (p:Nat):Nat → List Value:=fun j=>slab [.int .i64 (tkA s p).1,.string (s.extract p (tkA s p).2.toNat),.int .i64 (p:Int)] ((0+j)*3) 3
abbrev W12 (v:Value) (h:List (Nat × Blk)) (s:ByteArray) (p:Nat) (ok:Bool) (rs rs':List Ref):Option Stop:=walk (lookF FL) scU3 1000 x12_38 (mkT [6,7,5,0] [.int .i64 (p:Int),.bool ok,v,.string s]) (mkH h) 102 ⟨[5,6],rs,[0],[]⟩ ⟨[2,3,4],rs',[],[]⟩ ⟨[],[],[],[]⟩
section
variable (s:ByteArray) (p:Nat) (ok:Bool) (n:Nat) (f:Nat → Tk)
theorem p12_0:walk (lookF FL) noSc 1000 x12 (argTm 0 [.string s]) [] 100 ⟨[],[],[],[]⟩ ⟨[2,3,4],[],[],[]⟩ ⟨[5,6],[],[0],[]⟩=bif decide ((s.size:Int)>8192)then ret3 (.slice none 0 0) 8192 3 100 []else some ⟨⟨[some (true,.slice none 0 0),iv 0],[],.normal,100⟩,some (x12_41,[.bl 0])⟩:=by kernel_rfl
theorem p12_8 (v:Value):walk (lookF FL) noSc 1000 (.region x12_8) (mkT [5,6,0] [v,.int .i64 (p:Int),.string s]) [] 102 ⟨[],[],[5,6,0],[]⟩ ⟨[],[],[],[]⟩ ⟨[],[],[],[]⟩=some ⟨⟨[],[],.normal,102⟩,none⟩:=by kernel_rfl
theorem p12_8b:walk (lookF FL) noSc 1000 (.region x12_8) (mkT [5,6,0] [newS 101 n,.int .i64 (p:Int),.string s]) (mkH [(101,tkB n f)]) 102 ⟨[],[],[5,6,0],[101]⟩ ⟨[],[],[],[]⟩ ⟨[],[],[],[]⟩=some ⟨⟨[],[],.normal,102⟩,none⟩:=by kernel_rfl
theorem p12_9 (v:Value):walk (lookF FL) scU3 1000 (.region x12_9) (mkT [5,6,0] [v,.int .i64 (p:Int),.string s]) [] 102 ⟨[6,7],[],[5,0],[]⟩ ⟨[],[],[],[]⟩ ⟨[],[],[],[]⟩=bif gG2 s p then some ⟨⟨[iv (gapG s s.size p).1,some (true,.bool (gapG s s.size p).2)],[],.normal,102⟩,none⟩else none:=by kernel_rfl
theorem p12_9b:walk (lookF FL) scU3 1000 (.region x12_9) (mkT [5,6,0] [newS 101 n,.int .i64 (p:Int),.string s]) (mkH [(101,tkB n f)]) 102 ⟨[6,7],[],[5,0],[101]⟩ ⟨[],[],[],[]⟩ ⟨[],[],[],[]⟩=bif gG2 s p then some ⟨⟨[iv (gapG s s.size p).1,some (true,.bool (gapG s s.size p).2)],[],.normal,102⟩,none⟩else none:=by kernel_rfl
theorem p12_n:W12 (.slice none 0 0) [] s p ok [.tmp 5] []=bif !ok then ret3 (.slice none 0 0) p 10 102 []else bif (p:Int)==(s.size:Int)then ret3 (newS 103 1) 0 0 104 []else bif gTk2 s p then
 bif (tkA s p).2==0 then ret3 (.slice none 0 0) p 10 102 []else bif decide (36 ≤ 1099511627776)&&true&&gAt2 s p then
  some ⟨⟨[some (true,newS 103 1),iv (tkA s p).2],[(103,some (.rows 1 3 (rowCat (fun _=>[]) 0 0 (tkNew2 s p)) true false))],.normal,104⟩,none⟩else none else none:=by kernel_rfl
theorem p12_ne:W12 (.slice none 0 0) [] s p true [.tmp 5] [.tmp 2]=bif (p:Int)==(s.size:Int)then ret3 (newS 103 1) 0 0 104 [(103,some (.rows 1 3 (rowCat (fun _=>[]) 0 0 (tkEnd p)) true false))]else bif gTk2 s p then
 bif (tkA s p).2==0 then none else bif decide (36 ≤ 1099511627776)&&true&&gAt2 s p then
  some ⟨⟨[some (true,newS 103 1),iv (tkA s p).2],[(103,some (.rows 1 3 (rowCat (fun _=>[]) 0 0 (tkNew2 s p)) true false))],.normal,104⟩,none⟩else none else none:=by kernel_rfl
theorem p12_b:W12 (newS 101 n) [(101,tkB n f)] s p ok [.tmp 5] []=bif !ok then ret3 (.slice none 0 0) p 10 102 []else bif (p:Int)==(s.size:Int)then bif gApp n&&true then ret3 (newS 103 (n+1)) 0 0 104 []else none else bif gTk2 s p then
 bif (tkA s p).2==0 then ret3 (.slice none 0 0) p 10 102 []else bif decide ((n:Int) ≥ 2500)then ret3 (.slice none 0 0) p 3 102 []else bif gApp n&&gAt2 s p then
  some ⟨⟨[some (true,newS 103 (n+1)),iv (tkA s p).2],[(103,some (.rows (n+1) 3 (rowCat (fun j=>tkRow (f j)) 0 n (tkNew2 s p)) true false))],.normal,104⟩,none⟩else none else none:=by kernel_rfl
theorem p12_be:W12 (newS 101 n) [(101,tkB n f)] s p true [.tmp 5] [.tmp 2]=bif (p:Int)==(s.size:Int)then bif gApp n&&true then ret3 (newS 103 (n+1)) 0 0 104 [(103,some (.rows (n+1) 3 (rowCat (fun j=>tkRow (f j)) 0 n (tkEnd p)) true false))]else none else bif gTk2 s p then
 bif (tkA s p).2==0 then none else bif decide ((n:Int) ≥ 2500)then none else bif gApp n&&gAt2 s p then
  some ⟨⟨[some (true,newS 103 (n+1)),iv (tkA s p).2],[(103,some (.rows (n+1) 3 (rowCat (fun j=>tkRow (f j)) 0 n (tkNew2 s p)) true false))],.normal,104⟩,none⟩else none else none:=by kernel_rfl
end
def S12 (s:ByteArray) (z:List Tk × Nat):St:=⟨mkT [5,6,0] [vTk z.1,.int .i64 (z.2:Int),.string s],mkH (exT z.1),102⟩
theorem b12 {s:ByteArray} (hss:s.size<4611686018427387904):Body Tryd.prog 12 [.string s] [] (v11 (lexF s)) (u11 100 (lexF s)) 100 (n11 (lexF s)):=by
 refine body_of' mixed fx12 (by simp) fun E Q hP hn hcl hfin=>?_
 have hF0:FnsOK E.P (lookF FL) noSc:=hP▸FOK
 have hF:FnsOK E.P (lookF FL) scU3:=hP▸FOKU3
 obtain⟨R,hR⟩:∃ R,lexF s=R:=⟨_,rfl⟩
 rw[hR]at hfin
 have lr:∀ {p:Nat}{e:Int}{n:Nat},LeafTo E [2,3,4] ⟨[some (true,.slice none 0 0),iv p,iv e],[],.ret,n⟩ ⟨mkT [2,3,4] [.slice none 0 0,.int .i64 (p:Int),.int .i64 e],[],100⟩:=fun {p e n} =>
  ⟨_,[],_,rfl,by rw[hn];rfl,by rw[hn];exact⟨rfl,rfl,rfl,trivial⟩,trivial⟩
 have fin:∀ {p:Nat}{e:Int},R=.inl (p,e) → Q .ret ⟨mkT [2,3,4] [.slice none 0 0,.int .i64 (p:Int),.int .i64 e],[],100⟩:=fun h=>by
  subst h
  exact hfin _ _ (fin_of rfl trivial (by rw[hn];rfl) rfl)
 by_cases hbig:(s.size:Int)>8192
 ·have e:=p12_0 s
  rw[decide_eq_true hbig,cond_true]at e
  refine xwp_toEnd (s:=⟨_,_,_⟩) hcl hF0 1000 e _ (lr (p:=8192) (e:=3)) (fin ?_)
  rw[← hR,lexF,decide_eq_true hbig,cond_true]
 have hsz:s.size ≤ 8192:=by omega
 have e0:=p12_0 s
 rw[decide_eq_false hbig,cond_false]at e0
 refine xwp_toLoop (s:=⟨_,_,_⟩) hF0 1000 e0 (S12 s ([],0)) ⟨_,[],_,rfl,by rw[hn];rfl,by rw[hn];exact⟨rfl,rfl,rfl,trivial⟩,trivial⟩ ?_
 let I:List Tk × Nat → Prop:=fun z=>z.2 ≤ s.size ∧ z.1.length ≤ 2500 ∧ ∃ f,s.size-(gapG s s.size z.2).1<f ∧ lexG s f z.1 (gapG s s.size z.2).1 (gapG s s.size z.2).2=R
 let μ:List Tk × Nat → Nat:=fun z=>s.size-z.2
 refine xwp_loopR (ι:=List Tk × Nat) (S12 s) I μ _ ⟨Nat.zero_le _,Nat.zero_le _,s.size+1,by simp only;omega,by rw[← hR,lexF,decide_eq_false hbig,cond_false]⟩ fun z hz=>?_
 have hcr:=cl_round (S:=S12 s) (I:=I) (μ:=μ) (i:=z) (cl_ctx hcl [.bl 0])
 obtain⟨l,q⟩:=z
 obtain⟨hq0,hl,f,hf,hx⟩:=hz
 simp only at hq0 hl hf hx
 have hgr:=gapG_rng s s.size q hq0
 have g9:gG2 s q=true:=by unfold gG2;rw[le_ble hq0,lt_blt hss];rfl
 have e9:=p12_9 s q
 have e9b:=p12_9b s q
 obtain⟨p,hpp⟩:∃ p,(gapG s s.size q).1=p:=⟨_,rfl⟩
 obtain⟨ok,hokk⟩:∃ ok,(gapG s s.size q).2=ok:=⟨_,rfl⟩
 rw[g9,hpp,hokk]at e9 e9b
 simp only[cond_true]at e9 e9b
 rw[hpp]at hgr hf hx
 rw[hokk]at hx
 have hp:p ≤ s.size:=hgr.2
 obtain⟨f,rfl⟩:∃ f',f=f'+1:=⟨f-1,by omega⟩
 rw[lexG]at hx
 refine xwp_block ?_
 have hcs:=cl_blockP (id:=1) hcr
 have hrt:=rest_size s p
 have hr:=fun h:p<s.size=>tokF_rng (s:=rest s p) (by omega)
 have gt:p<s.size → gTk2 s p=true:=fun h=>by
  unfold gTk2
  rw[lt_blt h,lt_blt hss];rfl
 have tz:((tkA s p).2==0)=((tokF (rest s p)).2==0) ∨ ¬ p<s.size:=by
  by_cases h:p<s.size
  ·left
   have:=hr h
   show((bif (tokF (rest s p)).2==0 then 0 else(p:Int)+(tokF (rest s p)).2)==0)=_
   cases hz:(tokF (rest s p)).2==0 with
   |true=>rfl
   |false =>
    have hz':(tokF (rest s p)).2≠0:=fun h=>by rw[h]at hz;cases hz
    rw[cond_false,beq_eq_false_iff_ne];omega
  ·exact .inr h
 have hq:p<s.size → ((tokF (rest s p)).2==0)=false → (tkA s p).2=((p+(tokF (rest s p)).2.toNat:Nat):Int):=fun h hz=>by
  have:=hr h
  show(bif (tokF (rest s p)).2==0 then 0 else(p:Int)+(tokF (rest s p)).2)=_
  rw[hz,cond_false];omega
 have ga:p<s.size → ((tokF (rest s p)).2==0)=false → gAt2 s p=true:=fun h hz=>by
  have:=hr h
  unfold gAt2
  rw[hq h hz,decide_eq_true (show 0 ≤ (p:Int) by omega),decide_eq_true (show(p:Int) ≤ _ by omega),decide_eq_true (show((p+(tokF (rest s p)).2.toNat:Nat):Int) ≤ (s.size:Int) by omega)];rfl
 have nw:p<s.size → ((tokF (rest s p)).2==0)=false → tkNew2 s p 0=tkRow ⟨(tokF (rest s p)).1,s.extract p (p+(tokF (rest s p)).2.toNat),p⟩:=fun h hz=>by
  unfold tkNew2
  rw[hq h hz];rfl
 have lr2:∀ {l':List Tk}{f0:Nat → List Value},(∀ j,j<l'.length → f0 j=tkRow (l'.getD j tk0)) → LeafTo E [2,3,4] ⟨[some (true,newS 103 (l'.length+1)),iv 0,iv 0],[(103,some (.rows (l'.length+1) 3 (rowCat f0 0 l'.length (tkEnd p)) true false))],.ret,104⟩
   ⟨mkT [2,3,4] [newS 100 (l'.length+1),.int .i64 0,.int .i64 0],mkH [(100,tkL (l'++[⟨0,⟨#[]⟩,p⟩]))],101⟩:=fun h =>
  ⟨_,[_],_,rfl,by rw[hn];rfl,by rw[hn];exact⟨rfl,rfl,rfl,trivial⟩,by rw[hn];exact⟨bis_app h rfl,trivial⟩⟩
 have fin2:∀ {l':List Tk},R=.inr (l'++[⟨0,⟨#[]⟩,p⟩]) → Q .ret ⟨mkT [2,3,4] [newS 100 (l'.length+1),.int .i64 0,.int .i64 0],mkH [(100,tkL (l'++[⟨0,⟨#[]⟩,p⟩]))],101⟩:=fun {l'} h=>by
  subst h
  exact hfin _ _ (fin_of rfl ⟨rfl,trivial⟩ (by rw[hn];rfl) (by
   show some (Value.tuple ⟨[newS 100 (l'.length+1),.int .i64 0,.int .i64 0]⟩)=some (Value.tuple ⟨[newS 100 (l'++[(⟨0,⟨#[]⟩,p⟩:Tk)]).length,.int .i64 0,.int .i64 0]⟩)
   rw[List.length_append];rfl))
 have lm:∀ {l':List Tk}{f0:Nat → List Value},p<s.size → ((tokF (rest s p)).2==0)=false → (∀ j,j<l'.length → f0 j=tkRow (l'.getD j tk0)) → LeafTo E [5,6,0] ⟨[some (true,newS 103 (l'.length+1)),iv (tkA s p).2,some (true,.string s)],[(103,some (.rows (l'.length+1) 3 (rowCat f0 0 l'.length (tkNew2 s p)) true false))],.normal,104⟩
   (S12 s (l'++[⟨(tokF (rest s p)).1,s.extract p (p+(tokF (rest s p)).2.toNat),p⟩],p+(tokF (rest s p)).2.toNat)):=fun h hz hf0=>by
  unfold S12
  rw[vTk_app,exT_app,hq h hz]
  exact⟨_,[_],_,rfl,by rw[hn];rfl,by rw[hn];exact⟨rfl,rfl,rfl,trivial⟩,by rw[hn];exact⟨bis_app hf0 (nw h hz),trivial⟩⟩
 have nx:∀ {l':List Tk} {q':Nat},q<q' → q' ≤ s.size → l'.length ≤ 2500 → lexG s f l' (gapG s s.size q').1 (gapG s s.size q').2=R → p<q' →
   blockP 1 (roundP E.toEnv (S12 s) I μ (l,q) (ctxP E.toEnv [.bl 0] Q)) .normal (S12 s (l',q')):=fun {l' q'} h1 h2 h3 h4 h5=>by
  have hg:=gapG_rng s s.size q' h2
  exact⟨(l',q'),⟨h2,h3,f,by simp only;omega,h4⟩,by show s.size-q'<s.size-q;omega,Wk.refl _ _⟩
 have pe:((p:Int)==(s.size:Int))=Nat.beq p s.size:=by
  rw[Bool.eq_iff_iff];simp[Nat.beq_eq];omega
 cases l with
 |nil =>
  refine xwp_seq (xwp_toEnd (s:=S12 s ([],q)) (cl_seqP hcs) hF0 1000 (p12_8 s q (.slice none 0 0)) (S12 s ([],q)) ⟨_,[],_,rfl,by rw[hn];rfl,by rw[hn];exact⟨rfl,rfl,rfl,trivial⟩,trivial⟩ ?_)
  refine xwp_seq (xwp_toEnd (s:=S12 s ([],q)) (cl_seqP hcs) hF 1000 (e9 (.slice none 0 0)) ⟨mkT [6,7,5,0] [.int .i64 (p:Int),.bool ok,.slice none 0 0,.string s],[],102⟩ ⟨_,[],_,rfl,by rw[hn];rfl,by rw[hn];exact⟨rfl,rfl,rfl,rfl,trivial⟩,trivial⟩ ?_)
  have e:=p12_n s p ok
  have e2:=p12_ne s p
  rw[pe]at e e2
  cases ok with
  |false=>exact xwp_toEnd (s:=⟨_,_,_⟩) hcs hF 1000 e _ lr (fin hx.symm)
  |true =>
   simp only[Bool.not_true,cond_false]at e hx
   cases hpe:Nat.beq p s.size with
   |true =>
    rw[hpe,cond_true]at hx e2
    exact xwp_toEnd (s:=⟨_,_,_⟩) hcs hF 1000 e2 _ (lr2 (l':=[]) (f0:=fun _=>[]) fun j hj=>absurd hj (Nat.not_lt_zero _)) (fin2 (l':=[]) hx.symm)
   |false =>
    rw[hpe,cond_false]at hx e
    have hlt:p<s.size:=by
     rcases Nat.lt_or_ge p s.size with h|h
     ·exact h
     ·have:p=s.size:=by omega
      rw[this,Nat.beq_refl]at hpe;cases hpe
    have tz:=tz.resolve_right (fun h=>h hlt)
    rw[gt hlt,cond_true,tz]at e
    cases hz:(tokF (rest s p)).2==0 with
    |true =>
     rw[hz,cond_true]at hx e
     exact xwp_toEnd (s:=⟨_,_,_⟩) hcs hF 1000 e _ lr (fin hx.symm)
    |false =>
     rw[hz,cond_false]at hx e
     rw[ga hlt hz,show decide (36 ≤ 1099511627776)=true from rfl]at e
     simp only[Bool.and_self,cond_true]at e
     have hz':(tokF (rest s p)).2≠0:=fun h=>by rw[h]at hz;cases hz
     have:=hr hlt
     exact xwp_toEnd (s:=⟨_,_,_⟩) hcs hF 1000 e _ (lm (l':=[]) (f0:=fun _=>[]) hlt hz fun j hj=>absurd hj (Nat.not_lt_zero _)) (nx (l':=[_]) (by omega) (by omega) (by simp) hx (by omega))
 |cons a l0 =>
  refine xwp_seq (xwp_toEnd (s:=S12 s (a :: l0,q)) (cl_seqP hcs) hF0 1000 (p12_8b s q (l0.length+1) (fun j=>(a :: l0).getD j tk0)) (S12 s (a :: l0,q)) ⟨_,[(101,tkL (a :: l0))],_,rfl,by rw[hn];rfl,by rw[hn];exact⟨rfl,rfl,rfl,trivial⟩,by rw[hn];exact⟨bis_tkL,trivial⟩⟩ ?_)
  refine xwp_seq (xwp_toEnd (s:=S12 s (a :: l0,q)) (cl_seqP hcs) hF 1000 (e9b (l0.length+1) (fun j=>(a :: l0).getD j tk0)) ⟨mkT [6,7,5,0] [.int .i64 (p:Int),.bool ok,newS 101 (l0.length+1),.string s],mkH [(101,tkL (a :: l0))],102⟩ ⟨_,[(101,tkL (a :: l0))],_,rfl,by rw[hn];rfl,by rw[hn];exact⟨rfl,rfl,rfl,rfl,trivial⟩,by rw[hn];exact⟨bis_tkL,trivial⟩⟩ ?_)
  have e:=p12_b s p ok (l0.length+1) (fun j=>(a :: l0).getD j tk0)
  have e2:=p12_be s p (l0.length+1) (fun j=>(a :: l0).getD j tk0)
  rw[pe,gApp_ok (show l0.length+1 ≤ 2500 from hl)]at e e2
  cases ok with
  |false=>exact xwp_toEnd (s:=⟨_,_,_⟩) hcs hF 1000 e _ lr (fin hx.symm)
  |true =>
   simp only[Bool.not_true,cond_false]at e hx
   cases hpe:Nat.beq p s.size with
   |true =>
    rw[hpe,cond_true]at hx e2
    simp only[Bool.and_self,cond_true]at e2
    exact xwp_toEnd (s:=⟨_,_,_⟩) hcs hF 1000 e2 _ (lr2 (l':=a :: l0) fun j hj=>rfl) (fin2 (l':=a :: l0) hx.symm)
   |false =>
    rw[hpe,cond_false]at hx e
    have hlt:p<s.size:=by
     rcases Nat.lt_or_ge p s.size with h|h
     ·exact h
     ·have:p=s.size:=by omega
      rw[this,Nat.beq_refl]at hpe;cases hpe
    have tz:=tz.resolve_right (fun h=>h hlt)
    rw[gt hlt,cond_true,tz]at e
    cases hz:(tokF (rest s p)).2==0 with
    |true =>
     rw[hz,cond_true]at hx e
     exact xwp_toEnd (s:=⟨_,_,_⟩) hcs hF 1000 e _ lr (fin hx.symm)
    |false =>
     rw[hz,cond_false]at hx e
     have hl3:l0.length+1 ≤ 2500:=hl
     have ne:decide (((l0.length+1:Nat):Int) ≥ 2500)=Nat.beq (l0.length+1) 2500:=by
      rw[Bool.eq_iff_iff];simp[Nat.beq_eq];omega
     rw[ne]at e
     have hx:(bif Nat.beq (l0.length+1) 2500 then _ else _)=R:=hx
     cases hm:Nat.beq (l0.length+1) 2500 with
     |true =>
      rw[hm,cond_true]at hx e
      exact xwp_toEnd (s:=⟨_,_,_⟩) hcs hF 1000 e _ lr (fin hx.symm)
     |false =>
      rw[hm,cond_false]at hx e
      rw[ga hlt hz]at e
      simp only[Bool.and_self,cond_true]at e
      have hz':(tokF (rest s p)).2≠0:=fun h=>by rw[h]at hz;cases hz
      have:=hr hlt
      have hl2:l0.length+1≠2500:=fun h=>by rw[h]at hm;cases hm
      exact xwp_toEnd (s:=⟨_,_,_⟩) hcs hF 1000 e _ (lm (l':=a :: l0) hlt hz fun j hj=>rfl) (nx (by omega) (by omega) (by simp;omega) hx (by omega))
theorem c12_err {s:ByteArray}{p:Nat}{e:Int} (hs:s.size<4611686018427387904) (h:lexF s=.inl (p,e)) (n:Nat):ADet Tryd.prog 12 [.string s] [] (.tuple ⟨[.slice none 0 0,.int .i64 (p:Int),.int .i64 e]⟩) [] n 0:=by
 have hb:=b12 hs
 rw[h]at hb
 exact adet_of_body hb [] [] rfl rfl trivial rfl rfl trivial rfl
theorem c12_ok {s:ByteArray}{l:List Tk} (hs:s.size<4611686018427387904) (h:lexF s=.inr l) (a:Nat) (ha:20 ≤ a):ADet Tryd.prog 12 [.string s] [] (.tuple ⟨[newS a l.length,.int .i64 0,.int .i64 0]⟩) [(a,some (tkL l))] a 1:=by
 have hb:=b12 hs
 rw[h]at hb
 obtain⟨a,rfl⟩:∃ b,a=b+20:=⟨a-20,by omega⟩
 refine adet_of_body hb [] [(a+20,100)] ?_ rfl trivial rfl ?_ ?_ ?_
 ·simp[namesOK,updRW,Nat.blt_eq,tkL,tkB,Blk.ro]
 ·show ren _ 4 (Value.tuple _)=_
  simp[ren,renP,renL,newS,asc,flip,Nat.beq_refl]
  rfl
 ·refine⟨?_,trivial⟩
  simp only[natMem,flip,asc,Nat.beq_refl,cond_true,List.cons_append,List.nil_append,hget]
  exact bis_tkL
 ·simp[namesOf,nodupB,natMem,asc,flip,Nat.beq_refl]
noncomputable def con12R (R:Sum (Nat × Int) (List Tk)):Con Tryd.prog where
 f:=12
 run:=fun vs h n=>match vs with
  |[.string s]=>match R with
   | .inl (p,e)=>some ([],.tuple ⟨[.slice none 0 0,.int .i64 (p:Int),.int .i64 e]⟩,[],0,Nat.blt s.size 4611686018427387904&&decP (lexF s=R))
   | .inr l=>some ([],.tuple ⟨[newS n l.length,.int .i64 0,.int .i64 0]⟩,[(n,some (tkL l))],1,Nat.ble 20 n&&(Nat.blt s.size 4611686018427387904&&decP (lexF s=R)))
  |_=>none
 ok:=fun vs h n pre v upd news hx=>by
  split at hx
  ·rename_i s
   split at hx
   ·simp only[Option.some.injEq,Prod.mk.injEq,Bool.and_eq_true]at hx
    obtain⟨rfl,rfl,rfl,rfl,hb,hs⟩:=hx
    rw[Nat.blt_eq]at hb
    exact⟨fun id hid=>by simp[fstL]at hid,c12_err hb (of_decP hs) n⟩
   ·simp only[Option.some.injEq,Prod.mk.injEq,Bool.and_eq_true]at hx
    obtain⟨rfl,rfl,rfl,rfl,hs,hb,hr⟩:=hx
    rw[Nat.ble_eq]at hs
    rw[Nat.blt_eq]at hb
    exact⟨fun id hid=>by simp[fstL]at hid,c12_ok hb (of_decP hr) n hs⟩
  ·cases hx
set_option linter.unusedVariables false
set_option linter.unusedSimpArgs false
set_option linter.unusedVariables false
set_option linter.unusedSimpArgs false
def kt (t:Tk):Int × List UInt8:=(t.kind,t.text.data.toList)
set_option linter.unusedVariables false
set_option linter.unusedSimpArgs false
set_option linter.unusedVariables false
set_option linter.unusedSimpArgs false
section
variable (A B C:Nat) (fa fb fc:Nat → Tk) (G:Gv)
end
def scA9:Short:=scOf [con10]
theorem FOKA9:FnsOK Tryd.prog (lookF FL) scA9:=fok FOK _
noncomputable def scR (R:Sum (Nat × Int) (List Tk)):Short:=scOf [con11R R]
theorem FOKR (R:Sum (Nat × Int) (List Tk)):FnsOK Tryd.prog (lookF FL) (scR R):=fok FOK _
def rt9 (b:Bool) (n:Nat):Option Stop:=some ⟨⟨[some (true,.bool b)],[],.ret,n⟩,none⟩
set_option linter.unusedVariables false
set_option linter.unusedSimpArgs false
theorem bis_tkB {P:Program}{σ:Nm}{n:Nat}{f:Nat → Tk}:BIs P σ (tkB n f) (tkB n f):=⟨rfl,rfl,fun _ _=>rnL_tk,.inl rfl,.inr rfl⟩
set_option linter.unusedVariables false
set_option linter.unusedSimpArgs false
abbrev h13 (N:Nat) (f:Nat → Tk):Hp:=mkH [(40,tkB N f),(41,tkB N f)]
section
variable (N:Nat) (f:Nat → Tk) (i:Nat)
theorem p13_0:walk (lookF FL) noSc 1000 x13 (argTm 0 [newS 40 N,newS 41 N]) (h13 N f) 100 ⟨[],[],[],[]⟩ ⟨[4],[],[],[40,41]⟩ ⟨[13,12],[],[0,1],[40,41]⟩=bif (N:Int) != (N:Int)then rt9 false 100 else some ⟨⟨[iv 0,iv N],[],.normal,100⟩,some (x13_20,[.bl 0,.sq x13_25])⟩:=by kernel_rfl
def q13 (t:Tk):Bool:=t.kind==t.kind&&(t.text.toList==t.text.toList&&(((t.at_:Int)==(t.at_:Int))&&true))
theorem q13_true (t:Tk):q13 t=true:=by unfold q13;simp
theorem p13_l:walk (lookF FL) noSc 1000 x13_20 (mkT [13,12,0,1] [.int .i64 (i:Int),.int .i64 (N:Int),newS 40 N,newS 41 N]) (h13 N f) 100 ⟨[13],[],[12,0,1],[40,41]⟩ ⟨[4],[],[],[40,41]⟩ ⟨[],[],[],[]⟩=bif decide ((i:Int)<(N:Int))then bif ((0+i).blt N&&true||false)&&((intRange i N&&true||false)&&(((0+i).blt N&&true||false)&&((intRange i N&&true||false)&&true)))then bif !q13 (f (0+i))then rt9 false 100 else some ⟨⟨[iv (IntKind.i64.wrap ((i:Int)+1))],[],.normal,100⟩,none⟩else none else some ⟨⟨[iv i],[],.exit 0,100⟩,none⟩:=by kernel_rfl
theorem p13_25:walk (lookF FL) noSc 1000 x13_25 (mkT [13,12,0,1] [.int .i64 (i:Int),.int .i64 (N:Int),newS 40 N,newS 41 N]) (h13 N f) 100 ⟨[],[],[],[]⟩ ⟨[4],[],[],[40,41]⟩ ⟨[],[],[],[]⟩=rt9 true 100:=by kernel_rfl
end
theorem p13_0n:walk (lookF FL) noSc 1000 x13 (argTm 0 [.slice none 0 0,.slice none 0 0]) [] 100 ⟨[],[],[],[]⟩ ⟨[4],[],[],[]⟩ ⟨[13,12],[],[],[]⟩=some ⟨⟨[iv 0,iv 0],[],.normal,100⟩,some (x13_20,[.bl 0,.sq x13_25])⟩:=by kernel_rfl
theorem p13_ln:walk (lookF FL) noSc 1000 x13_20 (mkT [13,12] [.int .i64 0,.int .i64 0]) [] 100 ⟨[13],[],[12],[]⟩ ⟨[4],[],[],[]⟩ ⟨[],[],[],[]⟩=some ⟨⟨[iv 0],[],.exit 0,100⟩,none⟩:=by kernel_rfl
theorem p13_25n:walk (lookF FL) noSc 1000 x13_25 (mkT [13,12] [.int .i64 0,.int .i64 0]) [] 100 ⟨[],[],[],[]⟩ ⟨[4],[],[],[]⟩ ⟨[],[],[],[]⟩=rt9 true 100:=by kernel_rfl
def Z13 (N:Nat) (f:Nat → Tk) (i:Nat):St:=⟨mkT [13,12,0,1] [.int .i64 (i:Int),.int .i64 (N:Int),newS 40 N,newS 41 N],h13 N f,100⟩
theorem b13 {N:Nat}{f:Nat → Tk} (hN:N<4611686018427387904):Body Tryd.prog 13 [newS 40 N,newS 41 N] (h13 N f) (.bool true) [] 100 0:=by
 refine body_of' mixed fx13 (by simp) fun E Q hP hn hcl hfin=>?_
 have hF0:FnsOK E.P (lookF FL) noSc:=hP▸FOK
 have hq:Q .ret ⟨mkT [4] [.bool true],h13 N f,100⟩:=hfin _ _ (fin_of rfl ⟨rfl,rfl,trivial⟩ (by rw[hn]) rfl)
 have lr:∀ {n:Nat},LeafTo E [4] ⟨[some (true,.bool true)],h13 N f,.ret,n⟩ ⟨mkT [4] [.bool true],h13 N f,100⟩:=fun {n} =>
  ⟨_,[(40,tkB N f),(41,tkB N f)],_,rfl,by rw[hn];rfl,by rw[hn];exact⟨rfl,trivial⟩,by rw[hn];exact⟨bis_tkB,bis_tkB,trivial⟩⟩
 have lz:∀ {i:Nat}{x:Exit},LeafTo E [13,12,0,1] ⟨[iv i,iv N,some (true,newS 40 N),some (true,newS 41 N)],h13 N f,x,100⟩ (Z13 N f i):=fun {i x} =>
  ⟨_,[(40,tkB N f),(41,tkB N f)],_,rfl,by rw[hn];rfl,by rw[hn];exact⟨rfl,rfl,rfl,rfl,trivial⟩,by rw[hn];exact⟨bis_tkB,bis_tkB,trivial⟩⟩
 have e0:=p13_0 N f
 rw[bne_self_eq_false]at e0
 refine xwp_toLoop (s:=⟨_,_,_⟩) hF0 1000 e0 (Z13 N f 0) lz ?_
 refine xwp_loopR (ι:=Nat) (Z13 N f) (fun i=>i ≤ N) (fun i=>N-i) 0 (Nat.zero_le _) fun i hi=>?_
 have hcr:=cl_round (S:=Z13 N f) (I:=fun i=>i ≤ N) (μ:=fun i=>N-i) (i:=i) (cl_ctx hcl [.bl 0,.sq x13_25])
 have el:=p13_l N f i
 by_cases hlt:i<N
 ·rw[decide_eq_true (by omega),Nat.zero_add,lt_blt hlt,ir_nat,decide_eq_true hlt,q13_true,wrap_i (by omega) (by omega)]at el
  exact xwp_toEnd (s:=Z13 N f i) hcr hF0 1000 el (Z13 N f (i+1)) lz ⟨i+1,hlt,by simp only;omega,Wk.refl _ _⟩
 ·rw[decide_eq_false (by omega)]at el
  refine xwp_toEnd (s:=Z13 N f i) hcr hF0 1000 el (Z13 N f i) lz ?_
  show XWP E.toEnv x13_25 Q (Z13 N f i)
  exact xwp_toEnd (s:=Z13 N f i) hcl hF0 1000 (p13_25 N f i) _ lr hq
theorem b13n:Body Tryd.prog 13 [.slice none 0 0,.slice none 0 0] [] (.bool true) [] 100 0:=by
 refine body_of' mixed fx13 (by simp) fun E Q hP hn hcl hfin=>?_
 have hF0:FnsOK E.P (lookF FL) noSc:=hP▸FOK
 let S:Nat → St:=fun _=>⟨mkT [13,12] [.int .i64 0,.int .i64 0],[],100⟩
 have lz:∀ {x:Exit},LeafTo E [13,12] ⟨[iv 0,iv 0],[],x,100⟩ (S 0):=fun {x}=>⟨_,[],_,rfl,by rw[hn];rfl,by rw[hn];exact⟨rfl,rfl,trivial⟩,trivial⟩
 refine xwp_toLoop (s:=⟨_,_,_⟩) hF0 1000 p13_0n (S 0) lz ?_
 refine xwp_loopR (ι:=Nat) S (fun _=>True) (fun _=>0) 0 trivial fun i _=>?_
 have hcr:=cl_round (S:=S) (I:=fun _=>True) (μ:=fun _=>0) (i:=i) (cl_ctx hcl [.bl 0,.sq x13_25])
 refine xwp_toEnd (s:=S i) hcr hF0 1000 p13_ln (S i) lz ?_
 show XWP E.toEnv x13_25 Q (S i)
 exact xwp_toEnd (s:=S i) hcl hF0 1000 p13_25n ⟨mkT [4] [.bool true],[],100⟩ ⟨_,[],_,rfl,by rw[hn];rfl,by rw[hn];exact⟨rfl,trivial⟩,trivial⟩ (hfin _ _ (fin_of rfl trivial (by rw[hn]) rfl))
theorem c13n (n:Nat):ADet Tryd.prog 13 [.slice none 0 0,.slice none 0 0] [] (.bool true) [] n 0 :=
 adet_of_body b13n [] [] rfl rfl trivial rfl rfl trivial rfl
theorem c13 {l:List Tk} (hl:l.length<4611686018427387904){x:Nat} (hx:x=100 ∨ x=102) (n:Nat):ADet Tryd.prog 13 [newS x l.length,newS 101 l.length] [(x,some (tkL l)),(101,some (tkL l))] (.bool true) [] n 0:=by
 have hb:=b13 (f:=fun j=>l.getD j tk0) hl
 rcases hx with rfl|rfl
 ·exact adet_of_body hb [(40,100),(41,101)] [] rfl rfl ⟨bis_tkL,bis_tkL,trivial⟩ rfl rfl ⟨bis_tkL,bis_tkL,trivial⟩ rfl
 ·exact adet_of_body hb [(40,102),(41,101)] [] rfl rfl ⟨bis_tkL,bis_tkL,trivial⟩ rfl rfl ⟨bis_tkL,bis_tkL,trivial⟩ rfl
noncomputable def con13 (x:Nat) (l:List Tk):Con Tryd.prog where
 f:=13
 run:=fun vs h n=>some ([(x,some (tkL l)),(101,some (tkL l))],.bool true,[],0,(Nat.beq x 100||Nat.beq x 102)&&(Nat.blt l.length 4611686018427387904&&decP (vs=[newS x l.length,newS 101 l.length] ∧ hget h x=some (tkL l) ∧ hget h 101=some (tkL l))))
 ok:=fun vs h n pre v upd news hx=>by
  simp only[Option.some.injEq,Prod.mk.injEq,Bool.and_eq_true,Bool.or_eq_true]at hx
  obtain⟨rfl,rfl,rfl,rfl,h1,h2,h3⟩:=hx
  rw[Nat.blt_eq]at h2
  obtain⟨rfl,h4,h5⟩:=of_decP h3
  have h1:x=100 ∨ x=102:=h1.imp Nat.eq_of_beq_eq_true Nat.eq_of_beq_eq_true
  have hne:Nat.beq x 101=false:=by rcases h1 with rfl|rfl<;>rfl
  refine⟨fun id hid=>?_,c13 h2 h1 n⟩
  simp only[fstL,List.mem_cons,List.not_mem_nil,or_false]at hid
  rcases hid with rfl|rfl
  ·rw[h4];simp[hget,Nat.beq_refl]
  ·rw[h5];simp[hget,hne,Nat.beq_refl]
def con13n:Con Tryd.prog where
 f:=13
 run:=fun vs h n=>match vs with
  |[.slice none 0 0,.slice none 0 0]=>some ([],.bool true,[],0,true)
  |_=>none
 ok:=fun vs h n pre v upd news hx=>by
  split at hx
  ·simp only[Option.some.injEq,Prod.mk.injEq,and_true]at hx
   obtain⟨rfl,rfl,rfl,rfl⟩:=hx
   exact⟨fun id hid=>by simp[fstL]at hid,c13n n⟩
  ·cases hx
end Go.X
