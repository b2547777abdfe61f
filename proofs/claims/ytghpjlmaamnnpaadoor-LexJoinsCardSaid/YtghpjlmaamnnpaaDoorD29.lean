import Derived.Test.YtghpjlmaamnnpaaDoorD28
set_option linter.all false
namespace Go.X
open Go Go.Proofs
set_option linter.unusedVariables false
set_option linter.unusedSimpArgs false
theorem g9_true:∀ b,g9 b=true:=by decide
theorem gl9_true:∀ b u v:Bool,u=true → v=true → gl9 b u v=true:=by decide
theorem kt_at {l:List Tk}{q:List (Int × List UInt8)} (h:l.map kt=q) (i:Nat) (hi:i<l.length):q[i]?=some (kt (l.getD i tk0)):=by
 rw[← h,List.getElem?_map,List.getElem?_eq_getElem hi,List.getD_eq_getElem?_getD,List.getElem?_eq_getElem hi];rfl
theorem kt_inj {a b:Tk} (h:kt a=kt b):a.kind=b.kind ∧ a.text.toList=b.text.toList:=by
 unfold kt at h
 rw[Prod.mk.injEq]at h
 exact⟨h.1,by rw[toList_data,toList_data,h.2]⟩
def fj9 (la lb:List Tk) (A:Nat):Nat → Tk:=fun j=>if j<A then la.getD j tk0 else lb.getD (j-A) tk0
theorem bis9a {P:Program}{σ:Nm}{la lb:List Tk}{A B:Nat}{r0:Nat → List Value} (h0:∀ j,j<A → r0 (0+j)=tkRow (la.getD j tk0)):BIs P σ (tkB (A+B) (fj9 la lb A)) (.rows (A+B) 3 (rowCat r0 0 A (ft fun j=>lb.getD j tk0)) true false):=by
 refine⟨rfl,rfl,fun j hj=>?_,.inl rfl,.inr rfl⟩
 show tkRow (fj9 la lb A j)=cond (Nat.blt j A) (r0 (0+j)) (ft (fun j=>lb.getD j tk0) (j-A))
 unfold fj9
 by_cases h:j<A
 ·rw[lt_blt h,if_pos h,cond_true,h0 j h]
 ·have hb:Nat.blt j A=false:=by rw[blt_dec];simp;omega
  rw[hb,if_neg h,cond_false]
  unfold ft
  rw[Nat.zero_add]
def S9 (G:Gv) (N C:Nat) (fx fc:Nat → Tk) (i:Nat):St:=⟨mkT ks9 [.int .i64 (i:Int),.int .i64 (N:Int),newS 104 N,newS 102 C],mkH ((104,tkB N fx) :: (102,tkB C fc) :: glH G),105⟩
theorem bis_tkB {P:Program}{σ:Nm}{n:Nat}{f:Nat → Tk}:BIs P σ (tkB n f) (tkB n f):=⟨rfl,rfl,fun _ _=>rnL_tk,.inl rfl,.inr rfl⟩
theorem b9 {s t:ByteArray}{G:Gv}:Body Tryd.prog 9 [.string s,.string t] (mkH (glH G)) (.bool true) [] 100 0:=by
 refine body_of' mixed fx9 (by simp) fun E Q hP hn hcl hfin=>?_
 have hFA:FnsOK E.P (lookF FL) scA9:=hP▸FOKA9
 have hF0:FnsOK E.P (lookF FL) noSc:=hP▸FOK
 have hFR:∀ R,FnsOK E.P (lookF FL) (scR R):=fun R=>by rw[hP];exact FOKR R
 have hq:Q .ret ⟨mkT [4] [.bool true],mkH (glH G),100⟩:=hfin _ _ (fin_of rfl ⟨rfl,rfl,rfl,rfl,rfl,rfl,rfl,rfl,trivial⟩ (by rw[hn]) rfl)
 have lr:∀ {n:Nat},LeafTo E [4] ⟨[some (true,.bool true)],mkH (glH G),.ret,n⟩ ⟨mkT [4] [.bool true],mkH (glH G),100⟩:=fun {n} =>
  ⟨_,glH G,_,rfl,by rw[hn];rfl,by rw[hn];exact⟨rfl,trivial⟩,by rw[hn];exact gl_bs⟩
 refine xwp_seq (xwp_toEnd (s:=⟨_,_,_⟩) (cl_seqP hcl) hFA 1000 (p9_0 s t G) ⟨mkT [0,1] [.string s,.string t],mkH (glH G),100⟩ ⟨_,glH G,_,rfl,by rw[hn];rfl,by rw[hn];exact⟨rfl,rfl,trivial⟩,by rw[hn];exact gl_bs⟩ ?_)
 have e5:=p9_5 s t G
 rw[g9_true,cond_true]at e5
 by_cases hbig:(s.size:Int)>1000 ∨ (t.size:Int)>1000
 ·have hc:(bif decide ((s.size:Int)>1000)then true else decide ((t.size:Int)>1000))=true:=by
   rcases hbig with h|h
   ·rw[decide_eq_true h];rfl
   ·rw[decide_eq_true h];cases decide ((s.size:Int)>1000)<;>rfl
  rw[hc]at e5
  exact xwp_seq (xwp_toEnd (s:=⟨_,_,_⟩) (cl_seqP hcl) hFA 1000 e5 _ lr hq)
 have hs1:s.size ≤ 1000:=by omega
 have ht1:t.size ≤ 1000:=by omega
 rw[decide_eq_false (show ¬ (s.size:Int)>1000 by omega),decide_eq_false (show ¬ (t.size:Int)>1000 by omega)]at e5
 refine xwp_seq (xwp_toEnd (s:=⟨_,_,_⟩) (cl_seqP hcl) hFA 1000 e5 ⟨mkT [0,1] [.string s,.string t],mkH (glH G),100⟩ ⟨_,glH G,_,rfl,by rw[hn];rfl,by rw[hn];exact⟨rfl,rfl,trivial⟩,by rw[hn];exact gl_bs⟩ ?_)
 cases ha:lexF s with
 |inl pe =>
  obtain⟨p,e⟩:=pe
  have e6:=p9_6e s t G p e
  rw[decP_true ha]at e6
  refine xwp_seq (xwp_toEnd (s:=⟨_,_,_⟩) (cl_seqP hcl) (hFR _) 1000 e6 ⟨mkT [5,7,0,1] [.slice none 0 0,.int .i64 e,.string s,.string t],mkH (glH G),101⟩ ⟨_,glH G,_,rfl,by rw[hn];rfl,by rw[hn];exact⟨rfl,rfl,rfl,rfl,trivial⟩,by rw[hn];exact gl_bs⟩ ?_)
  cases hb:lexF t with
  |inl pg =>
   obtain⟨p',g⟩:=pg
   have e7:=p9_43e s t G e (lexF_err ha) p' g
   rw[decP_true hb]at e7
   exact xwp_toEnd (s:=⟨_,_,_⟩) hcl (hFR _) 1000 e7 _ lr hq
  |inr l =>
   have e7:=p9_43r s t G e (lexF_err ha) l
   rw[decP_true hb]at e7
   exact xwp_toEnd (s:=⟨_,_,_⟩) hcl (hFR _) 1000 e7 _ lr hq
 |inr la =>
  have e6:=p9_6r s t G la
  rw[decP_true ha]at e6
  refine xwp_seq (xwp_toEnd (s:=⟨_,_,_⟩) (cl_seqP hcl) (hFR _) 1000 e6 ⟨mkT [5,7,0,1] [newS 100 la.length,.int .i64 0,.string s,.string t],mkH ((100,tkL la) :: glH G),101⟩ ⟨_,_ :: glH G,_,rfl,by rw[hn];rfl,by rw[hn];exact⟨rfl,rfl,rfl,rfl,trivial⟩,by rw[hn];exact⟨bis_tkL,gl_bs⟩⟩ ?_)
  cases hb:lexF t with
  |inl pg =>
   obtain⟨p',g⟩:=pg
   have e7:=p9_43b s t G la g (lexF_err hb) p'
   rw[decP_true hb]at e7
   exact xwp_toEnd (s:=⟨_,_,_⟩) hcl (hFR _) 1000 e7 _ lr hq
  |inr lb =>
   have e7:=p9_7 s t G la lb
   rw[decP_true hb]at e7
   refine xwp_seq (xwp_toEnd (s:=⟨_,_,_⟩) (cl_seqP hcl) (hFR _) 1000 e7 ⟨mkT [8,10,5,7,0,1] [newS 101 lb.length,.int .i64 0,newS 100 la.length,.int .i64 0,.string s,.string t],mkH ((101,tkL lb) :: (100,tkL la) :: glH G),102⟩
    ⟨_,_ :: _ :: glH G,_,rfl,by rw[hn];rfl,by rw[hn];exact⟨rfl,rfl,rfl,rfl,rfl,rfl,trivial⟩,by rw[hn];exact⟨bis_tkL,bis_tkL,gl_bs⟩⟩ ?_)
   refine xwp_seq (xwp_toEnd (s:=⟨_,_,_⟩) (cl_seqP hcl) hF0 1000 (p9_12 s t G la lb) ⟨mkT [8,5,0,1] [newS 101 lb.length,newS 100 la.length,.string s,.string t],mkH ((101,tkL lb) :: (100,tkL la) :: glH G),102⟩
    ⟨_,_ :: _ :: glH G,_,rfl,by rw[hn];rfl,by rw[hn];exact⟨rfl,rfl,rfl,rfl,trivial⟩,by rw[hn];exact⟨bis_tkL,bis_tkL,gl_bs⟩⟩ ?_)
   obtain⟨qa,qa1,qa2⟩:=lex_list ha
   obtain⟨qb,qb1,qb2⟩:=lex_list hb
   have hcat:(cat9 s t).data.toList=s.data.toList++10 :: t.data.toList:=by
    show(s++⟨#[10]⟩).data.toList++t.data.toList=_
    simp
   have hcsz:(cat9 s t).size=s.size+1+t.size:=by
    rw[Lib.size_eq,hcat,Lib.size_eq s,Lib.size_eq t];simp;omega
   have lena:=congrArg List.length qa1
   have lenb:=congrArg List.length qb1
   simp only[List.length_map,List.length_append,List.length_cons,List.length_nil]at lena lenb
   have jn:=lexL_join qa2 qb2
   rw[← hcat]at jn
   have hla:=lexF_len ha
   have hlb:=lexF_len hb
   have hle:qa.length ≤ s.size ∧ qb.length ≤ t.size:=by
    obtain⟨a',x1,x2⟩:=qa2
    obtain⟨b',y1,y2⟩:=qb2
    have z1:=lxL_sum x2
    have z2:=lxL_sum y2
    have z3:=(gp_len _ _ _ x1).2 (by simp)
    have z4:=(gp_len _ _ _ y1).2 (by simp)
    rw[Lib.size_eq,Lib.size_eq]
    omega
   obtain⟨lc,hc,qc⟩:=list_lex (s:=cat9 s t) (by omega) (by rw[List.length_append];omega) jn
   have lenc:=congrArg List.length qc
   simp only[List.length_map,List.length_append,List.length_cons,List.length_nil]at lenc
   have e13:=p9_13 s t G la lb lc
   have gd:gc9 s t=true:=by
    unfold gc9
    have:(s++⟨#[10]⟩:ByteArray).size=s.size+1:=by rw[Lib.size_eq,Lib.size_eq];simp
    rw[this,decide_eq_true (by omega),decide_eq_true (by omega)];rfl
   rw[decP_true hc,gd]at e13
   refine xwp_seq (xwp_toEnd (s:=⟨_,_,_⟩) (cl_seqP hcl) (hFR _) 1000 e13 ⟨mkT [11,13,5,8] [newS 102 lc.length,.int .i64 0,newS 100 la.length,newS 101 lb.length],mkH ((102,tkL lc) :: (101,tkL lb) :: (100,tkL la) :: glH G),103⟩
    ⟨_,_ :: _ :: _ :: glH G,_,rfl,by rw[hn];rfl,by rw[hn];exact⟨rfl,rfl,rfl,rfl,trivial⟩,by rw[hn];exact⟨bis_tkL,bis_tkL,bis_tkL,gl_bs⟩⟩ ?_)
   obtain⟨A,hA⟩:∃ A,la.length=A+1:=⟨qa.length,by omega⟩
   obtain⟨B,hB⟩:∃ B,lb.length=B+1:=⟨qb.length,by omega⟩
   have hC:lc.length=A+(B+1):=by omega
   let fa:Nat → Tk:=fun j=>la.getD j tk0
   let fb:Nat → Tk:=fun j=>lb.getD j tk0
   let fc:Nat → Tk:=fun j=>lc.getD j tk0
   have e18:=p9_18 la.length lb.length lc.length G fa fb fc
   rw[wrap_i (n:=(la.length:Int)+(lb.length:Int)) (by omega) (by omega),wrap_i (by omega) (by omega),show((lc.length:Int) != (la.length:Int)+(lb.length:Int)-1)=false by simp;omega]at e18
   refine xwp_seq (xwp_toEnd (s:=⟨_,_,_⟩) (cl_seqP hcl) hF0 1000 e18 ⟨mkT [11,5,8] [newS 102 lc.length,newS 100 la.length,newS 101 lb.length],mkH (q9 la.length lb.length lc.length fa fb fc++glH G),103⟩
    ⟨_,_ :: _ :: _ :: glH G,_,rfl,by rw[hn];rfl,by rw[hn];exact⟨rfl,rfl,rfl,trivial⟩,by rw[hn];exact⟨bis_tkB,bis_tkB,bis_tkB,gl_bs⟩⟩ ?_)
   have loop:XWP E.toEnv x9_35 (seqP (XWP E.toEnv x9_38 Q) Q) (S9 G (A+(B+1)) lc.length (fj9 la lb A) fc 0):=by
    refine xwp_block ?_
    refine xwp_loopR (ι:=Nat) (S9 G (A+(B+1)) lc.length (fj9 la lb A) fc) (fun i=>i ≤ A+(B+1)) (fun i=>A+(B+1)-i) 0 (Nat.zero_le _) fun i hi=>?_
    have hcr:=cl_round (S:=S9 G (A+(B+1)) lc.length (fj9 la lb A) fc) (I:=fun i=>i ≤ A+(B+1)) (μ:=fun i=>A+(B+1)-i) (i:=i) (cl_blockP (id:=0) (cl_seqP (x:=x9_38) hcl))
    have el:=p9_l i (A+(B+1)) lc.length (fj9 la lb A) fc G
    by_cases hlt:i<A+(B+1)
    ·rw[decide_eq_true (by omega),Nat.zero_add,lt_blt hlt,ir_nat,decide_eq_true hlt,lt_blt (show i<lc.length by omega),ir_nat,decide_eq_true (show i<lc.length by omega),gl9_true _ _ _ rfl rfl]at el
     have same:kt (fc i)=kt (fj9 la lb A i):=by
      have h1:=kt_at qc i (by omega)
      unfold fj9
      by_cases hia:i<A
      ·rw[if_pos hia]
       have h2:=kt_at qa1 i (by omega)
       rw[List.append_assoc,List.getElem?_append_left (by omega)]at h1
       rw[List.getElem?_append_left (by omega)]at h2
       exact Option.some.inj (h1.symm.trans h2)
      ·rw[if_neg hia]
       have h2:=kt_at qb1 (i-A) (by omega)
       have hAq:qa.length=A:=by omega
       rw[List.append_assoc,List.getElem?_append_right (by omega),hAq]at h1
       exact Option.some.inj (h1.symm.trans h2)
     obtain⟨k1,k2⟩:=kt_inj same
     rw[k1,k2,wrap_i (by omega) (by omega)]at el
     simp only[Bool.and_self,Bool.true_or,Bool.or_true,cond_true,bne_self_eq_false,cond_false,beq_self_eq_true,Bool.not_true]at el
     exact xwp_toEnd (s:=S9 G (A+(B+1)) lc.length (fj9 la lb A) fc i) hcr hF0 1000 el (S9 G (A+(B+1)) lc.length (fj9 la lb A) fc (i+1))
      ⟨_,_ :: _ :: glH G,_,rfl,by rw[hn];rfl,by rw[hn];exact⟨rfl,rfl,rfl,rfl,trivial⟩,by rw[hn];exact⟨bis_tkB,bis_tkB,gl_bs⟩⟩ ⟨i+1,hlt,by simp only;omega,Wk.refl _ _⟩
    ·rw[decide_eq_false (by omega)]at el
     refine xwp_toEnd (s:=S9 G (A+(B+1)) lc.length (fj9 la lb A) fc i) hcr hF0 1000 el (S9 G (A+(B+1)) lc.length (fj9 la lb A) fc i)
      ⟨_,_ :: _ :: glH G,_,rfl,by rw[hn];rfl,by rw[hn];exact⟨rfl,rfl,rfl,rfl,trivial⟩,by rw[hn];exact⟨bis_tkB,bis_tkB,gl_bs⟩⟩ ?_
     show XWP E.toEnv x9_38 Q (S9 G (A+(B+1)) lc.length (fj9 la lb A) fc i)
     exact xwp_toEnd (s:=S9 G (A+(B+1)) lc.length (fj9 la lb A) fc i) hcl hF0 1000 (p9_38 i (A+(B+1)) lc.length (fj9 la lb A) fc G) _ lr hq
   refine xwp_seq (xwp_seq ?_)
   have h19:=a19 la.length lb.length lc.length fa fb fc G A hA (by omega)
   rw[hA,hB]at h19
   have hcl2:=cl_seqP (x:=x9_35) (cl_seqP (x:=x9_38) hcl)
   rw[hA,hB]
   cases A with
   |zero =>
    have hk:=c0 B lc.length fa fb fc G ((0:Nat):Int)
    rw[show(0+(B+1)).ble (B+1)=true by simp,decide_eq_true (show(0+(B+1))*36 ≤ 1099511627776 by omega)]at hk
    exact xwp_regK (s:=⟨_,_,_⟩) hcl2 hF0 10 ks9 rs9 ((congrArg (pvK ks9 rs9) h19).trans hk) (S9 G (0+(B+1)) lc.length (fj9 la lb 0) fc 0)
     ⟨_,(104,tkB (0+(B+1)) (fj9 la lb 0)) :: (102,tkB lc.length fc) :: glH G,_,rfl,by rw[hn];rfl,by rw[hn];exact⟨rfl,rfl,rfl,rfl,trivial⟩,by rw[hn];exact⟨bis9a fun j hj=>absurd hj (Nat.not_lt_zero _),bis_tkB,gl_bs⟩⟩ loop
   |succ A =>
    have hk:=c1 A B lc.length fa fb fc G ((A+1:Nat):Int)
    simp only[Nat.zero_add]at hk
    rw[show(A+1+(B+1)).ble (A+1)=false by rw[ble_dec];simp,show(A+1).ble (A+1)=true by simp,show(B+1).ble (B+1)=true by simp,show(A+1).ble (A+2)=true by simp,decide_eq_true (show(A+1+(B+1))*36 ≤ 1099511627776 by omega),decide_eq_true (show(A+1)*36 ≤ 1099511627776 by omega)]at hk
    have hr:∀ j,j<A+1 → rowCat z3 0 0 (ft fa) (0+j)=tkRow (la.getD j tk0):=fun j _=>by
     show cond (Nat.blt (0+j) 0) _ (ft fa (0+j-0))=_
     rw[Nat.zero_add]
     show ft fa j=_
     unfold ft
     rw[Nat.zero_add]
    exact xwp_regK (s:=⟨_,_,_⟩) hcl2 hF0 10 ks9 rs9 ((congrArg (pvK ks9 rs9) h19).trans hk) (S9 G (A+1+(B+1)) lc.length (fj9 la lb (A+1)) fc 0)
     ⟨_,(104,tkB (A+1+(B+1)) (fj9 la lb (A+1))) :: (102,tkB lc.length fc) :: glH G,_,rfl,by rw[hn];rfl,by rw[hn];exact⟨rfl,rfl,rfl,rfl,trivial⟩,by rw[hn];exact⟨bis9a hr,bis_tkB,gl_bs⟩⟩ loop
end Go.X
