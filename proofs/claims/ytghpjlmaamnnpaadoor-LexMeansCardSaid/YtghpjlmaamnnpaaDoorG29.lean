import Derived.Test.YtghpjlmaamnnpaaDoorG28
import Derived.Test.YtghpjlmaamnnpaaDoorG27
set_option linter.all false
namespace Go.X
open Go Go.Proofs
set_option linter.unusedVariables false
set_option linter.unusedSimpArgs false
def kt (t:Tk):Int × List UInt8:=(t.kind,t.text.data.toList)
set_option linter.unusedVariables false
set_option linter.unusedSimpArgs false
set_option linter.unusedVariables false
set_option linter.unusedSimpArgs false
section
variable (A B C:Nat) (fa fb fc:Nat → Tk) (G:Gv)
end
def scA9:Short:=scOf [con10]
theorem FOKA9:FnsOK Tryd.prog (lookF FL) scA9:=fok FOK _
noncomputable def scR (R:Sum (Nat × Int) (List Tk)):Short:=scOf [con11R R]
theorem FOKR (R:Sum (Nat × Int) (List Tk)):FnsOK Tryd.prog (lookF FL) (scR R):=fok FOK _
def rt9 (b:Bool) (n:Nat):Option Stop:=some ⟨⟨[some (true,.bool b)],[],.ret,n⟩,none⟩
set_option linter.unusedVariables false
set_option linter.unusedSimpArgs false
set_option linter.unusedVariables false
set_option linter.unusedSimpArgs false
def scM4:Short:=scOf [con14]
theorem FOKM4:FnsOK Tryd.prog (lookF FL) scM4:=fok FOK _
def scQ4:Short:=scOf [con15]
theorem FOKQ4:FnsOK Tryd.prog (lookF FL) scQ4:=fok FOK _
section
variable (s:ByteArray) (G:Gv)
theorem p4_0:walk (lookF FL) scA9 1000 (.region x4_0) (argTm 0 [.string s]) (mkH (glH G)) 100 ⟨[],[],[0],gIds⟩ ⟨[],[],[],[]⟩ ⟨[],[],[],[]⟩=some ⟨⟨[],[],.normal,100⟩,none⟩:=by kernel_rfl
theorem p4_5:walk (lookF FL) scA9 1000 x4_5 (mkT [0] [.string s]) (mkH (glH G)) 100 ⟨[],[],[0],gIds⟩ ⟨[2],[],[],gIds⟩ ⟨[],[],[],[]⟩=bif decide ((s.size:Int)>200)then rt9 true 100 else some ⟨⟨[],[],.normal,100⟩,none⟩:=by kernel_rfl
theorem p4_6:walk (lookF FL) scM4 1000 (.region x4_6) (mkT [0] [.string s]) (mkH (glH G)) 100 ⟨[3,4],[],[0],gIds⟩ ⟨[],[],[],[]⟩ ⟨[],[],[],[]⟩=bif (s.size.blt 35184372088832||false)&&true then some ⟨⟨[some (true,.int .u64 (meanF s).1),some (true,.int .i64 (meanF s).2)],[],.normal,100⟩,none⟩else none:=by kernel_rfl
theorem p4_7 (v e:Int):walk (lookF FL) scQ4 1000 (.region x4_7) (mkT [3,4,0] [.int .u64 v,.int .i64 e,.string s]) (mkH (glH G)) 100 ⟨[5,6],[],[3,4,0],gIds⟩ ⟨[],[],[],[]⟩ ⟨[],[],[],[]⟩=bif (s.size.blt 4611686018427387904||false)&&true then some ⟨⟨[some (true,.int .u64 (rmF s).1),some (true,.bool (rmF s).2)],[],.normal,100⟩,none⟩else none:=by kernel_rfl
def gd4 (b:Bool):Bool:=((!b||b)&&true||false)&&(((!b&&false||true)&&!b||!!b)&&(((!b&&false&&false||true)&&(!b&&false)||!(!b&&false))&&((!b&&false&&false&&true||!(!b&&false&&false))&&((!b&&false&&true||!(!b&&false))&&((!b&&false&&true||!(!b&&false))&&((!b&&true||!!b)&&((!b&&true||!!b)&&true)))))))
theorem gd4_true:∀ b:Bool,gd4 b=true:=by decide
theorem p4_12a (v w:Int):walk (lookF FL) noSc 1000 x4_12 (mkT [5,6,3,4,0] [.int .u64 w,.bool true,.int .u64 v,.int .i64 0,.string s]) (mkH (glH G)) 100 ⟨[],[],[0],gIds⟩ ⟨[2],[],[],gIds⟩ ⟨[],[],[],[]⟩=bif gd4 (v != w)then bif bif v != w then true else false then rt9 false 100 else some ⟨⟨[],[],.normal,100⟩,none⟩else none:=by kernel_rfl
theorem p4_12b:walk (lookF FL) noSc 1000 x4_12 (mkT [5,6,3,4,0] [.int .u64 0,.bool false,.int .u64 0,.int .i64 10,.string s]) (mkH (glH G)) 100 ⟨[],[],[0],gIds⟩ ⟨[2],[],[],gIds⟩ ⟨[],[],[],[]⟩=some ⟨⟨[],[],.normal,100⟩,none⟩:=by kernel_rfl
theorem p4_13e (p:Nat) (e:Int):walk (lookF FL) (scR (.inl (p,e))) 1000 (.region x4_13) (mkT [0] [.string s]) (mkH (glH G)) 100 ⟨[7,9],[],[],gIds⟩ ⟨[],[],[],[]⟩ ⟨[],[],[],[]⟩=bif (decP (lexF s=.inl (p,e))||false)&&true then some ⟨⟨[some (true,.slice none 0 0),some (true,.int .i64 e)],[],.normal,100⟩,none⟩else none:=by kernel_rfl
theorem p4_13 (l:List Tk):walk (lookF FL) (scR (.inr l)) 1000 (.region x4_13) (mkT [0] [.string s]) (mkH (glH G)) 100 ⟨[7,9],[.tmp 7],[],gIds⟩ ⟨[],[],[],[]⟩ ⟨[],[],[],[]⟩=bif decP (lexF s=.inr l)&&true then some ⟨⟨[some (true,newS 100 l.length),iv 0],[(100,some (tkL l))],.normal,101⟩,none⟩else none:=by kernel_rfl
theorem p4_33e (e:Int):walk (lookF FL) noSc 1000 x4_33 (mkT [7,9] [.slice none 0 0,.int .i64 e]) (mkH (glH G)) 100 ⟨[],[],[],[]⟩ ⟨[2],[],[],gIds⟩ ⟨[64,63,62],[],[9],gIds⟩=some ⟨⟨[iv 0,iv 0,some (true,.slice none 0 0)],[],.normal,100⟩,some (x4_30,[.bl 0])⟩:=by kernel_rfl
theorem p4_le (e:Int):walk (lookF FL) noSc 1000 x4_30 (mkT [64,63,62,9] [.int .i64 0,.int .i64 0,.slice none 0 0,.int .i64 e]) (mkH (glH G)) 100 ⟨[64],[],[63,62,9],gIds⟩ ⟨[2],[],[],gIds⟩ ⟨[],[],[],[]⟩=some ⟨⟨[iv 0],[],.exit 0,100⟩,none⟩:=by kernel_rfl
theorem p4_35e (e:Int):walk (lookF FL) noSc 1000 x4_35 (mkT [64,63,62,9] [.int .i64 0,.int .i64 0,.slice none 0 0,.int .i64 e]) (mkH (glH G)) 100 ⟨[],[],[],[]⟩ ⟨[2],[],[],gIds⟩ ⟨[],[],[],[]⟩=rt9 true 100:=by kernel_rfl
variable (N:Nat) (f:Nat → Tk)
theorem p4_33:walk (lookF FL) noSc 1000 x4_33 (mkT [7,9] [newS 100 N,.int .i64 0]) (mkH ((100,tkB N f) :: glH G)) 101 ⟨[],[],[],[]⟩ ⟨[2],[],[],gIds⟩ ⟨[64,63,62],[],[9],100 :: gIds⟩=some ⟨⟨[iv 0,iv N,some (true,newS 100 N)],[],.normal,101⟩,some (x4_30,[.bl 0])⟩:=by kernel_rfl
theorem p4_35 (i:Nat):walk (lookF FL) noSc 1000 x4_35 (mkT [64,63,62,9] [.int .i64 (i:Int),.int .i64 (N:Int),newS 100 N,.int .i64 0]) (mkH ((100,tkB N f) :: glH G)) 101 ⟨[],[],[],[]⟩ ⟨[2],[],[],gIds⟩ ⟨[],[],[],[]⟩=rt9 true 101:=by kernel_rfl
def q4 (t:Tk):Bool:=(t.kind==2)==((meanF t.text).2==0)
theorem p4_lr (i:Nat):walk (lookF FL) scM4 1000 x4_30 (mkT [64,63,62,9] [.int .i64 (i:Int),.int .i64 (N:Int),newS 100 N,.int .i64 0]) (mkH ((100,tkB N f) :: glH G)) 101 ⟨[64],[],[63,62,9],100 :: gIds⟩ ⟨[2],[],[],gIds⟩ ⟨[],[],[],[]⟩ =
  bif decide ((i:Int)<(N:Int))then bif ((0+i).blt N&&true||false)&&((intRange i N&&true||false)&&true)then bif ((f (0+i)).text.size.blt 35184372088832||false)&&true then
   bif ((!q4 (f (0+i))||!!q4 (f (0+i)))&&true||false)&&((!q4 (f (0+i))&&true||!!q4 (f (0+i)))&&true)then bif bif !q4 (f (0+i))then true else false then rt9 false 102 else some ⟨⟨[iv (IntKind.i64.wrap ((i:Int)+1))],[],.normal,102⟩,none⟩else none else none else none
  else some ⟨⟨[iv i],[],.exit 0,101⟩,none⟩:=by kernel_rfl
end
theorem bis_tk4 {P:Program}{σ:Nm}{n:Nat}{f:Nat → Tk}:BIs P σ (tkB n f) (tkB n f):=⟨rfl,rfl,fun _ _=>rnL_tk,.inl rfl,.inr rfl⟩
def Z4 (G:Gv) (N:Nat) (f:Nat → Tk) (i:Nat):St:=⟨mkT [64,63,62,9] [.int .i64 (i:Int),.int .i64 (N:Int),newS 100 N,.int .i64 0],mkH ((100,tkB N f) :: glH G),101⟩
theorem b4 {s:ByteArray}{G:Gv}:Body Tryd.prog 4 [.string s] (mkH (glH G)) (.bool true) [] 100 0:=by
 refine body_of' mixed fx4 (by simp) fun E Q hP hn hcl hfin=>?_
 have hFA:FnsOK E.P (lookF FL) scA9:=hP▸FOKA9
 have hFM:FnsOK E.P (lookF FL) scM4:=hP▸FOKM4
 have hFQ:FnsOK E.P (lookF FL) scQ4:=hP▸FOKQ4
 have hF0:FnsOK E.P (lookF FL) noSc:=hP▸FOK
 have hFR:∀ R,FnsOK E.P (lookF FL) (scR R):=fun R=>by rw[hP];exact FOKR R
 have hq:Q .ret ⟨mkT [2] [.bool true],mkH (glH G),100⟩:=hfin _ _ (fin_of rfl ⟨rfl,rfl,rfl,rfl,rfl,rfl,rfl,rfl,trivial⟩ (by rw[hn]) rfl)
 have lr:∀ {n:Nat},LeafTo E [2] ⟨[some (true,.bool true)],mkH (glH G),.ret,n⟩ ⟨mkT [2] [.bool true],mkH (glH G),100⟩:=fun {n} =>
  ⟨_,glH G,_,rfl,by rw[hn];rfl,by rw[hn];exact⟨rfl,trivial⟩,by rw[hn];exact gl_bs⟩
 refine xwp_seq (xwp_toEnd (s:=⟨_,_,_⟩) (cl_seqP hcl) hFA 1000 (p4_0 s G) ⟨mkT [0] [.string s],mkH (glH G),100⟩ ⟨_,glH G,_,rfl,by rw[hn];rfl,by rw[hn];exact⟨rfl,trivial⟩,by rw[hn];exact gl_bs⟩ ?_)
 have e5:=p4_5 s G
 by_cases hbig:(s.size:Int)>200
 ·rw[decide_eq_true hbig]at e5
  exact xwp_seq (xwp_toEnd (s:=⟨_,_,_⟩) (cl_seqP hcl) hFA 1000 e5 _ lr hq)
 rw[decide_eq_false hbig]at e5
 refine xwp_seq (xwp_toEnd (s:=⟨_,_,_⟩) (cl_seqP hcl) hFA 1000 e5 ⟨mkT [0] [.string s],mkH (glH G),100⟩ ⟨_,glH G,_,rfl,by rw[hn];rfl,by rw[hn];exact⟨rfl,trivial⟩,by rw[hn];exact gl_bs⟩ ?_)
 have e6:=p4_6 s G
 rw[lt_blt (show s.size<35184372088832 by omega)]at e6
 have e7:=p4_7 s G (meanF s).1 (meanF s).2
 rw[lt_blt (show s.size<4611686018427387904 by omega)]at e7
 have step:XWP E.toEnv x4_38 Q ⟨mkT [5,6,3,4,0] [.int .u64 (rmF s).1,.bool (rmF s).2,.int .u64 (meanF s).1,.int .i64 (meanF s).2,.string s],mkH (glH G),100⟩ → XWP E.toEnv x4_40 Q ⟨mkT [0] [.string s],mkH (glH G),100⟩:=fun k=>by
  refine xwp_seq (xwp_toEnd (s:=⟨_,_,_⟩) (cl_seqP hcl) hFM 1000 e6 ⟨mkT [3,4,0] [.int .u64 (meanF s).1,.int .i64 (meanF s).2,.string s],mkH (glH G),100⟩ ⟨_,glH G,_,rfl,by rw[hn];rfl,by rw[hn];exact⟨rfl,rfl,rfl,trivial⟩,by rw[hn];exact gl_bs⟩ ?_)
  refine xwp_seq (xwp_toEnd (s:=⟨_,_,_⟩) (cl_seqP hcl) hFQ 1000 e7 ⟨mkT [5,6,3,4,0] [.int .u64 (rmF s).1,.bool (rmF s).2,.int .u64 (meanF s).1,.int .i64 (meanF s).2,.string s],mkH (glH G),100⟩ ⟨_,glH G,_,rfl,by rw[hn];rfl,by rw[hn];exact⟨rfl,rfl,rfl,rfl,rfl,trivial⟩,by rw[hn];exact gl_bs⟩ ?_)
  exact k
 refine step ?_
 clear step e6 e7
 have rest:XWP E.toEnv x4_37 Q ⟨mkT [0] [.string s],mkH (glH G),100⟩:=by
  cases ha:lexF s with
  |inl pe =>
   obtain⟨p,e⟩:=pe
   have e13:=p4_13e s G p e
   rw[decP_true ha]at e13
   refine xwp_seq (xwp_toEnd (s:=⟨_,_,_⟩) (cl_seqP hcl) (hFR _) 1000 e13 ⟨mkT [7,9] [.slice none 0 0,.int .i64 e],mkH (glH G),100⟩ ⟨_,glH G,_,rfl,by rw[hn];rfl,by rw[hn];exact⟨rfl,rfl,trivial⟩,by rw[hn];exact gl_bs⟩ ?_)
   let S:Nat → St:=fun _=>⟨mkT [64,63,62,9] [.int .i64 0,.int .i64 0,.slice none 0 0,.int .i64 e],mkH (glH G),100⟩
   refine xwp_seq (xwp_toLoop (s:=⟨_,_,_⟩) hF0 1000 (p4_33e G e) (S 0) ⟨_,glH G,_,rfl,by rw[hn];rfl,by rw[hn];exact⟨rfl,rfl,rfl,rfl,trivial⟩,by rw[hn];exact gl_bs⟩ ?_)
   refine xwp_loopR (ι:=Nat) S (fun _=>True) (fun _=>0) 0 trivial fun i _=>?_
   have hcr:=cl_round (S:=S) (I:=fun _=>True) (μ:=fun _=>0) (i:=i) (cl_ctx (cl_seqP (x:=x4_35) hcl) [.bl 0])
   refine xwp_toEnd (s:=S i) hcr hF0 1000 (p4_le G e) (S i) ⟨_,glH G,_,rfl,by rw[hn];rfl,by rw[hn];exact⟨rfl,rfl,rfl,rfl,trivial⟩,by rw[hn];exact gl_bs⟩ ?_
   show XWP E.toEnv x4_35 Q (S i)
   exact xwp_toEnd (s:=S i) hcl hF0 1000 (p4_35e G e) _ lr hq
  |inr l =>
   have e13:=p4_13 s G l
   rw[decP_true ha]at e13
   obtain⟨N,hN⟩:∃ N,l.length=N:=⟨_,rfl⟩
   let f:Nat → Tk:=fun j=>l.getD j tk0
   have hlN:=lexF_len ha
   have hM:=lx_means (lexF_lx ha).1 (lexF_lx ha).2.2
   refine xwp_seq (xwp_toEnd (s:=⟨_,_,_⟩) (cl_seqP hcl) (hFR _) 1000 e13 ⟨mkT [7,9] [newS 100 N,.int .i64 0],mkH ((100,tkB N f) :: glH G),101⟩
    ⟨_,(100,tkB N f) :: glH G,_,rfl,by rw[hn];rfl,by rw[hn,hN];exact⟨rfl,rfl,trivial⟩,by rw[hn];subst hN;exact⟨bis_tkL,gl_bs⟩⟩ ?_)
   refine xwp_seq (xwp_toLoop (s:=⟨_,_,_⟩) hF0 1000 (p4_33 G N f) (Z4 G N f 0) ⟨_,(100,tkB N f) :: glH G,_,rfl,by rw[hn];rfl,by rw[hn];exact⟨rfl,rfl,rfl,rfl,trivial⟩,by rw[hn];exact⟨bis_tk4,gl_bs⟩⟩ ?_)
   have hcr:=fun i=>cl_round (S:=Z4 G N f) (I:=fun i=>i ≤ N) (μ:=fun i=>N-i) (i:=i) (cl_ctx (cl_seqP (x:=x4_35) hcl) [.bl 0])
   refine xwp_loopR (ι:=Nat) (Z4 G N f) (fun i=>i ≤ N) (fun i=>N-i) 0 (Nat.zero_le _) fun i hi=>?_
   have el:=p4_lr G N f i
   by_cases hlt:i<N
   ·have hmem:f i∈l:=by
     show l.getD i tk0∈l
     rw[List.getD_eq_getElem?_getD,List.getElem?_eq_getElem (by omega)]
     exact List.getElem_mem _
    obtain⟨m1,m2⟩:=hM _ hmem
    have hq4:q4 (f i)=true:=by unfold q4;rw[m1];simp
    rw[decide_eq_true (by omega),Nat.zero_add,lt_blt hlt,ir_nat,decide_eq_true hlt,lt_blt (show(f i).text.size<35184372088832 by omega),hq4,wrap_i (by omega) (by omega)]at el
    exact xwp_toEnd (s:=Z4 G N f i) (hcr i) hFM 1000 el (Z4 G N f (i+1)) ⟨_,(100,tkB N f) :: glH G,_,rfl,by rw[hn];rfl,by rw[hn];exact⟨rfl,rfl,rfl,rfl,trivial⟩,by rw[hn];exact⟨bis_tk4,gl_bs⟩⟩
     ⟨i+1,hlt,by simp only;omega,Wk.refl _ _⟩
   ·rw[decide_eq_false (by omega)]at el
    refine xwp_toEnd (s:=Z4 G N f i) (hcr i) hFM 1000 el (Z4 G N f i) ⟨_,(100,tkB N f) :: glH G,_,rfl,by rw[hn];rfl,by rw[hn];exact⟨rfl,rfl,rfl,rfl,trivial⟩,by rw[hn];exact⟨bis_tk4,gl_bs⟩⟩ ?_
    show XWP E.toEnv x4_35 Q (Z4 G N f i)
    exact xwp_toEnd (s:=Z4 G N f i) hcl hF0 1000 (p4_35 G N f i) _ lr hq
 rw[mean_eq]
 show XWP E.toEnv x4_38 Q ⟨mkT [5,6,3,4,0] [.int .u64 (rmF s).1,.bool (rmF s).2,.int .u64 (ansL (meanL s.data.toList)).1,.int .i64 (ansL (meanL s.data.toList)).2,.string s],mkH (glH G),100⟩
 unfold rmF
 cases meanL s.data.toList with
 |none =>
  exact xwp_seq (xwp_toEnd (s:=⟨_,_,_⟩) (cl_seqP hcl) hF0 1000 (p4_12b s G) ⟨mkT [0] [.string s],mkH (glH G),100⟩ ⟨_,glH G,_,rfl,by rw[hn];rfl,by rw[hn];exact⟨rfl,trivial⟩,by rw[hn];exact gl_bs⟩ rest)
 |some n =>
  have e:=p4_12a s G n n
  rw[gd4_true,bne_self_eq_false]at e
  exact xwp_seq (xwp_toEnd (s:=⟨_,_,_⟩) (cl_seqP hcl) hF0 1000 e ⟨mkT [0] [.string s],mkH (glH G),100⟩ ⟨_,glH G,_,rfl,by rw[hn];rfl,by rw[hn];exact⟨rfl,trivial⟩,by rw[hn];exact gl_bs⟩ rest)
end Go.X
