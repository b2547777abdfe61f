import Derived.Test.YtghpjlmaamnnpaaDoorF28
import Derived.Test.YtghpjlmaamnnpaaDoorF26
import Derived.Deep.Slices
set_option linter.all false
namespace Go.X
open Go Go.Proofs
set_option linter.unusedVariables false
set_option linter.unusedSimpArgs false
theorem exG_bs {P:Program}{π:List (Nat × Nat)}{G:Gv}{b:Bool}{L:Nat}{ga:Nat → Int}:bsOK P (stayOr 100 π) (mkH (exG b L ga++glH G)) (exG b L ga++glH G):=by
 cases b with
 |false=>exact gl_bs
 |true=>exact⟨⟨rfl,rfl,fun _ _=>rfl,.inr (.inr rfl),.inl rfl⟩,gl_bs⟩
theorem fr6_go {N i m:Nat}{f:Nat → Tk}{txt:ByteArray}{K:Option Stop} (hi:i<m) (hN:i<N) (hs:txt.size+(f i).text.size ≤ 9223372036854775807):fr6 N f i m txt K=K:=by
 unfold fr6
 rw[decide_eq_true (show(i:Int)<(m:Int) by omega),Nat.zero_add,lt_blt hN,ir_nat,decide_eq_true hi,decide_eq_true hs];rfl
theorem p6_loop {b:Bool}{L C:Nat}{ga:Nat → Int}{G:Gv}{N i m:Nat}{f:Nat → Tk}{txt:ByteArray} (hb:b=false → L=0) (hL:∀ j,j<L → 0 ≤ ga j ∧ ga j<256) (hi:i<m) (hN:i<N) (hs:txt.size+(f i).text.size ≤ 100000) :
  walk (lookF FL) noSc 1000 x6_30 (mkT k6 (v6 i txt m N (vG b L C))) (mkH ((101,gap4) :: (100,tkB N f) :: exG b L ga++glH G)) 102 ⟨[39,9],[],[38,37,8,5,1],101 :: 100 :: idG b⟩ ⟨[],[],[],[]⟩ ⟨[],[],[],[]⟩=nx6 f i txt (gI b L ga i):=by
 have hsz:∀ g:ByteArray,g.size ≤ 7 → szOK txt (f (0+i)).text g=true:=fun g hg=>by
  unfold szOK
  rw[Nat.zero_add,ByteArray.size_append,decide_eq_true (by omega)];rfl
 have s1:sp6.size ≤ 7:=by decide
 cases b with
 |false =>
  rw[p6_ln,fr6_go hi hN (by omega),hsz _ s1]
  rfl
 |true =>
  rw[p6_lb,fr6_go hi hN (by omega),hsz _ s1]
  by_cases h0:0<L
  ·obtain⟨h1,h2,h3,h4⟩:=gi_rng hL h0 i
   have hg7:(gst (gix ga L i)).size ≤ 7:=by rcases gst_cases h1 h2 with h|h|h|h<;>rw[h]<;>decide
   have hgI:gI true L ga i=gst (gix ga L i):=by unfold gI;rw[decide_eq_true (show(L:Int)>0 by omega)];rfl
   obtain⟨x,hx,hx4⟩:∃ x:Nat,gix ga L i=(x:Int) ∧ x<4:=⟨(gix ga L i).toNat,by omega,by omega⟩
   have hS:isS (gp4.getD (0+x*1) undefd)=true:=by
    have:x=0 ∨ x=1 ∨ x=2 ∨ x=3:=by omega
    rcases this with rfl|rfl|rfl|rfl<;>rfl
   rw[decide_eq_true (show(L:Int)>0 by omega),hsz _ hg7,hgI]
   rw[hx,h3,Int.toNat_natCast,Int.toNat_natCast,hS,Nat.zero_add,Nat.zero_add,Nat.mul_one,lt_blt hx4,lt_blt h4,ir_nat,ir_nat,decide_eq_true hx4,decide_eq_true h4,decide_eq_false (show ¬ (L:Int)=0 by omega)]
   rfl
  ·have hgI:gI true L ga i=sp6:=by unfold gI;rw[decide_eq_false (show ¬ (L:Int)>0 by omega)];rfl
   rw[decide_eq_false (show ¬ (L:Int)>0 by omega),hgI]
   rfl
def S6 (b:Bool) (L C:Nat) (ga:Nat → Int) (G:Gv) (N m:Nat) (f:Nat → Tk) (z:Nat × List UInt8):St:=⟨mkT k6 (v6 z.1 (bs z.2) m N (vG b L C)),mkH ((101,gap4) :: (100,tkB N f) :: exG b L ga++glH G),102⟩
def Y6 (b:Bool) (L:Nat) (ga:Nat → Int) (G:Gv) (N M:Nat) (f h:Nat → Tk) (i:Nat):St:=⟨mkT [83,82,12,5] [.int .i64 (i:Int),.int .i64 (N:Int),newS 102 M,newS 100 N],mkH ((102,tkB M h) :: (100,tkB N f) :: exG b L ga++glH G),103⟩
theorem b6_t {s:ByteArray}{G:Gv}{L C:Nat}{ga:Nat → Int} (hb:true=false → L=0) (hL:∀ j,j<L → 0 ≤ ga j ∧ ga j<256):Body Tryd.prog 6 [.string s,vG true L C] (mkH (exG true L ga++glH G)) (.bool true) [] 100 0:=by
 refine body_of' mixed fx6 (by simp) fun E Q hP hn hcl hfin=>?_
 have hFA:FnsOK E.P (lookF FL) scA9:=hP▸FOKA9
 have hF0:FnsOK E.P (lookF FL) noSc:=hP▸FOK
 have hFR:∀ R,FnsOK E.P (lookF FL) (scR R):=fun R=>by rw[hP];exact FOKR R
 have hq:Q .ret ⟨mkT [4] [.bool true],mkH (exG true L ga++glH G),100⟩:=hfin _ _ (fin_of rfl ⟨rfl,rfl,rfl,rfl,rfl,rfl,rfl,rfl,rfl,trivial⟩ (by rw[hn]) rfl)
 have lr:∀ {n:Nat},LeafTo E [4] ⟨[some (true,.bool true)],mkH (exG true L ga++glH G),.ret,n⟩ ⟨mkT [4] [.bool true],mkH (exG true L ga++glH G),100⟩:=fun {n} =>
  ⟨_,exG true L ga++glH G,_,rfl,by rw[hn];rfl,by rw[hn];exact⟨rfl,trivial⟩,by rw[hn];exact(exG_bs (b:=true) (L:=L) (ga:=ga) (G:=G))⟩
 refine xwp_seq (xwp_toEnd (s:=⟨_,_,_⟩) (cl_seqP hcl) hFA 1000 (p6_0 true L C ga s G) ⟨mkT [0,1] [.string s,vG true L C],mkH (exG true L ga++glH G),100⟩ ⟨_,exG true L ga++glH G,_,rfl,by rw[hn];rfl,by rw[hn];exact⟨rfl,rfl,trivial⟩,by rw[hn];exact(exG_bs (b:=true) (L:=L) (ga:=ga) (G:=G))⟩ ?_)
 have e5:=p6_5 true L C ga s G
 by_cases hbig:(s.size:Int)>700
 ·rw[decide_eq_true hbig]at e5
  exact xwp_seq (xwp_toEnd (s:=⟨_,_,_⟩) (cl_seqP hcl) hFA 1000 e5 _ lr hq)
 rw[decide_eq_false hbig]at e5
 refine xwp_seq (xwp_toEnd (s:=⟨_,_,_⟩) (cl_seqP hcl) hFA 1000 e5 ⟨mkT [0,1] [.string s,vG true L C],mkH (exG true L ga++glH G),100⟩ ⟨_,exG true L ga++glH G,_,rfl,by rw[hn];rfl,by rw[hn];exact⟨rfl,rfl,trivial⟩,by rw[hn];exact(exG_bs (b:=true) (L:=L) (ga:=ga) (G:=G))⟩ ?_)
 cases ha:lexF s with
 |inl pe =>
  obtain⟨p,e⟩:=pe
  have e6:=p6_67e true L C ga s G p e (lexF_err ha)
  rw[decP_true ha]at e6
  exact xwp_toEnd (s:=⟨_,_,_⟩) hcl (hFR _) 1000 e6 _ lr hq
 |inr l =>
  have e6:=p6_6 true L C ga s G l
  rw[decP_true ha]at e6
  obtain⟨N,hN⟩:∃ N,l.length=N:=⟨_,rfl⟩
  let f:Nat → Tk:=fun j=>l.getD j tk0
  refine xwp_seq (xwp_toEnd (s:=⟨_,_,_⟩) (cl_seqP hcl) (hFR _) 1000 e6 ⟨mkT [5,7,1] [newS 100 N,.int .i64 0,vG true L C],mkH ((100,tkB N f) :: exG true L ga++glH G),101⟩
   ⟨_,(100,tkB N f) :: exG true L ga++glH G,_,rfl,by rw[hn];rfl,by rw[hn,hN];exact⟨rfl,rfl,rfl,trivial⟩,by rw[hn];subst hN;exact⟨bis_tkL,(exG_bs (b:=true) (L:=L) (ga:=ga) (G:=G))⟩⟩ ?_)
  refine xwp_seq (xwp_toEnd (s:=⟨_,_,_⟩) (cl_seqP hcl) hF0 1000 (p6_11 true L C ga G N f) ⟨mkT [5,1] [newS 100 N,vG true L C],mkH ((100,tkB N f) :: exG true L ga++glH G),101⟩
   ⟨_,(100,tkB N f) :: exG true L ga++glH G,_,rfl,by rw[hn];rfl,by rw[hn];exact⟨rfl,rfl,trivial⟩,by rw[hn];exact⟨bis_tkB,(exG_bs (b:=true) (L:=L) (ga:=ga) (G:=G))⟩⟩ ?_)
  refine xwp_seq (xwp_toEnd (s:=⟨_,_,_⟩) (cl_seqP hcl) hF0 1000 (p6_12 true L C ga G N f) ⟨mkT [8,5,1] [pA 101,newS 100 N,vG true L C],mkH ((101,gap4) :: (100,tkB N f) :: exG true L ga++glH G),102⟩
   ⟨_,(101,gap4) :: (100,tkB N f) :: exG true L ga++glH G,_,rfl,by rw[hn];rfl,by rw[hn];exact⟨rfl,rfl,rfl,trivial⟩,by rw[hn];exact⟨rfl,bis_tkB,(exG_bs (b:=true) (L:=L) (ga:=ga) (G:=G))⟩⟩ ?_)
  refine xwp_seq (xwp_toEnd (s:=⟨_,_,_⟩) (cl_seqP hcl) hF0 1000 (p6_13 true L C ga G N f) ⟨mkT [9,8,5,1] [.string ⟨#[]⟩,pA 101,newS 100 N,vG true L C],mkH ((101,gap4) :: (100,tkB N f) :: exG true L ga++glH G),102⟩
   ⟨_,(101,gap4) :: (100,tkB N f) :: exG true L ga++glH G,_,rfl,by rw[hn];rfl,by rw[hn];exact⟨rfl,rfl,rfl,rfl,trivial⟩,by rw[hn];exact⟨rfl,bis_tkB,(exG_bs (b:=true) (L:=L) (ga:=ga) (G:=G))⟩⟩ ?_)
  obtain⟨q,q1,q2⟩:=lex_list ha
  have lenq:=congrArg List.length q1
  simp only[List.length_map,List.length_append,List.length_cons,List.length_nil]at lenq
  have hlN:=lexF_len ha
  obtain⟨m,hm⟩:∃ m,N=m+1:=⟨q.length,by omega⟩
  have hqm:q.length=m:=by omega
  have hsum:q.length ≤ sumW q ∧ sumW q ≤ s.size:=by
   obtain⟨a',x1,x2⟩:=q2
   have z1:=lxL_sum x2
   have z3:=(gp_len _ _ _ x1).2 (by simp)
   rw[Lib.size_eq]
   omega
  have hgl:=fun i=>gL_ok (b:=true) hL i
  have htx:=txG_len (g:=gL true L ga) (fun i=>(hgl i).2.2) q 0
  have hjn:=lexL_blanks (g:=gL true L ga) (fun i=>(hgl i).1) (fun i=>(hgl i).2.1) q2
  obtain⟨lm,hc,qc⟩:=list_lex (s:=bs (txG (gL true L ga) 0 q)) (by rw[bs_size];omega) (by omega) hjn
  have lenc:=congrArg List.length qc
  simp only[List.length_map,List.length_append,List.length_cons,List.length_nil]at lenc
  have e33:=p6_33 true L C ga G N f
  have hw:IntKind.i64.wrap ((N:Int)-1)=(m:Int):=by rw[wrap_i (by omega) (by omega)];omega
  have hok:ok6 N=true:=by unfold ok6;rw[hw,decide_eq_true (show 0 ≤ (m:Int) by omega),decide_eq_true (show(m:Int) ≤ (N:Int) by omega)];rfl
  rw[hok,hw,show((m:Int)-0).toNat=m by omega,Nat.sub_zero]at e33
  refine xwp_seq ?_
  refine xwp_toLoop (s:=⟨_,_,_⟩) hF0 1000 e33 (S6 true L C ga G N m f (0,[])) ⟨_,(101,gap4) :: (100,tkB N f) :: exG true L ga++glH G,_,rfl,by rw[hn];rfl,by rw[hn];exact⟨rfl,rfl,rfl,rfl,rfl,rfl,rfl,trivial⟩,by rw[hn];exact⟨rfl,bis_tkB,(exG_bs (b:=true) (L:=L) (ga:=ga) (G:=G))⟩⟩ ?_
  let I:Nat × List UInt8 → Prop:=fun z=>z.1 ≤ m ∧ z.2++txG (gL true L ga) z.1 (q.drop z.1)=txG (gL true L ga) 0 q
  refine xwp_loopR (ι:=Nat × List UInt8) (S6 true L C ga G N m f) I (fun z=>m-z.1) (0,[]) ⟨Nat.zero_le _,rfl⟩ fun z hz=>?_
  have hcr:=cl_round (S:=S6 true L C ga G N m f) (I:=I) (μ:=fun z=>m-z.1) (i:=z) (cl_ctx (cl_seqP (x:=x6_62) hcl) [.bl 0])
  obtain⟨i,t⟩:=z
  obtain⟨hi,ht⟩:=hz
  simp only at hi ht
  have htl:=congrArg List.length ht
  rw[List.length_append]at htl
  by_cases hlt:i<m
  ·have hft:kt (f i)=q[i]'(by omega):=by
    have h1:=kt_at q1 i (by omega)
    rw[List.getElem?_append_left (by omega),List.getElem?_eq_getElem (by omega)]at h1
    exact(Option.some.inj h1).symm
   have hd:q.drop i=q[i]'(by omega) :: q.drop (i+1):=List.drop_eq_getElem_cons (by omega)
   have hw2:(f i).text.data.toList=(q[i]'(by omega)).2:=by rw[← hft];rfl
   rw[hd,txG,← hw2]at ht
   have hsz:(bs t).size+(f i).text.size ≤ 100000:=by
    have:=congrArg List.length ht
    simp only[List.length_append]at this
    rw[bs_size,Lib.size_eq];omega
   have el:=p6_loop (C:=C) (G:=G) (f:=f) (txt:=bs t) hb hL hlt (show i<N by omega) hsz
   unfold nx6 at el
   rw[Nat.zero_add,wrap_i (by omega) (by omega)]at el
   refine xwp_toEnd (s:=S6 true L C ga G N m f (i,t)) hcr hF0 1000 el (S6 true L C ga G N m f (i+1,t++(f i).text.data.toList++gL true L ga i)) ⟨_,(101,gap4) :: (100,tkB N f) :: exG true L ga++glH G,_,rfl,by rw[hn];rfl,?_,by rw[hn];exact⟨rfl,bis_tkB,(exG_bs (b:=true) (L:=L) (ga:=ga) (G:=G))⟩⟩
    ⟨(i+1,t++(f i).text.data.toList++gL true L ga i),⟨hlt,by simp only[List.append_assoc];rw[← ht]⟩,by simp only;omega,Wk.refl _ _⟩
   rw[hn]
   refine⟨rfl,?_,rfl,rfl,rfl,rfl,rfl,trivial⟩
   show sv6 (app6 (bs t) (f i).text (gI true L ga i))=some (true,.string (bs (t++(f i).text.data.toList++gL true L ga i)))
   have:app6 (bs t) (f i).text (gI true L ga i)=bs (t++(f i).text.data.toList++gL true L ga i):=by
    unfold app6 gL
    rw[show(bs t++(f i).text).data.toList=t++(f i).text.data.toList by simp[bs]]
    rfl
   rw[this];rfl
  have him:i=m:=by omega
  subst him
  have hd:q.drop i=[]:=by rw[List.drop_eq_nil_iff];omega
  rw[hd,show txG (gL true L ga) i []=[] from rfl,List.append_nil]at ht
  subst ht
  have el:walk (lookF FL) noSc 1000 x6_30 (mkT k6 (v6 i (bs (txG (gL true L ga) 0 q)) i N (vG true L C))) (mkH ((101,gap4) :: (100,tkB N f) :: exG true L ga++glH G)) 102 ⟨[39,9],[],[38,37,8,5,1],101 :: 100 :: idG true⟩ ⟨[],[],[],[]⟩ ⟨[],[],[],[]⟩=some ⟨⟨[iv i,sv6 (bs (txG (gL true L ga) 0 q))],[],.exit 0,102⟩,none⟩:=by
   rw[p6_lb]
   unfold fr6
   rw[decide_eq_false (Int.lt_irrefl _)];rfl
  refine xwp_toEnd (s:=S6 true L C ga G N i f (i,_)) hcr hF0 1000 el (S6 true L C ga G N i f (i,txG (gL true L ga) 0 q)) ⟨_,(101,gap4) :: (100,tkB N f) :: exG true L ga++glH G,_,rfl,by rw[hn];rfl,by rw[hn];exact⟨rfl,rfl,rfl,rfl,rfl,rfl,rfl,trivial⟩,by rw[hn];exact⟨rfl,bis_tkB,(exG_bs (b:=true) (L:=L) (ga:=ga) (G:=G))⟩⟩ ?_
  show XWP E.toEnv x6_62 Q (S6 true L C ga G N i f (i,txG (gL true L ga) 0 q))
  have e34:=p6_34 true L C ga G N f i i (bs (txG (gL true L ga) 0 q)) lm
  rw[decP_true hc]at e34
  obtain⟨M,hM⟩:∃ M,lm.length=M:=⟨_,rfl⟩
  let h:Nat → Tk:=fun j=>lm.getD j tk0
  refine xwp_seq (xwp_toEnd (s:=S6 true L C ga G N i f (i,_)) (cl_seqP hcl) (hFR _) 1000 e34 ⟨mkT [12,14,5] [newS 102 M,.int .i64 0,newS 100 N],mkH ((102,tkB M h) :: (100,tkB N f) :: exG true L ga++glH G),103⟩
   ⟨_,(102,tkB M h) :: (100,tkB N f) :: exG true L ga++glH G,_,rfl,by rw[hn];rfl,by rw[hn,hM];exact⟨rfl,rfl,rfl,trivial⟩,by rw[hn];subst hM;exact⟨bis_tkL,bis_tkB,(exG_bs (b:=true) (L:=L) (ga:=ga) (G:=G))⟩⟩ ?_)
  have hMN:M=N:=by omega
  have e39:=p6_39 true L ga G N f M h
  rw[show((M:Int) != (N:Int))=false by rw[hMN];simp]at e39
  refine xwp_seq (xwp_toEnd (s:=⟨_,_,_⟩) (cl_seqP hcl) hF0 1000 e39 ⟨mkT [12,5] [newS 102 M,newS 100 N],mkH ((102,tkB M h) :: (100,tkB N f) :: exG true L ga++glH G),103⟩
   ⟨_,(102,tkB M h) :: (100,tkB N f) :: exG true L ga++glH G,_,rfl,by rw[hn];rfl,by rw[hn];exact⟨rfl,rfl,trivial⟩,by rw[hn];exact⟨bis_tkB,bis_tkB,(exG_bs (b:=true) (L:=L) (ga:=ga) (G:=G))⟩⟩ ?_)
  refine xwp_seq (xwp_toLoop (s:=⟨_,_,_⟩) hF0 1000 (p6_57 true L ga G N f M h) (Y6 true L ga G N M f h 0) ⟨_,(102,tkB M h) :: (100,tkB N f) :: exG true L ga++glH G,_,rfl,by rw[hn];rfl,by rw[hn];exact⟨rfl,rfl,rfl,rfl,trivial⟩,by rw[hn];exact⟨bis_tkB,bis_tkB,(exG_bs (b:=true) (L:=L) (ga:=ga) (G:=G))⟩⟩ ?_)
  clear hcr el e33 e34 e39 htl
  have hcr:=fun i=>cl_round (S:=Y6 true L ga G N M f h) (I:=fun i=>i ≤ N) (μ:=fun i=>N-i) (i:=i) (cl_ctx (cl_seqP (x:=x6_59) hcl) [.bl 2])
  refine xwp_loopR (ι:=Nat) (Y6 true L ga G N M f h) (fun i=>i ≤ N) (fun i=>N-i) 0 (Nat.zero_le _) fun i hi=>?_
  have el:=p6_l2 true L ga G N f i M h
  by_cases hlt:i<N
  ·rw[decide_eq_true (by omega),Nat.zero_add,lt_blt hlt,lt_blt (show i<M by omega),ir_nat,decide_eq_true (show i<M by omega),ir_nat,decide_eq_true hlt,gl6_true _ _ _ _ _ rfl rfl rfl rfl]at el
   have same:kt (f i)=kt (h i):=by
    have h1:=kt_at q1 i (by omega)
    have h2:=kt_at qc i (by omega)
    exact Option.some.inj (h1.symm.trans h2)
   obtain⟨k1,k2⟩:=kt_inj same
   rw[k1,k2,wrap_i (by omega) (by omega)]at el
   simp only[cond_true,bne_self_eq_false,cond_false,beq_self_eq_true,Bool.not_true]at el
   exact xwp_toEnd (s:=Y6 true L ga G N M f h i) (hcr i) hF0 1000 el (Y6 true L ga G N M f h (i+1)) ⟨_,(102,tkB M h) :: (100,tkB N f) :: exG true L ga++glH G,_,rfl,by rw[hn];rfl,by rw[hn];exact⟨rfl,rfl,rfl,rfl,trivial⟩,by rw[hn];exact⟨bis_tkB,bis_tkB,(exG_bs (b:=true) (L:=L) (ga:=ga) (G:=G))⟩⟩
    ⟨i+1,hlt,by simp only;omega,Wk.refl _ _⟩
  ·rw[decide_eq_false (by omega)]at el
   refine xwp_toEnd (s:=Y6 true L ga G N M f h i) (hcr i) hF0 1000 el (Y6 true L ga G N M f h i) ⟨_,(102,tkB M h) :: (100,tkB N f) :: exG true L ga++glH G,_,rfl,by rw[hn];rfl,by rw[hn];exact⟨rfl,rfl,rfl,rfl,trivial⟩,by rw[hn];exact⟨bis_tkB,bis_tkB,(exG_bs (b:=true) (L:=L) (ga:=ga) (G:=G))⟩⟩ ?_
   show XWP E.toEnv x6_59 Q (Y6 true L ga G N M f h i)
   exact xwp_toEnd (s:=Y6 true L ga G N M f h i) hcl hF0 1000 (p6_59 true L ga G N f i M h) _ lr hq
theorem b6_f {s:ByteArray}{G:Gv}{L C:Nat}{ga:Nat → Int} (hb:false=false → L=0) (hL:∀ j,j<L → 0 ≤ ga j ∧ ga j<256):Body Tryd.prog 6 [.string s,vG false L C] (mkH (exG false L ga++glH G)) (.bool true) [] 100 0:=by
 refine body_of' mixed fx6 (by simp) fun E Q hP hn hcl hfin=>?_
 have hFA:FnsOK E.P (lookF FL) scA9:=hP▸FOKA9
 have hF0:FnsOK E.P (lookF FL) noSc:=hP▸FOK
 have hFR:∀ R,FnsOK E.P (lookF FL) (scR R):=fun R=>by rw[hP];exact FOKR R
 have hq:Q .ret ⟨mkT [4] [.bool true],mkH (exG false L ga++glH G),100⟩:=hfin _ _ (fin_of rfl ⟨rfl,rfl,rfl,rfl,rfl,rfl,rfl,rfl,trivial⟩ (by rw[hn]) rfl)
 have lr:∀ {n:Nat},LeafTo E [4] ⟨[some (true,.bool true)],mkH (exG false L ga++glH G),.ret,n⟩ ⟨mkT [4] [.bool true],mkH (exG false L ga++glH G),100⟩:=fun {n} =>
  ⟨_,exG false L ga++glH G,_,rfl,by rw[hn];rfl,by rw[hn];exact⟨rfl,trivial⟩,by rw[hn];exact(exG_bs (b:=false) (L:=L) (ga:=ga) (G:=G))⟩
 refine xwp_seq (xwp_toEnd (s:=⟨_,_,_⟩) (cl_seqP hcl) hFA 1000 (p6_0 false L C ga s G) ⟨mkT [0,1] [.string s,vG false L C],mkH (exG false L ga++glH G),100⟩ ⟨_,exG false L ga++glH G,_,rfl,by rw[hn];rfl,by rw[hn];exact⟨rfl,rfl,trivial⟩,by rw[hn];exact(exG_bs (b:=false) (L:=L) (ga:=ga) (G:=G))⟩ ?_)
 have e5:=p6_5 false L C ga s G
 by_cases hbig:(s.size:Int)>700
 ·rw[decide_eq_true hbig]at e5
  exact xwp_seq (xwp_toEnd (s:=⟨_,_,_⟩) (cl_seqP hcl) hFA 1000 e5 _ lr hq)
 rw[decide_eq_false hbig]at e5
 refine xwp_seq (xwp_toEnd (s:=⟨_,_,_⟩) (cl_seqP hcl) hFA 1000 e5 ⟨mkT [0,1] [.string s,vG false L C],mkH (exG false L ga++glH G),100⟩ ⟨_,exG false L ga++glH G,_,rfl,by rw[hn];rfl,by rw[hn];exact⟨rfl,rfl,trivial⟩,by rw[hn];exact(exG_bs (b:=false) (L:=L) (ga:=ga) (G:=G))⟩ ?_)
 cases ha:lexF s with
 |inl pe =>
  obtain⟨p,e⟩:=pe
  have e6:=p6_67e false L C ga s G p e (lexF_err ha)
  rw[decP_true ha]at e6
  exact xwp_toEnd (s:=⟨_,_,_⟩) hcl (hFR _) 1000 e6 _ lr hq
 |inr l =>
  have e6:=p6_6 false L C ga s G l
  rw[decP_true ha]at e6
  obtain⟨N,hN⟩:∃ N,l.length=N:=⟨_,rfl⟩
  let f:Nat → Tk:=fun j=>l.getD j tk0
  refine xwp_seq (xwp_toEnd (s:=⟨_,_,_⟩) (cl_seqP hcl) (hFR _) 1000 e6 ⟨mkT [5,7,1] [newS 100 N,.int .i64 0,vG false L C],mkH ((100,tkB N f) :: exG false L ga++glH G),101⟩
   ⟨_,(100,tkB N f) :: exG false L ga++glH G,_,rfl,by rw[hn];rfl,by rw[hn,hN];exact⟨rfl,rfl,rfl,trivial⟩,by rw[hn];subst hN;exact⟨bis_tkL,(exG_bs (b:=false) (L:=L) (ga:=ga) (G:=G))⟩⟩ ?_)
  refine xwp_seq (xwp_toEnd (s:=⟨_,_,_⟩) (cl_seqP hcl) hF0 1000 (p6_11 false L C ga G N f) ⟨mkT [5,1] [newS 100 N,vG false L C],mkH ((100,tkB N f) :: exG false L ga++glH G),101⟩
   ⟨_,(100,tkB N f) :: exG false L ga++glH G,_,rfl,by rw[hn];rfl,by rw[hn];exact⟨rfl,rfl,trivial⟩,by rw[hn];exact⟨bis_tkB,(exG_bs (b:=false) (L:=L) (ga:=ga) (G:=G))⟩⟩ ?_)
  refine xwp_seq (xwp_toEnd (s:=⟨_,_,_⟩) (cl_seqP hcl) hF0 1000 (p6_12 false L C ga G N f) ⟨mkT [8,5,1] [pA 101,newS 100 N,vG false L C],mkH ((101,gap4) :: (100,tkB N f) :: exG false L ga++glH G),102⟩
   ⟨_,(101,gap4) :: (100,tkB N f) :: exG false L ga++glH G,_,rfl,by rw[hn];rfl,by rw[hn];exact⟨rfl,rfl,rfl,trivial⟩,by rw[hn];exact⟨rfl,bis_tkB,(exG_bs (b:=false) (L:=L) (ga:=ga) (G:=G))⟩⟩ ?_)
  refine xwp_seq (xwp_toEnd (s:=⟨_,_,_⟩) (cl_seqP hcl) hF0 1000 (p6_13 false L C ga G N f) ⟨mkT [9,8,5,1] [.string ⟨#[]⟩,pA 101,newS 100 N,vG false L C],mkH ((101,gap4) :: (100,tkB N f) :: exG false L ga++glH G),102⟩
   ⟨_,(101,gap4) :: (100,tkB N f) :: exG false L ga++glH G,_,rfl,by rw[hn];rfl,by rw[hn];exact⟨rfl,rfl,rfl,rfl,trivial⟩,by rw[hn];exact⟨rfl,bis_tkB,(exG_bs (b:=false) (L:=L) (ga:=ga) (G:=G))⟩⟩ ?_)
  obtain⟨q,q1,q2⟩:=lex_list ha
  have lenq:=congrArg List.length q1
  simp only[List.length_map,List.length_append,List.length_cons,List.length_nil]at lenq
  have hlN:=lexF_len ha
  obtain⟨m,hm⟩:∃ m,N=m+1:=⟨q.length,by omega⟩
  have hqm:q.length=m:=by omega
  have hsum:q.length ≤ sumW q ∧ sumW q ≤ s.size:=by
   obtain⟨a',x1,x2⟩:=q2
   have z1:=lxL_sum x2
   have z3:=(gp_len _ _ _ x1).2 (by simp)
   rw[Lib.size_eq]
   omega
  have hgl:=fun i=>gL_ok (b:=false) hL i
  have htx:=txG_len (g:=gL false L ga) (fun i=>(hgl i).2.2) q 0
  have hjn:=lexL_blanks (g:=gL false L ga) (fun i=>(hgl i).1) (fun i=>(hgl i).2.1) q2
  obtain⟨lm,hc,qc⟩:=list_lex (s:=bs (txG (gL false L ga) 0 q)) (by rw[bs_size];omega) (by omega) hjn
  have lenc:=congrArg List.length qc
  simp only[List.length_map,List.length_append,List.length_cons,List.length_nil]at lenc
  have e33:=p6_33 false L C ga G N f
  have hw:IntKind.i64.wrap ((N:Int)-1)=(m:Int):=by rw[wrap_i (by omega) (by omega)];omega
  have hok:ok6 N=true:=by unfold ok6;rw[hw,decide_eq_true (show 0 ≤ (m:Int) by omega),decide_eq_true (show(m:Int) ≤ (N:Int) by omega)];rfl
  rw[hok,hw,show((m:Int)-0).toNat=m by omega,Nat.sub_zero]at e33
  refine xwp_seq ?_
  refine xwp_toLoop (s:=⟨_,_,_⟩) hF0 1000 e33 (S6 false L C ga G N m f (0,[])) ⟨_,(101,gap4) :: (100,tkB N f) :: exG false L ga++glH G,_,rfl,by rw[hn];rfl,by rw[hn];exact⟨rfl,rfl,rfl,rfl,rfl,rfl,rfl,trivial⟩,by rw[hn];exact⟨rfl,bis_tkB,(exG_bs (b:=false) (L:=L) (ga:=ga) (G:=G))⟩⟩ ?_
  let I:Nat × List UInt8 → Prop:=fun z=>z.1 ≤ m ∧ z.2++txG (gL false L ga) z.1 (q.drop z.1)=txG (gL false L ga) 0 q
  refine xwp_loopR (ι:=Nat × List UInt8) (S6 false L C ga G N m f) I (fun z=>m-z.1) (0,[]) ⟨Nat.zero_le _,rfl⟩ fun z hz=>?_
  have hcr:=cl_round (S:=S6 false L C ga G N m f) (I:=I) (μ:=fun z=>m-z.1) (i:=z) (cl_ctx (cl_seqP (x:=x6_62) hcl) [.bl 0])
  obtain⟨i,t⟩:=z
  obtain⟨hi,ht⟩:=hz
  simp only at hi ht
  have htl:=congrArg List.length ht
  rw[List.length_append]at htl
  by_cases hlt:i<m
  ·have hft:kt (f i)=q[i]'(by omega):=by
    have h1:=kt_at q1 i (by omega)
    rw[List.getElem?_append_left (by omega),List.getElem?_eq_getElem (by omega)]at h1
    exact(Option.some.inj h1).symm
   have hd:q.drop i=q[i]'(by omega) :: q.drop (i+1):=List.drop_eq_getElem_cons (by omega)
   have hw2:(f i).text.data.toList=(q[i]'(by omega)).2:=by rw[← hft];rfl
   rw[hd,txG,← hw2]at ht
   have hsz:(bs t).size+(f i).text.size ≤ 100000:=by
    have:=congrArg List.length ht
    simp only[List.length_append]at this
    rw[bs_size,Lib.size_eq];omega
   have el:=p6_loop (C:=C) (G:=G) (f:=f) (txt:=bs t) hb hL hlt (show i<N by omega) hsz
   unfold nx6 at el
   rw[Nat.zero_add,wrap_i (by omega) (by omega)]at el
   refine xwp_toEnd (s:=S6 false L C ga G N m f (i,t)) hcr hF0 1000 el (S6 false L C ga G N m f (i+1,t++(f i).text.data.toList++gL false L ga i)) ⟨_,(101,gap4) :: (100,tkB N f) :: exG false L ga++glH G,_,rfl,by rw[hn];rfl,?_,by rw[hn];exact⟨rfl,bis_tkB,(exG_bs (b:=false) (L:=L) (ga:=ga) (G:=G))⟩⟩
    ⟨(i+1,t++(f i).text.data.toList++gL false L ga i),⟨hlt,by simp only[List.append_assoc];rw[← ht]⟩,by simp only;omega,Wk.refl _ _⟩
   rw[hn]
   refine⟨rfl,?_,rfl,rfl,rfl,rfl,rfl,trivial⟩
   show sv6 (app6 (bs t) (f i).text (gI false L ga i))=some (true,.string (bs (t++(f i).text.data.toList++gL false L ga i)))
   have:app6 (bs t) (f i).text (gI false L ga i)=bs (t++(f i).text.data.toList++gL false L ga i):=by
    unfold app6 gL
    rw[show(bs t++(f i).text).data.toList=t++(f i).text.data.toList by simp[bs]]
    rfl
   rw[this];rfl
  have him:i=m:=by omega
  subst him
  have hd:q.drop i=[]:=by rw[List.drop_eq_nil_iff];omega
  rw[hd,show txG (gL false L ga) i []=[] from rfl,List.append_nil]at ht
  subst ht
  have el:walk (lookF FL) noSc 1000 x6_30 (mkT k6 (v6 i (bs (txG (gL false L ga) 0 q)) i N (vG false L C))) (mkH ((101,gap4) :: (100,tkB N f) :: exG false L ga++glH G)) 102 ⟨[39,9],[],[38,37,8,5,1],101 :: 100 :: idG false⟩ ⟨[],[],[],[]⟩ ⟨[],[],[],[]⟩=some ⟨⟨[iv i,sv6 (bs (txG (gL false L ga) 0 q))],[],.exit 0,102⟩,none⟩:=by
   rw[p6_ln]
   unfold fr6
   rw[decide_eq_false (Int.lt_irrefl _)];rfl
  refine xwp_toEnd (s:=S6 false L C ga G N i f (i,_)) hcr hF0 1000 el (S6 false L C ga G N i f (i,txG (gL false L ga) 0 q)) ⟨_,(101,gap4) :: (100,tkB N f) :: exG false L ga++glH G,_,rfl,by rw[hn];rfl,by rw[hn];exact⟨rfl,rfl,rfl,rfl,rfl,rfl,rfl,trivial⟩,by rw[hn];exact⟨rfl,bis_tkB,(exG_bs (b:=false) (L:=L) (ga:=ga) (G:=G))⟩⟩ ?_
  show XWP E.toEnv x6_62 Q (S6 false L C ga G N i f (i,txG (gL false L ga) 0 q))
  have e34:=p6_34 false L C ga G N f i i (bs (txG (gL false L ga) 0 q)) lm
  rw[decP_true hc]at e34
  obtain⟨M,hM⟩:∃ M,lm.length=M:=⟨_,rfl⟩
  let h:Nat → Tk:=fun j=>lm.getD j tk0
  refine xwp_seq (xwp_toEnd (s:=S6 false L C ga G N i f (i,_)) (cl_seqP hcl) (hFR _) 1000 e34 ⟨mkT [12,14,5] [newS 102 M,.int .i64 0,newS 100 N],mkH ((102,tkB M h) :: (100,tkB N f) :: exG false L ga++glH G),103⟩
   ⟨_,(102,tkB M h) :: (100,tkB N f) :: exG false L ga++glH G,_,rfl,by rw[hn];rfl,by rw[hn,hM];exact⟨rfl,rfl,rfl,trivial⟩,by rw[hn];subst hM;exact⟨bis_tkL,bis_tkB,(exG_bs (b:=false) (L:=L) (ga:=ga) (G:=G))⟩⟩ ?_)
  have hMN:M=N:=by omega
  have e39:=p6_39 false L ga G N f M h
  rw[show((M:Int) != (N:Int))=false by rw[hMN];simp]at e39
  refine xwp_seq (xwp_toEnd (s:=⟨_,_,_⟩) (cl_seqP hcl) hF0 1000 e39 ⟨mkT [12,5] [newS 102 M,newS 100 N],mkH ((102,tkB M h) :: (100,tkB N f) :: exG false L ga++glH G),103⟩
   ⟨_,(102,tkB M h) :: (100,tkB N f) :: exG false L ga++glH G,_,rfl,by rw[hn];rfl,by rw[hn];exact⟨rfl,rfl,trivial⟩,by rw[hn];exact⟨bis_tkB,bis_tkB,(exG_bs (b:=false) (L:=L) (ga:=ga) (G:=G))⟩⟩ ?_)
  refine xwp_seq (xwp_toLoop (s:=⟨_,_,_⟩) hF0 1000 (p6_57 false L ga G N f M h) (Y6 false L ga G N M f h 0) ⟨_,(102,tkB M h) :: (100,tkB N f) :: exG false L ga++glH G,_,rfl,by rw[hn];rfl,by rw[hn];exact⟨rfl,rfl,rfl,rfl,trivial⟩,by rw[hn];exact⟨bis_tkB,bis_tkB,(exG_bs (b:=false) (L:=L) (ga:=ga) (G:=G))⟩⟩ ?_)
  clear hcr el e33 e34 e39 htl
  have hcr:=fun i=>cl_round (S:=Y6 false L ga G N M f h) (I:=fun i=>i ≤ N) (μ:=fun i=>N-i) (i:=i) (cl_ctx (cl_seqP (x:=x6_59) hcl) [.bl 2])
  refine xwp_loopR (ι:=Nat) (Y6 false L ga G N M f h) (fun i=>i ≤ N) (fun i=>N-i) 0 (Nat.zero_le _) fun i hi=>?_
  have el:=p6_l2 false L ga G N f i M h
  by_cases hlt:i<N
  ·rw[decide_eq_true (by omega),Nat.zero_add,lt_blt hlt,lt_blt (show i<M by omega),ir_nat,decide_eq_true (show i<M by omega),ir_nat,decide_eq_true hlt,gl6_true _ _ _ _ _ rfl rfl rfl rfl]at el
   have same:kt (f i)=kt (h i):=by
    have h1:=kt_at q1 i (by omega)
    have h2:=kt_at qc i (by omega)
    exact Option.some.inj (h1.symm.trans h2)
   obtain⟨k1,k2⟩:=kt_inj same
   rw[k1,k2,wrap_i (by omega) (by omega)]at el
   simp only[cond_true,bne_self_eq_false,cond_false,beq_self_eq_true,Bool.not_true]at el
   exact xwp_toEnd (s:=Y6 false L ga G N M f h i) (hcr i) hF0 1000 el (Y6 false L ga G N M f h (i+1)) ⟨_,(102,tkB M h) :: (100,tkB N f) :: exG false L ga++glH G,_,rfl,by rw[hn];rfl,by rw[hn];exact⟨rfl,rfl,rfl,rfl,trivial⟩,by rw[hn];exact⟨bis_tkB,bis_tkB,(exG_bs (b:=false) (L:=L) (ga:=ga) (G:=G))⟩⟩
    ⟨i+1,hlt,by simp only;omega,Wk.refl _ _⟩
  ·rw[decide_eq_false (by omega)]at el
   refine xwp_toEnd (s:=Y6 false L ga G N M f h i) (hcr i) hF0 1000 el (Y6 false L ga G N M f h i) ⟨_,(102,tkB M h) :: (100,tkB N f) :: exG false L ga++glH G,_,rfl,by rw[hn];rfl,by rw[hn];exact⟨rfl,rfl,rfl,rfl,trivial⟩,by rw[hn];exact⟨bis_tkB,bis_tkB,(exG_bs (b:=false) (L:=L) (ga:=ga) (G:=G))⟩⟩ ?_
   show XWP E.toEnv x6_59 Q (Y6 false L ga G N M f h i)
   exact xwp_toEnd (s:=Y6 false L ga G N M f h i) hcl hF0 1000 (p6_59 false L ga G N f i M h) _ lr hq
theorem b6 {s:ByteArray}{G:Gv}{b:Bool}{L C:Nat}{ga:Nat → Int} (hb:b=false → L=0) (hL:∀ j,j<L → 0 ≤ ga j ∧ ga j<256):Body Tryd.prog 6 [.string s,vG b L C] (mkH (exG b L ga++glH G)) (.bool true) [] 100 0:=by
 cases b
 ·exact b6_f hb hL
 ·exact b6_t hb hL
end Go.X
namespace Go.X
open Go Go.Proofs Go.Proofs.YtghpjlmaamnnpaaDoor
set_option linter.unusedVariables false
theorem lit_has {k:IntKind}{n:Int} (h:(Lit.int k n).wf=true):k.has n:=by simpa [Lit.wf,IntKind.has]using h
theorem slice_in {H:Type}{enc:TypeId × Value → H}{P:Program}{W:World}{base:Nat}{t e:TypeId}{v:Value}{d:DataW H}{p:List MemPlace}{k:IntKind} (ht:P.underlying t=some (.slice e)) (he:P.underlying e=some (.int k)) (hc:P.cellsOf e=1)
  (hok:Value.okWide P W .any base t v) (h:DataW.Trod enc P W 0 (fun _=>true) true t v d p) :
  ∃ (b:Bool) (a:Addr) (L C:Nat) (f:Nat → Int),v=(bif b then .slice (some a) L C else .slice none 0 0) ∧ (b=false → L=0) ∧ L ≤ C ∧ ∀ i,i<L → W.cell? (a.add i)=some (.int k (f i)) ∧ k.has (f i):=by
 obtain⟨a0,len0,cap0,rfl⟩:=Go.WideShapes.okWide_slice ht hok
 obtain⟨fuel,hf⟩:=h
 rcases Go.Deep.open_slice1 ht hc hf with⟨hcs,_⟩|⟨a,len,cap,m,n,V,D,Pl,hcs,hb,hl,hm,hmm,hx,hi⟩
 ·simp[Value.cells]at hcs
  obtain⟨rfl,rfl,rfl⟩:=hcs
  exact⟨false,⟨0,0,none⟩,0,0,fun _=>0,rfl,fun _=>rfl,Nat.le_refl _,fun i hi=>absurd hi (Nat.not_lt_zero _)⟩
 ·simp[Value.cells]at hcs
  obtain⟨rfl,rfl,rfl⟩:=hcs
  have hlm:len0 ≤ m:=by rw[hmm];simpa using hl
  have hE:∀ i:Nat,∃ z:Int,i<len0 → W.cell? (a.add i)=some (.int k z) ∧ k.has z:=fun i=>by
   by_cases hil:i<len0
   ·obtain⟨hc,ht⟩:=hi i (Nat.lt_of_lt_of_le hil hlm)
    obtain⟨z,e,_,hwf⟩:=DataW.trod_int he ht
    have e:=(List.cons.inj e).1
    exact⟨z,fun _=>⟨by rw[hc,e],lit_has hwf⟩⟩
   ·exact⟨0,fun h=>absurd h hil⟩
  obtain⟨J,hJ⟩:=Classical.axiomOfChoice hE
  exact⟨true,a,len0,cap0,J,rfl,fun h=>(by cases h),hl,hJ⟩
theorem call_gs {s:ByteArray}{b:Bool}{a:Addr}{L C:Nat}{ga:Nat → Int}{W:World} (hb:b=false → L=0) (hg:∀ i,i<L → W.cell? (a.add i)=some (.int .u8 (ga i)) ∧ IntKind.u8.has (ga i)) (hL:laidMetH Tryd.prog laid0 W) (hsh:W.ShapedOpen Tryd.prog) :
  Calls Tryd.prog 6 #[.string s,(bif b then .slice (some a) L C else .slice none 0 0)] W fun e w'=>e=.returned (.bool true) ∧ Go.RowKit.Below W.heap.size W w':=by
 obtain⟨G,ρ,hr,h20,_⟩:=rel_of hL hsh
 have hga:∀ j,j<L → 0 ≤ ga j ∧ ga j<256:=fun j hj=>by
  have h:=(hg j hj).2
  have h1:=h.1
  have h2:=h.2
  rw[show IntKind.u8.min=0 from rfl]at h1
  rw[show IntKind.u8.max=255 from rfl]at h2
  omega
 cases b with
 |false=>exact call_ro (b6 (s:=s) (G:=G) (b:=false) (L:=L) (C:=C) (ga:=ga) hb hga) ρ (fun id hid=>h20 id (by omega)) hr (fun id b hb=>gl_ro hb) ⟨.string _,.snil,trivial⟩
 |true =>
  have h40:ρ 40=none:=h20 40 (by decide)
  have hro:∀ id b,hget (mkH (exG true L ga++glH G)) id=some b → b.ro=true:=fun id b h=>by
   have hm:=mkH_mem h
   simp only[exG,cond_true,List.cons_append,List.nil_append,List.mem_cons,Prod.mk.injEq]at hm
   rcases hm with⟨rfl,rfl⟩|hm
   ·rfl
   ·simp only[glH,List.mem_cons,List.not_mem_nil,or_false,Prod.mk.injEq]at hm
    rcases hm with⟨rfl,rfl⟩|⟨rfl,rfl⟩|⟨rfl,rfl⟩|⟨rfl,rfl⟩|⟨rfl,rfl⟩|⟨rfl,rfl⟩|⟨rfl,rfl⟩|⟨rfl,rfl⟩<;>rfl
  refine call_ro (b6 (s:=s) (G:=G) (b:=true) (L:=L) (C:=C) (ga:=ga) hb hga) (rset ρ 40 ⟨a,1,0⟩) (fun id hid=>?_) ⟨fun id bk h=>?_,fun id bk id' b' l l' h _ _ h1=>?_⟩ hro ⟨.string _,?_,trivial⟩
  ·rw[rset_ne _ _ (by omega)];exact h20 id (by omega)
  ·by_cases e:id=40
   ·subst e
    have:bk=gaB L ga:=by
     have h:some (gaB L ga)=some bk:=h
     exact(Option.some.inj h).symm
    subst this
    refine⟨_,rset_same _ _ _,rfl,fun _ h=>(by cases h),fun j hj=>⟨rfl,fun o v hv=>?_⟩,fun h=>(by cases h)⟩
    have ho:o<1:=(List.getElem?_eq_some_iff.1 hv).1
    obtain rfl:o=0:=by omega
    cases hv
    refine⟨_,?_,rfl,.int _ _⟩
    simpa using(hg j hj).1
   ·have h':hget (mkH (glH G)) id=some bk:=by
     have hx:hget (mkH (exG true L ga++glH G)) id=cond (Nat.beq 40 id) (some (gaB L ga)) (hget (mkH (glH G)) id):=rfl
     rw[hx]at h
     have hbq:Nat.beq 40 id=false:=by
      cases hq:Nat.beq 40 id with
      |false=>rfl
      |true=>exact absurd (Nat.eq_of_beq_eq_true hq).symm e
     rw[hbq]at h
     exact h
    obtain⟨l,hl,hh⟩:=hr.holds id bk h'
    exact⟨l,by rw[rset_ne _ _ e];exact hl,hh.stay (le_rset _ h40) fun _=>rfl⟩
  ·rw[hro id bk h]at h1;cases h1
  ·have h:=V.slc (ρ:=rset ρ 40 ⟨a,1,0⟩) (id:=40) (idx:=0) (l:=⟨a,1,0⟩) (len:=L) (cap:=C) (rset_same _ _ _)
   have h2:V (rset ρ 40 ⟨a,1,0⟩) (.slice (some ⟨40,0,none⟩) L C) (.slice (some a) L C):=by simpa [Addr.add]using h
   exact h2
end Go.X
