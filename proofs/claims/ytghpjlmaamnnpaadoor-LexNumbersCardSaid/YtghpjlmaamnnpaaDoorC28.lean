import Derived.Test.YtghpjlmaamnnpaaDoorC27
set_option linter.all false
namespace Go.X
open Go Go.Proofs
set_option linter.unusedVariables false
set_option linter.unusedSimpArgs false
theorem g7_true (b:Bool):g7 b=true:=by cases b<;>rfl
theorem gE_true (a b:Bool):gE a b=true:=by cases a<;>rfl
theorem gF_true:∀ a b c:Bool,gF a b c=true:=by decide
theorem bs_nil {l:List UInt8}:((bs l).toList==(ByteArray.mk #[]).toList)=decide (l=[]):=by
 rw[toList_data,empL]
 cases l<;>simp[bs]
def S7 (n:Nat) (G:Gv) (z:Nat × List UInt8):St:=⟨mkT k7 [.string (bs z.2),.int .u64 (z.1:Int),.string ⟨#[]⟩,.int .u64 (n:Int)],mkH (glH G),101⟩
def Z7 (n:Nat) (l:List UInt8) (G:Gv) (z:Nat × List UInt8):St:=⟨mkT j7 [.string (bs z.2),.int .u64 (z.1:Int),.string (bs l),.int .u64 (n:Int)],mkH (glH G),101⟩
def μ7 (z:Nat × List UInt8):Nat:=z.1+if z.2=[]then 1 else 0
theorem ans_lim {n:Nat} (h:n<9223372036854775808):ansL (limO n)=((n:Int),0):=by unfold limO;rw[if_pos h];rfl
theorem ans_lim' {n:Nat} (h:¬ n<9223372036854775808):ansL (limO n)=(0,10):=by unfold limO;rw[if_neg h];rfl
theorem Dg.size {b n x:Nat}{l:List UInt8} (hb:2 ≤ b) (hn:n<18446744073709551616) (h:Dg b n x l):l.length ≤ 65:=by
 rcases h.len1 with h1|h1
 ·omega
 ·rcases Nat.lt_or_ge 65 l.length with h2|h2
  ·have h3:2 ^ 65 ≤ 2 ^ (l.length-1):=Nat.pow_le_pow_right (by decide) (by omega)
   have h4:2 ^ (l.length-1) ≤ b ^ (l.length-1):=Nat.pow_le_pow_left hb _
   have h5:(2:Nat) ^ 65=36893488147419103232:=by decide
   omega
  ·exact h2
theorem b7 {n:Nat}{G:Gv} (hn64:n<18446744073709551616):Body Tryd.prog 7 [.int .u64 (n:Int)] (mkH (glH G)) (.bool true) [] 100 0:=by
 refine body_of' mixed fx7 (by simp) fun E Q hP hn hcl hfin=>?_
 have hF:FnsOK E.P (lookF FL) sc10:=hP▸FOK10
 have hF0:FnsOK E.P (lookF FL) noSc:=hP▸FOK
 have hq:Q .ret ⟨mkT [2] [.bool true],mkH (glH G),100⟩:=hfin _ _ (fin_of rfl ⟨rfl,rfl,rfl,rfl,rfl,rfl,rfl,rfl,trivial⟩ (by rw[hn]) rfl)
 have lf:∀ {ks:List Nat}{vs:List Value}{l:Leaf},l.bs=mkH (glH G) → tsOK (stayOr 100 (pis (glH G) (mkH (glH G)))) l.ts vs → LeafTo E ks l ⟨mkT ks vs,mkH (glH G),101⟩:=fun {ks vs l} hb ht =>
  ⟨_,glH G,_,rfl,by rw[hn,hb];rfl,by rw[hn,hb];exact ht,by rw[hn,hb];exact gl_bs⟩
 refine xwp_toLoop (s:=⟨_,_,_⟩) hF 1000 (p7_0 n G) (S7 n G (n,[])) (lf rfl ⟨rfl,rfl,rfl,rfl,trivial⟩) ?_
 have hlt:∀ {b x:Nat}{l:List UInt8},Dg b n x l → 2 ≤ b → x<18446744073709551616:=fun h hb=>by
  have h1:=h.val
  have h2:=valL_ge (b:=_) (by omega) _ _ |> fun h=>h1▸h
  omega
 refine xwp_loopR (ι:=Nat × List UInt8) (S7 n G) (fun z=>Dg 10 n z.1 z.2) μ7 (n,[]) (Dg.start 10 n) fun z hz=>?_
 have hcr:=cl_round (S:=S7 n G) (I:=fun z=>Dg 10 n z.1 z.2) (μ:=μ7) (i:=z) (cl_ctx hcl [.bl 0,.sq x7_43])
 obtain⟨x,l⟩:=z
 simp only at hz
 have hx:=hlt hz (by decide)
 have hsz:=hz.size (by decide) hn64
 have e:=p7_1 (bs l) n x G
 rw[g7_true,cond_true,bs_nil]at e
 by_cases hgo:0<x ∨ l=[]
 ·have hc:(bif decide ((x:Int)>0)then true else decide (l=[]))=true:=by
   rcases hgo with h|h
   ·rw[decide_eq_true (show(x:Int)>0 by omega)];rfl
   ·rw[decide_eq_true h];cases decide ((x:Int)>0)<;>rfl
  obtain⟨d1,d2⟩:=cD_dig x
  have hst:=hz.step (by decide) hgo d1 (.inl d2)
  have hq1:IntKind.u64.wrap ((x:Int).tdiv 10)=((x / 10:Nat):Int):=by
   rw[Int.tdiv_eq_ediv_of_nonneg (by omega),IntKind.wrap_u64];omega
  rw[hc,decide_eq_true (show 1+(bs l).size ≤ 9223372036854775807 by rw[bs_size];omega),hq1]at e
  refine xwp_toEnd (s:=S7 n G (x,l)) hcr hF0 1000 e (S7 n G (x / 10,cD x :: l)) (lf rfl ⟨rfl,rfl,rfl,rfl,trivial⟩) ⟨(x / 10,cD x :: l),hst,?_,Wk.refl _ _⟩
  unfold μ7
  simp only[if_neg (show ¬ (cD (x:Int) :: l=[]) by simp)]
  rcases hgo with h|h
  ·have:x / 10<x:=Nat.div_lt_self h (by decide)
   omega
  ·rw[if_pos h]
   have:x / 10 ≤ x:=Nat.div_le_self x 10
   omega
 have hx0:x=0:=by omega
 have hl:l≠[]:=fun h=>hgo (.inr h)
 subst hx0
 rw[decide_eq_false hl]at e
 refine xwp_toEnd (s:=S7 n G (0,l)) hcr hF0 1000 e (S7 n G (0,l)) (lf rfl ⟨rfl,rfl,rfl,rfl,trivial⟩) ?_
 show XWP E.toEnv x7_43 Q (S7 n G (0,l))
 refine xwp_toLoop (s:=S7 n G (0,l)) hF0 1000 (p7_2 (bs l) n (0:Nat) G) (Z7 n l G (n,[])) (lf rfl ⟨rfl,rfl,rfl,rfl,trivial⟩) ?_
 have hdec:=hz
 clear hz hgo e hcr hx
 refine xwp_loopR (ι:=Nat × List UInt8) (Z7 n l G) (fun z=>Dg 16 n z.1 z.2) μ7 (n,[]) (Dg.start 16 n) fun z hz=>?_
 have hcr:=cl_round (S:=Z7 n l G) (I:=fun z=>Dg 16 n z.1 z.2) (μ:=μ7) (i:=z) (cl_ctx hcl [.bl 2,.sq x7_42])
 obtain⟨x,t⟩:=z
 simp only at hz
 have hx:=hlt hz (by decide)
 have htz:=hz.size (by decide) hn64
 have e:=p7_3 (bs l) (bs t) n x G
 rw[g7_true,cond_true,bs_nil]at e
 by_cases hgo:0<x ∨ t=[]
 ·have hc:(bif decide ((x:Int)>0)then true else decide (t=[]))=true:=by
   rcases hgo with h|h
   ·rw[decide_eq_true (show(x:Int)>0 by omega)];rfl
   ·rw[decide_eq_true h];cases decide ((x:Int)>0)<;>rfl
  obtain⟨c,c1,c2,d1,d2⟩:=cH_dig x
  have hst:=hz.step (by decide) hgo d1 d2
  have hq1:IntKind.u64.wrap ((x:Int).tdiv 16)=((x / 16:Nat):Int):=by
   rw[Int.tdiv_eq_ediv_of_nonneg (by omega),IntKind.wrap_u64];omega
  have hm1:((x:Int).tmod 16)=((x % 16:Nat):Int):=by rw[Int.tmod_eq_emod_of_nonneg (by omega)];omega
  have hm2:x % 16<16:=Nat.mod_lt _ (by decide)
  have hm3:IntKind.u64.wrap (((x % 16:Nat):Int)+1)=((x % 16+1:Nat):Int):=by rw[IntKind.wrap_u64];omega
  rw[hc,c1,c2,hm1,hm3,decide_eq_true (show 1+(bs t).size ≤ 9223372036854775807 by rw[bs_size];omega),decide_eq_true (show 0 ≤ ((x % 16:Nat):Int) by omega),decide_eq_true (show((x % 16:Nat):Int) ≤ ((x % 16+1:Nat):Int) by omega),decide_eq_true (show((x % 16+1:Nat):Int) ≤ 16 by omega),hq1]at e
  refine xwp_toEnd (s:=Z7 n l G (x,t)) hcr hF0 1000 e (Z7 n l G (x / 16,c :: t)) (lf rfl ⟨rfl,rfl,rfl,rfl,trivial⟩) ⟨(x / 16,c :: t),hst,?_,Wk.refl _ _⟩
  unfold μ7
  simp only[if_neg (show ¬ (c :: t=[]) by simp)]
  rcases hgo with h|h
  ·have:x / 16<x:=Nat.div_lt_self h (by decide)
   omega
  ·rw[if_pos h]
   have:x / 16 ≤ x:=Nat.div_le_self x 16
   omega
 have hx0:x=0:=by omega
 have ht:t≠[]:=fun h=>hgo (.inr h)
 subst hx0
 rw[decide_eq_false ht]at e
 refine xwp_toEnd (s:=Z7 n l G (0,t)) hcr hF0 1000 e (Z7 n l G (0,t)) (lf rfl ⟨rfl,rfl,rfl,rfl,trivial⟩) ?_
 show XWP E.toEnv x7_42 Q (Z7 n l G (0,t))
 have e4:=p7_4 (bs l) (bs t) n (0:Nat) G
 have m1:meanF (bs l)=ansL (limO n):=by rw[mean_eq];exact congrArg ansL (mean_dec hn64 hdec hl)
 have m2:meanF (xT (bs t))=ansL (limO n):=by rw[mean_eq];exact congrArg ansL (mean_hex hn64 hz ht)
 rw[m1,m2,gE_true,gF_true,show(bs l).size.blt 35184372088832=true from lt_blt (by rw[bs_size];omega),
  show(xT (bs t)).size.blt 35184372088832=true from lt_blt (by show t.length+2<_;omega),decide_eq_true (show 2+(bs t).size ≤ 9223372036854775807 by rw[bs_size];omega)]at e4
 have fin:∀ {a:Bool},a=true → walk (lookF FL) sc10 1000 x7_42 (mkT j7 [.string (bs t),.int .u64 ((0:Nat):Int),.string (bs l),.int .u64 (n:Int)]) (mkH (glH G)) 101 ⟨[],[],[],[]⟩ ⟨[2],[],[],gIds⟩ ⟨[],[],[],[]⟩=some ⟨⟨[some (true,.bool a)],[],.ret,101⟩,none⟩ → XWP E.toEnv x7_42 Q (Z7 n l G (0,t)):=fun {a} ha e=>by
  subst ha
  exact xwp_toEnd (s:=Z7 n l G (0,t)) hcl hF 1000 e ⟨mkT [2] [.bool true],mkH (glH G),100⟩ ⟨_,glH G,_,rfl,by rw[hn];rfl,by rw[hn];exact⟨rfl,trivial⟩,by rw[hn];exact gl_bs⟩ hq
 by_cases hbig:n<9223372036854775808
 ·rw[ans_lim hbig,decide_eq_false (by omega)]at e4
  exact fin (by simp) e4
 ·rw[ans_lim' hbig,decide_eq_true (by omega)]at e4
  exact fin (by rfl) e4
theorem b7' {n:Int}{G:Gv} (h:IntKind.u64.has n):Body Tryd.prog 7 [.int .u64 n] (mkH (glH G)) (.bool true) [] 100 0:=by
 have h1:=h.1
 have h2:=h.2
 rw[show IntKind.u64.min=0 from rfl]at h1
 rw[show IntKind.u64.max=18446744073709551615 from rfl]at h2
 have:=b7 (n:=n.toNat) (G:=G) (by omega)
 rwa [show((n.toNat:Nat):Int)=n by omega]at this
end Go.X
