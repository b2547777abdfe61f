import Derived.Test.YtkghggngmpmigaaC49
set_option linter.all false
namespace Go.X
open Go Go.Proofs
theorem u16_rg {n:Int} (h:IntKind.u16.has n):0<=n/\n<=65535:=by simpa [IntKind.has,IntKind.min,IntKind.max,IntKind.signed,IntKind.bits]using h
theorem u8_rg {n:Int} (h:IntKind.u8.has n):0<=n/\n<=255:=by simpa [IntKind.has,IntKind.min,IntKind.max,IntKind.signed,IntKind.bits]using h
theorem uB_hs {n:Int} (h:IntKind.u64.has n):uB n=true:=by
 have:0<=n/\n<=18446744073709551615:=by simpa [IntKind.has,IntKind.min,IntKind.max,IntKind.signed,IntKind.bits]using h
 exact uB_iff.2 (by omega)
theorem b305 {b:Bool}{L C:Nat}{f v:Nat->Int}{c:Int} (hb:b=false->L=0) (hf:∀ j,j<L->0<=f j/\f j<=65535) (hv:∀ j,j<4->uB (v j)=true) (hc:0<=c/\c<=255) :
  Body Try.prog 5 [vP b L C,v4V v,.int .u8 c] (mkH (exP b (pB16 L f))) (.bool true) [] 50 0:=by
 obtain⟨m,x,hy,hnew⟩:=b308 h_A
 obtain⟨n,hn,hcl5⟩:=cl5_eq hc.1 hc.2
 refine body_of_ro [] mixed fx305 (by simp) ?_ fun E Q hP hE hcl hfin=>?_
 ·intro id blk h hro
  cases b
  ·cases h
  ·simp only[exP,cond_true,mkH,hget]at h
   revert h
   cases Nat.beq 40 id<;>intro h
   ·cases h
   ·cases h;cases hro
 have hF:FnsOK E.P (lookF FL) noSc:=hP▸FOK
 have hpb:∀ {σ:Nm},BIs Try.prog σ (pB16 L f) (pB16 L f):=⟨rfl,rfl,fun _ _=>rfl,.inr (.inr rfl),.inl rfl⟩
 refine xwp_seqW (s:=⟨_,_,_⟩) hcl hF 1000 (p305_0 L C f v c b) rfl ⟨mkT [4,0,2] [ptN 50,vP b L C,.int .u8 c],mkH ([(50,v4B v)]++exP b (pB16 L f)),51⟩ ⟨_,_,_,rfl,by rw[hE];cases b<;>rfl,by rw[hE];cases b<;>exact⟨rfl,rfl,rfl,trivial⟩,by
  rw[hE,hP]
  cases b
  ·exact⟨rfl,trivial⟩
  ·exact⟨rfl,hpb,trivial⟩⟩ ?_
 have e1:=p305_1 L C f v c m (rtM 327680) b
 rw[da_true (at_new51 hnew) trivial]at e1
 refine xwp_seqW (s:=⟨_,_,_⟩) hcl (fokE hP _) 1000 e1 rfl ⟨mkT [7,8,4,0,2] [ptN 62,.bool true,ptN 63,vP b L C,.int .u8 c],mkH (y5 m (rtM 327680) v b (pB16 L f)),130⟩ ⟨_,_,_,rfl,by rw[hE];cases b<;>rfl,by rw[hE];cases b<;>exact⟨rfl,rfl,rfl,rfl,rfl,trivial⟩,by
  rw[hE,hP]
  cases b
  ·exact⟨bis_mem,bis_kn,bis_mAt (a:=90) (b:=91) rfl rfl,bis_lmap,rfl,rfl,trivial⟩
  ·exact⟨bis_mem,bis_kn,bis_mAt (a:=90) (b:=91) rfl rfl,bis_lmap,rfl,rfl,hpb,trivial⟩⟩ ?_
 have fin:∀ {s:St}{k:Nat}{sc:Short}{y:XCode},FnsOK E.P (lookF FL) sc->walk (lookF FL) sc 1000 y s.t s.h s.n j0_ ⟨[6],[],[],[]⟩ j0_=some ⟨⟨[some (true,.bool true)],[],.ret,k⟩,none⟩->k=130->XWP E.toEnv y Q s:=fun {s k sc y} hF e hk=>by
  subst hk
  exact xwp_toEnd hcl hF 1000 e ⟨mkT [6] [.bool true],mkH [],50⟩ ⟨_,[],50,rfl,by rw[hE];rfl,by rw[hE];exact⟨rfl,trivial⟩,trivial⟩ (hfin _ _ (fin_of rfl trivial (by rw[hE]) rfl))
 have e6:=p305_6 L C f v c m (rtM 327680) b
 by_cases hbig:(bif b then decide ((L:Int)>12)else false)=true
 ·rw[hbig,cond_true]at e6
  refine xwp_seq (xwp_toEnd (s:=⟨_,_,_⟩) (cl_seqP hcl) (fokE hP _) 1000 e6 ⟨mkT [6] [.bool true],mkH [],50⟩ ⟨_,[],50,rfl,by rw[hE];rfl,by rw[hE];exact⟨rfl,trivial⟩,trivial⟩ ?_)
  exact hfin _ _ (fin_of rfl trivial (by rw[hE]) rfl)
 rw[Bool.not_eq_true]at hbig
 rw[hbig,cond_false]at e6
 refine xwp_seqW (s:=⟨_,_,_⟩) hcl (fokE hP _) 1000 e6 rfl ⟨mkT [7,4,0,2] [ptN 62,ptN 63,vP b L C,.int .u8 c],mkH (y5 m (rtM 327680) v b (pB16 L f)),130⟩ ⟨_,_,_,rfl,by rw[hE];cases b<;>rfl,by rw[hE];cases b<;>exact⟨rfl,rfl,rfl,rfl,trivial⟩,by
  rw[hE,hP]
  cases b
  ·exact⟨bis_mem,bis_kn,bis_mAt (a:=90) (b:=91) rfl rfl,bis_lmap,rfl,rfl,trivial⟩
  ·exact⟨bis_mem,bis_kn,bis_mAt (a:=90) (b:=91) rfl rfl,bis_lmap,rfl,rfl,hpb,trivial⟩⟩ ?_
 cases b with
 |false =>
  obtain⟨m1,x1,_,d1⟩:=do_clear (b:=131) (.inr (.inl rfl)) hy hn hcl5
  have e:=p305_92n L C f v c m m1 (rtM 327680) x1
  rw[d1]at e
  refine(xwp_piece (E:=E) (Q:=Q) (s:=⟨mkT [7,4,0,2] [ptN 62,ptN 63,vP false L C,.int .u8 c],mkH (y5 m (rtM 327680) v false (pB16 L f)),130⟩) (fokE hP _) 1000 [6] [] e ⟨mkT [6] [.bool true],mkH [],50⟩ ⟨_,[],50,rfl,by rw[hE];rfl,by rw[hE];exact⟨rfl,trivial⟩,trivial⟩ (hfin _ _ (fin_of rfl trivial (by rw[hE]) rfl))).mono fun e s hs=>?_
  obtain⟨s',hw,hq⟩:=hs
  exact hcl _ _ _ hw hq
 |true =>
  have hL:L<=12:=by
   simp only[cond_true,decide_eq_false_iff_not]at hbig;omega
  let S1:Nat × UM × MS->St:=fun z=>⟨T1 z.1 L C c,mkH (B1 z.2.2 (rtM 327680) z.2.1 v L f),130⟩
  have lf1:∀ {l:Leaf}{i:Nat}{u:UM}{m:MS}{ks:List Nat}{vs:List Value},l.bs=mkH (B1 m (rtM 327680) u v L f)->tsOK (stayOr 50 (pis (B1 m (rtM 327680) u v L f) (mkH (B1 m (rtM 327680) u v L f)))) l.ts vs->LeafTo E ks l ⟨mkT ks vs,mkH (B1 m (rtM 327680) u v L f),130⟩:=fun {l i u m ks vs} hb ht =>
   ⟨_,_,_,rfl,by rw[hE,hb];rfl,by rw[hE,hb];exact ht,by rw[hE,hP,hb];exact⟨bis_um,bis_mem,bis_kn,bis_mAt (a:=90) (b:=91) rfl rfl,bis_lmap,rfl,rfl,hpb,trivial⟩⟩
  refine xwp_toLoop (s:=⟨_,_,_⟩) hF 1000 (p305_92 L C f v c m (rtM 327680)) (S1 (0,UM.e,m)) ⟨_,_,_,rfl,by rw[hE];rfl,by rw[hE];exact⟨rfl,rfl,rfl,rfl,rfl,rfl,rfl,rfl,rfl,trivial⟩,by rw[hE,hP];exact⟨bis_um,bis_mem,bis_kn,bis_mAt (a:=90) (b:=91) rfl rfl,bis_lmap,rfl,rfl,hpb,trivial⟩⟩ ?_
  refine xwp_loopR (ι:=Nat × UM × MS) S1 (fun z=>z.1<=L/\∃ x d,Yd 327680 z.2.2 x d/\ShI d z.2.1 v) (fun z=>L-z.1) (0,UM.e,m) ⟨Nat.zero_le _,x,_,hy,shI_0 _ v⟩ fun z hz=>?_
  obtain⟨i,u,m⟩:=z
  obtain⟨hi,x,d,hy,hs⟩:i<=L/\∃ x d,Yd 327680 m x d/\ShI d u v:=hz
  have hcr:=cl_round (S:=S1) (I:=fun z=>z.1<=L/\∃ x d,Yd 327680 z.2.2 x d/\ShI d z.2.1 v) (μ:=fun z=>L-z.1) (i:=(i,u,m)) (cl_ctx hcl [.bl 0,.sq x305_89])
  by_cases hlt:i<L
  ·obtain⟨t,ht,ha,_⟩:=aA_eq (hf i hlt).1 (hf i hlt).2
   obtain⟨m1,x1,d',y1,s1,dw⟩:=do_write hy (t:=t) (by omega) (k:=f i) (i:=i) (v:=v) ha hv hs
   have e:=p305_29 L C i f v c m m1 (rtM 327680) u x1
   rw[Nat.zero_add]at e
   rw[decide_eq_true (show(i:Int)<(L:Int) by omega),lt_blt hlt,ir_nat,decide_eq_true hlt,dw,setB_eq,wrap_i (n:=(i:Int)+1) (by omega) (by omega)]at e
   exact xwp_toEnd (s:=S1 (i,u,m)) hcr (fokE hP _) 1000 e (S1 (i+1,u.set (aA (f i)) (w64 (v 0+w64 (i:Int))),m1)) (lf1 (i:=i) rfl ⟨rfl,rfl,rfl,rfl,rfl,rfl,rfl,rfl,rfl,trivial⟩) ⟨(i+1,_,m1),⟨hlt,x1,d',y1,s1⟩,by simp only;omega,Wk.refl _ _⟩
  ·have hiL:i=L:=by omega
   obtain⟨s0,f0,x0,m0,_⟩:∃ (s0:Nat) (f0:Int) (x0:Nat->Int) (m0:MS),True:=⟨0,0,fun _=>0,m,trivial⟩
   have e:=p305_29 L C i f v c m m0 (rtM 327680) u x0
   rw[decide_eq_false (show ¬ (i:Int)<(L:Int) by omega),cond_false]at e
   refine xwp_toEnd (s:=S1 (i,u,m)) hcr (fokE hP _) 1000 e (S1 (i,u,m)) (lf1 (i:=i) rfl ⟨rfl,rfl,rfl,rfl,rfl,rfl,rfl,rfl,rfl,trivial⟩) ?_
   show XWP E.toEnv x305_89 Q (S1 (i,u,m))
   clear e
   obtain⟨m1,x1,y1,d1⟩:=do_clear (b:=130) (.inl rfl) hy hn hcl5
   have e:=p305_89 L C i f v c m m1 (rtM 327680) u x1
   rw[d1]at e
   let S2:Nat × MS->St:=fun z=>⟨T2 z.1 L C (cl5 c),mkH (B2 z.2 (rtM 327680) u v L f),130⟩
   have lf2:∀ {l:Leaf}{m:MS}{ks:List Nat}{vs:List Value},l.bs=mkH (B2 m (rtM 327680) u v L f)->tsOK (stayOr 50 (pis (B2 m (rtM 327680) u v L f) (mkH (B2 m (rtM 327680) u v L f)))) l.ts vs->LeafTo E ks l ⟨mkT ks vs,mkH (B2 m (rtM 327680) u v L f),130⟩:=fun {l m ks vs} hb ht =>
    ⟨_,_,_,rfl,by rw[hE,hb];rfl,by rw[hE,hb];exact ht,by rw[hE,hP,hb];exact⟨bis_mem,bis_kn,bis_mAt (a:=90) (b:=91) rfl rfl,bis_um,bis_lmap,rfl,rfl,hpb,trivial⟩⟩
   have lf3:∀ {l:Leaf}{m:MS}{k:Int},l.bs=mkH (B2 m (rtM 327680) u v L f)->l.ts=some (true,.int .i64 k) :: t2r L C (cl5 c)->LeafTo E [107,106,105,17,10,9,7,4] l ⟨mkT [107,106,105,17,10,9,7,4] [.int .i64 k,.int .i64 (L:Int),vP true L C,.int .u64 (cl5 c),.map (some 64),.int .u64 328704,ptN 62,ptN 63],mkH (B2 m (rtM 327680) u v L f),130⟩:=fun {l m k} hb ht =>
    lf2 hb (by rw[ht];exact⟨rfl,rfl,rfl,rfl,rfl,rfl,rfl,rfl,trivial⟩)
   refine xwp_toLoop (s:=S1 (i,u,m)) (fokE hP _) 1000 e (S2 (0,m1)) (lf3 (m:=m1) (k:=0) rfl rfl) ?_
   refine xwp_loopR (ι:=Nat × MS) S2 (fun z=>z.1<=L/\∃ x,Yd 327680 z.2 x (clr d 41088 (shK 41088) n)) (fun z=>L-z.1) (0,m1) ⟨Nat.zero_le _,x1,y1⟩ fun z hz=>?_
   obtain⟨i2,m3⟩:=z
   obtain⟨hi2,x3,hy3⟩:i2<=L/\∃ x,Yd 327680 m3 x (clr d 41088 (shK 41088) n):=hz
   have hcr2:=cl_round (S:=S2) (I:=fun z=>z.1<=L/\∃ x,Yd 327680 z.2 x (clr d 41088 (shK 41088) n)) (μ:=fun z=>L-z.1) (i:=(i2,m3)) (cl_ctx hcl [.bl 2,.sq x305_86])
   have pc:∀ {sc:Short}{l:Leaf},FnsOK E.P (lookF FL) sc->execC (lookF FL) sc 1000 x305_81 (T2 i2 L C (cl5 c)) (mkH (B2 m3 (rtM 327680) u v L f)) 130 (prjK [107,106,105,17,10,9,7,4] (R2++[.id 64,.id 61,.id 62,.id 63,.id 40]))=some l ->
     ∀ (s':St),LeafTo E [107,106,105,17,10,9,7,4] l s'->roundP E.toEnv S2 (fun z=>z.1<=L/\∃ x,Yd 327680 z.2 x (clr d 41088 (shK 41088) n)) (fun z=>L-z.1) (i2,m3) (ctxP E.toEnv [.bl 2,.sq x305_86] Q) l.e s' ->
     XWP E.toEnv x305_81 (roundP E.toEnv S2 (fun z=>z.1<=L/\∃ x,Yd 327680 z.2 x (clr d 41088 (shK 41088) n)) (fun z=>L-z.1) (i2,m3) (ctxP E.toEnv [.bl 2,.sq x305_86] Q)) (S2 (i2,m3)):=fun {sc l} hF e s' hl hq=>by
    have p:=xwp_piece (E:=E) (Q:=roundP E.toEnv S2 (fun z=>z.1<=L/\∃ x,Yd 327680 z.2 x (clr d 41088 (shK 41088) n)) (fun z=>L-z.1) (i2,m3) (ctxP E.toEnv [.bl 2,.sq x305_86] Q)) (s:=S2 (i2,m3)) hF 1000 [107,106,105,17,10,9,7,4] (R2++[.id 64,.id 61,.id 62,.id 63,.id 40]) (l:=l) e s' hl hq
    refine p.mono fun e s hs=>?_
    obtain⟨s',hw,hq⟩:=hs
    exact hcr2 _ _ _ hw hq
   by_cases hlt2:i2<L
   ·obtain⟨t,ht,ha,ha8⟩:=aA_eq (hf i2 hlt2).1 (hf i2 hlt2).2
    obtain⟨m4,x4,y4,a0,a1,a2,a3,dr⟩:=do_read (b:=130) (.inl rfl) hy3 (t:=t) (by omega)
    obtain⟨m5,x5,y5,b0,b1,b2,b3,dr2⟩:=do_read (b:=134) (.inr (.inr rfl)) y4 (t:=t+1) (by omega)
    have e:=p305_81 L C i2 f v (cl5 c) m3 m4 m5 (rtM 327680) u x4 x5
    rw[Nat.zero_add]at e
    rw[ha,ha8]at e
    rw[decide_eq_true (show(i2:Int)<(L:Int) by omega),lt_blt hlt2,ir_nat,decide_eq_true hlt2,dr,dr2,wrap_i (n:=(i2:Int)+1) (by omega) (by omega)]at e
    simp only[Bool.and_self,Bool.or_false,cond_true]at e
    rw[hcl5,rd_ok hs hn (by omega) a0 a1 a2 a3,rd_ok hs hn (by omega) b0 b1 b2 b3,<- hcl5]at e
    exact pc (fokE hP _) e (S2 (i2+1,m5)) (lf3 (m:=m5) (k:=((i2+1:Nat):Int)) rfl rfl) ⟨(i2+1,m5),⟨hlt2,x5,y5⟩,by simp only;omega,Wk.refl _ _⟩
   ·have hiL2:i2=L:=by omega
    have e:=p305_81 L C i2 f v (cl5 c) m3 m0 m0 (rtM 327680) u x0 x0
    rw[decide_eq_false (show ¬ (i2:Int)<(L:Int) by omega),cond_false]at e
    refine pc (fokE hP _) e (S2 (i2,m3)) (lf3 (m:=m3) (k:=(i2:Int)) rfl rfl) ?_
    show XWP E.toEnv x305_86 Q (S2 (i2,m3))
    exact fin hF (p305_86 L C i2 f v (cl5 c) m3 (rtM 327680) u) rfl
end Go.X
