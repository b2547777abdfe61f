import Derived.Test.YtnekegldodbgjaaM52
set_option linter.all false
namespace Go.X
open Go Go.Proofs
theorem cl_wkP {E:Env}{Q:Post}:Cl E (wkP E Q):=fun _ _ _ hw ⟨s,h1,h2⟩=>⟨s,hw.trans h1,h2⟩
theorem fu3_le (x:Int):fu3 x<=1000000:=by unfold fu3;split<;>omega
section
variable (a b c:Int){E:FEnv}{Q:Post} (hP:E.P=Try.prog) (hn:E.B.n=50) (hcl:Cl E.toEnv Q) (hfin:∀ e s,finP E.toEnv [(6,none)] [] (.bool true) [] 0 e s->Q e s)
include hP hn hcl hfin
theorem rounds11 {m:MS} (hm:MOK m):XWP E.toEnv x11_77 Q ⟨mkT [11,9,5] [pAt 94,pAt 92,pt 50],mkH (RH a b c m),130⟩:=by
 have hF:FnsOK E.P (lookF FL) noSc:=hP▸FOK
 have h3:∀ {σ:Nm},BIs Try.prog σ (n3 a b c) (n3 a b c):=rfl
 have lf:∀ {m:MS}{l:Leaf}{ks:List Nat}{vs:List Value},l.bs=mkB (RH a b c m)->tsOK (stayOr 50 (pis (RH a b c m) (mkB (RH a b c m)))) l.ts vs->LeafTo E ks l ⟨mkT ks vs,mkH (RH a b c m),130⟩:=fun {m l ks vs} hb ht =>
  ⟨_,_,_,rfl,by rw[hn,hb];rfl,by rw[hn,hb];exact ht,by rw[hn,hP,hb];exact⟨bis_mem,bis_doc93 rfl,bis_mem,bis_kn,bis_mAt rfl rfl,h3,trivial⟩⟩
 let S:Nat × MS->St:=fun x=>⟨T71 ((x.1+1:Nat):Int),mkH (RH a b c x.2),130⟩
 refine xwp_toLoop (s:=⟨_,_,_⟩) hF 1000 (p11_77 a b c m) (S (0,m)) (lf rfl ⟨rfl,rfl,rfl,rfl,trivial⟩) ?_
 refine xwp_loopR (ι:=Nat × MS) S (fun x=>x.1<=2/\MOK x.2) (fun x=>2-x.1) (0,m) ⟨Nat.zero_le _,hm⟩ fun x hx=>?_
 obtain⟨k,m⟩:=x
 obtain⟨hk,hm⟩:k<=2/\MOK m:=hx
 have hcr:=cl_round (S:=S) (I:=fun x=>x.1<=2/\MOK x.2) (μ:=fun x=>2-x.1) (i:=(k,m)) (cl_ctx hcl [.bl 2,.sq x11_76])
 have one:∀ {v fu:Int},fu<=1000000->k<2->IntKind.i64.wrap (v+1)=((k+1+1:Nat):Int) ->
   walk (lookF FL) noSc 1000 x11_33 (T71 v) (mkH (RH a b c m)) 130 ⟨[],[],[14,11,9,5],rI⟩ j0 j0=some ⟨⟨[],[],.normal,130⟩,none⟩ ->
   walk (lookF FL) noSc 1000 (.region x11_34) (T71 v) (mkH (RH a b c m)) 130 ⟨[15],[],[14,11,9,5],rI⟩ j0 j0=some ⟨⟨[some (true,.int .i64 fu)],[],.normal,130⟩,none⟩ ->
   XWP E.toEnv x11_71 (roundP E.toEnv S (fun x=>x.1<=2/\MOK x.2) (fun x=>2-x.1) (k,m) (ctxP E.toEnv [.bl 2,.sq x11_76] Q)) ⟨T71 v,mkH (RH a b c m),130⟩:=fun {v fu} hfu hk2 hw e33 e34=>by
  refine xwp_seqW (s:=⟨_,_,_⟩) hcr hF 1000 e33 rfl ⟨T71 v,mkH (RH a b c m),130⟩ (lf rfl ⟨rfl,rfl,rfl,rfl,trivial⟩) ?_
  show XWP E.toEnv (.seq (.block 3 x11_67) (.region x11_69)) _ _
  refine xwp_blockT hcr ?_
  refine xwp_seqW (s:=⟨_,_,_⟩) cl_wkP hF 1000 e34 rfl ⟨mkT [15,14,11,9,5] [.int .i64 fu,.int .i64 v,pAt 94,pAt 92,pt 50],mkH (RH a b c m),130⟩ (lf rfl ⟨rfl,rfl,rfl,rfl,rfl,trivial⟩) ?_
  refine round11 a b c hP hn cl_wkP hm hfu fun m' hm'=>⟨_,Wk.refl _ _,?_⟩
  have e:=p11_69 a b c v m'
  rw[hw]at e
  exact xwp_toEnd (s:=⟨_,_,_⟩) hcr hF 1000 e (S (k+1,m')) (lf rfl ⟨rfl,rfl,rfl,rfl,trivial⟩) ⟨(k+1,m'),⟨hk2,hm'⟩,show 2-(k+1)<2-k by omega,Wk.refl _ _⟩
 obtain rfl|rfl|rfl:k=0\/k=1\/k=2:=by omega
 ·exact one (v:=1) (fu3_le b) (by omega) rfl (p11_33a a b c m) (p11_34a a b c m)
 ·exact one (v:=2) (fu3_le c) (by omega) rfl (p11_33b a b c m) (p11_34b a b c m)
 ·refine xwp_toEnd (s:=⟨T71 3,mkH (RH a b c m),130⟩) hcr hF 1000 (p11_33c a b c m) ⟨T71 3,mkH (RH a b c m),130⟩ (lf rfl ⟨rfl,rfl,rfl,rfl,trivial⟩) ?_
  show XWP E.toEnv x11_76 Q _
  exact xwp_toEnd (s:=⟨_,_,_⟩) hcl hF 1000 (p11_76 a b c 3 m) ⟨mkT [6] [.bool true],mkH [],50⟩ ⟨_,[],50,rfl,by rw[hn];rfl,by rw[hn];exact⟨rfl,trivial⟩,trivial⟩ (hfin _ _ (fin_of rfl trivial (by rw[hn]) rfl))
theorem mid11 {br:Bool}{M R RC:Nat}{rg inp:Nat->Int} (hr:br=false->R=0) (hM:M<=2000) (hR:R<=1000) (hrg:∀ j,j<R->uB (rg j)=true){m:MS} (hm:MOK m) :
  XWP E.toEnv x11_79 Q ⟨mkT [11,9,8,5,1] [pAt 94,pAt 92,newS 61 M,pt 50,vR br R RC],mkH (RH a b c m++[(61,inO M inp)]++exR br (rgB R rg)),130⟩:=by
 have hF:FnsOK E.P (lookF FL) noSc:=hP▸FOK
 have h3:∀ {σ:Nm},BIs Try.prog σ (n3 a b c) (n3 a b c):=rfl
 have hb:∀ {σ:Nm},BIs Try.prog σ (rgB R rg) (rgB R rg):=bis_rgB
 let S:Nat × (Nat->Int)->St:=fun x=>⟨T25 x.1 M br R RC,mkH (RH a b c m++[(61,inO M x.2)]++exR br (rgB R rg)),130⟩
 have lf:∀ {l:Leaf}{ks:List Nat}{vs:List Value}{f g:Nat->Int}{r:Nat->List Value},l.bs=mkB (RH a b c m++[(61,.rows M 1 r true false)]++exR br (rgB R rg))->(∀ j,j<M->r j=[.int .u8 (g j)]) ->
   tsOK (stayOr 50 (pis (RH a b c m++[(61,inO M g)]++exR br (rgB R rg)) (mkB (RH a b c m++[(61,.rows M 1 r true false)]++exR br (rgB R rg))))) l.ts vs->LeafTo E ks l ⟨mkT ks vs,mkH (RH a b c m++[(61,inO M g)]++exR br (rgB R rg)),130⟩:=fun hl hg ht =>
  ⟨_,_,_,rfl,by rw[hn,hl];cases br<;>rfl,by rw[hn,hl];exact ht,by
   rw[hn,hP,hl]
   cases br
   ·exact⟨bis_mem,bis_doc93 rfl,bis_mem,bis_kn,bis_mAt rfl rfl,h3,bis_out hg,trivial⟩
   ·exact⟨bis_mem,bis_doc93 rfl,bis_mem,bis_kn,bis_mAt rfl rfl,h3,bis_out hg,hb,trivial⟩⟩
 refine xwp_toLoop (s:=⟨_,_,_⟩) hF 1000 (p11_28 a b c br M R RC rg inp m hr) (S (0,inp)) (lf (f:=inp) (by cases br<;>rfl) (fun _ _=>rfl) (by cases br<;>exact⟨rfl,rfl,rfl,rfl,rfl,rfl,rfl,trivial⟩)) ?_
 refine xwp_loopR (ι:=Nat × (Nat->Int)) S (fun x=>x.1<=M) (fun x=>M-x.1) (0,inp) (Nat.zero_le _) fun x hx=>?_
 obtain⟨i,g⟩:=x
 have hx:i<=M:=hx
 have hcr:=cl_round (S:=S) (I:=fun x=>x.1<=M) (μ:=fun x=>M-x.1) (i:=(i,g)) (cl_ctx hcl [.bl 0,.sq x11_78])
 have e:=p11_25 a b c br i M R RC rg g m hr
 by_cases hlt:i<M
 ·rw[decide_eq_true (show(i:Int)<M by omega),cond_true,b25_true hlt,cond_true,wrap_i (n:=(i:Int)+1) (by omega) (by omega)]at e
  exact xwp_toEnd (s:=⟨_,_,_⟩) hcr hF 1000 e (S (i+1,incF g i)) (lf (f:=g) (by cases br<;>rfl) (fun j _=>inc_row g i j) (by cases br<;>exact⟨rfl,rfl,rfl,rfl,rfl,rfl,rfl,trivial⟩)) ⟨(i+1,incF g i),hlt,show M-(i+1)<M-i by omega,Wk.refl _ _⟩
 ·rw[decide_eq_false (show ¬ (i:Int)<M by omega),cond_false]at e
  refine xwp_toEnd (s:=⟨_,_,_⟩) hcr hF 1000 e (S (i,g)) (lf (f:=g) (by cases br<;>rfl) (fun _ _=>rfl) (by cases br<;>exact⟨rfl,rfl,rfl,rfl,rfl,rfl,rfl,trivial⟩)) ?_
  show XWP E.toEnv (.seq (.region x11_29) x11_77) Q _
  have e29:=p11_29 a b c br i M R RC rg g m (setsM m rg R) hr
  rw[show dAt 34 [pAt 92,docV 93 m,vR br R RC] ([(92,m.mAt 90 91)]++exR br (rgB R rg)) (docV 93 (setsM m rg R)) (mkH [(130,docB 93 (setsM m rg R)),(92,(setsM m rg R).mAt 90 91)]) 130 1=true from decP_true ⟨rfl,by cases br<;>first|exact⟨rfl,trivial⟩|exact⟨rfl,rfl,trivial⟩,a34 hr hR⟩]at e29
  simp only[Bool.and_self,cond_true]at e29
  have k:=setsM_keep m rg R
  have hk:=sets_mok hm hrg
  have hmem:(setsM m rg R).memB=m.memB:=by unfold MS.memB;rw[k.1,k.2.1]
  have hkn:(setsM m rg R).kn=m.kn:=k.2.2.1
  generalize setsM m rg R=m2 at *
  refine xwp_seqW (s:=⟨_,_,_⟩) hcl (fokE hP _) 1000 e29 rfl ⟨mkT [11,9,5] [pAt 94,pAt 92,pt 50],mkH (RH a b c m2),130⟩
   ⟨_,RH a b c m2,130,rfl,by rw[hn];cases br<;>rfl,by rw[hn];cases br<;>exact⟨rfl,rfl,rfl,trivial⟩,by
    rw[hn,hP]
    have h1:∀ {σ:Nm},BIs Try.prog σ m2.memB m.memB:=by rw[hmem];exact bis_mem
    have h2:∀ {σ:Nm},BIs Try.prog σ m2.kn.blk m.kn.blk:=by rw[hkn];exact bis_kn
    cases br<;>exact⟨h1,bis_doc93 rfl,h1,h2,bis_mAt rfl rfl,h3,trivial⟩⟩ ?_
  exact rounds11 a b c hP hn hcl hfin hk
end
theorem b11 {a b c:Int}{bm br:Bool}{M MC R RC:Nat}{inp rg:Nat->Int} (hb:bm=false->M=0) (hr:br=false->R=0) (hi:∀ j,j<M->0<=inp j/\inp j<256) (hrg:∀ j,j<R->uB (rg j)=true) :
  Body Try.prog 11 [vI bm 0 M MC,vR br R RC,v3 a b c] (mkH (exIn bm br M inp R rg)) (.bool true) [] 50 0:=by
 refine body_of_ro [] mixed fx11 (by simp) ro_exIn fun E Q hP hn hcl hfin=>?_
 have hF:FnsOK E.P (lookF FL) noSc:=hP▸FOK
 have i1:∀ {σ:Nm},BIs Try.prog σ (inB M inp) (inB M inp):=bis_inB
 have i2:∀ {σ:Nm},BIs Try.prog σ (rgB R rg) (rgB R rg):=bis_rgB
 have h3:∀ {σ:Nm},BIs Try.prog σ (n3 a b c) (n3 a b c):=rfl
 have lf:∀ {l:Leaf}{ks:List Nat}{vs:List Value},l.bs=mkB ([(50,n3 a b c)]++exIn bm br M inp R rg)->tsOK (stayOr 50 (pis ([(50,n3 a b c)]++exIn bm br M inp R rg) (mkB ([(50,n3 a b c)]++exIn bm br M inp R rg)))) l.ts vs->LeafTo E ks l ⟨mkT ks vs,mkH ([(50,n3 a b c)]++exIn bm br M inp R rg),60⟩:=fun hl ht =>
  ⟨_,_,_,rfl,by rw[hn,hl];cases bm<;>cases br<;>rfl,by rw[hn,hl];exact ht,by
   rw[hn,hP,hl]
   cases bm<;>cases br
   ·exact⟨h3,trivial⟩
   ·exact⟨h3,i2,trivial⟩
   ·exact⟨h3,i1,trivial⟩
   ·exact⟨h3,i1,i2,trivial⟩⟩
 refine xwp_seqW (s:=⟨_,_,_⟩) hcl hF 1000 (p11_0 a b c bm br M MC R RC rg inp hb hr) rfl ⟨mkT [5,0,1] [pt 50,vI bm 0 M MC,vR br R RC],mkH ([(50,n3 a b c)]++exIn bm br M inp R rg),60⟩ (lf (by cases bm<;>cases br<;>rfl) (by cases bm<;>cases br<;>exact⟨rfl,rfl,rfl,trivial⟩)) ?_
 show XWP E.toEnv (.seq x11_5 x11_84) Q _
 have e5:=p11_5 a b c bm br M MC R RC rg inp hb hr
 rw[show(q11 (decide ((M:Int)>2000))&&((!decide ((M:Int)>2000)&&true||!!decide ((M:Int)>2000))&&((!decide ((M:Int)>2000)&&true||!!decide ((M:Int)>2000))&&true)))=true by cases decide ((M:Int)>2000)<;>rfl,cond_true]at e5
 by_cases hbig:(bif decide ((M:Int)>2000)then true else decide ((R:Int)>40))=true
 ·rw[hbig,cond_true]at e5
  exact xwp_seq (xwp_toEnd (s:=⟨_,_,_⟩) (cl_seqP hcl) (hP▸FOK6) 1000 e5 ⟨mkT [6] [.bool true],mkH [],50⟩ ⟨_,[],50,rfl,by rw[hn];rfl,by rw[hn];exact⟨rfl,trivial⟩,trivial⟩ (hfin _ _ (fin_of rfl trivial (by rw[hn]) rfl)))
 have hbig:(bif decide ((M:Int)>2000)then true else decide ((R:Int)>40))=false:=by simpa using hbig
 have hRM:M<=2000/\R<=40:=by
  by_cases h1:(M:Int)>2000
  ·rw[decide_eq_true h1]at hbig;cases hbig
  ·rw[decide_eq_false h1,cond_false]at hbig
   have:=of_decide_eq_false hbig
   omega
 rw[hbig,cond_false]at e5
 refine xwp_seqW (s:=⟨_,_,_⟩) hcl (hP▸FOK6) 1000 e5 rfl ⟨mkT [5,0,1] [pt 50,vI bm 0 M MC,vR br R RC],mkH ([(50,n3 a b c)]++exIn bm br M inp R rg),60⟩ (lf (by cases bm<;>cases br<;>rfl) (by cases bm<;>cases br<;>exact⟨rfl,rfl,rfl,trivial⟩)) ?_
 show XWP E.toEnv (.seq (.region x11_6) x11_83) Q _
 obtain⟨sz,hz,hz1,hz2⟩:∃ sz:Nat,z11 M a=(sz:Int)/\M<=sz/\sz<=4194304:=by
  have h1:(0:Int)<=IntKind.u64.wrap a:=by rw[u64_wrap];omega
  have h2:(IntKind.u64.wrap a).tmod 300=(IntKind.u64.wrap a) % 300:=Int.tmod_eq_emod_of_nonneg h1
  unfold z11
  rw[h2,wrap_i (n:=IntKind.u64.wrap a % 300) (by omega) (by omega),wrap_i (by omega) (by omega)]
  exact⟨M+(IntKind.u64.wrap a % 300).toNat,by omega,by omega,by omega⟩
 have e6:=p11_6 a b c bm br M MC R RC rg inp hb hr
 rw[hz]at e6
 refine xwp_seqW (s:=⟨_,_,_⟩) hcl hF 1000 e6 rfl ⟨mkT [7,5,0,1] [.int .i64 (sz:Int),pt 50,vI bm 0 M MC,vR br R RC],mkH ([(50,n3 a b c)]++exIn bm br M inp R rg),60⟩ (lf (by cases bm<;>cases br<;>rfl) (by cases bm<;>cases br<;>exact⟨rfl,rfl,rfl,rfl,trivial⟩)) ?_
 obtain⟨m,hm⟩:∃ m,m=newM 0 M inp sz:=⟨_,rfl⟩
 have hmk:MOK m:=hm▸new_mok hz2 hi
 have rest:XWP E.toEnv x11_82 Q ⟨mkT [8,7,5,0,1] [newS 61 M,.int .i64 (sz:Int),pt 50,vI bm 0 M MC,vR br R RC],mkH ([(61,inO M inp),(50,n3 a b c)]++exIn bm br M inp R rg),130⟩:=by
  have e8:=p11_8 a b c bm br M MC R RC sz rg inp m hb hr
  rw[show dAt 22 [newS 61 M,.int .i64 (sz:Int)] [(61,inO M inp)] (vM3 132) (mkH [(130,m.memB),(131,m.kn.blk),(132,m.mAt 130 131)]) 130 3=true from decP_true ⟨rfl,⟨rfl,trivial⟩,by rw[hm];exact a22 hz1 hz2⟩]at e8
  have e9:=p11_9 a b c bm br M MC R RC sz rg inp m hb hr
  have A32:AtN 32 [vI bm 0 M MC,.int .i64 (sz:Int)] (exI bm (inB M inp)) (.tuple ⟨[docV 130 m,.bool true]⟩) (mkH [(130,m.memB),(131,docB 130 m)]) 130 2:=by
   have h:=a32 (C:=MC) (inp:=inp) hb hz1 hz2
   rw[d32_new]at h
   rw[hm];exact h
  rw[show dAt 32 [vI bm 0 M MC,.int .i64 (sz:Int)] (exI bm (inB M inp)) (.tuple ⟨[docV 130 m,.bool true]⟩) (mkH [(130,m.memB),(131,docB 130 m)]) 130 2=true from decP_true ⟨rfl,by cases bm<;>first|exact trivial|exact⟨rfl,trivial⟩,A32⟩]at e9
  simp only[Bool.and_self,cond_true]at e8 e9
  show XWP E.toEnv (.seq (.region x11_8) x11_81) Q _
  refine xwp_seqW (s:=⟨_,_,_⟩) hcl (fokE hP _) 1000 e8 rfl ⟨mkT [9,10,8,7,5,0,1] [pAt 92,.int .i64 0,newS 61 M,.int .i64 (sz:Int),pt 50,vI bm 0 M MC,vR br R RC],mkH (m.HA 90 91 92++[(61,inO M inp),(50,n3 a b c)]++exIn bm br M inp R rg),130⟩
   ⟨_,_,_,rfl,by rw[hn];cases bm<;>cases br<;>rfl,by rw[hn];cases bm<;>cases br<;>exact⟨rfl,rfl,rfl,rfl,rfl,rfl,rfl,trivial⟩,by
    rw[hn,hP]
    cases bm<;>cases br
    ·exact⟨bis_mem,bis_kn,bis_mAt rfl rfl,bis_outB,h3,trivial⟩
    ·exact⟨bis_mem,bis_kn,bis_mAt rfl rfl,bis_outB,h3,i2,trivial⟩
    ·exact⟨bis_mem,bis_kn,bis_mAt rfl rfl,bis_outB,h3,i1,trivial⟩
    ·exact⟨bis_mem,bis_kn,bis_mAt rfl rfl,bis_outB,h3,i1,i2,trivial⟩⟩ ?_
  show XWP E.toEnv (.seq (.region x11_9) x11_80) Q _
  refine xwp_seqW (s:=⟨_,_,_⟩) hcl (fokE hP _) 1000 e9 rfl ⟨mkT [11,12,9,10,8,5,1] [pAt 94,.bool true,pAt 92,.int .i64 0,newS 61 M,pt 50,vR br R RC],mkH (RH a b c m++[(61,inO M inp)]++exR br (rgB R rg)),130⟩
   ⟨_,RH a b c m++[(61,inO M inp)]++exR br (rgB R rg),_,rfl,by rw[hn];cases bm<;>cases br<;>rfl,by rw[hn];cases bm<;>cases br<;>exact⟨rfl,rfl,rfl,rfl,rfl,rfl,rfl,trivial⟩,by
    rw[hn,hP]
    cases bm<;>cases br
    ·exact⟨bis_mem,bis_doc rfl,bis_mem,bis_kn,bis_mAt rfl rfl,h3,bis_outB,trivial⟩
    ·exact⟨bis_mem,bis_doc rfl,bis_mem,bis_kn,bis_mAt rfl rfl,h3,bis_outB,i2,trivial⟩
    ·exact⟨bis_mem,bis_doc rfl,bis_mem,bis_kn,bis_mAt rfl rfl,h3,bis_outB,trivial⟩
    ·exact⟨bis_mem,bis_doc rfl,bis_mem,bis_kn,bis_mAt rfl rfl,h3,bis_outB,i2,trivial⟩⟩ ?_
  show XWP E.toEnv (.seq x11_14 x11_79) Q _
  refine xwp_seqW (s:=⟨_,_,_⟩) hcl hF 1000 (p11_14 a b c br M R RC rg inp m hr) rfl ⟨mkT [11,9,8,5,1] [pAt 94,pAt 92,newS 61 M,pt 50,vR br R RC],mkH (RH a b c m++[(61,inO M inp)]++exR br (rgB R rg)),130⟩
   ⟨_,RH a b c m++[(61,inO M inp)]++exR br (rgB R rg),_,rfl,by rw[hn];cases br<;>rfl,by rw[hn];cases br<;>exact⟨rfl,rfl,rfl,rfl,rfl,trivial⟩,by
    rw[hn,hP]
    cases br
    ·exact⟨bis_mem,bis_doc93 rfl,bis_mem,bis_kn,bis_mAt rfl rfl,h3,bis_outB,trivial⟩
    ·exact⟨bis_mem,bis_doc93 rfl,bis_mem,bis_kn,bis_mAt rfl rfl,h3,bis_outB,i2,trivial⟩⟩ ?_
  exact mid11 a b c hP hn hcl hfin hr hRM.1 (by omega) hrg hmk
 show XWP E.toEnv (.seq (.region x11_7) x11_82) Q _
 have l7:∀ {l:Leaf}{ks:List Nat}{vs:List Value}{f:Nat->List Value}{o:Bool}{B:Nat},(B=60\/B=61)->l.bs=mkB ([(B,.rows M 1 f o false),(50,n3 a b c)]++exIn bm br M inp R rg)->(∀ j,j<M->f j=[.int .u8 (inp j)]) ->
   tsOK (stayOr 50 (pis ([(61,inO M inp),(50,n3 a b c)]++exIn bm br M inp R rg) (mkB ([(B,.rows M 1 f o false),(50,n3 a b c)]++exIn bm br M inp R rg)))) l.ts vs->LeafTo E ks l ⟨mkT ks vs,mkH ([(61,inO M inp),(50,n3 a b c)]++exIn bm br M inp R rg),130⟩:=fun {l ks vs f o B} hB hl hf ht=>by
  have ho:BIs Try.prog (stayOr 50 (pis ([(61,inO M inp),(50,n3 a b c)]++exIn bm br M inp R rg) l.bs)) (outB M inp) (.rows M 1 f o false):=⟨rfl,rfl,fun j hj=>by rw[hf j hj];rfl,.inl rfl,.inr rfl⟩
  refine⟨_,_,_,rfl,?_,by rw[hn,hl];exact ht,?_⟩
  ·rw[hn,hl];rcases hB with rfl|rfl<;>cases bm<;>cases br<;>rfl
  ·rw[hn,hP]
   rw[hl]at ho ⊢
   cases bm<;>cases br
   ·exact⟨ho,h3,trivial⟩
   ·exact⟨ho,h3,i2,trivial⟩
   ·exact⟨ho,h3,i1,trivial⟩
   ·exact⟨ho,h3,i1,i2,trivial⟩
 cases M with
 |zero =>
  refine xwp_seqW (s:=⟨_,_,_⟩) hcl hF 1000 (p11_7n a b c bm br 0 MC R RC sz rg inp hb hr) rfl _ (l7 (.inl rfl) (by cases bm<;>cases br<;>rfl) (fun j hj=>absurd hj (Nat.not_lt_zero _)) (by cases bm<;>cases br<;>exact⟨rfl,rfl,rfl,rfl,rfl,trivial⟩)) rest
 |succ k =>
  obtain rfl:bm=true:=by
   cases bm with
   |true=>rfl
   |false=>cases hb rfl
  have e7:=p11_7 a b c true br k MC R RC sz rg inp (fun h=>by cases h) hr
  rw[Nat.zero_add,Nat.ble_eq_true_of_le (Nat.le_refl (k+1)),decide_eq_true (show(k+1)*3<=1099511627776 by omega)]at e7
  simp only[Bool.and_self,cond_true]at e7
  refine xwp_seqW (s:=⟨_,_,_⟩) hcl hF 1000 e7 rfl _ (l7 (.inr rfl) (by cases br<;>rfl) (fun j hj=>?_) (by cases br<;>exact⟨rfl,rfl,rfl,rfl,rfl,trivial⟩)) rest
  show[Value.int .u8 (inp (0+(j-0)))]=_
  rw[Nat.zero_add,Nat.sub_zero]
end Go.X
