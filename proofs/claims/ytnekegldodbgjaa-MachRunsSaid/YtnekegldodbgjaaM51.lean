import Derived.Test.YtnekegldodbgjaaM50
set_option linter.all false
namespace Go.X
open Go Go.Proofs
abbrev T34 (j:Int) (br:Bool) (R RC:Nat):Tm:=mkT [11,10,9,4,6,0] [.int .i64 j,.int .i64 (R:Int),vR br R RC,pt 100,pt 101,pM]
def H34 (m:MS) (br:Bool) (R:Nat) (rg:Nat->Int):List (Nat × Blk):=[(100,docB 93 m),(101,docZ),(92,m.mB)]++exR br (rgB R rg)
section
variable (m:MS) (br:Bool) (j R RC:Nat) (rg:Nat->Int)
theorem p34_a (hr:br=false->R=0):walk (lookF FL) noSc 1000 x34 (argTm 0 [pM,docV 93 m,vR br R RC]) (mkH ([(92,m.mB)]++exR br (rgB R rg))) 100 j0_ j0_ ⟨[11,10,9,4,6],[.tmp 4,.tmp 6],[0],92 :: oneI br 41⟩ =
  some ⟨⟨[some (true,.int .i64 0),some (true,.int .i64 (R:Int)),some (true,vR br R RC),some (true,pt 100),some (true,pt 101)],[(100,some (docB 93 m)),(101,some docZ)],.normal,102⟩,some (x34_16,[.bl 0,.sq x34_21])⟩:=by
 cases br<;>first|(obtain rfl:=hr rfl;kernel_rfl)|kernel_rfl
theorem p34_e (hr:br=false->R=0):walk (lookF FL) noSc 1000 x34_21 (T34 (j:Int) br R RC) (mkH (H34 m br R rg)) 102 j0_ ⟨[6],[.tmp 6],[],92 :: oneI br 41⟩ j0_ =
  some ⟨⟨[some (true,pt 101)],[(101,some (docB 93 m))],.ret,102⟩,none⟩:=by
 cases br<;>first|(obtain rfl:=hr rfl;kernel_rfl)|kernel_rfl
noncomputable abbrev sc34:Short:=scOf [conAt 26 [pM,.int .i64 (j:Int),.int .u64 (rg j)] [(92,m.mB)] (.tuple ⟨[]⟩) (mkH [(92,(setM m (j:Int) (rg j)).mB)]) 102 0]
theorem p34_n (RC:Nat):walk (lookF FL) noSc 1000 x34_16 (T34 0 false 0 RC) (mkH (H34 m false 0 rg)) 102 ⟨[11],[.id 100,.id 92],[10,9,4,6,0],[101]⟩ j0_ j0_ =
  some ⟨⟨[some (true,.int .i64 0)],[(100,some (docB 93 m)),(92,some m.mB)],.exit 0,102⟩,none⟩:=by kernel_rfl
theorem p34_b (hj:rg (0+j)=rg j):walk (lookF FL) (sc34 m j rg) 1000 x34_16 (T34 (j:Int) true R RC) (mkH (H34 m true R rg)) 102 ⟨[11],[.id 100,.id 92],[10,9,4,6,0],[101,41]⟩ j0_ j0_ =
  bif decide ((j:Int)<(R:Int))then bif ((0+(j:Int).toNat).blt R&&true||false)&&((intRange (j:Int) R&&true||false)&&true)then bif decP ([pM,.int .i64 (j:Int),.int .u64 (rg (0+(j:Int).toNat))]=[pM,.int .i64 (j:Int),.int .u64 (rg j)]/\Has (mkH [(92,m.mB)]) [(92,m.mB)]/\AtN 26 [pM,.int .i64 (j:Int),.int .u64 (rg j)] [(92,m.mB)] (.tuple ⟨[]⟩) (mkH [(92,(setM m (j:Int) (rg j)).mB)]) 102 0)&&true&&true then
   bif ((decide ((j:Int)>0)||!decide ((j:Int)>0))&&true||false)&&((decide ((j:Int)>0)&&true||!decide ((j:Int)>0))&&true)then bif bif decide ((j:Int)>0)then decide ((j:Int)<32)else false then
    bif (1+(j:Int).toNat*1).blt (docC 93 m).length&&updOK (1+(j:Int).toNat*1) (.int .u64 (rg (0+(j:Int).toNat))) 0 (docC 93 m)&&true&&((intRange (j:Int) 32&&true||false)&&true)then
     some ⟨⟨[some (true,.int .i64 (IntKind.i64.wrap ((j:Int)+1)))],[(100,some (docB 93 (putX m (j:Int) (rg (0+(j:Int).toNat))))),(92,some (setM m (j:Int) (rg j)).mB)],.normal,102⟩,none⟩else none
    else some ⟨⟨[some (true,.int .i64 (IntKind.i64.wrap ((j:Int)+1)))],[(100,some (docB 93 m)),(92,some (setM m (j:Int) (rg j)).mB)],.normal,102⟩,none⟩else none else none else none
   else some ⟨⟨[some (true,.int .i64 (j:Int))],[(100,some (docB 93 m)),(92,some m.mB)],.exit 0,102⟩,none⟩:=by kernel_rfl
end
theorem setM_doc (m:MS) (v:Int){k:Int} (h:inK k=true):docB 93 (putX m k v)=docB 93 (setM m k v):=by
 have hr:inR k:=by
  unfold inK at h
  unfold inR
  cases h0:decide (k>0)with
  |false=>rw[h0]at h;cases h
  |true=>rw[h0,cond_true]at h;simp only[decide_eq_true_eq]at h0 h;omega
 have e:=putX_pl m hr v
 unfold setM
 rw[h]
 exact doc_eq rfl rfl e rfl rfl
theorem at26 (m:MS) (k v:Int):AtN 26 [pM,.int .i64 k,.int .u64 v] [(92,m.mB)] (.tuple ⟨[]⟩) (mkH [(92,(setM m k v).mB)]) 102 0 :=
 ⟨rfl,adet_of_body (b26 m k v) [(90,90),(91,91),(92,92)] [] rfl rfl ⟨bis_mBg rfl rfl,trivial⟩ rfl rfl ⟨bis_mBg rfl rfl,trivial,trivial⟩ rfl⟩
theorem b34 {m:MS}{br:Bool}{R RC:Nat}{rg:Nat->Int} (hr:br=false->R=0) (hR:R<=1000) :
  Body Try.prog 34 [pM,docV 93 m,vR br R RC] (mkH ([(92,m.mB)]++exR br (rgB R rg))) (docV 93 (setsM m rg R)) (mkH [(100,docB 93 (setsM m rg R)),(92,(setsM m rg R).mB)]) 100 1:=by
 refine body_of' mixed fx34 (by simp) fun E Q hP hE hcl hfin=>?_
 have hF:FnsOK E.P (lookF FL) noSc:=hP▸FOK
 let S:Nat->St:=fun j=>⟨T34 (j:Int) br R RC,mkH (H34 (setsM m rg j) br R rg),102⟩
 have hrg:∀ {σ:Nm},BIs Try.prog σ (rgB R rg) (rgB R rg):=bis_rw fun _ _=>rfl
 have lf:∀ {j:Nat}{ex:Exit}{m1:MS}{v:Int},v=((j:Nat):Int)->docB 93 m1=docB 93 (setsM m rg j)->LeafTo E ([11]++[10,9,4,6,0]) ⟨[some (true,.int .i64 v),some (true,.int .i64 (R:Int)),some (true,vR br R RC),some (true,pt 100),some (true,pt 101),some (true,pM)],[(100,some (docB 93 m1)),(92,some (setsM m rg j).mB),(101,some docZ)]++(exR br (rgB R rg)).map (fun p=>(p.1,some p.2)),ex,102⟩
   ⟨T34 (j:Int) br R RC,mkH ([(100,docB 93 (setsM m rg j)),(92,(setsM m rg j).mB),(101,docZ)]++exR br (rgB R rg)),102⟩:=fun {j ex m1 v} hv hd=>⟨_,[(100,docB 93 (setsM m rg j)),(92,(setsM m rg j).mB),(101,docZ)]++exR br (rgB R rg),102,rfl,by rw[hE];cases br<;>rfl,by rw[hE,hv];cases br<;>exact⟨rfl,rfl,rfl,rfl,rfl,rfl,trivial⟩,by
    rw[hE,hP,hd]
    cases br
    ·exact⟨bis_doc93 rfl,bis_mBg rfl rfl,rfl,trivial⟩
    ·exact⟨bis_doc93 rfl,bis_mBg rfl rfl,rfl,hrg,trivial⟩⟩
 have wk:∀ j:Nat,Wk E.toEnv ⟨T34 (j:Int) br R RC,mkH ([(100,docB 93 (setsM m rg j)),(92,(setsM m rg j).mB),(101,docZ)]++exR br (rgB R rg)),102⟩ (S j):=fun j=>wk_sub (has_sub (by cases br<;>first|exact⟨rfl,rfl,rfl,trivial⟩|exact⟨rfl,rfl,rfl,rfl,trivial⟩))
 refine xwp_toLoop (s:=⟨_,_,_⟩) hF 1000 (p34_a m br R RC rg hr) (S 0) ⟨_,H34 m br R rg,102,rfl,by rw[hE];cases br<;>rfl,by rw[hE];cases br<;>exact⟨rfl,rfl,rfl,rfl,rfl,rfl,trivial⟩,by
   rw[hE,hP]
   cases br
   ·exact⟨bis_doc93 rfl,rfl,bis_mBg rfl rfl,trivial⟩
   ·exact⟨bis_doc93 rfl,rfl,bis_mBg rfl rfl,hrg,trivial⟩⟩ ?_
 refine xwp_loopR (ι:=Nat) S (fun j=>j<=R) (fun j=>R-j) 0 (Nat.zero_le _) fun j hj=>?_
 have hcr:=cl_round (S:=S) (I:=fun j=>j<=R) (μ:=fun j=>R-j) (i:=j) (cl_ctx hcl [.bl 0,.sq x34_21])
 have hend:XWP E.toEnv x34_21 Q (S R):=by
  refine xwp_toEnd (s:=S R) hcl hF 1000 (p34_e (setsM m rg R) br R R RC rg hr) ⟨mkT [6] [pt 100],mkH ([(100,docB 93 (setsM m rg R)),(92,(setsM m rg R).mB)]++exR br (rgB R rg)),101⟩ ⟨_,[(100,docB 93 (setsM m rg R)),(92,(setsM m rg R).mB)]++exR br (rgB R rg),101,rfl,by rw[hE];cases br<;>rfl,by rw[hE];cases br<;>exact⟨rfl,trivial⟩,by
   rw[hE,hP]
   cases br
   ·exact⟨bis_doc93 rfl,bis_mBg rfl rfl,trivial⟩
   ·exact⟨bis_doc93 rfl,bis_mBg rfl rfl,hrg,trivial⟩⟩ (hfin _ _ (fin_of rfl ?_ (by rw[hE]) ?_))
  ·cases br
   ·exact⟨rfl,rfl,trivial,trivial⟩
   ·exact⟨rfl,rfl,trivial,rfl,trivial⟩
  ·cases br<;>rfl
 by_cases hlt:j<R
 ·have hbr:br=true:=by
   cases br with
   |true=>rfl
   |false=>have:=hr rfl;omega
  subst hbr
  have e:=p34_b (setsM m rg j) j R RC rg (by rw[Nat.zero_add])
  have i1:intRange (j:Int) R=true:=by rw[ir_nat];exact decide_eq_true hlt
  have hA:=at26 (setsM m rg j) (j:Int) (rg j)
  rw[decide_eq_true (show(j:Int)<R by omega),cond_true,Int.toNat_natCast,Nat.zero_add,lt_blt hlt,i1,decP_true ⟨rfl,⟨rfl,trivial⟩,hA⟩,wrap_i (n:=(j:Int)+1) (by omega) (by omega)]at e
  simp only[Bool.and_self,Bool.or_false,cond_true,show ∀ b:Bool,((b||!b)&&true&&((b&&true||!b)&&true))=true from fun b=>by cases b<;>rfl]at e
  cases hk:inK (j:Int)with
  |true =>
   have hk':=hk
   unfold inK at hk'
   have hj32:j<32:=by
    cases h0:decide ((j:Int)>0)with
    |false=>rw[h0]at hk';cases hk'
    |true=>rw[h0,cond_true]at hk';simp only[decide_eq_true_eq]at hk';omega
   have hg:=reg_docC (setsM m rg j) (rg j) j hj32
   rw[Int.toNat_natCast]at hg
   simp only[Bool.and_true,Bool.or_false]at hg e
   rw[hk',cond_true,hg,cond_true]at e
   exact xwp_toEnd (s:=S j) hcr (fokE hP _) 1000 e _ (lf (j:=j+1) (by omega) (setM_doc _ _ hk)) ⟨j+1,hlt,by simp only;omega,wk (j+1)⟩
  |false =>
   have hk':=hk
   unfold inK at hk'
   simp only[Bool.and_true,Bool.or_false]at e
   rw[hk',cond_false]at e
   refine xwp_toEnd (s:=S j) hcr (fokE hP _) 1000 e _ (lf (j:=j+1) (m1:=setsM m rg j) (by omega) ?_) ⟨j+1,hlt,by simp only;omega,wk (j+1)⟩
   show docB 93 _=docB 93 (setM (setsM m rg j) (j:Int) (rg j))
   unfold setM
   rw[hk];rfl
 ·have:j=R:=by omega
  subst this
  cases hbr:br with
  |true =>
   subst hbr
   have e:=p34_b (setsM m rg j) j j RC rg (by rw[Nat.zero_add])
   rw[decide_eq_false (show ¬ (j:Int)<j by omega),cond_false]at e
   exact xwp_toEnd (s:=S j) hcr (fokE hP _) 1000 e _ (lf (j:=j) rfl rfl) (XWP.wk (wk j) hend)
  |false =>
   subst hbr
   have h0:=hr rfl
   subst h0
   exact xwp_toEnd (s:=S 0) hcr hF 1000 (p34_n (setsM m rg 0) rg RC) _ (lf (j:=0) rfl rfl) (XWP.wk (wk 0) hend)
theorem a22 {T sz:Nat}{g:Nat->Int} (h1:T<=sz) (h2:sz<=4194304) :
  AtN 22 [newS 61 T,.int .i64 (sz:Int)] [(61,outB T g)] (vM3 132) (mkH [(130,(newM 0 T g sz).memB),(131,(newM 0 T g sz).kn.blk),(132,(newM 0 T g sz).mAt 130 131)]) 130 3 :=
 ⟨rfl,c22_at h1 h2 61 130 (by omega) (Nat.le_refl _) fun j _=>rfl⟩
theorem d32_new (L sz:Nat) (inp:Nat->Int):d32 L sz inp=newM 0 L inp sz:=by
 unfold d32 dm32 newM memI
 congr 1
 funext j
 rw[Nat.zero_add]
theorem a34 {m:MS}{br:Bool}{R RC:Nat}{rg:Nat->Int} (hr:br=false->R=0) (hR:R<=1000) :
  AtN 34 [pAt 92,docV 93 m,vR br R RC] ([(92,m.mAt 90 91)]++exR br (rgB R rg)) (docV 93 (setsM m rg R)) (mkH [(130,docB 93 (setsM m rg R)),(92,(setsM m rg R).mAt 90 91)]) 130 1:=by
 have hB:=b34 (m:=m) (RC:=RC) (rg:=rg) hr hR
 have hrg:∀ {σ:Nm},BIs Try.prog σ (rgB R rg) (rgB R rg):=bis_rw fun _ _=>rfl
 have hm:∀ {m:MS}{σ:Nm},σ 90=some 90->σ 91=some 91->BIs Try.prog σ (m.mAt 90 91) m.mB:=fun h1 h2=>bis_mAt h1 h2
 have hm':∀ {m:MS}{σ:Nm},σ 90=some 90->σ 91=some 91->BIs Try.prog σ m.mB (m.mAt 90 91):=fun h1 h2=>bis_mAt (a:=90) (b:=91) h1 h2
 cases br with
 |false=>exact⟨rfl,adet_of_body hB [(90,90),(91,91),(92,92),(93,93),(41,41)] [(130,100)] rfl rfl ⟨hm' rfl rfl,trivial⟩ rfl rfl ⟨bis_doc93 rfl,hm rfl rfl,trivial,trivial⟩ rfl⟩
 |true=>exact⟨rfl,adet_of_body hB [(90,90),(91,91),(92,92),(93,93),(41,41)] [(130,100)] rfl rfl ⟨hm' rfl rfl,hrg,trivial⟩ rfl rfl ⟨bis_doc93 rfl,hm rfl rfl,trivial,hrg,trivial⟩ rfl⟩
theorem bis_in {P:Program}{σ:Nm}{T:Nat}{inp:Nat->Int}{f:Nat->List Value} (hf:∀ j,j<T->f j=[.int .u8 (inp j)]):BIs P σ (inB T inp) (.rows T 1 f false true)/\BIs P σ (.rows T 1 f false true) (inB T inp) :=
 ⟨⟨rfl,rfl,fun j hj=>by rw[hf j hj];rfl,.inr (.inr rfl),.inl rfl⟩,⟨rfl,rfl,fun j hj=>by rw[hf j hj];rfl,.inr (.inl rfl),.inl rfl⟩⟩
def ee (T:Nat) (inp:Nat->Int) (wt:Bool):REnv:=⟨true,T,inp,0,T,T,wt⟩
theorem run_se {e:REnv}{step:RSt->Bool × RSt}{OK:Nat->RSt->Prop}{fuel:Int} (H:Steps48 e fuel step OK){m:MS} (h0:OK 0 (RSt.init m)){s:RSt}{n:Nat} (hr:runF step fuel.toNat (RSt.init m) 0=(s,n)):SeOK s.sN s.sf:=by
 by_cases hf0:0<=fuel
 ·have hs:=run_ok H fuel.toNat 0 (RSt.init m) (by omega) h0
  rw[hr]at hs
  rcases hs with⟨n',h⟩|⟨n',s1,h,e1⟩
  ·exact H.se n' s h
  ·simp only at e1;rw[e1];exact H.se n' s1 h
 ·rw[show fuel.toNat=0 by omega]at hr
  cases hr
  exact fun j hj=>absurd hj (Nat.not_lt_zero _)
theorem b48i (e:REnv){step:RSt->Bool × RSt}{OK:Nat->RSt->Prop}{fuel:Int} (H:Steps48 e fuel step OK) (hfu:fuel<9223372036854775807) (m:MS) (h0:OK 0 (RSt.init m)){s:RSt}{n:Nat} (hr:runF step fuel.toNat (RSt.init m) 0=(s,n)) :
  Body Try.prog 48 [pM,vI e.bi e.k0 e.L0 e.C0,.int .i64 fuel,.bool e.wt] (mkH (pre48 m e.bi (inB e.T e.inp))) (val48 s.m (bO s.oN) (bO s.sN) s.oN s.sN n s.mark) (upd48 s.m (bO s.oN) (bO s.sN) s.oN s.of s.sN s.sf n s.mark) 100 4:=by
 have hse:SeOK s.sN s.sf:=run_se H h0 hr
 refine body_of mixed fx48 (by simp) fun ρ w hd=>?_
 let E:=envOf Try.prog 57 100 (mkH (pre48 m e.bi (inB e.T e.inp))) mixed ρ w hd
 have ea:=p48_a m e.bi e.k0 e.L0 e.C0 fuel e.wt (inB e.T e.inp)
 refine xwp_toLoop (E:=E) (s:=⟨argTm 0 [pM,vI e.bi e.k0 e.L0 e.C0,.int .i64 fuel,.bool e.wt],mkH (pre48 m e.bi (inB e.T e.inp)),100⟩) FOK 1000 ea
  ⟨mkT [11,10,8,2,0] [.int .i64 0,pR,.pointer (some ⟨103,0,some 0⟩),.int .i64 fuel,pM],mkH ([(100,rB (vI e.bi e.k0 e.L0 e.C0) (.slice none 0 0) 0 e.wt (.slice none 0 0)),(103,res0),(90,m.memB),(91,m.kn.blk),(92,m.mB)]++extL e.bi false false (inB e.T e.inp) (inB e.T e.inp) (inB e.T e.inp)),104⟩ ?_ ?_
 ·refine⟨_,_,_,rfl,?_,?_,?_⟩
  ·cases e.bi<;>rfl
  ·cases e.bi<;>exact⟨rfl,rfl,rfl,rfl,rfl,trivial⟩
  ·refine⟨bis_rBv (bo:=false) (bs:=false) (oN:=0) (sN:=0) rfl (fun _=>rfl) (fun h=>by cases h) (fun h=>by cases h),rfl,bis_mem,bis_kn,bis_mBg rfl rfl,?_⟩
   cases e.bi
   ·exact trivial
   ·exact⟨bis_inB,trivial⟩
 ·refine XWP.wk (init_wk rfl rfl e m fuel) ?_
  refine loop48 (E:=E) (cl_ctx cl_fin _) rfl rfl H hfu (RSt.init m) h0 ?_
  rw[hr]
  show XWP E.toEnv x48_18 _ (S48 e fuel s n)
  have ee:=p48_e s.m (s.vin e) s.mark n fuel e.wt e.bi (bO s.oN) (bO s.sN) s.oN s.sN (inB e.T e.inp) (outB s.oN s.of) (seB s.sN s.sf)
  exact xwp_toEnd (E:=E) cl_fin FOK 1000 ee _ (leafE rfl rfl e.bi (bO s.oN) (bO s.sN) hse) (fin_of rfl (sub48 m s.m _ e.bi (bO s.oN) (bO s.sN) s.oN s.sN s.of s.sf n s.mark (inB e.T e.inp)) rfl (res48 m s.m e.bi (bO s.oN) (bO s.sN) s.oN s.sN s.of s.sf n s.mark (inB e.T e.inp)))
theorem run_base {T:Nat}{inp:Nat->Int}{wt:Bool}{m:MS} (hm:MOK m){fuel:Int} (hf:fuel<=1000000000){s:RSt}{n:Nat} (hr:runF (stepF (ee T inp wt)) fuel.toNat (RSt.init m) 0=(s,n)) :
  Body Try.prog 48 [pM,vI true 0 T T,.int .i64 fuel,.bool wt] (mkH (pre48 m true (inB T inp))) (val48 s.m (bO s.oN) (bO s.sN) s.oN s.sN n s.mark) (upd48 s.m (bO s.oN) (bO s.sN) s.oN s.of s.sN s.sf n s.mark) 100 4/\SeOK s.sN s.sf:=by
 have h0:BaseOK (ee T inp wt) 0 (RSt.init m):=⟨hm.sz,hm.pl,hm.x,hm.kn,fun j hj=>absurd hj (Nat.not_lt_zero _),Nat.le_refl _,Nat.le_refl _,by show 0+T<=T;omega,Nat.zero_le _⟩
 exact⟨b48i (ee T inp wt) (steps_all _ hf) (by omega) m ⟨h0,Nat.le_refl _⟩ hr,run_se (steps_all (ee T inp wt) hf) ⟨h0,Nat.le_refl _⟩ hr⟩
section
variable {T:Nat}{inp:Nat->Int}{f:Nat->List Value} (hf:∀ j,j<T->f j=[.int .u8 (inp j)]){m:MS} (hm:MOK m){fuel:Int} (hfu:fuel<=1000000000){s:RSt}{n:Nat}
include hf hm hfu
theorem a24 (hr:runF (stepF (ee T inp false)) fuel.toNat (RSt.init m) 0=(s,n)) :
  AtN 24 [pAt 92,.slice (some ⟨56,0,none⟩) T T,.int .i64 fuel] ((56,.rows T 1 f false false) :: m.HA 90 91 92) (resV24 s.m (vOa 131 (bO s.oN) s.oN) n s.mark)
   (mkH ([(130,resB s.m (vOa 131 (bO s.oN) s.oN) n s.mark)]++s.m.HA 90 91 92++dxO (bO s.oN) 131 s.oN s.of)) 130 2:=by
 obtain⟨hb,hse⟩:=run_base hm hfu hr
 have h:=b24 hse hb
 have hA:ADet Try.prog 24 [pAt 92,.slice (some ⟨56,0,none⟩) T T,.int .i64 fuel] ((56,some (.rows T 1 f false true)) :: mkH (m.HA 90 91 92)) (resV24 s.m (vOa 131 (bO s.oN) s.oN) n s.mark)
   (mkH ([(130,resB s.m (vOa 131 (bO s.oN) s.oN) n s.mark)]++s.m.HA 90 91 92++dxO (bO s.oN) 131 s.oN s.of)) 130 2:=by
  refine adet_of_body h [(90,90),(91,91),(92,92),(40,56)] [(130,100),(131,101)] ?_ rfl ⟨bis_mem,bis_kn,bis_mAt (a:=90) (b:=91) rfl rfl,(bis_in hf).1,trivial⟩ rfl ?_ ?_ ?_
  ·cases bO s.oN<;>rfl
  ·cases bO s.oN<;>rfl
  ·cases bO s.oN
   ·exact⟨rfl,bis_mem,bis_kn,bis_mAt rfl rfl,(bis_in hf).2,trivial,trivial,trivial,trivial⟩
   ·exact⟨bis_resO (fun _=>rfl),bis_mem,bis_kn,bis_mAt rfl rfl,bis_outB,(bis_in hf).2,trivial,trivial,trivial,trivial⟩
  ·cases bO s.oN<;>rfl
 refine⟨rfl,adet_demoteL hA ?_ ?_⟩
 ·cases bO s.oN<;>simp[mkH,fstL,MS.HA,dxO]
 ·cases bO s.oN<;>rfl
theorem a35 (hr:runF (stepF (ee T inp true)) fuel.toNat (RSt.init m) 0=(s,n)) :
  AtN 35 [docV 93 m,.slice (some ⟨130,0,none⟩) T T,.int .i64 fuel] ((130,.rows T 1 f false false) :: [(93,m.memB)]) (val35 s.m (bO s.oN) (bO s.sN) 133 134 s.oN s.sN n s.mark) (mkH (upd35 131 s.m (bO s.oN) (bO s.sN) s.oN s.sN n s.mark s.of s.sf)) 131 4:=by
 obtain⟨_,hse⟩:=run_base hm hfu hr
 have h:=b35 (ee T inp true) rfl rfl (Nat.le_refl _) (by show 0+T<=T;omega) hfu hm hr
 have hs:∀ {σ:Nm},BIs Try.prog σ (seB s.sN s.sf) (seB s.sN s.sf):=bis_seB fun j hj=>hse j hj _
 have hA:ADet Try.prog 35 [docV 93 m,.slice (some ⟨130,0,none⟩) T T,.int .i64 fuel] ((130,some (.rows T 1 f false true)) :: mkH [(93,m.memB)]) (val35 s.m (bO s.oN) (bO s.sN) 133 134 s.oN s.sN n s.mark) (mkH (upd35 131 s.m (bO s.oN) (bO s.sN) s.oN s.sN n s.mark s.of s.sf)) 131 4:=by
  unfold upd35 at h ⊢
  unfold val35 at h ⊢
  refine adet_of_body h [(93,93),(40,130)] [(131,100),(132,101),(133,102),(134,103)] ?_ rfl ⟨bis_mem,(bis_in hf).1,trivial⟩ rfl ?_ ?_ ?_
  ·cases bO s.oN<;>cases bO s.sN<;>rfl
  ·cases bO s.oN<;>cases bO s.sN<;>rfl
  ·cases bO s.oN<;>cases bO s.sN
   ·exact⟨bis_doc93 rfl,rfl,bis_mem,(bis_in hf).2,trivial,trivial⟩
   ·exact⟨bis_doc93 rfl,rfl,bis_mem,hs,(bis_in hf).2,trivial,trivial⟩
   ·exact⟨bis_doc93 rfl,bis_resO (fun _=>rfl),bis_mem,bis_outB,(bis_in hf).2,trivial,trivial⟩
   ·exact⟨bis_doc93 rfl,bis_resO (fun _=>rfl),bis_mem,bis_outB,hs,(bis_in hf).2,trivial,trivial⟩
  ·cases bO s.oN<;>cases bO s.sN<;>rfl
 refine⟨rfl,adet_demoteL hA ?_ ?_⟩
 ·unfold upd35;cases bO s.oN<;>cases bO s.sN<;>simp[mkH,fstL,dxO,dxW]
 ·unfold upd35;cases bO s.oN<;>cases bO s.sN<;>rfl
end
def exJ2 (bm br:Bool):List Nat:=exJ' bm++oneI br 41
noncomputable def dAt (f:FuncId) (vs:List Value) (pre:List (Nat × Blk)) (v:Value) (upd:Hp) (N news:Nat):Bool:=decP (vs=vs/\Has (mkH pre) pre/\AtN f vs pre v upd N news)
section
variable (op rd rs1 rs2 imm:Int) (bm br bo bs:Bool) (R RC M MC oN sN T sz:Nat) (n mk:Int) (inp rg of g:Nat->Int) (sf:Nat->List Value) (m m2:MS) (hb:bm=false->M=0) (hr:br=false->R=0)
include hb hr
end
def mkB (l:List (Nat × Blk)):List (Nat × Option Blk):=l.map fun p=>(p.1,some p.2)
section
variable (br bo bs:Bool) (R RC oN sN T:Nat) (n mk:Int) (rg of g:Nat->Int) (sf:Nat->List Value) (m m2:MS) (hr:br=false->R=0)
include hr
end
section
variable (bo bs:Bool) (oN sN:Nat) (n mk:Int) (of:Nat->Int) (sf:Nat->List Value) (m m2:MS)
noncomputable def dAny (f:FuncId) (vs:List Value) (pre:List (Nat × Blk)) (v:Value):Bool:=decP (vs=vs/\Has (mkH pre) pre/\AtA f vs pre v)
noncomputable def dG (f:FuncId) (vs:List Value) (pre:List (Nat × Blk)) (v:Value):Bool:=decP (vs=vs/\Has (mkH pre) pre/\DetG f vs pre v)
end
theorem setsM_keep (m:MS) (rg:Nat->Int):∀ R:Nat,(setsM m rg R).mem=m.mem/\(setsM m rg R).sz=m.sz/\(setsM m rg R).kn=m.kn/\(setsM m rg R).x 0=m.x 0
 |0=>⟨rfl,rfl,rfl,rfl⟩
 |R+1=>by
  obtain⟨h1,h2,h3,h4⟩:=setsM_keep m rg R
  show(setM (setsM m rg R) (R:Int) (rg R)).mem=_/\(setM (setsM m rg R) (R:Int) (rg R)).sz=_/\(setM (setsM m rg R) (R:Int) (rg R)).kn=_/\(setM (setsM m rg R) (R:Int) (rg R)).x 0=_
  unfold setM
  cases hk:inK (R:Int)with
  |false=>exact⟨h1,h2,h3,h4⟩
  |true =>
   refine⟨h1,h2,h3,?_⟩
   have hR:R≠0:=by rintro rfl;cases hk
   show(bif Nat.beq (0+1) (1+(R:Int).toNat*1)then rg R else(setsM m rg R).x 0)=_
   rw[Int.toNat_natCast,beq_dec,decide_eq_false (by omega)]
   exact h4
theorem sets_mok {m:MS} (h:MOK m){rg:Nat->Int}{R:Nat} (hr:∀ j,j<R->uB (rg j)=true):MOK (setsM m rg R):=by
 obtain⟨k1,k2,k3,k4⟩:=setsM_keep m rg R
 have ho:=setsM_ok (m:=m) (rg:=rg) (R:=R) ⟨h.sz,h.pl,h.x,h.kn⟩ hr
 exact⟨ho.sz,ho.pl,ho.x,ho.kn,by rw[k1];exact h.by_,by rw[k4];exact h.x0⟩
theorem new_mok {L sz:Nat}{g:Nat->Int} (hsz:sz<=4194304) (hg:∀ j,j<L->0<=g j/\g j<256):MOK (newM 0 L g sz):=by
 have h:=newM_ok (k:=0) (L:=L) (inp:=g) (decide_eq_true hsz:szB sz=true)
 refine⟨h.sz,h.pl,h.x,h.kn,fun j=>?_,rfl⟩
 show 0<=(bif Nat.blt j L then g (0+j)else 0)/\(bif Nat.blt j L then g (0+j)else 0)<256
 by_cases hj:j<L
 ·rw[lt_blt hj,Nat.zero_add];exact hg j hj
 ·rw[blt_ff hj];exact⟨Int.le_refl _,by show(0:Int)<256;omega⟩
theorem a28r {b:Bool}{st cd n mk:Int}{oN:Nat}{of:Nat->Int}:AtA 28 [resA st cd (vOa 63 b oN) n mk,resA st cd (vOa 67 b oN) n mk] (dxO b 63 oN of++dxO b 67 oN of) (.bool true):=by
 cases b with
 |true=>exact⟨rfl,fun k=>adet_of_body (b28 (bo:=true) fun _ _=>rfl) [(40,63),(41,67)] [] rfl rfl ⟨bis_outB,bis_outB,trivial⟩ rfl rfl ⟨bis_outB,bis_outB,trivial⟩ rfl⟩
 |false=>exact⟨rfl,fun k=>adet_of_body (b28 (bo:=false) (oN:=oN) (of:=of) (of2:=of) fun _ _=>rfl) [] [] rfl rfl trivial rfl rfl trivial rfl⟩
theorem ro_exIn {bi br:Bool}{L R:Nat}{inp rg:Nat->Int}:∀ id blk,hget (mkH (exIn bi br L inp R rg)) id=some blk->blk.ro=false->hget ([]:Hp) id=some blk:=by
 intro id blk h hro
 cases bi<;>cases br
 ·cases h
 all_goals
  simp only[exIn,exI,exR,mkH,List.append_nil,List.nil_append,List.cons_append,cond_true,cond_false,hget]at h
  revert h
 ·cases Nat.beq 41 id<;>intro h
  ·cases h
  ·cases h;cases hro
 ·cases Nat.beq 40 id<;>intro h
  ·cases h
  ·cases h;cases hro
 ·cases Nat.beq 40 id<;>cases Nat.beq 41 id<;>intro h
  ·cases h
  all_goals cases h;cases hro
section
variable {E:FEnv}{Q:Post} (hP:E.P=Try.prog) (hn:E.B.n=50) (hcl:Cl E.toEnv Q) (hfin:∀ e s,finP E.toEnv [(6,none)] [] (.bool true) [] 0 e s->Q e s){br:Bool}{R RC:Nat}{rg:Nat->Int} (hr:br=false->R=0) (hR:R<=1000) (hrg:∀ j,j<R->uB (rg j)=true)
include hP hn hcl hfin hr hR hrg
end
def RSt.er (s:RSt):RSt:={ s with sN:=0,sf:=fun _=>[] }
section
variable (T:Nat) (inp:Nat->Int) (w w':Bool)
theorem step_er (s:RSt) (k:Nat) (f:Nat->List Value):(stepF (ee T inp w) s).1=(stepF (ee T inp w') { s with sN:=k,sf:=f }).1/\(stepF (ee T inp w) s).2.er=(stepF (ee T inp w') { s with sN:=k,sf:=f }).2.er:=by
 unfold stepF stepG
 cases plB s.m.sz s.m.pl 4 with
 |false=>exact⟨rfl,rfl⟩
 |true =>
  simp only[cond_true]
  cases (decA (w32 s.m)).err==0 with
  |false=>exact⟨rfl,rfl⟩
  |true =>
   simp only[cond_true]
   cases plainB (decA (w32 s.m)).q with
   |true=>exact⟨rfl,rfl⟩
   |false =>
    simp only[cond_false]
    cases (decA (w32 s.m)).q==55 with
    |true =>
     simp only[cond_true]
     unfold callR
     simp only[ee,Bool.true_and]
     cases s.m.x 17==1<;>cases s.m.x 17==2<;>cases (s.m.x 17==3||(s.m.x 17==4||s.m.x 17==5))<;>cases Nat.blt s.ik T<;>exact⟨rfl,rfl⟩
    |false =>
     simp only[cond_false]
     unfold memF
     cases plB s.m.sz (atM s.m (decA (w32 s.m)).c) (sizeF (decA (w32 s.m)).q)<;>cases w<;>cases w'<;>exact⟨rfl,rfl⟩
theorem er_of {s t:RSt} (h:s.er=t.er):t={ s with sN:=t.sN,sf:=t.sf }:=by
 obtain⟨a1,a2,a3,a4,a5,a6,a7⟩:=s
 obtain⟨b1,b2,b3,b4,b5,b6,b7⟩:=t
 simp only[RSt.er,RSt.mk.injEq]at h ⊢
 simp[h]
theorem run_er:∀ (k n:Nat) (s t:RSt),s.er=t.er->(runF (stepF (ee T inp w)) k s n).1.er=(runF (stepF (ee T inp w')) k t n).1.er/\(runF (stepF (ee T inp w)) k s n).2=(runF (stepF (ee T inp w')) k t n).2
 |0,n,s,t,h=>⟨h,rfl⟩
 |k+1,n,s,t,h=>by
  have hm:s.m=t.m:=show s.er.m=t.er.m from congrArg RSt.m h
  cases h0:s.m.st==0 with
  |false=>rw[runF_end h0,runF_end (by rw[<- hm];exact h0)];exact⟨h,rfl⟩
  |true =>
   obtain⟨g1,g2⟩:=step_er T inp w w' s t.sN t.sf
   rw[<- er_of h]at g1 g2
   obtain⟨ok,s',hs⟩:∃ ok s',stepF (ee T inp w) s=(ok,s'):=⟨_,_,rfl⟩
   obtain⟨ok',t',ht⟩:∃ ok s',stepF (ee T inp w') t=(ok,s'):=⟨_,_,rfl⟩
   rw[hs,ht]at g1 g2
   simp only at g1 g2
   subst g1
   have h0':(t.m.st==0)=true:=by rw[<- hm];exact h0
   cases ok with
   |false =>
    rw[runF_no h0 hs,runF_no h0' ht]
    refine⟨?_,rfl⟩
    rw[er_of g2];rfl
   |true=>rw[runF_go h0 hs,runF_go h0' ht];exact run_er k (n+1) s' t' g2
end
end Go.X
