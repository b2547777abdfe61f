import Derived.Test.YtnekegldodbgjaaL51
set_option linter.all false
namespace Go.X
open Go Go.Proofs
abbrev T34 (j:Int) (br:Bool) (R RC:Nat):Tm:=mkT [11,10,9,4,6,0] [.int .i64 j,.int .i64 (R:Int),vR br R RC,pt 100,pt 101,pM]
def H34 (m:MS) (br:Bool) (R:Nat) (rg:Nat->Int):List (Nat × Blk):=[(100,docB 93 m),(101,docZ),(92,m.mB)]++exR br (rgB R rg)
section
variable (m:MS) (br:Bool) (j R RC:Nat) (rg:Nat->Int)
theorem p34_a (hr:br=false->R=0):walk (lookF FL) noSc 1000 x34 (argTm 0 [pM,docV 93 m,vR br R RC]) (mkH ([(92,m.mB)]++exR br (rgB R rg))) 100 j0_ j0_ ⟨[11,10,9,4,6],[.tmp 4,.tmp 6],[0],92 :: oneI br 41⟩ =
  some ⟨⟨[some (true,.int .i64 0),some (true,.int .i64 (R:Int)),some (true,vR br R RC),some (true,pt 100),some (true,pt 101)],[(100,some (docB 93 m)),(101,some docZ)],.normal,102⟩,some (x34_16,[.bl 0,.sq x34_21])⟩:=by
 cases br<;>first|(obtain rfl:=hr rfl;kernel_rfl)|kernel_rfl
theorem p34_e (hr:br=false->R=0):walk (lookF FL) noSc 1000 x34_21 (T34 (j:Int) br R RC) (mkH (H34 m br R rg)) 102 j0_ ⟨[6],[.tmp 6],[],92 :: oneI br 41⟩ j0_ =
  some ⟨⟨[some (true,pt 101)],[(101,some (docB 93 m))],.ret,102⟩,none⟩:=by
 cases br<;>first|(obtain rfl:=hr rfl;kernel_rfl)|kernel_rfl
noncomputable abbrev sc34:Short:=scOf [conAt 26 [pM,.int .i64 (j:Int),.int .u64 (rg j)] [(92,m.mB)] (.tuple ⟨[]⟩) (mkH [(92,(setM m (j:Int) (rg j)).mB)]) 102 0]
theorem p34_n (RC:Nat):walk (lookF FL) noSc 1000 x34_16 (T34 0 false 0 RC) (mkH (H34 m false 0 rg)) 102 ⟨[11],[.id 100,.id 92],[10,9,4,6,0],[101]⟩ j0_ j0_ =
  some ⟨⟨[some (true,.int .i64 0)],[(100,some (docB 93 m)),(92,some m.mB)],.exit 0,102⟩,none⟩:=by kernel_rfl
theorem p34_b (hj:rg (0+j)=rg j):walk (lookF FL) (sc34 m j rg) 1000 x34_16 (T34 (j:Int) true R RC) (mkH (H34 m true R rg)) 102 ⟨[11],[.id 100,.id 92],[10,9,4,6,0],[101,41]⟩ j0_ j0_ =
  bif decide ((j:Int)<(R:Int))then bif ((0+(j:Int).toNat).blt R&&true||false)&&((intRange (j:Int) R&&true||false)&&true)then bif decP ([pM,.int .i64 (j:Int),.int .u64 (rg (0+(j:Int).toNat))]=[pM,.int .i64 (j:Int),.int .u64 (rg j)]/\Has (mkH [(92,m.mB)]) [(92,m.mB)]/\AtN 26 [pM,.int .i64 (j:Int),.int .u64 (rg j)] [(92,m.mB)] (.tuple ⟨[]⟩) (mkH [(92,(setM m (j:Int) (rg j)).mB)]) 102 0)&&true&&true then
   bif ((decide ((j:Int)>0)||!decide ((j:Int)>0))&&true||false)&&((decide ((j:Int)>0)&&true||!decide ((j:Int)>0))&&true)then bif bif decide ((j:Int)>0)then decide ((j:Int)<32)else false then
    bif (1+(j:Int).toNat*1).blt (docC 93 m).length&&updOK (1+(j:Int).toNat*1) (.int .u64 (rg (0+(j:Int).toNat))) 0 (docC 93 m)&&true&&((intRange (j:Int) 32&&true||false)&&true)then
     some ⟨⟨[some (true,.int .i64 (IntKind.i64.wrap ((j:Int)+1)))],[(100,some (docB 93 (putX m (j:Int) (rg (0+(j:Int).toNat))))),(92,some (setM m (j:Int) (rg j)).mB)],.normal,102⟩,none⟩else none
    else some ⟨⟨[some (true,.int .i64 (IntKind.i64.wrap ((j:Int)+1)))],[(100,some (docB 93 m)),(92,some (setM m (j:Int) (rg j)).mB)],.normal,102⟩,none⟩else none else none else none
   else some ⟨⟨[some (true,.int .i64 (j:Int))],[(100,some (docB 93 m)),(92,some m.mB)],.exit 0,102⟩,none⟩:=by kernel_rfl
end
theorem setM_doc (m:MS) (v:Int){k:Int} (h:inK k=true):docB 93 (putX m k v)=docB 93 (setM m k v):=by
 have hr:inR k:=by
  unfold inK at h
  unfold inR
  cases h0:decide (k>0)with
  |false=>rw[h0]at h;cases h
  |true=>rw[h0,cond_true]at h;simp only[decide_eq_true_eq]at h0 h;omega
 have e:=putX_pl m hr v
 unfold setM
 rw[h]
 exact doc_eq rfl rfl e rfl rfl
theorem at26 (m:MS) (k v:Int):AtN 26 [pM,.int .i64 k,.int .u64 v] [(92,m.mB)] (.tuple ⟨[]⟩) (mkH [(92,(setM m k v).mB)]) 102 0 :=
 ⟨rfl,adet_of_body (b26 m k v) [(90,90),(91,91),(92,92)] [] rfl rfl ⟨bis_mBg rfl rfl,trivial⟩ rfl rfl ⟨bis_mBg rfl rfl,trivial,trivial⟩ rfl⟩
theorem b34 {m:MS}{br:Bool}{R RC:Nat}{rg:Nat->Int} (hr:br=false->R=0) (hR:R<=1000) :
  Body Try.prog 34 [pM,docV 93 m,vR br R RC] (mkH ([(92,m.mB)]++exR br (rgB R rg))) (docV 93 (setsM m rg R)) (mkH [(100,docB 93 (setsM m rg R)),(92,(setsM m rg R).mB)]) 100 1:=by
 refine body_of' mixed fx34 (by simp) fun E Q hP hE hcl hfin=>?_
 have hF:FnsOK E.P (lookF FL) noSc:=hP▸FOK
 let S:Nat->St:=fun j=>⟨T34 (j:Int) br R RC,mkH (H34 (setsM m rg j) br R rg),102⟩
 have hrg:∀ {σ:Nm},BIs Try.prog σ (rgB R rg) (rgB R rg):=bis_rw fun _ _=>rfl
 have lf:∀ {j:Nat}{ex:Exit}{m1:MS}{v:Int},v=((j:Nat):Int)->docB 93 m1=docB 93 (setsM m rg j)->LeafTo E ([11]++[10,9,4,6,0]) ⟨[some (true,.int .i64 v),some (true,.int .i64 (R:Int)),some (true,vR br R RC),some (true,pt 100),some (true,pt 101),some (true,pM)],[(100,some (docB 93 m1)),(92,some (setsM m rg j).mB),(101,some docZ)]++(exR br (rgB R rg)).map (fun p=>(p.1,some p.2)),ex,102⟩
   ⟨T34 (j:Int) br R RC,mkH ([(100,docB 93 (setsM m rg j)),(92,(setsM m rg j).mB),(101,docZ)]++exR br (rgB R rg)),102⟩:=fun {j ex m1 v} hv hd=>⟨_,[(100,docB 93 (setsM m rg j)),(92,(setsM m rg j).mB),(101,docZ)]++exR br (rgB R rg),102,rfl,by rw[hE];cases br<;>rfl,by rw[hE,hv];cases br<;>exact⟨rfl,rfl,rfl,rfl,rfl,rfl,trivial⟩,by
    rw[hE,hP,hd]
    cases br
    ·exact⟨bis_doc93 rfl,bis_mBg rfl rfl,rfl,trivial⟩
    ·exact⟨bis_doc93 rfl,bis_mBg rfl rfl,rfl,hrg,trivial⟩⟩
 have wk:∀ j:Nat,Wk E.toEnv ⟨T34 (j:Int) br R RC,mkH ([(100,docB 93 (setsM m rg j)),(92,(setsM m rg j).mB),(101,docZ)]++exR br (rgB R rg)),102⟩ (S j):=fun j=>wk_sub (has_sub (by cases br<;>first|exact⟨rfl,rfl,rfl,trivial⟩|exact⟨rfl,rfl,rfl,rfl,trivial⟩))
 refine xwp_toLoop (s:=⟨_,_,_⟩) hF 1000 (p34_a m br R RC rg hr) (S 0) ⟨_,H34 m br R rg,102,rfl,by rw[hE];cases br<;>rfl,by rw[hE];cases br<;>exact⟨rfl,rfl,rfl,rfl,rfl,rfl,trivial⟩,by
   rw[hE,hP]
   cases br
   ·exact⟨bis_doc93 rfl,rfl,bis_mBg rfl rfl,trivial⟩
   ·exact⟨bis_doc93 rfl,rfl,bis_mBg rfl rfl,hrg,trivial⟩⟩ ?_
 refine xwp_loopR (ι:=Nat) S (fun j=>j<=R) (fun j=>R-j) 0 (Nat.zero_le _) fun j hj=>?_
 have hcr:=cl_round (S:=S) (I:=fun j=>j<=R) (μ:=fun j=>R-j) (i:=j) (cl_ctx hcl [.bl 0,.sq x34_21])
 have hend:XWP E.toEnv x34_21 Q (S R):=by
  refine xwp_toEnd (s:=S R) hcl hF 1000 (p34_e (setsM m rg R) br R R RC rg hr) ⟨mkT [6] [pt 100],mkH ([(100,docB 93 (setsM m rg R)),(92,(setsM m rg R).mB)]++exR br (rgB R rg)),101⟩ ⟨_,[(100,docB 93 (setsM m rg R)),(92,(setsM m rg R).mB)]++exR br (rgB R rg),101,rfl,by rw[hE];cases br<;>rfl,by rw[hE];cases br<;>exact⟨rfl,trivial⟩,by
   rw[hE,hP]
   cases br
   ·exact⟨bis_doc93 rfl,bis_mBg rfl rfl,trivial⟩
   ·exact⟨bis_doc93 rfl,bis_mBg rfl rfl,hrg,trivial⟩⟩ (hfin _ _ (fin_of rfl ?_ (by rw[hE]) ?_))
  ·cases br
   ·exact⟨rfl,rfl,trivial,trivial⟩
   ·exact⟨rfl,rfl,trivial,rfl,trivial⟩
  ·cases br<;>rfl
 by_cases hlt:j<R
 ·have hbr:br=true:=by
   cases br with
   |true=>rfl
   |false=>have:=hr rfl;omega
  subst hbr
  have e:=p34_b (setsM m rg j) j R RC rg (by rw[Nat.zero_add])
  have i1:intRange (j:Int) R=true:=by rw[ir_nat];exact decide_eq_true hlt
  have hA:=at26 (setsM m rg j) (j:Int) (rg j)
  rw[decide_eq_true (show(j:Int)<R by omega),cond_true,Int.toNat_natCast,Nat.zero_add,lt_blt hlt,i1,decP_true ⟨rfl,⟨rfl,trivial⟩,hA⟩,wrap_i (n:=(j:Int)+1) (by omega) (by omega)]at e
  simp only[Bool.and_self,Bool.or_false,cond_true,show ∀ b:Bool,((b||!b)&&true&&((b&&true||!b)&&true))=true from fun b=>by cases b<;>rfl]at e
  cases hk:inK (j:Int)with
  |true =>
   have hk':=hk
   unfold inK at hk'
   have hj32:j<32:=by
    cases h0:decide ((j:Int)>0)with
    |false=>rw[h0]at hk';cases hk'
    |true=>rw[h0,cond_true]at hk';simp only[decide_eq_true_eq]at hk';omega
   have hg:=reg_docC (setsM m rg j) (rg j) j hj32
   rw[Int.toNat_natCast]at hg
   simp only[Bool.and_true,Bool.or_false]at hg e
   rw[hk',cond_true,hg,cond_true]at e
   exact xwp_toEnd (s:=S j) hcr (fokE hP _) 1000 e _ (lf (j:=j+1) (by omega) (setM_doc _ _ hk)) ⟨j+1,hlt,by simp only;omega,wk (j+1)⟩
  |false =>
   have hk':=hk
   unfold inK at hk'
   simp only[Bool.and_true,Bool.or_false]at e
   rw[hk',cond_false]at e
   refine xwp_toEnd (s:=S j) hcr (fokE hP _) 1000 e _ (lf (j:=j+1) (m1:=setsM m rg j) (by omega) ?_) ⟨j+1,hlt,by simp only;omega,wk (j+1)⟩
   show docB 93 _=docB 93 (setM (setsM m rg j) (j:Int) (rg j))
   unfold setM
   rw[hk];rfl
 ·have:j=R:=by omega
  subst this
  cases hbr:br with
  |true =>
   subst hbr
   have e:=p34_b (setsM m rg j) j j RC rg (by rw[Nat.zero_add])
   rw[decide_eq_false (show ¬ (j:Int)<j by omega),cond_false]at e
   exact xwp_toEnd (s:=S j) hcr (fokE hP _) 1000 e _ (lf (j:=j) rfl rfl) (XWP.wk (wk j) hend)
  |false =>
   subst hbr
   have h0:=hr rfl
   subst h0
   exact xwp_toEnd (s:=S 0) hcr hF 1000 (p34_n (setsM m rg 0) rg RC) _ (lf (j:=0) rfl rfl) (XWP.wk (wk 0) hend)
theorem a23 {i:Ins}{F:Ins->Int × Int} (hE:EncV i (F i)){oN:Nat}{of:Nat->Int} (hb:byS F (fun _=>i) 1=(oN,of)){f:Nat->List Value} (hf:f 0=i.row) :
  AtN 23 [.slice (some ⟨51,0,none⟩) 1 1] [(51,.rows 1 5 f false false)] (vB 52 (bO oN) oN) (mkH (upB 52 (bO oN) (outB oN of))) 52 (nB (bO oN)):=by
 have hf':∀ j,j<1->f j=i.row:=fun j hj=>by rw[show j=0 by omega,hf]
 have h41:∀ {σ:Nm},BIs Try.prog σ (itB 1 fun _=>i) (.rows 1 5 f false true):=⟨rfl,rfl,fun j hj=>by rw[hf' j hj];rfl,.inr (.inr rfl),.inl rfl⟩
 have h41':∀ {σ:Nm},BIs Try.prog σ (.rows 1 5 f false true) (itB 1 fun _=>i):=⟨rfl,rfl,fun j hj=>by rw[hf' j hj];rfl,.inr (.inl rfl),.inl rfl⟩
 have h:ADet Try.prog 23 [.slice (some ⟨51,0,none⟩) 1 1] [(51,some (.rows 1 5 f false true))] (vB 52 (bO oN) oN) (mkH (upB 52 (bO oN) (outB oN of))) 52 (nB (bO oN)):=by
  refine adet_of_body (b23 (N:=1) (C:=1) (T:=1) (fun _ _=>hE) (Nat.le_refl _) (by omega) hb) [(41,51)] (bif bO oN then[(52,100)]else[]) ?_ rfl ⟨h41,trivial⟩ rfl ?_ ?_ ?_
  ·cases bO oN<;>rfl
  ·cases bO oN<;>rfl
  ·cases bO oN
   ·exact⟨h41',trivial⟩
   ·exact⟨bis_outB,h41',trivial⟩
  ·cases bO oN<;>rfl
 refine⟨rfl,adet_demote h ?_ ?_⟩
 ·cases bO oN<;>simp[upB,mkH,fstL]
 ·cases bO oN<;>rfl
theorem a22 {T sz:Nat}{g:Nat->Int} (h1:T<=sz) (h2:sz<=4194304) :
  AtN 22 [newS 61 T,.int .i64 (sz:Int)] [(61,outB T g)] (vM3 132) (mkH [(130,(newM 0 T g sz).memB),(131,(newM 0 T g sz).kn.blk),(132,(newM 0 T g sz).mAt 130 131)]) 130 3 :=
 ⟨rfl,c22_at h1 h2 61 130 (by omega) (Nat.le_refl _) fun j _=>rfl⟩
theorem d32_new (L sz:Nat) (inp:Nat->Int):d32 L sz inp=newM 0 L inp sz:=by
 unfold d32 dm32 newM memI
 congr 1
 funext j
 rw[Nat.zero_add]
theorem a32r {T sz C:Nat}{g:Nat->Int} (b:Nat) (hb:b=61\/b=40){o r:Bool} (h1:T<=sz) (h2:sz<=4194304) :
  AtN 32 [.slice (some ⟨b,0,none⟩) T C,.int .i64 (sz:Int)] [(b,.rows T 1 (fun j=>[.int .u8 (g j)]) o r)] (.tuple ⟨[docV 130 (newM 0 T g sz),.bool true]⟩) (mkH [(130,(newM 0 T g sz).memB),(131,docB 130 (newM 0 T g sz))]) 130 2:=by
 have hB:=b32 (bi:=true) (C:=C) (inp:=g) (L:=T) (fun h=>by cases h) h1 h2
 rw[d32_new]at hB
 have hmm:mb32 sz (memI g T)=(newM 0 T g sz).memB:=by rw[<- d32_new];rfl
 rw[hmm]at hB
 have ha:∀ {σ:Nm},BIs Try.prog σ (inB T g) (.rows T 1 (fun j=>[.int .u8 (g j)]) o true):=⟨rfl,rfl,fun j hj=>rfl,.inr (.inr rfl),.inl rfl⟩
 have ha':∀ {σ:Nm},BIs Try.prog σ (.rows T 1 (fun j=>[.int .u8 (g j)]) o true) (inB T g):=⟨rfl,rfl,fun j hj=>rfl,.inr (.inl rfl),.inl rfl⟩
 have h:ADet Try.prog 32 [.slice (some ⟨b,0,none⟩) T C,.int .i64 (sz:Int)] [(b,some (.rows T 1 (fun j=>[.int .u8 (g j)]) o true))] (.tuple ⟨[docV 130 (newM 0 T g sz),.bool true]⟩) (mkH [(130,(newM 0 T g sz).memB),(131,docB 130 (newM 0 T g sz))]) 130 2:=by
  rcases hb with rfl|rfl
  ·exact adet_of_body hB [(40,61)] [(130,100),(131,101)] rfl rfl ⟨ha,trivial⟩ rfl rfl ⟨bis_mem,bis_doc rfl,ha',trivial⟩ rfl
  ·exact adet_of_body hB [(40,40)] [(130,100),(131,101)] rfl rfl ⟨ha,trivial⟩ rfl rfl ⟨bis_mem,bis_doc rfl,ha',trivial⟩ rfl
 refine⟨rfl,?_⟩
 cases r with
 |true=>exact h
 |false=>exact adet_demote h (by rcases hb with rfl|rfl<;>simp[mkH,fstL]) rfl
theorem a34 {m:MS}{br:Bool}{R RC:Nat}{rg:Nat->Int} (hr:br=false->R=0) (hR:R<=1000) :
  AtN 34 [pAt 92,docV 93 m,vR br R RC] ([(92,m.mAt 90 91)]++exR br (rgB R rg)) (docV 93 (setsM m rg R)) (mkH [(130,docB 93 (setsM m rg R)),(92,(setsM m rg R).mAt 90 91)]) 130 1:=by
 have hB:=b34 (m:=m) (RC:=RC) (rg:=rg) hr hR
 have hrg:∀ {σ:Nm},BIs Try.prog σ (rgB R rg) (rgB R rg):=bis_rw fun _ _=>rfl
 have hm:∀ {m:MS}{σ:Nm},σ 90=some 90->σ 91=some 91->BIs Try.prog σ (m.mAt 90 91) m.mB:=fun h1 h2=>bis_mAt h1 h2
 have hm':∀ {m:MS}{σ:Nm},σ 90=some 90->σ 91=some 91->BIs Try.prog σ m.mB (m.mAt 90 91):=fun h1 h2=>bis_mAt (a:=90) (b:=91) h1 h2
 cases br with
 |false=>exact⟨rfl,adet_of_body hB [(90,90),(91,91),(92,92),(93,93),(41,41)] [(130,100)] rfl rfl ⟨hm' rfl rfl,trivial⟩ rfl rfl ⟨bis_doc93 rfl,hm rfl rfl,trivial,trivial⟩ rfl⟩
 |true=>exact⟨rfl,adet_of_body hB [(90,90),(91,91),(92,92),(93,93),(41,41)] [(130,100)] rfl rfl ⟨hm' rfl rfl,hrg,trivial⟩ rfl rfl ⟨bis_doc93 rfl,hm rfl rfl,trivial,hrg,trivial⟩ rfl⟩
theorem bis_in {P:Program}{σ:Nm}{T:Nat}{inp:Nat->Int}{f:Nat->List Value} (hf:∀ j,j<T->f j=[.int .u8 (inp j)]):BIs P σ (inB T inp) (.rows T 1 f false true)/\BIs P σ (.rows T 1 f false true) (inB T inp) :=
 ⟨⟨rfl,rfl,fun j hj=>by rw[hf j hj];rfl,.inr (.inr rfl),.inl rfl⟩,⟨rfl,rfl,fun j hj=>by rw[hf j hj];rfl,.inr (.inl rfl),.inl rfl⟩⟩
def ee (T:Nat) (inp:Nat->Int) (wt:Bool):REnv:=⟨true,T,inp,0,T,T,wt⟩
theorem run_base {T:Nat}{inp:Nat->Int}{wt:Bool}{m:MS} (hm:MOK m){fuel:Int} (hf0:0<=fuel) (hf:fuel<=1000000000){s:RSt}{n:Nat} (hr:runF (stepF (ee T inp wt)) fuel.toNat (RSt.init m) 0=(s,n)) :
  Body Try.prog 48 [pM,vI true 0 T T,.int .i64 fuel,.bool wt] (mkH (pre48 m true (inB T inp))) (val48 s.m (bO s.oN) (bO s.sN) s.oN s.sN n s.mark) (upd48 s.m (bO s.oN) (bO s.sN) s.oN s.of s.sN s.sf n s.mark) 100 4/\SeOK s.sN s.sf:=by
 have h0:BaseOK (ee T inp wt) 0 (RSt.init m):=⟨hm.sz,hm.pl,hm.x,hm.kn,fun j hj=>absurd hj (Nat.not_lt_zero _),Nat.le_refl _,Nat.le_refl _,by show 0+T<=T;omega,Nat.zero_le _⟩
 refine⟨b48 (ee T inp wt) hf0 (steps_all _ hf) (by omega) m ⟨h0,Nat.le_refl _⟩ hr,?_⟩
 have:=run_ok (steps_all (ee T inp wt) hf) fuel.toNat 0 (RSt.init m) (by omega) ⟨h0,Nat.le_refl _⟩
 rw[hr]at this
 rcases this with⟨n',h⟩|⟨n',s1,h,e1⟩
 ·exact h.1.se
 ·simp only at e1;rw[e1];exact h.1.se
section
variable {T:Nat}{inp:Nat->Int}{f:Nat->List Value} (hf:∀ j,j<T->f j=[.int .u8 (inp j)]){m:MS} (hm:MOK m){fuel:Int} (hf0:0<=fuel) (hfu:fuel<=1000000000){s:RSt}{n:Nat}
include hf hm hf0 hfu
theorem a27 (hr:runF (stepF (ee T inp true)) fuel.toNat (RSt.init m) 0=(s,n)) :
  AtN 27 [pAt 92,.slice (some ⟨130,0,none⟩) T T,.int .i64 fuel] ((130,.rows T 1 f false false) :: m.HA 90 91 92) (.tuple ⟨[resV24 s.m (vOa 132 (bO s.oN) s.oN) n s.mark,vOa 133 (bO s.sN) s.sN]⟩)
   (mkH ([(131,resB s.m (vOa 132 (bO s.oN) s.oN) n s.mark)]++s.m.HA 90 91 92++extN 132 133 (bO s.oN) (bO s.sN) (outB s.oN s.of) (seB s.sN s.sf))) 131 3:=by
 obtain⟨hb,hse⟩:=run_base hm hf0 hfu hr
 have h:=b27 hse hb
 have hs:∀ {σ:Nm},BIs Try.prog σ (seB s.sN s.sf) (seB s.sN s.sf):=bis_seB fun j hj=>hse j hj _
 have hA:ADet Try.prog 27 [pAt 92,.slice (some ⟨130,0,none⟩) T T,.int .i64 fuel] ((130,some (.rows T 1 f false true)) :: mkH (m.HA 90 91 92)) (.tuple ⟨[resV24 s.m (vOa 132 (bO s.oN) s.oN) n s.mark,vOa 133 (bO s.sN) s.sN]⟩)
   (mkH ([(131,resB s.m (vOa 132 (bO s.oN) s.oN) n s.mark)]++s.m.HA 90 91 92++extN 132 133 (bO s.oN) (bO s.sN) (outB s.oN s.of) (seB s.sN s.sf))) 131 3:=by
  refine adet_of_body h [(90,90),(91,91),(92,92),(40,130)] [(131,100),(132,101),(133,102)] ?_ rfl ⟨bis_mem,bis_kn,bis_mAt (a:=90) (b:=91) rfl rfl,(bis_in hf).1,trivial⟩ rfl ?_ ?_ ?_
  ·cases bO s.oN<;>cases bO s.sN<;>rfl
  ·cases bO s.oN<;>cases bO s.sN<;>rfl
  ·cases bO s.oN<;>cases bO s.sN
   ·exact⟨rfl,bis_mem,bis_kn,bis_mAt rfl rfl,(bis_in hf).2,trivial,trivial,trivial,trivial⟩
   ·exact⟨rfl,bis_mem,bis_kn,bis_mAt rfl rfl,hs,(bis_in hf).2,trivial,trivial,trivial,trivial⟩
   ·exact⟨bis_resO (fun _=>rfl),bis_mem,bis_kn,bis_mAt rfl rfl,bis_outB,(bis_in hf).2,trivial,trivial,trivial,trivial⟩
   ·exact⟨bis_resO (fun _=>rfl),bis_mem,bis_kn,bis_mAt rfl rfl,bis_outB,hs,(bis_in hf).2,trivial,trivial,trivial,trivial⟩
  ·cases bO s.oN<;>cases bO s.sN<;>rfl
 refine⟨rfl,adet_demoteL hA ?_ ?_⟩
 ·cases bO s.oN<;>cases bO s.sN<;>simp[mkH,fstL,MS.HA,extN]
 ·cases bO s.oN<;>cases bO s.sN<;>rfl
theorem a35 (hr:runF (stepF (ee T inp true)) fuel.toNat (RSt.init m) 0=(s,n)) :
  AtN 35 [docV 93 m,.slice (some ⟨130,0,none⟩) T T,.int .i64 fuel] ((130,.rows T 1 f false false) :: [(93,m.memB)]) (val35 s.m (bO s.oN) (bO s.sN) 133 134 s.oN s.sN n s.mark) (mkH (upd35 131 s.m (bO s.oN) (bO s.sN) s.oN s.sN n s.mark s.of s.sf)) 131 4:=by
 obtain⟨_,hse⟩:=run_base hm hf0 hfu hr
 have h:=b35 (ee T inp true) rfl rfl (Nat.le_refl _) (by show 0+T<=T;omega) hfu hm hr
 have hs:∀ {σ:Nm},BIs Try.prog σ (seB s.sN s.sf) (seB s.sN s.sf):=bis_seB fun j hj=>hse j hj _
 have hA:ADet Try.prog 35 [docV 93 m,.slice (some ⟨130,0,none⟩) T T,.int .i64 fuel] ((130,some (.rows T 1 f false true)) :: mkH [(93,m.memB)]) (val35 s.m (bO s.oN) (bO s.sN) 133 134 s.oN s.sN n s.mark) (mkH (upd35 131 s.m (bO s.oN) (bO s.sN) s.oN s.sN n s.mark s.of s.sf)) 131 4:=by
  unfold upd35 at h ⊢
  unfold val35 at h ⊢
  refine adet_of_body h [(93,93),(40,130)] [(131,100),(132,101),(133,102),(134,103)] ?_ rfl ⟨bis_mem,(bis_in hf).1,trivial⟩ rfl ?_ ?_ ?_
  ·cases bO s.oN<;>cases bO s.sN<;>rfl
  ·cases bO s.oN<;>cases bO s.sN<;>rfl
  ·cases bO s.oN<;>cases bO s.sN
   ·exact⟨bis_doc93 rfl,rfl,bis_mem,(bis_in hf).2,trivial,trivial⟩
   ·exact⟨bis_doc93 rfl,rfl,bis_mem,hs,(bis_in hf).2,trivial,trivial⟩
   ·exact⟨bis_doc93 rfl,bis_resO (fun _=>rfl),bis_mem,bis_outB,(bis_in hf).2,trivial,trivial⟩
   ·exact⟨bis_doc93 rfl,bis_resO (fun _=>rfl),bis_mem,bis_outB,hs,(bis_in hf).2,trivial,trivial⟩
  ·cases bO s.oN<;>cases bO s.sN<;>rfl
 refine⟨rfl,adet_demoteL hA ?_ ?_⟩
 ·unfold upd35;cases bO s.oN<;>cases bO s.sN<;>simp[mkH,fstL,dxO,dxW]
 ·unfold upd35;cases bO s.oN<;>cases bO s.sN<;>rfl
end
def exJ2 (bm br:Bool):List Nat:=exJ' bm++oneI br 41
noncomputable def dAt (f:FuncId) (vs:List Value) (pre:List (Nat × Blk)) (v:Value) (upd:Hp) (N news:Nat):Bool:=decP (vs=vs/\Has (mkH pre) pre/\AtN f vs pre v upd N news)
def gate (b D:Bool):Bool:=bif b then D&&true&&true else(D&&true||false)&&true
section
variable (op rd rs1 rs2 imm:Int) (bm br bo bs:Bool) (R RC M MC oN sN T sz:Nat) (n mk:Int) (inp rg of g:Nat->Int) (sf:Nat->List Value) (m m2:MS) (hb:bm=false->M=0) (hr:br=false->R=0)
include hb hr
theorem p13_0:walk (lookF FL) noSc 1000 (.region x13_0) (argTm 0 [i18 op rd rs1 rs2 imm,vR br R RC,vI bm 0 M MC]) (mkH (exIn bm br M inp R rg)) 50 ⟨[3,6],[.tmp 3],[1,2],exJ2 bm br⟩ j0_ j0_ =
  some ⟨⟨[some (true,pt 50),some (true,.bool false)],[(50,some (iB op rd rs1 rs2 imm))],.normal,51⟩,none⟩:=by
 cases bm<;>cases br<;>first|(obtain rfl:=hb rfl;obtain rfl:=hr rfl;kernel_rfl)|(obtain rfl:=hb rfl;kernel_rfl)|(obtain rfl:=hr rfl;kernel_rfl)|kernel_rfl
def r13:Nat->List Value:=fun j=>slab [.int .i64 op,.int .i64 rd,.int .i64 rs1,.int .i64 rs2,.int .i64 imm] (j*5) 5
theorem p13_1:walk (lookF FL) (scOf [conAt 23 [.slice (some ⟨51,0,none⟩) 1 1] [(51,.rows 1 5 (r13 op rd rs1 rs2 imm) false false)] (vB 52 bo oN) (mkH (upB 52 bo (outB oN of))) 52 (nB bo)]) 1000 (.region x13_1) (mkT [3,6,1,2] [pt 50,.bool false,vR br R RC,vI bm 0 M MC]) (mkH ([(50,iB op rd rs1 rs2 imm)]++exIn bm br M inp R rg)) 51 ⟨[7],(oneI bo 52).map .id,[6,1,2],exJ2 bm br⟩ j0_ j0_ =
  bif gate bo (dAt 23 [.slice (some ⟨51,0,none⟩) 1 1] [(51,.rows 1 5 (r13 op rd rs1 rs2 imm) false false)] (vB 52 bo oN) (mkH (upB 52 bo (outB oN of))) 52 (nB bo))then some ⟨⟨[some (true,vB 52 bo oN)],(upB 52 bo (outB oN of)).map (fun p=>(p.1,some p.2)),.normal,52+nB bo⟩,none⟩else none:=by
 cases bo<;>cases bm<;>cases br<;>first|(obtain rfl:=hb rfl;obtain rfl:=hr rfl;kernel_rfl)|(obtain rfl:=hb rfl;kernel_rfl)|(obtain rfl:=hr rfl;kernel_rfl)|kernel_rfl
def g13 (a:Bool):Bool:=((!a||a)&&true||false)&&((!a&&true||!!a)&&((!a&&true||!!a)&&true))
theorem p13_2:walk (lookF FL) sc6 1000 x13_6 (mkT [7,6,1,2] [newS 60 4,.bool false,vR br R RC,vI bm 0 M MC]) (mkH ([(60,outB 4 of)]++exIn bm br M inp R rg)) 130 ⟨[],[],[7,6,1,2],60 :: exJ2 bm br⟩ ⟨[6],[],[],[]⟩ j0_ =
  bif g13 (decide ((R:Int)>40))then bif bif decide ((R:Int)>40)then true else decide ((M:Int)>300)then some ⟨⟨[some (true,.bool true)],[],.ret,130⟩,none⟩else some ⟨⟨[],[],.normal,130⟩,none⟩else none:=by
 cases bm<;>cases br<;>first|(obtain rfl:=hb rfl;obtain rfl:=hr rfl;kernel_rfl)|(obtain rfl:=hb rfl;kernel_rfl)|(obtain rfl:=hr rfl;kernel_rfl)|kernel_rfl
theorem p13_2n:walk (lookF FL) sc6 1000 x13_6 (mkT [7,6,1,2] [.slice none 0 0,.bool false,vR br R RC,vI bm 0 M MC]) (mkH (exIn bm br M inp R rg)) 130 j0_ ⟨[6],[],[],[]⟩ j0_ =
  some ⟨⟨[some (true,.bool true)],[],.ret,130⟩,none⟩:=by
 cases bm<;>cases br<;>first|(obtain rfl:=hb rfl;obtain rfl:=hr rfl;kernel_rfl)|(obtain rfl:=hb rfl;kernel_rfl)|(obtain rfl:=hr rfl;kernel_rfl)|kernel_rfl
def f13:Nat->List Value:=bif bm then rowCat (rowCat (fun j=>[.int .u8 (of j)]) 0 4 fun j=>slab [.int .u8 0,.int .u8 0,.int .u8 0,.int .u8 0] ((0+j)*1) 1) 0 8 fun j=>[.int .u8 (inp (0+j))]
 else rowPut (rowCat (fun j=>[.int .u8 (of j)]) 0 4 fun j=>slab [.int .u8 0,.int .u8 0,.int .u8 0,.int .u8 0] ((0+j)*1) 1) 8 0 fun x=>[]
def q13:Bool:=bif bm then !(8+M).ble 8&&true&&true&&((0+M).ble M&&true)&&decide ((8+M)*3<=1099511627776)&&true&&true else true
def n13:Nat:=bif bm then 132 else 131
theorem p13_7:walk (lookF FL) noSc 1000 (.region x13_7) (mkT [7,6,1,2] [newS 60 4,.bool false,vR br R RC,vI bm 0 M MC]) (mkH ([(60,outB 4 of)]++exIn bm br M inp R rg)) 130 ⟨[8],[.tmp 8],[6,1],oneI br 41⟩ j0_ j0_ =
  bif q13 bm M then some ⟨⟨[some (true,newS (n13 bm) (8+M))],[(n13 bm,some (.rows (8+M) 1 (f13 bm inp of) true false))],.normal,n13 bm+1⟩,none⟩else none:=by
 cases bm<;>cases br<;>first|(obtain rfl:=hb rfl;obtain rfl:=hr rfl;kernel_rfl)|(obtain rfl:=hb rfl;kernel_rfl)|(obtain rfl:=hr rfl;kernel_rfl)|kernel_rfl
end
def f9i:Nat->List Value:=fun j=>slab [.int .u8 9] (j*1) 1
def z13 (T:Nat):Int:=IntKind.i64.wrap ((T:Int)+64)
def mkB (l:List (Nat × Blk)):List (Nat × Option Blk):=l.map fun p=>(p.1,some p.2)
section
variable (br bo bs:Bool) (R RC oN sN T:Nat) (n mk:Int) (rg of g:Nat->Int) (sf:Nat->List Value) (m m2:MS) (hr:br=false->R=0)
include hr
theorem p13_8:walk (lookF FL) (scOf [conAt 22 [newS 61 T,.int .i64 (z13 T)] [(61,outB T g)] (vM3 132) (mkH [(130,m.memB),(131,m.kn.blk),(132,m.mAt 130 131)]) 130 3]) 1000 (.region x13_8) (mkT [8,6,1] [newS 61 T,.bool false,vR br R RC]) (mkH ([(61,outB T g)]++exR br (rgB R rg))) 130 ⟨[9,10],[.id 130,.id 131,.id 132],[8,6,1],61 :: oneI br 41⟩ j0_ j0_ =
  bif dAt 22 [newS 61 T,.int .i64 (z13 T)] [(61,outB T g)] (vM3 132) (mkH [(130,m.memB),(131,m.kn.blk),(132,m.mAt 130 131)]) 130 3&&true&&true then some ⟨⟨[some (true,pAt 132),some (true,.int .i64 0)],mkB [(130,m.memB),(131,m.kn.blk),(132,m.mAt 130 131)],.normal,133⟩,none⟩else none:=by
 cases br<;>first|(obtain rfl:=hr rfl;kernel_rfl)|kernel_rfl
theorem p13_9:walk (lookF FL) (scOf [conAt 32 [newS 61 T,.int .i64 (z13 T)] [(61,outB T g)] (.tuple ⟨[docV 130 m,.bool true]⟩) (mkH [(130,m.memB),(131,docB 130 m)]) 130 2]) 1000 (.region x13_9) (mkT [9,10,8,6,1] [pAt 92,.int .i64 0,newS 61 T,.bool false,vR br R RC]) (mkH (m.HA 90 91 92++[(61,outB T g)]++exR br (rgB R rg))) 130 ⟨[11,12],[.id 130,.id 132],[9,10,6,1],[90,91,92]++oneI br 41⟩ j0_ j0_ =
  bif dAt 32 [newS 61 T,.int .i64 (z13 T)] [(61,outB T g)] (.tuple ⟨[docV 130 m,.bool true]⟩) (mkH [(130,m.memB),(131,docB 130 m)]) 130 2&&true&&true then some ⟨⟨[some (true,pAt 132),some (true,.bool true)],mkB [(130,m.memB),(132,docB 130 m)],.normal,133⟩,none⟩else none:=by
 cases br<;>first|(obtain rfl:=hr rfl;kernel_rfl)|kernel_rfl
theorem p13_14:walk (lookF FL) noSc 1000 x13_14 (mkT [11,12,9,10,6,1] [pAt 94,.bool true,pAt 92,.int .i64 0,.bool false,vR br R RC]) (mkH ([(93,m.memB),(94,docB 93 m)]++m.HA 90 91 92++exR br (rgB R rg))) 130 ⟨[],[],[11,9,1],[93,94,90,91,92]++oneI br 41⟩ j0_ j0_ =
  some ⟨⟨[],[],.normal,130⟩,none⟩:=by
 cases br<;>first|(obtain rfl:=hr rfl;kernel_rfl)|kernel_rfl
theorem p13_15:walk (lookF FL) (scOf [conAt 34 [pAt 92,docV 93 m,vR br R RC] ([(92,m.mAt 90 91)]++exR br (rgB R rg)) (docV 93 m2) (mkH [(130,docB 93 m2),(92,m2.mAt 90 91)]) 130 1]) 1000 (.region x13_15) (mkT [11,9,1] [pAt 94,pAt 92,vR br R RC]) (mkH ([(93,m.memB),(94,docB 93 m)]++m.HA 90 91 92++exR br (rgB R rg))) 130 ⟨[],[.id 93,.id 94,.id 90,.id 91,.id 92],[11,9],[]⟩ j0_ j0_ =
  bif dAt 34 [pAt 92,docV 93 m,vR br R RC] ([(92,m.mAt 90 91)]++exR br (rgB R rg)) (docV 93 m2) (mkH [(130,docB 93 m2),(92,m2.mAt 90 91)]) 130 1&&true&&true then some ⟨⟨[],mkB [(93,m.memB),(94,docB 93 m2),(90,m.memB),(91,m.kn.blk),(92,m2.mAt 90 91)],.normal,131⟩,none⟩else none:=by
 cases br<;>first|(obtain rfl:=hr rfl;kernel_rfl)|kernel_rfl
end
def v27 (m:MS) (bo bs:Bool) (oN sN:Nat) (n mk:Int):Value:=.tuple ⟨[resV24 m (vOa 132 bo oN) n mk,vOa 133 bs sN]⟩
def u27 (m:MS) (bo bs:Bool) (oN sN:Nat) (n mk:Int) (of:Nat->Int) (sf:Nat->List Value):Hp:=mkH ([(131,resB m (vOa 132 bo oN) n mk)]++m.HA 90 91 92++extN 132 133 bo bs (outB oN of) (seB sN sf))
section
variable (bo bs:Bool) (oN sN:Nat) (n mk:Int) (of:Nat->Int) (sf:Nat->List Value) (m m2:MS)
theorem p13_16:walk (lookF FL) (scOf [conAt 27 [pAt 92,.slice (some ⟨130,0,none⟩) 1 1,.int .i64 1] ((130,.rows 1 1 f9i false false) :: m.HA 90 91 92) (v27 m2 bo bs oN sN n mk) (u27 m2 bo bs oN sN n mk of sf) 131 3]) 1000 (.region x13_16) (mkT [11,9] [pAt 94,pAt 92]) (mkH ([(93,m.memB),(94,docB 93 m)]++m.HA 90 91 92)) 130 ⟨[13,14],[.id 134,.id 90,.id 91,.id 92]++(oneI bo 132++oneI bs 133).map .id,[11,9],[93,94]⟩ j0_ j0_ =
  bif dAt 27 [pAt 92,.slice (some ⟨130,0,none⟩) 1 1,.int .i64 1] ((130,.rows 1 1 f9i false false) :: m.HA 90 91 92) (v27 m2 bo bs oN sN n mk) (u27 m2 bo bs oN sN n mk of sf) 131 3&&true&&true then
   some ⟨⟨[some (true,pAt 134),some (true,vOa 133 bs sN)],mkB ([(134,resB m2 (vOa 132 bo oN) n mk)]++m2.HA 90 91 92++dxO bo 132 oN of++dxW bs 133 sN sf),.normal,135⟩,none⟩else none:=by
 cases bo<;>cases bs<;>kernel_rfl
theorem p13_17:walk (lookF FL) (scOf [conAt 35 [docV 93 m,.slice (some ⟨130,0,none⟩) 1 1,.int .i64 1] ((130,.rows 1 1 f9i false false) :: [(93,m.memB)]) (val35 m2 bo bs 133 134 oN sN n mk) (mkH (upd35 131 m2 bo bs oN sN n mk of sf)) 131 4]) 1000 (.region x13_17) (mkT [13,14,11,9] [pAt 62,vOa 64 bs sN,pAt 94,pAt 92]) (mkH ([(62,resB m2 (vOa 63 bo oN) n mk)]++m2.HA 90 91 92++dxO bo 63 oN of++dxW bs 64 sN sf++[(93,m.memB),(94,docB 93 m)])) 130 ⟨[15,16],[.id 135,.id 94,.id 93]++(oneI bo 133++oneI bs 134).map .id,[13,14,11,9],[62,90,91,92]++oneI bo 63++oneI bs 64⟩ j0_ j0_ =
  bif dAt 35 [docV 93 m,.slice (some ⟨130,0,none⟩) 1 1,.int .i64 1] ((130,.rows 1 1 f9i false false) :: [(93,m.memB)]) (val35 m2 bo bs 133 134 oN sN n mk) (mkH (upd35 131 m2 bo bs oN sN n mk of sf)) 131 4&&true&&true then
   some ⟨⟨[some (true,pAt 135),some (true,vOa 134 bs sN)],mkB ([(135,resB m2 (vOa 133 bo oN) n mk),(94,docB 93 m2),(93,m2.memB)]++dxO bo 133 oN of++dxW bs 134 sN sf),.normal,136⟩,none⟩else none:=by
 cases bo<;>cases bs<;>kernel_rfl
def H13:List (Nat × Blk):=[(66,resB m2 (vOa 67 bo oN) n mk),(94,docB 93 m2),(93,m2.memB)]++dxO bo 67 oN of++dxW bs 68 sN sf++[(62,resB m2 (vOa 63 bo oN) n mk)]++m2.HA 90 91 92++dxO bo 63 oN of++dxW bs 64 sN sf
noncomputable def dAny (f:FuncId) (vs:List Value) (pre:List (Nat × Blk)) (v:Value):Bool:=decP (vs=vs/\Has (mkH pre) pre/\AtA f vs pre v)
noncomputable def dG (f:FuncId) (vs:List Value) (pre:List (Nat × Blk)) (v:Value):Bool:=decP (vs=vs/\Has (mkH pre) pre/\DetG f vs pre v)
theorem p13_19:walk (lookF FL) (scOf [conAny 28 [resA m2.st m2.cd (vOa 63 bo oN) n mk,resA m2.st m2.cd (vOa 67 bo oN) n mk] (dxO bo 63 oN of++dxO bo 67 oN of) (.bool true),conAny 29 [vOa 64 bs sN,vOa 68 bs sN] (dxW bs 64 sN sf++dxW bs 68 sN sf) (.bool true),conG 33 [pAt 92,docV 93 m2] (m2.HA 90 91 92++[(93,m2.memB)]) (.bool true)]) 1000 x13_19 (mkT [15,16,13,14,11,9] [pAt 66,vOa 68 bs sN,pAt 62,vOa 64 bs sN,pAt 94,pAt 92]) (mkH (H13 bo bs oN sN n mk of sf m2)) 130 j0_ ⟨[6],[],[],[]⟩ j0_ =
  bif (dG 33 [pAt 92,docV 93 m2] (m2.HA 90 91 92++[(93,m2.memB)]) (.bool true)||false)&&((dAny 29 [vOa 64 bs sN,vOa 68 bs sN] (dxW bs 64 sN sf++dxW bs 68 sN sf) (.bool true)||false)&&((dAny 28 [resA m2.st m2.cd (vOa 63 bo oN) n mk,resA m2.st m2.cd (vOa 67 bo oN) n mk] (dxO bo 63 oN of++dxO bo 67 oN of) (.bool true)||false)&&true))then some ⟨⟨[some (true,.bool true)],[],.ret,130⟩,none⟩else none:=by
 cases bo<;>cases bs<;>kernel_rfl
end
end Go.X
