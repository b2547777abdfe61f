import Derived.Test.YtnekegldodbgjaaL52
set_option linter.all false
namespace Go.X
open Go Go.Proofs
theorem step_seQe (e:REnv){s:RSt} (h:SeQ s.sN s.sf):SeQ (stepF e s).2.sN (stepF e s).2.sf:=by
 unfold stepF stepG
 cases plB s.m.sz s.m.pl 4 with
 |false=>exact h
 |true =>
  simp only[cond_true]
  cases (decA (w32 s.m)).err==0 with
  |false=>exact h
  |true =>
   simp only[cond_true]
   cases plainB (decA (w32 s.m)).q with
   |true=>exact h
   |false =>
    simp only[cond_false]
    cases (decA (w32 s.m)).q==55 with
    |true =>
     simp only[cond_true]
     obtain⟨_,h1,h2,_⟩:=callR_m e s s.m.kn'
     rw[h1,h2];exact h
    |false =>
     simp only[cond_false]
     unfold memF
     cases plB s.m.sz (atM s.m (decA (w32 s.m)).c) (sizeF (decA (w32 s.m)).q)with
     |false=>exact h
     |true =>
      cases e.wt with
      |false=>exact h
      |true =>
       intro j hj
       have hj:j<s.sN+1:=hj
       show(bif Nat.blt j s.sN then s.sf j else rowM s.m _ _)=seQ (seMore s.sf s.sN (rowM s.m _ _)) j
       unfold seQ seMore
       by_cases h1:j<s.sN
       ·rw[lt_blt h1];exact h j h1
       ·rw[blt_ff h1];rfl
theorem run_seQe (e:REnv):∀ (k n:Nat) (s:RSt),SeQ s.sN s.sf->SeQ (runF (stepF e) k s n).1.sN (runF (stepF e) k s n).1.sf
 |0,n,s,h=>h
 |k+1,n,s,h=>by
  cases h0:s.m.st==0 with
  |false=>rw[runF_end h0];exact h
  |true =>
   have hm:=step_seQe e h
   obtain⟨ok,s',hs⟩:∃ ok s',stepF e s=(ok,s'):=⟨_,_,rfl⟩
   rw[hs]at hm
   cases ok with
   |false=>rw[runF_no h0 hs];exact hm
   |true=>rw[runF_go h0 hs];exact run_seQe e k (n+1) s' hm
theorem run_sNe (e:REnv):∀ (k n:Nat) (s:RSt),(runF (stepF e) k s n).1.sN<=s.sN+k
 |0,n,s=>Nat.le_refl _
 |k+1,n,s=>by
  cases h0:s.m.st==0 with
  |false=>rw[runF_end h0];exact Nat.le_add_right _ _
  |true =>
   have hm:=stepF_sN e s
   obtain⟨ok,s',hs⟩:∃ ok s',stepF e s=(ok,s'):=⟨_,_,rfl⟩
   rw[hs]at hm
   simp only at hm
   cases ok with
   |false=>rw[runF_no h0 hs];show s'.sN<=_;omega
   |true=>rw[runF_go h0 hs];have:=run_sNe e k (n+1) s';omega
theorem setsM_keep (m:MS) (rg:Nat->Int):∀ R:Nat,(setsM m rg R).mem=m.mem/\(setsM m rg R).sz=m.sz/\(setsM m rg R).kn=m.kn/\(setsM m rg R).x 0=m.x 0
 |0=>⟨rfl,rfl,rfl,rfl⟩
 |R+1=>by
  obtain⟨h1,h2,h3,h4⟩:=setsM_keep m rg R
  show(setM (setsM m rg R) (R:Int) (rg R)).mem=_/\(setM (setsM m rg R) (R:Int) (rg R)).sz=_/\(setM (setsM m rg R) (R:Int) (rg R)).kn=_/\(setM (setsM m rg R) (R:Int) (rg R)).x 0=_
  unfold setM
  cases hk:inK (R:Int)with
  |false=>exact⟨h1,h2,h3,h4⟩
  |true =>
   refine⟨h1,h2,h3,?_⟩
   have hR:R≠0:=by rintro rfl;cases hk
   show(bif Nat.beq (0+1) (1+(R:Int).toNat*1)then rg R else(setsM m rg R).x 0)=_
   rw[Int.toNat_natCast,beq_dec,decide_eq_false (by omega)]
   exact h4
theorem sets_mok {m:MS} (h:MOK m){rg:Nat->Int}{R:Nat} (hr:∀ j,j<R->uB (rg j)=true):MOK (setsM m rg R):=by
 obtain⟨k1,k2,k3,k4⟩:=setsM_keep m rg R
 have ho:=setsM_ok (m:=m) (rg:=rg) (R:=R) ⟨h.sz,h.pl,h.x,h.kn⟩ hr
 exact⟨ho.sz,ho.pl,ho.x,ho.kn,by rw[k1];exact h.by_,by rw[k4];exact h.x0⟩
theorem new_mok {L sz:Nat}{g:Nat->Int} (hsz:sz<=4194304) (hg:∀ j,j<L->0<=g j/\g j<256):MOK (newM 0 L g sz):=by
 have h:=newM_ok (k:=0) (L:=L) (inp:=g) (decide_eq_true hsz:szB sz=true)
 refine⟨h.sz,h.pl,h.x,h.kn,fun j=>?_,rfl⟩
 show 0<=(bif Nat.blt j L then g (0+j)else 0)/\(bif Nat.blt j L then g (0+j)else 0)<256
 by_cases hj:j<L
 ·rw[lt_blt hj,Nat.zero_add];exact hg j hj
 ·rw[blt_ff hj];exact⟨Int.le_refl _,by show(0:Int)<256;omega⟩
def g13b (of inp:Nat->Int):Nat->Int:=fun j=>bif Nat.blt j 4 then of j else bif Nat.blt j 8 then 0 else inp (j-8)
theorem f13_row {bm:Bool}{M:Nat}{inp of:Nat->Int} (hb:bm=false->M=0):∀ j,j<8+M->f13 bm inp of j=[.int .u8 (g13b of inp j)]:=by
 intro j hj
 have hA:∀ j,j<8->rowCat (fun j=>[Value.int .u8 (of j)]) 0 4 (fun j=>slab [.int .u8 0,.int .u8 0,.int .u8 0,.int .u8 0] ((0+j)*1) 1) j=[.int .u8 (g13b of inp j)]:=by
  intro j hj
  unfold rowCat g13b
  by_cases h4:j<4
  ·rw[lt_blt h4,cond_true,cond_true,Nat.zero_add]
  ·rw[blt_ff h4,cond_false,cond_false,lt_blt hj,cond_true]
   match j,h4,hj with
   |4,_,_=>rfl
   |5,_,_=>rfl
   |6,_,_=>rfl
   |7,_,_=>rfl
   |0,h,_=>exact absurd (by omega) h
   |1,h,_=>exact absurd (by omega) h
   |2,h,_=>exact absurd (by omega) h
   |3,h,_=>exact absurd (by omega) h
 unfold f13
 cases bm with
 |false =>
  have:=hb rfl
  rw[cond_false,rowPut_0]
  exact hA j (by omega)
 |true =>
  rw[cond_true]
  show cond (Nat.blt j 8) _ _=_
  by_cases h8:j<8
  ·rw[lt_blt h8,cond_true,Nat.zero_add];exact hA j h8
  ·rw[blt_ff h8,cond_false]
   show[Value.int .u8 (inp (0+(j-8)))]=_
   unfold g13b
   rw[blt_ff (show ¬ j<4 by omega),blt_ff h8,cond_false,cond_false,Nat.zero_add]
theorem byteOf_rng (w:Int) (j:Nat):0<=byteOf w j/\byteOf w j<256:=by
 unfold byteOf
 split<;>rw[u8w]<;>omega
theorem t29n:execC (lookF FL) noSc 1000 x29 (argTm 0 [.slice none 0 0,.slice none 0 0]) [] 100 (valK [4])=some [.bool true]:=by kernel_rfl
theorem a28r {b:Bool}{st cd n mk:Int}{oN:Nat}{of:Nat->Int}:AtA 28 [resA st cd (vOa 63 b oN) n mk,resA st cd (vOa 67 b oN) n mk] (dxO b 63 oN of++dxO b 67 oN of) (.bool true):=by
 cases b with
 |true=>exact⟨rfl,fun k=>adet_of_body (b28 (bo:=true) fun _ _=>rfl) [(40,63),(41,67)] [] rfl rfl ⟨bis_outB,bis_outB,trivial⟩ rfl rfl ⟨bis_outB,bis_outB,trivial⟩ rfl⟩
 |false=>exact⟨rfl,fun k=>adet_of_body (b28 (bo:=false) (oN:=oN) (of:=of) (of2:=of) fun _ _=>rfl) [] [] rfl rfl trivial rfl rfl trivial rfl⟩
theorem a29r {b:Bool}{sN:Nat}{sf:Nat->List Value} (hc:sN<=1000000000) (hq:SeQ sN sf):AtA 29 [vOa 64 b sN,vOa 68 b sN] (dxW b 64 sN sf++dxW b 68 sN sf) (.bool true):=by
 have q1:∀ j,j<sN->seQ sf j=sf j:=fun j hj=>(hq j hj).symm
 cases b with
 |true=>exact⟨rfl,fun k=>adet_of_body (b29 (l:=sN) (f:=sf) (g:=sf) hc fun _ _=>rfl) [(40,64),(41,68)] [] rfl rfl ⟨bis_to q1 rfl,bis_to q1 rfl,trivial⟩ rfl rfl ⟨bis_fro q1,bis_fro q1,trivial⟩ rfl⟩
 |false=>exact⟨rfl,fun k=>adet_tree FOK 1000 fx29 (by simp) [4] t29n rfl rfl rfl rfl k⟩
theorem ro_exIn {bi br:Bool}{L R:Nat}{inp rg:Nat->Int}:∀ id blk,hget (mkH (exIn bi br L inp R rg)) id=some blk->blk.ro=false->hget ([]:Hp) id=some blk:=by
 intro id blk h hro
 cases bi<;>cases br
 ·cases h
 all_goals
  simp only[exIn,exI,exR,mkH,List.append_nil,List.nil_append,List.cons_append,cond_true,cond_false,hget]at h
  revert h
 ·cases Nat.beq 41 id<;>intro h
  ·cases h
  ·cases h;cases hro
 ·cases Nat.beq 40 id<;>intro h
  ·cases h
  ·cases h;cases hro
 ·cases Nat.beq 40 id<;>cases Nat.beq 41 id<;>intro h
  ·cases h
  all_goals cases h;cases hro
theorem gate_true (b:Bool):gate b true=true:=by cases b<;>rfl
theorem g13_true (a:Bool):g13 a=true:=by cases a<;>rfl
theorem tail13 {E:FEnv}{Q:Post} (hP:E.P=Try.prog) (hn:E.B.n=50) (hcl:Cl E.toEnv Q) (hfin:∀ e s,finP E.toEnv [(6,none)] [] (.bool true) [] 0 e s->Q e s){m:MS} (hm:MOK m) :
  XWP E.toEnv x13_21 Q ⟨mkT [11,9] [pAt 94,pAt 92],mkH ([(93,m.memB),(94,docB 93 m)]++m.HA 90 91 92),130⟩:=by
 obtain⟨s,n,hr⟩:∃ s n,runF (stepF (ee 1 (fun _=>9) true)) 1 (RSt.init m) 0=(s,n):=⟨_,_,rfl⟩
 have hf:∀ j,j<1->f9i j=[.int .u8 ((fun _=>(9:Int)) j)]:=fun j hj=>by rw[show j=0 by omega];rfl
 have A:=a27 (fuel:=1) hf hm (by omega) (by omega) hr
 have B:=a35 (fuel:=1) hf hm (by omega) (by omega) hr
 obtain⟨hmk,hse⟩:=run_mok (fuel:=1) (by omega) (by omega) (dst_init (e:=ee 1 (fun _=>9) true) hm rfl rfl (Nat.le_refl _) (Nat.le_refl _)) hr
 have hs:∀ {σ:Nm},BIs Try.prog σ (seB s.sN s.sf) (seB s.sN s.sf):=bis_seB fun j hj=>hse j hj _
 have hq:SeQ s.sN s.sf:=by have:=run_seQe (ee 1 (fun _=>9) true) 1 0 (RSt.init m) (fun j hj=>absurd hj (Nat.not_lt_zero _));rw[hr]at this;exact this
 have hc:s.sN<=1:=by have:=run_sNe (ee 1 (fun _=>9) true) 1 0 (RSt.init m);rw[hr]at this;exact this
 have e16:=p13_16 (bO s.oN) (bO s.sN) s.oN s.sN n s.mark s.of s.sf m s.m
 rw[show dAt 27 [pAt 92,.slice (some ⟨130,0,none⟩) 1 1,.int .i64 1] ((130,.rows 1 1 f9i false false) :: m.HA 90 91 92) (v27 s.m (bO s.oN) (bO s.sN) s.oN s.sN n s.mark) (u27 s.m (bO s.oN) (bO s.sN) s.oN s.sN n s.mark s.of s.sf) 131 3=true from decP_true ⟨rfl,⟨rfl,rfl,rfl,rfl,trivial⟩,A⟩]at e16
 simp only[Bool.and_self,cond_true]at e16
 have e17:=p13_17 (bO s.oN) (bO s.sN) s.oN s.sN n s.mark s.of s.sf m s.m
 rw[show dAt 35 [docV 93 m,.slice (some ⟨130,0,none⟩) 1 1,.int .i64 1] ((130,.rows 1 1 f9i false false) :: [(93,m.memB)]) (val35 s.m (bO s.oN) (bO s.sN) 133 134 s.oN s.sN n s.mark) (mkH (upd35 131 s.m (bO s.oN) (bO s.sN) s.oN s.sN n s.mark s.of s.sf)) 131 4=true from decP_true ⟨rfl,⟨rfl,rfl,trivial⟩,B⟩]at e17
 simp only[Bool.and_self,cond_true]at e17
 have e19:=p13_19 (bO s.oN) (bO s.sN) s.oN s.sN n s.mark s.of s.sf s.m
 have D:=d33 (m:=s.m) (d:=s.m) hmk.sz rfl (fun _ _=>rfl) rfl (fun _ _=>rfl)
 have A28:=a28r (b:=bO s.oN) (st:=s.m.st) (cd:=s.m.cd) (n:=n) (mk:=s.mark) (oN:=s.oN) (of:=s.of)
 have A29:=a29r (b:=bO s.sN) (sN:=s.sN) (sf:=s.sf) (by omega) hq
 generalize bO s.oN=bo at *
 generalize bO s.sN=bs at *
 rw[show dG 33 [pAt 92,docV 93 s.m] (s.m.HA 90 91 92++[(93,s.m.memB)]) (.bool true)=true from decP_true ⟨rfl,⟨rfl,rfl,rfl,rfl,trivial⟩,D⟩,
  show dAny 29 [vOa 64 bs s.sN,vOa 68 bs s.sN] (dxW bs 64 s.sN s.sf++dxW bs 68 s.sN s.sf) (.bool true)=true from decP_true ⟨rfl,by cases bs<;>first|exact trivial|exact⟨rfl,rfl,trivial⟩,A29⟩,
  show dAny 28 [resA s.m.st s.m.cd (vOa 63 bo s.oN) n s.mark,resA s.m.st s.m.cd (vOa 67 bo s.oN) n s.mark] (dxO bo 63 s.oN s.of++dxO bo 67 s.oN s.of) (.bool true)=true from decP_true ⟨rfl,by cases bo<;>first|exact trivial|exact⟨rfl,rfl,trivial⟩,A28⟩]at e19
 simp only[Bool.and_self,Bool.or_false,cond_true]at e19
 refine xwp_seqW (s:=⟨_,_,_⟩) hcl (fokE hP _) 1000 e16 rfl ⟨mkT [13,14,11,9] [pAt 62,vOa 64 bs s.sN,pAt 94,pAt 92],mkH ([(62,resB s.m (vOa 63 bo s.oN) n s.mark)]++s.m.HA 90 91 92++dxO bo 63 s.oN s.of++dxW bs 64 s.sN s.sf++[(93,m.memB),(94,docB 93 m)]),130⟩
  ⟨_,_,_,rfl,by rw[hn];cases bo<;>cases bs<;>rfl,by rw[hn];cases bo<;>cases bs<;>exact⟨rfl,rfl,rfl,rfl,trivial⟩,?_⟩ ?_
 ·rw[hn,hP]
  cases bo<;>cases bs
  ·exact⟨bis_resO (fun h=>by cases h),bis_mem,bis_kn,bis_mAt rfl rfl,bis_mem,bis_doc93 rfl,trivial⟩
  ·exact⟨bis_resO (fun h=>by cases h),bis_mem,bis_kn,bis_mAt rfl rfl,hs,bis_mem,bis_doc93 rfl,trivial⟩
  ·exact⟨bis_resO (fun _=>rfl),bis_mem,bis_kn,bis_mAt rfl rfl,bis_outB,bis_mem,bis_doc93 rfl,trivial⟩
  ·exact⟨bis_resO (fun _=>rfl),bis_mem,bis_kn,bis_mAt rfl rfl,bis_outB,hs,bis_mem,bis_doc93 rfl,trivial⟩
 show XWP E.toEnv (.seq (.region x13_17) x13_19) Q _
 refine xwp_seqW (s:=⟨_,_,_⟩) hcl (fokE hP _) 1000 e17 rfl ⟨mkT [15,16,13,14,11,9] [pAt 66,vOa 68 bs s.sN,pAt 62,vOa 64 bs s.sN,pAt 94,pAt 92],mkH (H13 bo bs s.oN s.sN n s.mark s.of s.sf s.m),130⟩
  ⟨_,_,_,rfl,by rw[hn];cases bo<;>cases bs<;>rfl,by rw[hn];cases bo<;>cases bs<;>exact⟨rfl,rfl,rfl,rfl,rfl,rfl,trivial⟩,?_⟩ ?_
 ·rw[hn,hP]
  cases bo<;>cases bs
  ·exact⟨bis_resO (fun h=>by cases h),bis_doc93 rfl,bis_mem,bis_resO (fun h=>by cases h),bis_mem,bis_kn,bis_mAt rfl rfl,trivial⟩
  ·exact⟨bis_resO (fun h=>by cases h),bis_doc93 rfl,bis_mem,hs,bis_resO (fun h=>by cases h),bis_mem,bis_kn,bis_mAt rfl rfl,hs,trivial⟩
  ·exact⟨bis_resO (fun _=>rfl),bis_doc93 rfl,bis_mem,bis_outB,bis_resO (fun _=>rfl),bis_mem,bis_kn,bis_mAt rfl rfl,bis_outB,trivial⟩
  ·exact⟨bis_resO (fun _=>rfl),bis_doc93 rfl,bis_mem,bis_outB,hs,bis_resO (fun _=>rfl),bis_mem,bis_kn,bis_mAt rfl rfl,bis_outB,hs,trivial⟩
 exact xwp_toEnd (s:=⟨_,_,_⟩) hcl (fokE hP _) 1000 e19 ⟨mkT [6] [.bool true],mkH [],50⟩ ⟨_,[],50,rfl,by rw[hn];rfl,by rw[hn];exact⟨rfl,trivial⟩,trivial⟩ (hfin _ _ (fin_of rfl trivial (by rw[hn]) rfl))
theorem xwp_regH {E:FEnv}{Q:Post}{s:St} (hcl:Cl E.toEnv Q) (hints:List (Nat × Nat)){l:List XOper}{ks:List Nat}{rs:List Ref}{lf:Leaf}
  (he:(xrun (fun _ _ _ _ _=>none) hints l 0 s.t s.h s.n true True []).map (fun r=>(r.ok,prjK ks rs .normal r.t r.h r.n))=some (true,some lf)) (s':St) (hl:LeafTo E ks lf s') (hQ:Q .normal s'):XWP E.toEnv (.region l) Q s:=by
 have hce:(fun _ _ _ _ _=>none:CE)=ceOf E.P []:=rfl
 rw[hce]at he
 cases hx:xrun (ceOf E.P []) hints l 0 s.t s.h s.n true True []with
 |none=>rw[hx]at he;cases he
 |some r =>
  rw[hx]at he
  simp only[Option.map_some,Option.some.injEq,Prod.mk.injEq]at he
  exact xwp_region [] hints (t:=r.t) (h:=r.h) (n:=r.n) (ok:=r.ok) (pr:=r.pr) (tr:=r.tr) hx he.1 (xrun_pr (ce:=ceOf E.P []) (fun _ _ _ _ _ _ _ _ _ _ _ h=>by cases h) hx trivial) (hcl _ _ _ (hl.wk he.2) hQ)
def f13z (inp of:Nat->Int):Nat->List Value:=rowPut (rowCat (fun j=>[.int .u8 (of j)]) 0 4 fun j=>slab [.int .u8 0,.int .u8 0,.int .u8 0,.int .u8 0] ((0+j)*1) 1) 8 0 fun j=>[.int .u8 (inp (0+j))]
theorem p13_7z (br:Bool) (R RC MC:Nat) (rg inp of:Nat->Int) (hr:br=false->R=0):(xrun (fun _ _ _ _ _=>none) [(4,2)] x13_7 0 (mkT [7,6,1,2] [newS 60 4,.bool false,vR br R RC,vI true 0 0 MC]) (mkH ([(60,outB 4 of)]++exIn true br 0 inp R rg)) 130 true True []).map (fun r=>(r.ok,prjK [8,6,1] (.tmp 8 :: (oneI br 41).map .id) .normal r.t r.h r.n)) =
  some (true,some ⟨[some (true,newS 131 8),some (true,.bool false),some (true,vR br R RC)],(131,some (.rows 8 1 (f13z inp of) true false)) :: (exR br (rgB R rg)).map (fun p=>(p.1,some p.2)),.normal,132⟩):=by
 cases br
 ·obtain rfl:=hr rfl;kernel_rfl
 ·kernel_rfl
theorem f13z_row {inp of:Nat->Int}:∀ j,j<8->f13z inp of j=[.int .u8 (g13b of inp j)]:=fun j hj=>by
 have:=f13_row (bm:=false) (M:=0) (inp:=inp) (of:=of) (fun _=>rfl) j hj
 rw[<- this]
 unfold f13z f13
 rw[cond_false,rowPut_0,rowPut_0]
section
variable {E:FEnv}{Q:Post} (hP:E.P=Try.prog) (hn:E.B.n=50) (hcl:Cl E.toEnv Q) (hfin:∀ e s,finP E.toEnv [(6,none)] [] (.bool true) [] 0 e s->Q e s){br:Bool}{R RC:Nat}{rg:Nat->Int} (hr:br=false->R=0) (hR:R<=1000) (hrg:∀ j,j<R->uB (rg j)=true)
include hP hn hcl hfin hr hR hrg
theorem mid13 {T:Nat}{g:Nat->Int} (hT:T<=1000) (hg:∀ j,j<T->0<=g j/\g j<256) :
  XWP E.toEnv x13_25 Q ⟨mkT [8,6,1] [newS 61 T,.bool false,vR br R RC],mkH ([(61,outB T g)]++exR br (rgB R rg)),130⟩:=by
 have hz:z13 T=((T+64:Nat):Int):=by unfold z13;rw[wrap_i (by omega) (by omega)];omega
 obtain⟨m,hm⟩:∃ m,m=newM 0 T g (T+64):=⟨_,rfl⟩
 have hmk:MOK m:=hm▸new_mok (by omega) hg
 have e8:=p13_8 br R RC T rg g m hr
 have e9:=p13_9 br R RC T rg g m hr
 have h61:Has (mkH ([(61,outB T g)]++exR br (rgB R rg))) [(61,outB T g)]:=by cases br<;>exact⟨rfl,trivial⟩
 rw[hz,show dAt 22 [newS 61 T,.int .i64 ((T+64:Nat):Int)] [(61,outB T g)] (vM3 132) (mkH [(130,m.memB),(131,m.kn.blk),(132,m.mAt 130 131)]) 130 3=true from decP_true ⟨rfl,⟨rfl,trivial⟩,by rw[hm];exact a22 (by omega) (by omega)⟩]at e8
 rw[hz,show dAt 32 [newS 61 T,.int .i64 ((T+64:Nat):Int)] [(61,outB T g)] (.tuple ⟨[docV 130 m,.bool true]⟩) (mkH [(130,m.memB),(131,docB 130 m)]) 130 2=true from decP_true ⟨rfl,⟨rfl,trivial⟩,by rw[hm];exact a32r 61 (.inl rfl) (by omega) (by omega)⟩]at e9
 simp only[Bool.and_self,cond_true]at e8 e9
 have hb:∀ {σ:Nm},BIs Try.prog σ (rgB R rg) (rgB R rg):=bis_rgB
 have e15:=p13_15 br R RC rg m (setsM m rg R) hr
 rw[show dAt 34 [pAt 92,docV 93 m,vR br R RC] ([(92,m.mAt 90 91)]++exR br (rgB R rg)) (docV 93 (setsM m rg R)) (mkH [(130,docB 93 (setsM m rg R)),(92,(setsM m rg R).mAt 90 91)]) 130 1=true from decP_true ⟨rfl,by cases br<;>first|exact⟨rfl,trivial⟩|exact⟨rfl,rfl,trivial⟩,a34 hr hR⟩]at e15
 simp only[Bool.and_self,cond_true]at e15
 show XWP E.toEnv (.seq (.region x13_8) x13_24) Q _
 refine xwp_seqW (s:=⟨_,_,_⟩) hcl (fokE hP _) 1000 e8 rfl ⟨mkT [9,10,8,6,1] [pAt 92,.int .i64 0,newS 61 T,.bool false,vR br R RC],mkH (m.HA 90 91 92++[(61,outB T g)]++exR br (rgB R rg)),130⟩
  ⟨_,_,_,rfl,by rw[hn];cases br<;>rfl,by rw[hn];cases br<;>exact⟨rfl,rfl,rfl,rfl,rfl,trivial⟩,by
   rw[hn,hP]
   cases br
   ·exact⟨bis_mem,bis_kn,bis_mAt rfl rfl,bis_outB,trivial⟩
   ·exact⟨bis_mem,bis_kn,bis_mAt rfl rfl,bis_outB,hb,trivial⟩⟩ ?_
 show XWP E.toEnv (.seq (.region x13_9) x13_23) Q _
 refine xwp_seqW (s:=⟨_,_,_⟩) hcl (fokE hP _) 1000 e9 rfl ⟨mkT [11,12,9,10,6,1] [pAt 94,.bool true,pAt 92,.int .i64 0,.bool false,vR br R RC],mkH ([(93,m.memB),(94,docB 93 m)]++m.HA 90 91 92++exR br (rgB R rg)),130⟩
  ⟨_,_,_,rfl,by rw[hn];cases br<;>rfl,by rw[hn];cases br<;>exact⟨rfl,rfl,rfl,rfl,rfl,rfl,trivial⟩,by
   rw[hn,hP]
   cases br
   ·exact⟨bis_mem,bis_doc rfl,bis_mem,bis_kn,bis_mAt rfl rfl,trivial⟩
   ·exact⟨bis_mem,bis_doc rfl,bis_mem,bis_kn,bis_mAt rfl rfl,hb,trivial⟩⟩ ?_
 show XWP E.toEnv (.seq x13_14 x13_22) Q _
 refine xwp_seqW (s:=⟨_,_,_⟩) hcl (hP▸FOK) 1000 (p13_14 br R RC rg m hr) rfl ⟨mkT [11,9,1] [pAt 94,pAt 92,vR br R RC],mkH ([(93,m.memB),(94,docB 93 m)]++m.HA 90 91 92++exR br (rgB R rg)),130⟩
  ⟨_,_,_,rfl,by rw[hn];cases br<;>rfl,by rw[hn];cases br<;>exact⟨rfl,rfl,rfl,trivial⟩,by
   rw[hn,hP]
   cases br
   ·exact⟨bis_mem,bis_doc93 rfl,bis_mem,bis_kn,bis_mAt rfl rfl,trivial⟩
   ·exact⟨bis_mem,bis_doc93 rfl,bis_mem,bis_kn,bis_mAt rfl rfl,hb,trivial⟩⟩ ?_
 show XWP E.toEnv (.seq (.region x13_15) x13_21) Q _
 have k:=setsM_keep m rg R
 have hk:=sets_mok hmk hrg
 have hmem:(setsM m rg R).memB=m.memB:=by unfold MS.memB;rw[k.1,k.2.1]
 have hkn:(setsM m rg R).kn=m.kn:=k.2.2.1
 generalize setsM m rg R=m2 at *
 refine xwp_seqW (s:=⟨_,_,_⟩) hcl (fokE hP _) 1000 e15 rfl ⟨mkT [11,9] [pAt 94,pAt 92],mkH ([(93,m2.memB),(94,docB 93 m2)]++m2.HA 90 91 92),130⟩
  ⟨_,[(93,m2.memB),(94,docB 93 m2)]++m2.HA 90 91 92,130,rfl,by rw[hn];cases br<;>rfl,by rw[hn];cases br<;>exact⟨rfl,rfl,trivial⟩,by
   rw[hn,hP]
   have h1:∀ {σ:Nm},BIs Try.prog σ m2.memB m.memB:=by rw[hmem];exact bis_mem
   have h2:∀ {σ:Nm},BIs Try.prog σ m2.kn.blk m.kn.blk:=by rw[hkn];exact bis_kn
   cases br<;>exact⟨h1,bis_doc93 rfl,h1,h2,bis_mAt rfl rfl,trivial⟩⟩ ?_
 exact tail13 hP hn hcl hfin hk
end
theorem b13 {op rd rs1 rs2 imm:Int}{bm br:Bool}{M MC R RC:Nat}{inp rg:Nat->Int} (hb:bm=false->M=0) (hr:br=false->R=0) (hi:∀ j,j<M->0<=inp j/\inp j<256) (hrg:∀ j,j<R->uB (rg j)=true) :
  Body Try.prog 13 [i18 op rd rs1 rs2 imm,vR br R RC,vI bm 0 M MC] (mkH (exIn bm br M inp R rg)) (.bool true) [] 50 0:=by
 refine body_of_ro [] mixed fx13 (by simp) ro_exIn fun E Q hP hn hcl hfin=>?_
 have hF:FnsOK E.P (lookF FL) noSc:=hP▸FOK
 have i1:∀ {σ:Nm},BIs Try.prog σ (inB M inp) (inB M inp):=bis_inB
 have i2:∀ {σ:Nm},BIs Try.prog σ (rgB R rg) (rgB R rg):=bis_rgB
 refine xwp_seqW (s:=⟨_,_,_⟩) hcl hF 1000 (p13_0 op rd rs1 rs2 imm bm br R RC M MC inp rg hb hr) rfl ⟨mkT [3,6,1,2] [pt 50,.bool false,vR br R RC,vI bm 0 M MC],mkH ([(50,iB op rd rs1 rs2 imm)]++exIn bm br M inp R rg),51⟩
  ⟨_,_,_,rfl,by rw[hn];cases bm<;>cases br<;>rfl,by rw[hn];cases bm<;>cases br<;>exact⟨rfl,rfl,rfl,rfl,trivial⟩,by
   rw[hn,hP]
   cases bm<;>cases br
   ·exact⟨rfl,trivial⟩
   ·exact⟨rfl,i2,trivial⟩
   ·exact⟨rfl,i1,trivial⟩
   ·exact⟨rfl,i1,i2,trivial⟩⟩ ?_
 show XWP E.toEnv (.seq (.region x13_1) x13_27) Q _
 have hE:=encV_all ⟨op,rd,rs1,rs2,imm⟩
 have A:∀ {oN:Nat}{of:Nat->Int},byS (fun i=>encF i.op i.rd i.rs1 i.rs2 i.imm) (fun _=>⟨op,rd,rs1,rs2,imm⟩) 1=(oN,of)->_:=fun {oN of} h=>a23 (F:=fun i=>encF i.op i.rd i.rs1 i.rs2 i.imm) hE h (f:=r13 op rd rs1 rs2 imm) rfl
 have e1:=fun bo oN of=>p13_1 op rd rs1 rs2 imm bm br bo R RC M MC oN inp rg of hb hr
 have fin:∀ {ts:List (Option (Bool × Value))}{k:Nat},ts=[some (true,.bool true)]->LeafTo E ([6]++[]) ⟨ts,[],.ret,k⟩ ⟨mkT [6] [.bool true],mkH [],50⟩:=fun h=>by
  subst h
  exact⟨_,[],50,rfl,by rw[hn];rfl,by rw[hn];exact⟨rfl,trivial⟩,trivial⟩
 have done:=hfin .ret ⟨mkT [6] [.bool true],mkH [],50⟩ (fin_of rfl trivial (by rw[hn]) rfl)
 cases hw:(encF op rd rs1 rs2 imm).2==0 with
 |false =>
  have h0:byS (fun i=>encF i.op i.rd i.rs1 i.rs2 i.imm) (fun _=>⟨op,rd,rs1,rs2,imm⟩) 1=(0,fun _=>0):=by
   show cond ((encF op rd rs1 rs2 imm).2==0) _ _=_
   rw[hw];rfl
  have e:=e1 false 0 (fun _=>0)
  rw[show dAt 23 [.slice (some ⟨51,0,none⟩) 1 1] [(51,.rows 1 5 (r13 op rd rs1 rs2 imm) false false)] (vB 52 false 0) (mkH (upB 52 false (outB 0 fun _=>0))) 52 (nB false)=true from decP_true ⟨rfl,⟨rfl,trivial⟩,A h0⟩,gate_true,cond_true]at e
  refine xwp_seqW (s:=⟨_,_,_⟩) hcl (fokE hP _) 1000 e rfl ⟨mkT [7,6,1,2] [.slice none 0 0,.bool false,vR br R RC,vI bm 0 M MC],mkH (exIn bm br M inp R rg),130⟩
   ⟨_,_,_,rfl,by rw[hn];cases bm<;>cases br<;>rfl,by rw[hn];cases bm<;>cases br<;>exact⟨rfl,rfl,rfl,rfl,trivial⟩,by
    rw[hn,hP]
    cases bm<;>cases br
    ·exact trivial
    ·exact⟨i2,trivial⟩
    ·exact⟨i1,trivial⟩
    ·exact⟨i1,i2,trivial⟩⟩ ?_
  show XWP E.toEnv (.seq x13_6 x13_26) Q _
  exact xwp_seq (xwp_toEnd (s:=⟨_,_,_⟩) (cl_seqP hcl) (hP▸FOK6) 1000 (p13_2n bm br R RC M MC inp rg hb hr) ⟨mkT [6] [.bool true],mkH [],50⟩ (fin rfl) done)
 |true =>
  obtain⟨of,ho⟩:∃ of,byS (fun i=>encF i.op i.rd i.rs1 i.rs2 i.imm) (fun _=>⟨op,rd,rs1,rs2,imm⟩) 1=(4,of):=⟨add4 (fun _=>0) 0 (encF op rd rs1 rs2 imm).1,by
   show cond ((encF op rd rs1 rs2 imm).2==0) _ _=_
   rw[hw];rfl⟩
  have hof:∀ t,t<4->0<=of t/\of t<256:=fun t ht=>by
   have:=(byS_all (E:=fun i=>encF i.op i.rd i.rs1 i.rs2 i.imm) (J:=fun _=>⟨op,rd,rs1,rs2,imm⟩) (N:=1) (fun i hi=>eq_of_beq hw)).2 0 t (by omega) ht
   rw[ho,show 4*0+t=t by omega]at this
   rw[show of t=_ from this];exact byteOf_rng _ _
  have e:=e1 true 4 of
  rw[show dAt 23 [.slice (some ⟨51,0,none⟩) 1 1] [(51,.rows 1 5 (r13 op rd rs1 rs2 imm) false false)] (vB 52 true 4) (mkH (upB 52 true (outB 4 of))) 52 (nB true)=true from decP_true ⟨rfl,⟨rfl,trivial⟩,A ho⟩,gate_true,cond_true]at e
  refine xwp_seqW (s:=⟨_,_,_⟩) hcl (fokE hP _) 1000 e rfl ⟨mkT [7,6,1,2] [newS 60 4,.bool false,vR br R RC,vI bm 0 M MC],mkH ([(60,outB 4 of)]++exIn bm br M inp R rg),130⟩
   ⟨_,_,_,rfl,by rw[hn];cases bm<;>cases br<;>rfl,by rw[hn];cases bm<;>cases br<;>exact⟨rfl,rfl,rfl,rfl,trivial⟩,by
    rw[hn,hP]
    cases bm<;>cases br
    ·exact⟨bis_outB,trivial⟩
    ·exact⟨bis_outB,i2,trivial⟩
    ·exact⟨bis_outB,i1,trivial⟩
    ·exact⟨bis_outB,i1,i2,trivial⟩⟩ ?_
  show XWP E.toEnv (.seq x13_6 x13_26) Q _
  have e2:=p13_2 bm br R RC M MC inp rg of hb hr
  rw[g13_true,cond_true]at e2
  by_cases hbig:(bif decide ((R:Int)>40)then true else decide ((M:Int)>300))=true
  ·rw[hbig,cond_true]at e2
   exact xwp_seq (xwp_toEnd (s:=⟨_,_,_⟩) (cl_seqP hcl) (hP▸FOK6) 1000 e2 ⟨mkT [6] [.bool true],mkH [],50⟩ (fin rfl) done)
  have hbig:(bif decide ((R:Int)>40)then true else decide ((M:Int)>300))=false:=by simpa using hbig
  have hRM:R<=40/\M<=300:=by
   by_cases h1:(R:Int)>40
   ·rw[decide_eq_true h1]at hbig;cases hbig
   ·rw[decide_eq_false h1,cond_false]at hbig
    have:=of_decide_eq_false hbig
    omega
  rw[hbig,cond_false]at e2
  refine xwp_seqW (s:=⟨_,_,_⟩) hcl (hP▸FOK6) 1000 e2 rfl ⟨mkT [7,6,1,2] [newS 60 4,.bool false,vR br R RC,vI bm 0 M MC],mkH ([(60,outB 4 of)]++exIn bm br M inp R rg),130⟩
   ⟨_,_,_,rfl,by rw[hn];cases bm<;>cases br<;>rfl,by rw[hn];cases bm<;>cases br<;>exact⟨rfl,rfl,rfl,rfl,trivial⟩,by
    rw[hn,hP]
    cases bm<;>cases br
    ·exact⟨bis_outB,trivial⟩
    ·exact⟨bis_outB,i2,trivial⟩
    ·exact⟨bis_outB,i1,trivial⟩
    ·exact⟨bis_outB,i1,i2,trivial⟩⟩ ?_
  show XWP E.toEnv (.seq (.region x13_7) x13_25) Q _
  have hg:∀ j,j<8+M->0<=g13b of inp j/\g13b of inp j<256:=fun j hj=>by
   unfold g13b
   by_cases h4:j<4
   ·rw[lt_blt h4];exact hof j h4
   ·rw[blt_ff h4]
    by_cases h8:j<8
    ·rw[lt_blt h8];exact⟨by show(0:Int)<=0;omega,by show(0:Int)<256;omega⟩
    ·rw[blt_ff h8];exact hi _ (by omega)
  have goal:=mid13 hP hn hcl hfin (RC:=RC) hr (by omega) hrg (T:=8+M) (g:=g13b of inp) (by omega) hg
  have last:∀ {ts:List (Option (Bool × Value))}{b k:Nat}{f:Nat->List Value},(∀ j,j<8+M->f j=[.int .u8 (g13b of inp j)])->ts=[some (true,newS b (8+M)),some (true,.bool false),some (true,vR br R RC)]->b=131\/b=132 ->
    LeafTo E [8,6,1] ⟨ts,(b,some (.rows (8+M) 1 f true false)) :: (exR br (rgB R rg)).map (fun p=>(p.1,some p.2)),.normal,k⟩ ⟨mkT [8,6,1] [newS 61 (8+M),.bool false,vR br R RC],mkH ([(61,outB (8+M) (g13b of inp))]++exR br (rgB R rg)),130⟩:=fun hf ht hb=>by
   subst ht
   refine⟨_,[(61,outB (8+M) (g13b of inp))]++exR br (rgB R rg),130,rfl,?_,?_,?_⟩
   ·rw[hn];rcases hb with rfl|rfl<;>cases br<;>rfl
   ·rw[hn];rcases hb with rfl|rfl<;>cases br<;>exact⟨rfl,rfl,rfl,trivial⟩
   ·rw[hn,hP]
    rcases hb with rfl|rfl<;>cases br
    ·exact⟨bis_out hf,trivial⟩
    ·exact⟨bis_out hf,i2,trivial⟩
    ·exact⟨bis_out hf,trivial⟩
    ·exact⟨bis_out hf,i2,trivial⟩
  by_cases hz:bm=true/\M=0
  ·obtain⟨rfl,rfl⟩:=hz
   exact xwp_seq (xwp_regH (s:=⟨_,_,_⟩) (cl_seqP hcl) [(4,2)] (p13_7z br R RC MC rg inp of hr) _ (last f13z_row rfl (.inl rfl)) goal)
  ·have e7:=p13_7 bm br R RC M MC inp rg of hb hr
   have hq:q13 bm M=true:=by
    unfold q13
    cases bm with
    |false=>rfl
    |true =>
     have h0:M≠0:=fun h=>hz ⟨rfl,h⟩
     have h1:Nat.ble (8+M) 8=false:=by
      cases hx:Nat.ble (8+M) 8 with
      |false=>rfl
      |true=>have:=Nat.le_of_ble_eq_true hx;omega
     rw[cond_true,h1,Nat.zero_add,Nat.ble_eq_true_of_le (Nat.le_refl M),decide_eq_true (by omega)];rfl
   rw[hq,cond_true]at e7
   refine xwp_seqW (s:=⟨_,_,_⟩) hcl hF 1000 e7 rfl ⟨mkT [8,6,1] [newS 61 (8+M),.bool false,vR br R RC],mkH ([(61,outB (8+M) (g13b of inp))]++exR br (rgB R rg)),130⟩ ?_ goal
   have h:=last (k:=n13 bm+1) (b:=n13 bm) (f:=f13 bm inp of) (f13_row hb) rfl (by cases bm<;>first|exact .inl rfl|exact .inr rfl)
   cases bm<;>cases br<;>exact h
end Go.X
