import Derived.Test.YtkghggngmpmigaaD37
set_option linter.all false
namespace Go.X
open Go Go.Proofs
def pre48 (m:MS) (bi:Bool) (b40:Blk):List (Nat × Blk):=m.H++extL bi false false b40 b40 b40
def upd48 (m:MS) (bo bs:Bool) (oN:Nat) (of:Nat->Int) (sN:Nat) (sf:Nat->List Value) (n mk:Int):Hp :=
 mkH ([(103,resB m (vO bo oN) n mk),(90,m.memB),(91,m.kn.blk),(92,m.mB)]++extL false bo bs (outB oN of) (outB oN of) (seB sN sf))
def val48 (m:MS) (bo bs:Bool) (oN sN:Nat) (n mk:Int):Value:=.tuple ⟨[.agg ⟨[.int .i64 m.st,.int .u8 m.cd,.int .i64 0,vO bo oN,.int .i64 n,.int .i64 mk]⟩,vW bs sN]⟩
def hF (m:MS) (r:Blk) (bi bo bs:Bool) (oN:Nat) (n mk:Int) (b40 b101 b102:Blk):List (Nat × Blk):=[(103,resB m (vO bo oN) n mk),(90,m.memB),(91,m.kn.blk),(92,m.mB),(100,r)]++extL bi bo bs b40 b101 b102
theorem sub48 (m0 m:MS) (r:Blk) (bi bo bs:Bool) (oN sN:Nat) (of:Nat->Int) (sf:Nat->List Value) (n mk:Int) (b40:Blk):SubB (mkH (hF m r bi bo bs oN n mk b40 (outB oN of) (seB sN sf))) [] (upd48 m bo bs oN of sN sf n mk++mkH (pre48 m0 bi b40)):=by
 cases bi<;>cases bo<;>cases bs
 ·exact⟨rfl,rfl,rfl,rfl,trivial,trivial,trivial,trivial⟩
 ·exact⟨rfl,rfl,rfl,rfl,rfl,trivial,trivial,trivial,trivial⟩
 ·exact⟨rfl,rfl,rfl,rfl,rfl,trivial,trivial,trivial,trivial⟩
 ·exact⟨rfl,rfl,rfl,rfl,rfl,rfl,trivial,trivial,trivial,trivial⟩
 ·exact⟨rfl,rfl,rfl,rfl,trivial,trivial,trivial,rfl,trivial⟩
 ·exact⟨rfl,rfl,rfl,rfl,rfl,trivial,trivial,trivial,rfl,trivial⟩
 ·exact⟨rfl,rfl,rfl,rfl,rfl,trivial,trivial,trivial,rfl,trivial⟩
 ·exact⟨rfl,rfl,rfl,rfl,rfl,rfl,trivial,trivial,trivial,rfl,trivial⟩
theorem res48 (m0 m:MS) (bi bo bs:Bool) (oN sN:Nat) (of:Nat->Int) (sf:Nat->List Value) (n mk:Int) (b40:Blk) :
  resV (mkT [9,8] [vW bs sN,.pointer (some ⟨103,0,some 0⟩)]) (upd48 m bo bs oN of sN sf n mk++mkH (pre48 m0 bi b40)) [(8,some (.agg,6)),(9,none)]=some (val48 m bo bs oN sN n mk):=by
 cases bi<;>cases bo<;>cases bs<;>rfl
theorem leafE {E:FEnv} (hP:E.P=Try.prog) (hn:E.B.n=100) (bi bo bs:Bool){m:MS}{n fuel:Int}{k L C oN sN:Nat}{mk:Int}{wt:Bool}{T:Nat}{inp of:Nat->Int}{sf:Nat->List Value} (hse:SeOK sN sf) :
  LeafTo E ([9,8]++[]) (ext ⟨[9,8],[.id 103],[],[90,91,92,100]++extI bi bo bs⟩ (T48 n fuel) (mkH (core48 m (rB (vI bi k L C) (vO bo oN) mk wt (vW bs sN))++extL bi bo bs (inB T inp) (outB oN of) (seB sN sf)))
   ⟨[some (true,vW bs sN),some (true,.pointer (some ⟨103,0,some 0⟩))],[(103,some (resB m (vO bo oN) n mk))],.ret,104⟩)
   ⟨mkT [9,8] [vW bs sN,.pointer (some ⟨103,0,some 0⟩)],mkH (hF m (rB (vI bi k L C) (vO bo oN) mk wt (vW bs sN)) bi bo bs oN n mk (inB T inp) (outB oN of) (seB sN sf)),104⟩:=by
 refine⟨_,_,_,rfl,?_,?_,?_⟩<;>rw[hn]
 ·cases bi<;>cases bo<;>cases bs<;>rfl
 ·cases bi<;>cases bo<;>cases bs<;>exact⟨rfl,rfl,trivial⟩
 ·rw[hP]
  have hres:∀ {σ:Nm},(bo=true->σ 101=some 101)->BIs Try.prog σ (resB m (vO bo oN) n mk) (resB m (vO bo oN) n mk):=by
   intro σ h
   show[_,_,_,ren σ 4 (vO bo oN),_,_]=_
   have:ren σ 4 (vO bo oN)=vO bo oN:=by
    cases bo with
    |false=>rfl
    |true=>simp only[vO,cond_true,ren,renP,h rfl]
   rw[this];rfl
  refine⟨hres ?_,bis_mem,bis_kn,bis_mBg rfl rfl,bis_rBv rfl (fun _=>rfl) ?_ ?_,?_⟩
  ·intro h;subst h;cases bi<;>cases bs<;>rfl
  ·intro h;subst h;cases bi<;>cases bs<;>rfl
  ·intro h;subst h;cases bi<;>cases bo<;>rfl
  ·cases bi<;>cases bo<;>cases bs
   ·exact trivial
   ·exact⟨bis_seB fun j hj=>hse j hj _,trivial⟩
   ·exact⟨bis_outB,trivial⟩
   ·exact⟨bis_outB,bis_seB fun j hj=>hse j hj _,trivial⟩
   ·exact⟨bis_inB,trivial⟩
   ·exact⟨bis_inB,bis_seB fun j hj=>hse j hj _,trivial⟩
   ·exact⟨bis_inB,bis_outB,trivial⟩
   ·exact⟨bis_inB,bis_outB,bis_seB fun j hj=>hse j hj _,trivial⟩
def RSt.init (m:MS):RSt:=⟨m,0,0,fun _=>0,0,fun _=>[],0⟩
theorem init_wk {E:FEnv} (hP:E.P=Try.prog) (hn:E.B.n=100) (e:REnv) (m:MS) (fuel:Int) :
  Wk E.toEnv ⟨mkT [11,10,8,2,0] [.int .i64 0,pR,.pointer (some ⟨103,0,some 0⟩),.int .i64 fuel,pM],mkH ([(100,rB (vI e.bi e.k0 e.L0 e.C0) (.slice none 0 0) 0 e.wt (.slice none 0 0)),(103,res0),(90,m.memB),(91,m.kn.blk),(92,m.mB)]++extL e.bi false false (inB e.T e.inp) (inB e.T e.inp) (inB e.T e.inp)),104⟩ (S48 e fuel (RSt.init m) (0:Nat)):=by
 refine wk_sub (has_sub ?_)
 show Has _ (core48 m (rB (vI e.bi (e.k0+0) (e.L0-0) (e.C0-0)) _ 0 e.wt _)++extL e.bi false false _ _ _)
 cases e.bi<;>exact⟨rfl,rfl,rfl,rfl,rfl,by first|trivial|exact⟨rfl,trivial⟩⟩
theorem b48 (e:REnv){step:RSt->Bool × RSt}{OK:Nat->RSt->Prop}{fuel:Int} (hf0:0<=fuel) (H:Steps48 e fuel step OK) (hfu:fuel<9223372036854775807) (m:MS) (h0:OK 0 (RSt.init m)){s:RSt}{n:Nat} (hr:runF step fuel.toNat (RSt.init m) 0=(s,n)) :
  Body Try.prog 53 [pM,vI e.bi e.k0 e.L0 e.C0,.int .i64 fuel,.bool e.wt] (mkH (pre48 m e.bi (inB e.T e.inp))) (val48 s.m (bO s.oN) (bO s.sN) s.oN s.sN n s.mark) (upd48 s.m (bO s.oN) (bO s.sN) s.oN s.of s.sN s.sf n s.mark) 100 4:=by
 have hse:SeOK s.sN s.sf:=by
  have hs:=run_ok H fuel.toNat 0 (RSt.init m) (by omega) h0
  rw[hr]at hs
  rcases hs with⟨n',h⟩|⟨n',s1,h,e1⟩
  ·exact H.se n' s h
  ·simp only at e1;rw[e1];exact H.se n' s1 h
 refine body_of mixed fx48 (by simp) fun ρ w hd=>?_
 let E:=envOf Try.prog 57 100 (mkH (pre48 m e.bi (inB e.T e.inp))) mixed ρ w hd
 have ea:=p48_a m e.bi e.k0 e.L0 e.C0 fuel e.wt (inB e.T e.inp)
 refine xwp_toLoop (E:=E) (s:=⟨argTm 0 [pM,vI e.bi e.k0 e.L0 e.C0,.int .i64 fuel,.bool e.wt],mkH (pre48 m e.bi (inB e.T e.inp)),100⟩) FOK 1000 ea
  ⟨mkT [11,10,8,2,0] [.int .i64 0,pR,.pointer (some ⟨103,0,some 0⟩),.int .i64 fuel,pM],mkH ([(100,rB (vI e.bi e.k0 e.L0 e.C0) (.slice none 0 0) 0 e.wt (.slice none 0 0)),(103,res0),(90,m.memB),(91,m.kn.blk),(92,m.mB)]++extL e.bi false false (inB e.T e.inp) (inB e.T e.inp) (inB e.T e.inp)),104⟩ ?_ ?_
 ·refine⟨_,_,_,rfl,?_,?_,?_⟩
  ·cases e.bi<;>rfl
  ·cases e.bi<;>exact⟨rfl,rfl,rfl,rfl,rfl,trivial⟩
  ·refine⟨bis_rBv (bo:=false) (bs:=false) (oN:=0) (sN:=0) rfl (fun _=>rfl) (fun h=>by cases h) (fun h=>by cases h),rfl,bis_mem,bis_kn,bis_mBg rfl rfl,?_⟩
   cases e.bi
   ·exact trivial
   ·exact⟨bis_inB,trivial⟩
 ·refine XWP.wk (init_wk rfl rfl e m fuel) ?_
  refine loop48 (E:=E) (cl_ctx cl_fin _) rfl rfl H hfu (RSt.init m) h0 ?_
  rw[hr]
  show XWP E.toEnv x48_18 _ (S48 e fuel s n)
  have ee:=p48_e s.m (s.vin e) s.mark n fuel e.wt e.bi (bO s.oN) (bO s.sN) s.oN s.sN (inB e.T e.inp) (outB s.oN s.of) (seB s.sN s.sf)
  exact xwp_toEnd (E:=E) cl_fin FOK 1000 ee _ (leafE rfl rfl e.bi (bO s.oN) (bO s.sN) hse) (fin_of rfl (sub48 m s.m _ e.bi (bO s.oN) (bO s.sN) s.oN s.sN s.of s.sf n s.mark (inB e.T e.inp)) rfl (res48 m s.m e.bi (bO s.oN) (bO s.sN) s.oN s.sN s.of s.sf n s.mark (inB e.T e.inp)))
def AtN (f:FuncId) (vs:List Value) (pre:List (Nat × Blk)) (v:Value) (upd:Hp) (N news:Nat):Prop:=nodupB (pre.map (·.1))=true/\ADet Try.prog f vs (mkH pre) v upd N news
noncomputable def conAt (f:FuncId) (vs0:List Value) (pre:List (Nat × Blk)) (v:Value) (upd:Hp) (N news:Nat):Con Try.prog where
 f:=f
 run:=fun vs h n=>some (mkH pre,v,upd,news,decP (vs=vs0/\Has h pre/\AtN f vs0 pre v upd N news)&&Nat.beq n N)
 ok:=fun vs h n pre' v' upd' news' hx=>by
  simp only[Option.some.injEq,Prod.mk.injEq,Bool.and_eq_true]at hx
  obtain⟨rfl,rfl,rfl,rfl,hA,hn⟩:=hx
  obtain⟨rfl,hh,hc⟩:=of_decP hA
  rw[Nat.eq_of_beq_eq_true hn]
  exact⟨has_pre hh hc.1,hc.2⟩
def vOa (a:Nat) (bo:Bool) (n:Nat):Value:=bif bo then .slice (some ⟨a,0,none⟩) n n else .slice none 0 0
def extN (a b:Nat) (bo bs:Bool) (b1 b2:Blk):List (Nat × Blk):=(bif bo then[(a,b1)]else[])++(bif bs then[(b,b2)]else[])
def upd48a (m:MS) (bo bs:Bool) (oN:Nat) (of:Nat->Int) (sN:Nat) (sf:Nat->List Value) (n mk:Int):Hp :=
 mkH ([(104,resB m (vOa 102 bo oN) n mk),(90,m.memB),(91,m.kn.blk),(92,m.mB)]++extN 102 103 bo bs (outB oN of) (seB sN sf))
def val48a (m:MS) (bo bs:Bool) (oN sN:Nat) (n mk:Int):Value:=.tuple ⟨[.agg ⟨[.int .i64 m.st,.int .u8 m.cd,.int .i64 0,vOa 102 bo oN,.int .i64 n,.int .i64 mk]⟩,vOa 103 bs sN]⟩
theorem c48a {m0 m:MS}{bi bo bs:Bool}{vin:Value}{fuel:Int}{wt:Bool}{b40:Blk}{oN sN:Nat}{of:Nat->Int}{sf:Nat->List Value}{n mk:Int} (hvi:∀ σ:Nm,(bi=true->σ 40=some 40)->rn σ vin=vin) (hb:∀ σ:Nm,BIs Try.prog σ b40 b40) (hse:SeOK sN sf)
  (h:Body Try.prog 53 [pM,vin,.int .i64 fuel,.bool wt] (mkH (pre48 m0 bi b40)) (val48 m bo bs oN sN n mk) (upd48 m bo bs oN of sN sf n mk) 100 4) :
  AtN 53 [pM,vin,.int .i64 fuel,.bool wt] (pre48 m0 bi b40) (val48a m bo bs oN sN n mk) (upd48a m bo bs oN of sN sf n mk) 101 4:=by
 refine⟨by cases bi<;>rfl,adet_of_body h [(90,90),(91,91),(92,92),(40,40)] [(101,100),(102,101),(103,102),(104,103)] ?_ ?_ ?_ ?_ ?_ ?_ ?_⟩
 ·cases bo<;>cases bs<;>rfl
 ·show[_,rn _ vin,_,_]=_
  rw[hvi (asc [(90,90),(91,91),(92,92),(40,40)]) (fun _=>rfl)];rfl
 ·refine⟨bis_mem,bis_kn,rfl,?_⟩
  cases bi
  ·exact trivial
  ·exact⟨hb _,trivial⟩
 ·cases bi<;>rfl
 ·cases bo<;>cases bs<;>rfl
 ·cases bi<;>cases bo<;>cases bs
  ·exact⟨rfl,bis_mem,bis_kn,rfl,trivial,trivial,trivial,trivial⟩
  ·exact⟨rfl,bis_mem,bis_kn,rfl,bis_seB fun j hj=>hse j hj _,trivial,trivial,trivial,trivial⟩
  ·exact⟨rfl,bis_mem,bis_kn,rfl,bis_outB,trivial,trivial,trivial,trivial⟩
  ·exact⟨rfl,bis_mem,bis_kn,rfl,bis_outB,bis_seB fun j hj=>hse j hj _,trivial,trivial,trivial,trivial⟩
  ·exact⟨rfl,bis_mem,bis_kn,rfl,trivial,trivial,trivial,hb _,trivial⟩
  ·exact⟨rfl,bis_mem,bis_kn,rfl,bis_seB fun j hj=>hse j hj _,trivial,trivial,trivial,hb _,trivial⟩
  ·exact⟨rfl,bis_mem,bis_kn,rfl,bis_outB,trivial,trivial,trivial,hb _,trivial⟩
  ·exact⟨rfl,bis_mem,bis_kn,rfl,bis_outB,bis_seB fun j hj=>hse j hj _,trivial,trivial,trivial,hb _,trivial⟩
 ·cases bi<;>cases bo<;>cases bs<;>rfl
noncomputable abbrev sc24 (vin:Value) (fuel:Int) (wt:Bool) (pre:List (Nat × Blk)) (m:MS) (bo bs:Bool) (oN:Nat) (of:Nat->Int) (sN:Nat) (sf:Nat->List Value) (n mk:Int):Short :=
 scOf [conAt 53 [pM,vin,.int .i64 fuel,.bool wt] pre (val48a m bo bs oN sN n mk) (upd48a m bo bs oN of sN sf n mk) 101 4]
def rs24 (bo:Bool):List Ref:=[.tmp 6,.id 90,.id 91,.id 92]++(bif bo then[.id 102]else[])
theorem p24 (m0 m:MS) (bi bo bs:Bool) (k L C:Nat) (fuel:Int) (b40:Blk) (oN sN:Nat) (of:Nat->Int) (sf:Nat->List Value) (n mk:Int) :
  walk (lookF FL) (sc24 (vI bi k L C) fuel false (pre48 m0 bi b40) m bo bs oN of sN sf n mk) 1000 x24 (argTm 0 [pM,vI bi k L C,.int .i64 fuel]) (mkH (pre48 m0 bi b40)) 100 j0_ ⟨[6],rs24 bo,[],extI bi false false⟩ j0_ =
   bif decP ([pM,vI bi k L C,.int .i64 fuel,.bool false]=[pM,vI bi k L C,.int .i64 fuel,.bool false]/\Has ((100,some res0) :: mkH (pre48 m0 bi b40)) (pre48 m0 bi b40)/\AtN 53 [pM,vI bi k L C,.int .i64 fuel,.bool false] (pre48 m0 bi b40) (val48a m bo bs oN sN n mk) (upd48a m bo bs oN of sN sf n mk) 101 4)&&true&&true then
    some ⟨⟨[some (true,.pointer (some ⟨100,0,some 0⟩))],[(100,some (resB m (vOa 102 bo oN) n mk)),(90,some m.memB),(91,some m.kn.blk),(92,some m.mB)]++(bif bo then[(102,some (outB oN of))]else[]),.ret,106⟩,none⟩else none:=by
 cases bi<;>cases bo<;>cases bs<;>kernel_rfl
def upd24 (m:MS) (bo:Bool) (oN:Nat) (of:Nat->Int) (n mk:Int):Hp:=mkH ([(100,resB m (vO bo oN) n mk),(90,m.memB),(91,m.kn.blk),(92,m.mB)]++extN 101 102 bo false (outB oN of) (outB oN of))
def resV24 (m:MS) (vout:Value) (n mk:Int):Value:=.agg ⟨[.int .i64 m.st,.int .u8 m.cd,.int .i64 0,vout,.int .i64 n,.int .i64 mk]⟩
theorem vI_stay {bi:Bool}{k L C:Nat}{σ:Nm} (h:bi=true->σ 40=some 40):rn σ (vI bi k L C)=vI bi k L C:=by
 cases bi with
 |false=>rfl
 |true=>simp only[vI,cond_true,rn,ren,renP,h rfl]
theorem b24 {m0 m:MS}{bi bo bs:Bool}{k L C:Nat}{fuel:Int}{T:Nat}{inp:Nat->Int}{oN sN:Nat}{of:Nat->Int}{sf:Nat->List Value}{n mk:Int} (hse:SeOK sN sf)
  (h:Body Try.prog 53 [pM,vI bi k L C,.int .i64 fuel,.bool false] (mkH (pre48 m0 bi (inB T inp))) (val48 m bo bs oN sN n mk) (upd48 m bo bs oN of sN sf n mk) 100 4) :
  Body Try.prog 33 [pM,vI bi k L C,.int .i64 fuel] (mkH (pre48 m0 bi (inB T inp))) (resV24 m (vO bo oN) n mk) (upd24 m bo oN of n mk) 100 2:=by
 have e:=p24 m0 m bi bo bs k L C fuel (inB T inp) oN sN of sf n mk
 rw[decP_true ⟨rfl,by cases bi<;>first|exact⟨rfl,rfl,rfl,trivial⟩|exact⟨rfl,rfl,rfl,rfl,trivial⟩,c48a (fun σ=>vI_stay) (fun σ=>bis_inB) hse h⟩]at e
 simp only[Bool.and_self,cond_true]at e
 have hres:∀ {σ:Nm},(bo=true->σ 101=some 102)->BIs Try.prog σ (resB m (vO bo oN) n mk) (resB m (vOa 102 bo oN) n mk):=by
  intro σ h
  show[_,_,_,ren σ 4 (vO bo oN),_,_]=_
  have:ren σ 4 (vO bo oN)=vOa 102 bo oN:=by
   cases bo with
   |false=>rfl
   |true=>simp only[vO,vOa,cond_true,ren,renP,h rfl]
  rw[this];rfl
 refine body_walk (fok FOK _) fx24 (by simp) e rfl ⟨mkT [6] [.pointer (some ⟨100,0,some 0⟩)],mkH ([(100,resB m (vO bo oN) n mk),(90,m.memB),(91,m.kn.blk),(92,m.mB)]++(extN 101 102 bo false (outB oN of) (outB oN of)++extL bi false false (inB T inp) (inB T inp) (inB T inp))),102⟩ (fun ρ w hd=>⟨_,_,_,rfl,?_,?_,?_⟩) ?_ rfl ?_
 ·cases bi<;>cases bo<;>rfl
 ·cases bi<;>cases bo<;>exact⟨rfl,trivial⟩
 ·refine⟨hres ?_,bis_mem,bis_kn,bis_mBg rfl rfl,?_⟩
  ·intro h;subst h;cases bi<;>rfl
  ·cases bi<;>cases bo
   ·exact trivial
   ·exact⟨bis_outB,trivial⟩
   ·exact⟨bis_inB,trivial⟩
   ·exact⟨bis_outB,bis_inB,trivial⟩
 ·cases bi<;>cases bo
  ·exact⟨rfl,rfl,rfl,rfl,trivial,trivial,trivial,trivial⟩
  ·exact⟨rfl,rfl,rfl,rfl,rfl,trivial,trivial,trivial,trivial⟩
  ·exact⟨rfl,rfl,rfl,rfl,trivial,trivial,trivial,rfl,trivial⟩
  ·exact⟨rfl,rfl,rfl,rfl,rfl,trivial,trivial,trivial,rfl,trivial⟩
 ·cases bi<;>cases bo<;>rfl
theorem bits_le (k:IntKind) (x M:Int) (m:Nat) (hM:M=m) (hm:(BitVec.ofInt k.bits (m:Int)).toNat=m) (hk:∀ n:Nat,n<=m->k.wrap (n:Int)=n):0<=bits2 .and k x M/\bits2 .and k x M<=m:=by
 show 0<=k.wrap (BitVec.ofInt k.bits x &&& BitVec.ofInt k.bits M).toNat/\k.wrap (BitVec.ofInt k.bits x &&& BitVec.ofInt k.bits M).toNat<=(m:Int)
 have h1:(BitVec.ofInt k.bits x &&& BitVec.ofInt k.bits M).toNat<=m:=by
  rw[BitVec.toNat_and,hM,hm]
  exact Nat.and_le_right
 rw[hk _ h1]
 omega
theorem fW_reg (w d:Int):inR (fW w d 31):=by
 have h:=bits_le .u32 (w.fdiv d) 31 31 rfl (by decide) (fun n hn=>by
  have:IntKind.u32.wrap (n:Int)=(n:Int) % 4294967296:=by simp[IntKind.wrap,IntKind.bits,IntKind.signed]
  omega)
 unfold fW inR
 rw[wrap_i (by omega) (by omega)]
 omega
theorem inR0:inR 0:=⟨by decide,by decide⟩
theorem candF_ok {F:Int} (h:isForm F=true) (w:Int):CandOK (candF F w):=by
 simp only[isForm,Bool.or_eq_true,beq_iff_eq]at h
 rcases h with rfl|rfl|rfl|rfl|rfl|rfl|rfl|rfl
 ·exact⟨fW_reg _ _,fW_reg _ _,fW_reg _ _⟩
 ·exact⟨fW_reg _ _,fW_reg _ _,inR0⟩
 ·exact⟨fW_reg _ _,fW_reg _ _,inR0⟩
 ·exact⟨inR0,fW_reg _ _,fW_reg _ _⟩
 ·exact⟨inR0,fW_reg _ _,fW_reg _ _⟩
 ·exact⟨fW_reg _ _,inR0,inR0⟩
 ·exact⟨fW_reg _ _,inR0,inR0⟩
 ·exact⟨inR0,inR0,inR0⟩
theorem firstD_some {w q:Int}{c:Cand}:∀ {l:List (Int × Value)},firstD w l=some (q,c)->∃ p∈l,p.1=q/\dec1 q w=some c
 |[],h=>by cases h
 |(k,v) :: l,h=>by
  unfold firstD at h
  cases hd:dec1 k w with
  |some x =>
   rw[hd]at h
   simp only[Option.some.injEq,Prod.mk.injEq]at h
   obtain⟨rfl,rfl⟩:=h
   exact⟨(k,v),.head _,rfl,hd⟩
  |none =>
   rw[hd]at h
   obtain⟨p,hp,h1,h2⟩:=firstD_some h
   exact⟨p,.tail _ hp,h1,h2⟩
theorem restF_some {q F o w:Int}{c:Cand} (h:restF q F o w=some c):c=candF F w/\o=bits2 .and .u32 w 127/\encF q c.rd c.rs1 c.rs2 c.imm=(w,0):=by
 unfold restF at h
 cases h1:(o != bits2 .and .u32 w 127)with
 |true=>rw[h1]at h;cases h
 |false =>
  rw[h1,cond_false]at h
  cases h2:((encF q (candF F w).rd (candF F w).rs1 (candF F w).rs2 (candF F w).imm).2==0&&(encF q (candF F w).rd (candF F w).rs1 (candF F w).rs2 (candF F w).imm).1==w)with
  |false=>rw[h2]at h;cases h
  |true =>
   rw[h2,cond_true]at h
   cases h
   simp only[Bool.and_eq_true,beq_iff_eq]at h2
   exact⟨rfl,by simpa using h1,Prod.ext h2.2 h2.1⟩
theorem keys_le:(shTab.all fun p=>decide (1<=p.1)&&decide (p.1<=55))=true:=by kernel_rfl
theorem decA_ok {w:Int} (h:(decA w).err=0):CandOK (decA w).c/\1<=(decA w).q/\(decA w).q<=55/\tabHas shTab (.int .i64 (decA w).q)=true/\dec1 (decA w).q w=some (decA w).c:=by
 unfold decA at *
 cases hd:decF w with
 |none=>rw[hd]at h;cases h
 |some x =>
  obtain⟨q,c⟩:=x
  obtain⟨p,hp,h1,h2⟩:=firstD_some hd
  have hk:=List.all_eq_true.1 keys_le p hp
  simp only[Bool.and_eq_true,decide_eq_true_eq]at hk
  have ht:tabHas shTab (.int .i64 q)=true:=mem_has hp h1
  refine⟨?_,by simp only;omega,by simp only;omega,ht,h2⟩
  have:=(restF_some h2).1
  simp only
  rw[this]
  exact candF_ok (form_of ht) w
theorem uB_bits (op:BinOp) (x y:Int):uB (bits2 op .u64 x y)=true:=by
 cases op<;>first|exact uB_wrap _|rfl
theorem uB_bit (b:Bool):uB (bitF b)=true:=by cases b<;>rfl
theorem uB_parts (op:Int){a b:Int} (ha:uB a=true) (hb:uB b=true):uB (partsF op a b)=true:=by
 unfold partsF
 have hm:∀ c:Bool,uB (bif c then a else a.tmod b)=true:=by
  intro c
  cases c with
  |true=>exact ha
  |false =>
   simp only[cond_false]
   rw[uB_iff]at *
   rw[Int.tmod_eq_emod_of_nonneg ha.1]
   by_cases h0:b=0
   ·subst h0;simp;exact ha
   ·have h1:=Int.emod_nonneg a h0
    have h2:=Int.emod_lt_of_pos a (by omega:0<b)
    omega
 split
 ·cases b==0<;>first|exact uB_wrap _|rfl
 ·cases b==0<;>first|exact uB_wrap _|rfl
 ·cases b==0<;>first|exact uB_wrap _|exact ha
 ·exact hm _
theorem two_pos (n:Nat):(0:Int)<2 ^ n:=Int.pow_pos (by decide)
theorem uB_do {op a b:Int} (h1:1<=op) (h2:op<=27) (ha:uB a=true) (hb:uB b=true):uB (doF op a b)=true:=by
 obtain⟨k,rfl⟩:∃ k:Nat,op=Int.ofNat k:=⟨op.toNat,by simp;omega⟩
 match k,h1,h2 with
 |1,_,_=>exact uB_wrap _
 |2,_,_=>exact uB_wrap _
 |3,_,_=>exact uB_wrap _
 |4,_,_=>exact uB_bit _
 |5,_,_=>exact uB_bit _
 |6,_,_=>exact uB_bits .xor a b
 |7,_,_=>exact uB_fdiv ha (two_pos _)
 |8,_,_=>exact uB_wrap _
 |9,_,_=>exact uB_bits .or a b
 |10,_,_=>exact uB_bits .and a b
 |11,_,_=>exact uB_wrap _
 |12,_,_=>exact uB_wrap _
 |13,_,_=>exact uB_wrap _
 |14,_,_=>exact uB_parts 14 ha hb
 |15,_,_=>exact uB_parts 15 ha hb
 |16,_,_=>exact uB_parts 16 ha hb
 |17,_,_=>exact uB_parts 17 ha hb
 |18,_,_=>exact uB_wrap _
 |19,_,_=>exact uB_wrap _
 |20,_,_=>exact uB_wrap _
 |21,_,_=>exact uB_wrap _
 |22,_,_=>exact uB_wrap _
 |23,_,_=>exact uB_wrap _
 |24,_,_=>exact uB_wrap _
 |25,_,_=>exact uB_wrap _
 |26,_,_=>exact uB_wrap _
 |27,_,_=>exact uB_wrap _
 |0,h1,_=>exact absurd h1 (by decide)
 |k+28,_,h2=>exact absurd h2 (by simp;omega)
def callR (e:REnv) (s:RSt) (k:KM):Bool × RSt :=
 bif s.m.x 17==1 then(true,{ s with m:=finM s.m s.m k true,oN:=s.oN+1,of:=outMore s.of s.oN (IntKind.u8.wrap (s.m.x 10)) })
 else bif s.m.x 17==2 then(bif e.bi&&Nat.blt s.ik e.L0 then(true,{ s with m:=finM s.m (inMore s.m (e.inp (e.k0+s.ik))) k true,ik:=s.ik+1 })else(true,{ s with m:=finM s.m (inMax s.m) k true }))
 else bif s.m.x 17==3||(s.m.x 17==4||s.m.x 17==5)then(true,{ s with m:=finM s.m (endM s.m) k true })
 else(false,{ s with m:=finM s.m s.m k false })
def stepG (mem:REnv->RSt->Ans->Bool × RSt) (e:REnv) (s:RSt):Bool × RSt :=
 bif plB s.m.sz s.m.pl 4 then
  (bif (decA (w32 s.m)).err==0 then
   (bif plainB (decA (w32 s.m)).q then(true,{ s with m:=stepM s.m s.m.kn' (decA (w32 s.m)).q (decA (w32 s.m)).c,mark:=markF (decA (w32 s.m)).q (decA (w32 s.m)).c s.mark })
   else bif (decA (w32 s.m)).q==55 then callR e s s.m.kn' else mem e s (decA (w32 s.m)))
  else(false,s))
 else(false,s)
structure BaseOK (e:REnv) (n:Nat) (s:RSt):Prop where
 sz:szB s.m.sz=true
 pl:uB s.m.pl=true
 x:∀ j,uB (s.m.x j)=true
 kn:s.m.kn.OK
 se:SeOK s.sN s.sf
 out:s.oN<=n
 cap:e.L0<=e.C0
 top:e.k0+e.L0<=e.T
 ik:s.ik<=e.L0
theorem stay_vI {bi:Bool}{k L C:Nat}:Stay (vI bi k L C):=by cases bi<;>first|exact stay_nil|exact stay_in _ _ _
theorem stay_vO {bo:Bool}{n:Nat}:Stay (vO bo n):=by cases bo<;>first|exact stay_nil|exact stay_out _ _
theorem stay_vW {bs:Bool}{n:Nat}:Stay (vW bs n):=by cases bs<;>first|exact stay_nil|exact stay_seen _ _
theorem has0 (e:REnv) (s:RSt):Has (mkH (s.hp e)) (preS s.m (s.rb e) []):=⟨rfl,rfl,rfl,rfl,trivial⟩
theorem hasI (e:REnv) (s:RSt) (h:e.bi=true):Has (mkH (s.hp e)) (preS s.m (s.rb e) [(40,inB e.T e.inp)]):=by
 refine⟨rfl,rfl,rfl,rfl,?_,trivial⟩
 show hget (mkH (core48 s.m (s.rb e)++extL e.bi _ _ _ _ _)) 40=_
 rw[h];rfl
theorem hasB (e:REnv) (s:RSt) (h:bO s.oN=true):Has (mkH (s.hp e)) (preS s.m (s.rb e) [(101,outB s.oN s.of)]):=by
 refine⟨rfl,rfl,rfl,rfl,?_,trivial⟩
 show hget (mkH (core48 s.m (s.rb e)++extL e.bi (bO s.oN) _ _ _ _)) 101=_
 rw[h];cases e.bi<;>rfl
theorem kn_ok {m:MS} (h:m.kn.OK):(m.kn').OK:=by
 unfold MS.kn'
 cases hh:m.kn.has (.int .u32 (w32 m))with
 |true=>exact h
 |false =>
  cases he:((decA (w32 m)).err != 0)with
  |true=>exact h
  |false=>exact h.add (by simpa using he)
theorem uB_put {x:Nat->Int} (hx:∀ j,uB (x j)=true) (r:Int){v:Option Int} (hv:∀ y,v=some y->uB y=true):∀ j,uB (putR x r v j)=true:=by
 intro j
 cases v with
 |none =>
  show uB (bif Nat.beq j 0 then 0 else x j)=true
  cases Nat.beq j 0
  ·exact hx j
  ·rfl
 |some y =>
  show uB (bif Nat.beq j 0 then 0 else bif Nat.beq (j+1) (1+r.toNat*1)then y else x j)=true
  cases Nat.beq j 0
  ·cases Nat.beq (j+1) (1+r.toNat*1)
   ·exact hx j
   ·exact hv y rfl
  ·rfl
theorem uB_at {x:Nat->Int} (hx:∀ j,uB (x j)=true){i:Nat}{v:Int} (hv:uB v=true):∀ j,uB (xAt x i v j)=true:=by
 intro j
 show uB (bif Nat.beq j i then v else x j)=true
 cases Nat.beq j i
 ·exact hx j
 ·exact hv
theorem plain_rng {op:Int} (h1:28<=op) (h2:op<=37):1<=plainF op/\plainF op<=27:=by
 obtain⟨k,rfl⟩:∃ k:Nat,op=Int.ofNat k:=⟨op.toNat,by simp;omega⟩
 have:28<=k/\k<=37:=by simp only[Int.ofNat_eq_natCast]at h1 h2;omega
 match k,this with
 |28,_=>exact⟨by decide,by decide⟩
 |29,_=>exact⟨by decide,by decide⟩
 |30,_=>exact⟨by decide,by decide⟩
 |31,_=>exact⟨by decide,by decide⟩
 |32,_=>exact⟨by decide,by decide⟩
 |33,_=>exact⟨by decide,by decide⟩
 |34,_=>exact⟨by decide,by decide⟩
 |35,_=>exact⟨by decide,by decide⟩
 |36,_=>exact⟨by decide,by decide⟩
 |37,_=>exact⟨by decide,by decide⟩
theorem uB_val {m:MS} (hx:∀ j,uB (m.x j)=true){op:Int} (ho:plainB op=true) (c:Cand):∀ y,valF m op c=some y->uB y=true:=by
 simp only[plainB,Bool.or_eq_true,Bool.and_eq_true,decide_eq_true_eq]at ho
 obtain⟨k,rfl⟩:∃ k:Nat,op=Int.ofNat k:=⟨op.toNat,by simp;omega⟩
 have h:(1<=k/\k<=37)\/(45<=k/\k<=54):=by simp only[Int.ofNat_eq_natCast]at ho;omega
 intro y hy
 match k,h with
 |0,h=>exact absurd h (by omega)
 |1,_=>have e:some (doF 1 (m.x c.rs1.toNat) (m.x c.rs2.toNat))=some y:=hy;cases e;exact uB_do (by decide) (by decide) (hx _) (hx _)
 |2,_=>have e:some (doF 2 (m.x c.rs1.toNat) (m.x c.rs2.toNat))=some y:=hy;cases e;exact uB_do (by decide) (by decide) (hx _) (hx _)
 |3,_=>have e:some (doF 3 (m.x c.rs1.toNat) (m.x c.rs2.toNat))=some y:=hy;cases e;exact uB_do (by decide) (by decide) (hx _) (hx _)
 |4,_=>have e:some (doF 4 (m.x c.rs1.toNat) (m.x c.rs2.toNat))=some y:=hy;cases e;exact uB_do (by decide) (by decide) (hx _) (hx _)
 |5,_=>have e:some (doF 5 (m.x c.rs1.toNat) (m.x c.rs2.toNat))=some y:=hy;cases e;exact uB_do (by decide) (by decide) (hx _) (hx _)
 |6,_=>have e:some (doF 6 (m.x c.rs1.toNat) (m.x c.rs2.toNat))=some y:=hy;cases e;exact uB_do (by decide) (by decide) (hx _) (hx _)
 |7,_=>have e:some (doF 7 (m.x c.rs1.toNat) (m.x c.rs2.toNat))=some y:=hy;cases e;exact uB_do (by decide) (by decide) (hx _) (hx _)
 |8,_=>have e:some (doF 8 (m.x c.rs1.toNat) (m.x c.rs2.toNat))=some y:=hy;cases e;exact uB_do (by decide) (by decide) (hx _) (hx _)
 |9,_=>have e:some (doF 9 (m.x c.rs1.toNat) (m.x c.rs2.toNat))=some y:=hy;cases e;exact uB_do (by decide) (by decide) (hx _) (hx _)
 |10,_=>have e:some (doF 10 (m.x c.rs1.toNat) (m.x c.rs2.toNat))=some y:=hy;cases e;exact uB_do (by decide) (by decide) (hx _) (hx _)
 |11,_=>have e:some (doF 11 (m.x c.rs1.toNat) (m.x c.rs2.toNat))=some y:=hy;cases e;exact uB_do (by decide) (by decide) (hx _) (hx _)
 |12,_=>have e:some (doF 12 (m.x c.rs1.toNat) (m.x c.rs2.toNat))=some y:=hy;cases e;exact uB_do (by decide) (by decide) (hx _) (hx _)
 |13,_=>have e:some (doF 13 (m.x c.rs1.toNat) (m.x c.rs2.toNat))=some y:=hy;cases e;exact uB_do (by decide) (by decide) (hx _) (hx _)
 |14,_=>have e:some (doF 14 (m.x c.rs1.toNat) (m.x c.rs2.toNat))=some y:=hy;cases e;exact uB_do (by decide) (by decide) (hx _) (hx _)
 |15,_=>have e:some (doF 15 (m.x c.rs1.toNat) (m.x c.rs2.toNat))=some y:=hy;cases e;exact uB_do (by decide) (by decide) (hx _) (hx _)
 |16,_=>have e:some (doF 16 (m.x c.rs1.toNat) (m.x c.rs2.toNat))=some y:=hy;cases e;exact uB_do (by decide) (by decide) (hx _) (hx _)
 |17,_=>have e:some (doF 17 (m.x c.rs1.toNat) (m.x c.rs2.toNat))=some y:=hy;cases e;exact uB_do (by decide) (by decide) (hx _) (hx _)
 |18,_=>have e:some (doF 18 (m.x c.rs1.toNat) (m.x c.rs2.toNat))=some y:=hy;cases e;exact uB_do (by decide) (by decide) (hx _) (hx _)
 |19,_=>have e:some (doF 19 (m.x c.rs1.toNat) (m.x c.rs2.toNat))=some y:=hy;cases e;exact uB_do (by decide) (by decide) (hx _) (hx _)
 |20,_=>have e:some (doF 20 (m.x c.rs1.toNat) (m.x c.rs2.toNat))=some y:=hy;cases e;exact uB_do (by decide) (by decide) (hx _) (hx _)
 |21,_=>have e:some (doF 21 (m.x c.rs1.toNat) (m.x c.rs2.toNat))=some y:=hy;cases e;exact uB_do (by decide) (by decide) (hx _) (hx _)
 |22,_=>have e:some (doF 22 (m.x c.rs1.toNat) (m.x c.rs2.toNat))=some y:=hy;cases e;exact uB_do (by decide) (by decide) (hx _) (hx _)
 |23,_=>have e:some (doF 23 (m.x c.rs1.toNat) (m.x c.rs2.toNat))=some y:=hy;cases e;exact uB_do (by decide) (by decide) (hx _) (hx _)
 |24,_=>have e:some (doF 24 (m.x c.rs1.toNat) (m.x c.rs2.toNat))=some y:=hy;cases e;exact uB_do (by decide) (by decide) (hx _) (hx _)
 |25,_=>have e:some (doF 25 (m.x c.rs1.toNat) (m.x c.rs2.toNat))=some y:=hy;cases e;exact uB_do (by decide) (by decide) (hx _) (hx _)
 |26,_=>have e:some (doF 26 (m.x c.rs1.toNat) (m.x c.rs2.toNat))=some y:=hy;cases e;exact uB_do (by decide) (by decide) (hx _) (hx _)
 |27,_=>have e:some (doF 27 (m.x c.rs1.toNat) (m.x c.rs2.toNat))=some y:=hy;cases e;exact uB_do (by decide) (by decide) (hx _) (hx _)
 |28,_=>have e:some (doF (plainF 28) (m.x c.rs1.toNat) (ofF c.imm))=some y:=hy;cases e;exact uB_do (plain_rng (by decide) (by decide)).1 (plain_rng (by decide) (by decide)).2 (hx _) (uB_of _)
 |29,_=>have e:some (doF (plainF 29) (m.x c.rs1.toNat) (ofF c.imm))=some y:=hy;cases e;exact uB_do (plain_rng (by decide) (by decide)).1 (plain_rng (by decide) (by decide)).2 (hx _) (uB_of _)
 |30,_=>have e:some (doF (plainF 30) (m.x c.rs1.toNat) (ofF c.imm))=some y:=hy;cases e;exact uB_do (plain_rng (by decide) (by decide)).1 (plain_rng (by decide) (by decide)).2 (hx _) (uB_of _)
 |31,_=>have e:some (doF (plainF 31) (m.x c.rs1.toNat) (ofF c.imm))=some y:=hy;cases e;exact uB_do (plain_rng (by decide) (by decide)).1 (plain_rng (by decide) (by decide)).2 (hx _) (uB_of _)
 |32,_=>have e:some (doF (plainF 32) (m.x c.rs1.toNat) (ofF c.imm))=some y:=hy;cases e;exact uB_do (plain_rng (by decide) (by decide)).1 (plain_rng (by decide) (by decide)).2 (hx _) (uB_of _)
 |33,_=>have e:some (doF (plainF 33) (m.x c.rs1.toNat) (ofF c.imm))=some y:=hy;cases e;exact uB_do (plain_rng (by decide) (by decide)).1 (plain_rng (by decide) (by decide)).2 (hx _) (uB_of _)
 |34,_=>have e:some (doF (plainF 34) (m.x c.rs1.toNat) (ofF c.imm))=some y:=hy;cases e;exact uB_do (plain_rng (by decide) (by decide)).1 (plain_rng (by decide) (by decide)).2 (hx _) (uB_of _)
 |35,_=>have e:some (doF (plainF 35) (m.x c.rs1.toNat) (ofF c.imm))=some y:=hy;cases e;exact uB_do (plain_rng (by decide) (by decide)).1 (plain_rng (by decide) (by decide)).2 (hx _) (uB_of _)
 |36,_=>have e:some (doF (plainF 36) (m.x c.rs1.toNat) (ofF c.imm))=some y:=hy;cases e;exact uB_do (plain_rng (by decide) (by decide)).1 (plain_rng (by decide) (by decide)).2 (hx _) (uB_of _)
 |37,_=>have e:some (doF (plainF 37) (m.x c.rs1.toNat) (ofF c.imm))=some y:=hy;cases e;exact uB_do (plain_rng (by decide) (by decide)).1 (plain_rng (by decide) (by decide)).2 (hx _) (uB_of _)
 |38,h=>exact absurd h (by omega)
 |39,h=>exact absurd h (by omega)
 |40,h=>exact absurd h (by omega)
 |41,h=>exact absurd h (by omega)
 |42,h=>exact absurd h (by omega)
 |43,h=>exact absurd h (by omega)
 |44,h=>exact absurd h (by omega)
 |45,_=>have e:(none:Option Int)=some y:=hy;cases e
 |46,_=>have e:(none:Option Int)=some y:=hy;cases e
 |47,_=>have e:(none:Option Int)=some y:=hy;cases e
 |48,_=>have e:(none:Option Int)=some y:=hy;cases e
 |49,_=>have e:(none:Option Int)=some y:=hy;cases e
 |50,_=>have e:(none:Option Int)=some y:=hy;cases e
 |51,_=>have e:some (IntKind.u64.wrap (ofF c.imm*4096))=some y:=hy;cases e;exact uB_wrap _
 |52,_=>have e:some (IntKind.u64.wrap (IntKind.u64.wrap (ofF c.imm*4096)+m.pl))=some y:=hy;cases e;exact uB_wrap _
 |53,_=>have e:some (nxt m)=some y:=hy;cases e;exact uB_wrap _
 |54,_=>have e:some (nxt m)=some y:=hy;cases e;exact uB_wrap _
 |k+55,h=>exact absurd h (by omega)
theorem uB_next {m:MS}{op:Int} (ho:plainB op=true) (c:Cand):uB (nextF m op c)=true:=by
 simp only[plainB,Bool.or_eq_true,Bool.and_eq_true,decide_eq_true_eq]at ho
 obtain⟨k,rfl⟩:∃ k:Nat,op=Int.ofNat k:=⟨op.toNat,by simp;omega⟩
 have h:(1<=k/\k<=37)\/(45<=k/\k<=54):=by simp only[Int.ofNat_eq_natCast]at ho;omega
 have hc:∀ b:Bool,uB (bif b then IntKind.u64.wrap (m.pl+ofF c.imm)else nxt m)=true:=fun b=>by cases b<;>exact uB_wrap _
 match k,h with
 |0,h=>exact absurd h (by omega)
 |1,_=>exact uB_wrap (m.pl+4)
 |2,_=>exact uB_wrap (m.pl+4)
 |3,_=>exact uB_wrap (m.pl+4)
 |4,_=>exact uB_wrap (m.pl+4)
 |5,_=>exact uB_wrap (m.pl+4)
 |6,_=>exact uB_wrap (m.pl+4)
 |7,_=>exact uB_wrap (m.pl+4)
 |8,_=>exact uB_wrap (m.pl+4)
 |9,_=>exact uB_wrap (m.pl+4)
 |10,_=>exact uB_wrap (m.pl+4)
 |11,_=>exact uB_wrap (m.pl+4)
 |12,_=>exact uB_wrap (m.pl+4)
 |13,_=>exact uB_wrap (m.pl+4)
 |14,_=>exact uB_wrap (m.pl+4)
 |15,_=>exact uB_wrap (m.pl+4)
 |16,_=>exact uB_wrap (m.pl+4)
 |17,_=>exact uB_wrap (m.pl+4)
 |18,_=>exact uB_wrap (m.pl+4)
 |19,_=>exact uB_wrap (m.pl+4)
 |20,_=>exact uB_wrap (m.pl+4)
 |21,_=>exact uB_wrap (m.pl+4)
 |22,_=>exact uB_wrap (m.pl+4)
 |23,_=>exact uB_wrap (m.pl+4)
 |24,_=>exact uB_wrap (m.pl+4)
 |25,_=>exact uB_wrap (m.pl+4)
 |26,_=>exact uB_wrap (m.pl+4)
 |27,_=>exact uB_wrap (m.pl+4)
 |28,_=>exact uB_wrap (m.pl+4)
 |29,_=>exact uB_wrap (m.pl+4)
 |30,_=>exact uB_wrap (m.pl+4)
 |31,_=>exact uB_wrap (m.pl+4)
 |32,_=>exact uB_wrap (m.pl+4)
 |33,_=>exact uB_wrap (m.pl+4)
 |34,_=>exact uB_wrap (m.pl+4)
 |35,_=>exact uB_wrap (m.pl+4)
 |36,_=>exact uB_wrap (m.pl+4)
 |37,_=>exact uB_wrap (m.pl+4)
 |38,h=>exact absurd h (by omega)
 |39,h=>exact absurd h (by omega)
 |40,h=>exact absurd h (by omega)
 |41,h=>exact absurd h (by omega)
 |42,h=>exact absurd h (by omega)
 |43,h=>exact absurd h (by omega)
 |44,h=>exact absurd h (by omega)
 |45,_=>exact hc (takenF 45 (m.x c.rs1.toNat) (m.x c.rs2.toNat))
 |46,_=>exact hc (takenF 46 (m.x c.rs1.toNat) (m.x c.rs2.toNat))
 |47,_=>exact hc (takenF 47 (m.x c.rs1.toNat) (m.x c.rs2.toNat))
 |48,_=>exact hc (takenF 48 (m.x c.rs1.toNat) (m.x c.rs2.toNat))
 |49,_=>exact hc (takenF 49 (m.x c.rs1.toNat) (m.x c.rs2.toNat))
 |50,_=>exact hc (takenF 50 (m.x c.rs1.toNat) (m.x c.rs2.toNat))
 |51,_=>exact uB_wrap (m.pl+4)
 |52,_=>exact uB_wrap (m.pl+4)
 |53,_=>exact uB_wrap (m.pl+ofF c.imm)
 |54,_=>exact uB_bits .andNot (IntKind.u64.wrap (m.x c.rs1.toNat+ofF c.imm)) 1
 |k+55,h=>exact absurd h (by omega)
end Go.X
