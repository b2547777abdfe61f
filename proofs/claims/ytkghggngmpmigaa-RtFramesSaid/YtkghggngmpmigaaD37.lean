import Derived.Test.YtkghggngmpmigaaD36
set_option linter.all false
namespace Go.X
open Go Go.Proofs
noncomputable def conSt0 (pre:List (Nat × Blk)) (ret:Bool) (m2:MS) (r:Blk):Con Try.prog where
 f:=56
 run:=fun vs h n=>some (mkH pre,.bool ret,updS m2 r,0,decP (vs=[pR]/\Has h pre/\Step0 pre ret m2 r)&&Nat.ble 103 n)
 ok:=fun vs h n pre' v upd news hx=>by
  simp only[Option.some.injEq,Prod.mk.injEq,Bool.and_eq_true]at hx
  obtain⟨rfl,rfl,rfl,rfl,hA,hn⟩:=hx
  obtain⟨rfl,hh,hc⟩:=of_decP hA
  exact⟨has_pre hh hc.1,hc.2 n (ble_le hn)⟩
noncomputable def conStO (pre:List (Nat × Blk)) (m2:MS) (vin se:Value) (l:Nat) (b:Blk) (mk:Int) (wt:Bool):Con Try.prog where
 f:=56
 run:=fun vs h n=>some (mkH pre,.bool true,(n,some b) :: updX m2 (rB vin (newS n l) mk wt se) 101,1,decP (vs=[pR]/\Has h pre/\StepO pre m2 vin se l b mk wt)&&Nat.ble 103 n)
 ok:=fun vs h n pre' v upd news hx=>by
  simp only[Option.some.injEq,Prod.mk.injEq,Bool.and_eq_true]at hx
  obtain⟨rfl,rfl,rfl,rfl,hA,hn⟩:=hx
  obtain⟨rfl,hh,hc⟩:=of_decP hA
  exact⟨has_pre hh hc.1,hc.2 n (ble_le hn)⟩
noncomputable def conStW (pre:List (Nat × Blk)) (m2:MS) (vin vout:Value) (l:Nat) (b:Blk) (mk:Int) (wt:Bool):Con Try.prog where
 f:=56
 run:=fun vs h n=>some (mkH pre,.bool true,(n,some b) :: updX m2 (rB vin vout mk wt (newS n l)) 102,1,decP (vs=[pR]/\Has h pre/\StepW pre m2 vin vout l b mk wt)&&Nat.ble 103 n)
 ok:=fun vs h n pre' v upd news hx=>by
  simp only[Option.some.injEq,Prod.mk.injEq,Bool.and_eq_true]at hx
  obtain⟨rfl,rfl,rfl,rfl,hA,hn⟩:=hx
  obtain⟨rfl,hh,hc⟩:=of_decP hA
  exact⟨has_pre hh hc.1,hc.2 n (ble_le hn)⟩
def res0:Blk:=.var [.int .i64 0,.int .u8 0,.int .i64 0,.slice none 0 0,.int .i64 0,.int .i64 0]
def extL (bi bo bs:Bool) (b94 b101 b102:Blk):List (Nat × Blk):=(bif bi then[(40,b94)]else[])++((bif bo then[(101,b101)]else[])++(bif bs then[(102,b102)]else[]))
def extI (bi bo bs:Bool):List Nat:=(bif bi then[40]else[])++((bif bo then[101]else[])++(bif bs then[102]else[]))
abbrev core48 (m:MS) (r:Blk):List (Nat × Blk):=[(90,m.memB),(91,m.kn.blk),(92,m.mB),(100,r),(103,res0)]
abbrev T48 (n fuel:Int):Tm:=mkT [11,10,8,2,0] [.int .i64 n,pR,.pointer (some ⟨103,0,some 0⟩),.int .i64 fuel,pM]
noncomputable abbrev sc480 (pre:List (Nat × Blk)) (ret:Bool) (m2:MS) (r:Blk):Short:=scOf [conSt0 pre ret m2 r]
noncomputable abbrev sc48O (pre:List (Nat × Blk)) (m2:MS) (vin se:Value) (l:Nat) (b:Blk) (mk:Int) (wt:Bool):Short:=scOf [conStO pre m2 vin se l b mk wt]
noncomputable abbrev sc48W (pre:List (Nat × Blk)) (m2:MS) (vin vout:Value) (l:Nat) (b:Blk) (mk:Int) (wt:Bool):Short:=scOf [conStW pre m2 vin vout l b mk wt]
def stopM (m:MS):MS:={ m with st:=4 }
def vO (bo:Bool) (n:Nat):Value:=bif bo then .slice (some ⟨101,0,none⟩) n n else .slice none 0 0
def vW (bs:Bool) (n:Nat):Value:=bif bs then .slice (some ⟨102,0,none⟩) n n else .slice none 0 0
def vI (bi:Bool) (k L C:Nat):Value:=bif bi then .slice (some ⟨40,k,none⟩) L C else .slice none 0 0
def resB (m:MS) (vout:Value) (n mk:Int):Blk:=.var [.int .i64 m.st,.int .u8 m.cd,.int .i64 0,vout,.int .i64 n,.int .i64 mk]
theorem p48_c (m:MS) (vin vout se:Value) (mk n fuel:Int) (wt:Bool) (bi bo bs:Bool) (b94 b101 b102:Blk):walk (lookF FL) noSc 1000 x48_5 (T48 n fuel) (mkH (core48 m (rB vin vout mk wt se)++extL bi bo bs b94 b101 b102)) 104 (Pj.mk [] [] [11,10,8,2,0] ([90,91,92,100,103]++extI bi bo bs)) j0_ j0_=bif ((decide (n<fuel)||!decide (n<fuel))&&true||false)&&((decide (n<fuel)&&true||!decide (n<fuel))&&((decide (n<fuel)&&true||!decide (n<fuel))&&((decide (n<fuel)&&true||!decide (n<fuel))&&((decide (n<fuel)&&true||!decide (n<fuel))&&true))))then bif bif decide (n<fuel)then m.st==0 else false then some (Stop.mk (Leaf.mk [] [] Exit.normal 104) none)else some (Stop.mk (Leaf.mk [] [] (Exit.exit 0) 104) none)else none:=by cases bi<;>cases bo<;>cases bs<;>kernel_rfl
theorem p48_0 (m m2:MS) (vin vout se vin2 vout2 se2:Value) (mk mk2 n fuel:Int) (wt ret:Bool) (pre:List (Nat × Blk)) (bi bo bs:Bool) (b94 b101 b102:Blk):walk (lookF FL) (sc480 pre ret m2 (rB vin2 vout2 mk2 wt se2)) 1000 x48_13 (T48 n fuel) (mkH (core48 m (rB vin vout mk wt se)++extL bi bo bs b94 b101 b102)) 104 (Pj.mk [11] [Ref.id 90,Ref.id 91,Ref.id 92,Ref.id 100] [10,8,2,0] (103 :: extI bi bo bs)) j0_ j0_=bif decP ([pR]=[pR]/\Has (mkH (core48 m (rB vin vout mk wt se)++extL bi bo bs b94 b101 b102)) pre/\Step0 pre ret m2 (rB vin2 vout2 mk2 wt se2))&&true&&true then bif !ret then some (Stop.mk (Leaf.mk [some (true,Value.int IntKind.i64 n)] [(90,some m2.memB),(91,some m2.kn.blk),(92,some (stopM m2).mB),(100,some (rB (vin2) (vout2) mk2 wt (se2)))] (Exit.exit 0) 104) none)else some (Stop.mk (Leaf.mk [some (true,Value.int IntKind.i64 (IntKind.i64.wrap (n+1)))] [(90,some m2.memB),(91,some m2.kn.blk),(92,some m2.mB),(100,some (rB (vin2) (vout2) mk2 wt (se2)))] Exit.normal 104) none)else none:=by cases bi<;>cases bo<;>cases bs<;>kernel_rfl
theorem p48_O (m m2:MS) (vin vout se vin2:Value) (mk n fuel:Int) (wt:Bool) (pre:List (Nat × Blk)) (b:Blk) (l:Nat) (bi bo bs:Bool) (b94 b101 b102:Blk):walk (lookF FL) (sc48O pre m2 vin2 se l b mk wt) 1000 x48_13 (T48 n fuel) (mkH (core48 m (rB vin vout mk wt se)++extL bi bo bs b94 b101 b102)) 104 (Pj.mk [11] [Ref.id 90,Ref.id 91,Ref.id 92,Ref.id 100,Ref.cell 100 2] [10,8,2,0] (103 :: extI bi false bs)) j0_ j0_=bif decP ([pR]=[pR]/\Has (mkH (core48 m (rB vin vout mk wt se)++extL bi bo bs b94 b101 b102)) pre/\StepO pre m2 vin2 se l b mk wt)&&true&&true then some (Stop.mk (Leaf.mk [some (true,Value.int IntKind.i64 (IntKind.i64.wrap (n+1)))] [(90,some m2.memB),(91,some m2.kn.blk),(92,some m2.mB),(100,some (rB (vin2) (Value.slice (some (Addr.mk 104 0 none)) l l) mk wt (se))),(104,some b)] Exit.normal 105) none)else none:=by cases bi<;>cases bo<;>cases bs<;>kernel_rfl
theorem p48_W (m m2:MS) (vin vout se vout2:Value) (mk n fuel:Int) (wt:Bool) (pre:List (Nat × Blk)) (b:Blk) (l:Nat) (bi bo bs:Bool) (b94 b101 b102:Blk):walk (lookF FL) (sc48W pre m2 vin vout2 l b mk wt) 1000 x48_13 (T48 n fuel) (mkH (core48 m (rB vin vout mk wt se)++extL bi bo bs b94 b101 b102)) 104 (Pj.mk [11] [Ref.id 90,Ref.id 91,Ref.id 92,Ref.id 100,Ref.cell 100 5] [10,8,2,0] (103 :: extI bi bo false)) j0_ j0_=bif decP ([pR]=[pR]/\Has (mkH (core48 m (rB vin vout mk wt se)++extL bi bo bs b94 b101 b102)) pre/\StepW pre m2 vin vout2 l b mk wt)&&true&&true then some (Stop.mk (Leaf.mk [some (true,Value.int IntKind.i64 (IntKind.i64.wrap (n+1)))] [(90,some m2.memB),(91,some m2.kn.blk),(92,some m2.mB),(100,some (rB (vin) (vout2) mk wt (Value.slice (some (Addr.mk 104 0 none)) l l))),(104,some b)] Exit.normal 105) none)else none:=by cases bi<;>cases bo<;>cases bs<;>kernel_rfl
theorem p48_e (m:MS) (vin:Value) (mk n fuel:Int) (wt:Bool) (bi bo bs:Bool) (oN sN:Nat) (b94 b101 b102:Blk):walk (lookF FL) noSc 1000 x48_18 (T48 n fuel) (mkH (core48 m (rB vin (vO bo oN) mk wt (vW bs sN))++extL bi bo bs b94 b101 b102)) 104 j0_ (Pj.mk [9,8] [Ref.id 103] [] ([90,91,92,100]++extI bi bo bs)) j0_ =
 some (Stop.mk (Leaf.mk [some (true,vW bs sN),some (true,Value.pointer (some (Addr.mk 103 0 (some 0))))] [(103,some (resB m (vO bo oN) n mk))] Exit.ret 104) none):=by cases bi<;>cases bo<;>cases bs<;>kernel_rfl
theorem p48_a (m:MS) (bi:Bool) (k L C:Nat) (fuel:Int) (wt:Bool) (b94:Blk):walk (lookF FL) noSc 1000 x48 (argTm 0 [pM,vI bi k L C,.int .i64 fuel,.bool wt]) (mkH (m.H++extL bi false false b94 b94 b94)) 100 j0_ j0_ (Pj.mk [11,10,8] [.tmp 10,.tmp 8] [2,0] ([90,91,92]++extI bi false false)) =
 some (Stop.mk (Leaf.mk [some (true,.int .i64 0),some (true,.pointer (some ⟨101,0,some 0⟩)),some (true,.pointer (some ⟨100,0,some 0⟩))] [(101,some (rB (vI bi k L C) (.slice none 0 0) 0 wt (.slice none 0 0))),(100,some res0)] Exit.normal 102) (some (x48_14,[Cx.bl 0,Cx.sq x48_18]))):=by cases bi<;>kernel_rfl
structure RSt where
 m:MS
 ik:Nat
 oN:Nat
 of:Nat->Int
 sN:Nat
 sf:Nat->List Value
 mark:Int
structure REnv where
 bi:Bool
 T:Nat
 inp:Nat->Int
 k0:Nat
 L0:Nat
 C0:Nat
 wt:Bool
def bO:Nat->Bool
 |0=>false
 |_+1=>true
def seB (n:Nat) (f:Nat->List Value):Blk:=.rows n 4 f true false
def RSt.vin (e:REnv) (s:RSt):Value:=vI e.bi (e.k0+s.ik) (e.L0-s.ik) (e.C0-s.ik)
def RSt.rb (e:REnv) (s:RSt):Blk:=rB (s.vin e) (vO (bO s.oN) s.oN) s.mark e.wt (vW (bO s.sN) s.sN)
def RSt.ex (e:REnv) (s:RSt):List (Nat × Blk):=extL e.bi (bO s.oN) (bO s.sN) (inB e.T e.inp) (outB s.oN s.of) (seB s.sN s.sf)
def RSt.hp (e:REnv) (s:RSt):List (Nat × Blk):=core48 s.m (s.rb e)++s.ex e
def S48 (e:REnv) (fuel:Int) (s:RSt) (n:Int):St:=⟨T48 n fuel,mkH (s.hp e),104⟩
inductive Next (e:REnv) (s s':RSt):Prop
 |st0 (pre:List (Nat × Blk)) (h1:Has (mkH (s.hp e)) pre) (h2:Step0 pre true s'.m (s'.rb e)) (h3:s'.oN=s.oN/\s'.of=s.of/\s'.sN=s.sN/\s'.sf=s.sf)
 |stO (pre:List (Nat × Blk)) (h1:Has (mkH (s.hp e)) pre) (h2:StepO pre s'.m (s'.vin e) (vW (bO s.sN) s.sN) s'.oN (outB s'.oN s'.of) s'.mark e.wt) (h3:0<s'.oN/\s'.sN=s.sN/\s'.sf=s.sf/\s'.mark=s.mark)
 |stW (pre:List (Nat × Blk)) (h1:Has (mkH (s.hp e)) pre) (h2:StepW pre s'.m (s.vin e) (vO (bO s.oN) s.oN) s'.sN (seB s'.sN s'.sf) s'.mark e.wt) (h3:0<s'.sN/\s'.oN=s.oN/\s'.of=s.of/\s'.mark=s.mark/\s'.ik=s.ik)
def Fault (e:REnv) (s s':RSt):Prop:=∃ pre,Has (mkH (s.hp e)) pre/\Step0 pre false s'.m (s'.rb e)/\s'.oN=s.oN/\s'.of=s.of/\s'.sN=s.sN/\s'.sf=s.sf
def RSt.stop (s:RSt):RSt:={ s with m:=stopM s.m }
def runF (step:RSt->Bool × RSt):Nat->RSt->Nat->RSt × Nat
 |0,s,n=>(s,n)
 |k+1,s,n=>bif s.m.st==0 then(bif (step s).1 then runF step k (step s).2 (n+1)else((step s).2.stop,n))else(s,n)
theorem bis_seB {P:Program}{σ:Nm}{n:Nat}{f:Nat->List Value} (h:∀ j,j<n->rnL σ (f j)=f j):BIs P σ (seB n f) (seB n f):=⟨rfl,rfl,h,.inl rfl,.inr rfl⟩
def SeOK (n:Nat) (f:Nat->List Value):Prop:=∀ j,j<n->∀ σ:Nm,rnL σ (f j)=f j
theorem bis_rBv {P:Program}{σ:Nm}{bi bo bs:Bool}{k L C oN sN:Nat}{mk:Int}{wt:Bool} (s92:σ 92=some 92) (s40:bi=true->σ 40=some 40) (s101:bo=true->σ 101=some 101) (s102:bs=true->σ 102=some 102) :
  BIs P σ (rB (vI bi k L C) (vO bo oN) mk wt (vW bs sN)) (rB (vI bi k L C) (vO bo oN) mk wt (vW bs sN)):=by
 show[ren σ 4 pM,ren σ 4 (vI bi k L C),ren σ 4 (vO bo oN),.int .i64 mk,.bool wt,ren σ 4 (vW bs sN)]=_
 have e0:ren σ 4 pM=pM:=by simp only[ren,renP,s92]
 have e1:ren σ 4 (vI bi k L C)=vI bi k L C:=by
  cases bi with
  |false=>rfl
  |true=>simp only[vI,cond_true,ren,renP,s40 rfl]
 have e2:ren σ 4 (vO bo oN)=vO bo oN:=by
  cases bo with
  |false=>rfl
  |true=>simp only[vO,cond_true,ren,renP,s101 rfl]
 have e3:ren σ 4 (vW bs sN)=vW bs sN:=by
  cases bs with
  |false=>rfl
  |true=>simp only[vW,cond_true,ren,renP,s102 rfl]
 rw[e0,e1,e2,e3]
abbrev pr48 (bi bo bs:Bool):Pj:=⟨[11],[.id 90,.id 91,.id 92,.id 100],[10,8,2,0],103 :: extI bi bo bs⟩
theorem leaf48 {E:FEnv} (hP:E.P=Try.prog) (hn:E.B.n=100) (bi bo bs:Bool){m0 m1:MS}{r0:Blk} {n n' fuel:Int}{k L C oN sN:Nat}{mk:Int}{wt:Bool}{T:Nat}{inp of:Nat->Int}{sf:Nat->List Value} (hse:SeOK sN sf) (ex:Exit) :
  LeafTo E ([11]++[10,8,2,0]) (ext (pr48 bi bo bs) (T48 n fuel) (mkH (core48 m0 r0++extL bi bo bs (inB T inp) (outB oN of) (seB sN sf)))
   ⟨[some (true,.int .i64 n')],[(90,some m1.memB),(91,some m1.kn.blk),(92,some m1.mB),(100,some (rB (vI bi k L C) (vO bo oN) mk wt (vW bs sN)))],ex,104⟩)
   ⟨T48 n' fuel,mkH (core48 m1 (rB (vI bi k L C) (vO bo oN) mk wt (vW bs sN))++extL bi bo bs (inB T inp) (outB oN of) (seB sN sf)),104⟩:=by
 refine⟨_,_,_,rfl,?_,?_,?_⟩<;>rw[hn]
 ·cases bi<;>cases bo<;>cases bs<;>rfl
 ·cases bi<;>cases bo<;>cases bs<;>exact⟨rfl,rfl,rfl,rfl,rfl,trivial⟩
 ·rw[hP]
  refine⟨bis_mem,bis_kn,bis_mBg rfl rfl,bis_rBv rfl (fun _=>rfl) ?_ ?_,?_⟩
  ·intro h;subst h;cases bi<;>cases bs<;>rfl
  ·intro h;subst h;cases bi<;>cases bo<;>rfl
  ·cases bi<;>cases bo<;>cases bs
   ·exact⟨rfl,trivial⟩
   ·exact⟨rfl,bis_seB fun j hj=>hse j hj _,trivial⟩
   ·exact⟨rfl,bis_outB,trivial⟩
   ·exact⟨rfl,bis_outB,bis_seB fun j hj=>hse j hj _,trivial⟩
   ·exact⟨rfl,bis_inB,trivial⟩
   ·exact⟨rfl,bis_inB,bis_seB fun j hj=>hse j hj _,trivial⟩
   ·exact⟨rfl,bis_inB,bis_outB,trivial⟩
   ·exact⟨rfl,bis_inB,bis_outB,bis_seB fun j hj=>hse j hj _,trivial⟩
abbrev prC (bi bo bs:Bool):Pj:=⟨[],[],[11,10,8,2,0],[90,91,92,100,103]++extI bi bo bs⟩
theorem leafQ {E:FEnv} (hP:E.P=Try.prog) (hn:E.B.n=100) (bi bo bs:Bool){m:MS}{n fuel:Int}{k L C oN sN:Nat}{mk:Int}{wt:Bool}{T:Nat}{inp of:Nat->Int}{sf:Nat->List Value} (hse:SeOK sN sf) (ex:Exit) :
  LeafTo E ([]++[11,10,8,2,0]) (ext (prC bi bo bs) (T48 n fuel) (mkH (core48 m (rB (vI bi k L C) (vO bo oN) mk wt (vW bs sN))++extL bi bo bs (inB T inp) (outB oN of) (seB sN sf))) ⟨[],[],ex,104⟩)
   ⟨T48 n fuel,mkH (core48 m (rB (vI bi k L C) (vO bo oN) mk wt (vW bs sN))++extL bi bo bs (inB T inp) (outB oN of) (seB sN sf)),104⟩:=by
 refine⟨_,_,_,rfl,?_,?_,?_⟩<;>rw[hn]
 ·cases bi<;>cases bo<;>cases bs<;>rfl
 ·cases bi<;>cases bo<;>cases bs<;>exact⟨rfl,rfl,rfl,rfl,rfl,trivial⟩
 ·rw[hP]
  refine⟨bis_mem,bis_kn,bis_mBg rfl rfl,bis_rBv rfl (fun _=>rfl) ?_ ?_,?_⟩
  ·intro h;subst h;cases bi<;>cases bs<;>rfl
  ·intro h;subst h;cases bi<;>cases bo<;>rfl
  ·cases bi<;>cases bo<;>cases bs
   ·exact⟨rfl,trivial⟩
   ·exact⟨rfl,bis_seB fun j hj=>hse j hj _,trivial⟩
   ·exact⟨rfl,bis_outB,trivial⟩
   ·exact⟨rfl,bis_outB,bis_seB fun j hj=>hse j hj _,trivial⟩
   ·exact⟨rfl,bis_inB,trivial⟩
   ·exact⟨rfl,bis_inB,bis_seB fun j hj=>hse j hj _,trivial⟩
   ·exact⟨rfl,bis_inB,bis_outB,trivial⟩
   ·exact⟨rfl,bis_inB,bis_outB,bis_seB fun j hj=>hse j hj _,trivial⟩
theorem c48 (m:MS) (vin vout se:Value) (mk n fuel:Int) (wt bi bo bs:Bool) (b40 b101 b102:Blk):walk (lookF FL) noSc 1000 x48_5 (T48 n fuel) (mkH (core48 m (rB vin vout mk wt se)++extL bi bo bs b40 b101 b102)) 104 (prC bi bo bs) j0_ j0_ =
  bif decide (n<fuel)&&(m.st==0)then some (Stop.mk (Leaf.mk [] [] Exit.normal 104) none)else some (Stop.mk (Leaf.mk [] [] (Exit.exit 0) 104) none):=by
 rw[p48_c]
 cases decide (n<fuel)<;>cases m.st==0<;>rfl
theorem leafO {E:FEnv} (hP:E.P=Try.prog) (hn:E.B.n=100) (bi bo bs:Bool){m0 m1:MS}{r0 b0:Blk} {n n' fuel:Int}{k L C oN sN:Nat}{mk:Int}{wt:Bool}{T:Nat}{inp of:Nat->Int}{sf:Nat->List Value} (hse:SeOK sN sf) (ex:Exit) :
  LeafTo E ([11]++[10,8,2,0]) (ext ⟨[11],[.id 90,.id 91,.id 92,.id 100,.cell 100 2],[10,8,2,0],103 :: extI bi false bs⟩ (T48 n fuel) (mkH (core48 m0 r0++extL bi bo bs (inB T inp) b0 (seB sN sf)))
   ⟨[some (true,.int .i64 n')],[(90,some m1.memB),(91,some m1.kn.blk),(92,some m1.mB),(100,some (rB (vI bi k L C) (newS 104 oN) mk wt (vW bs sN))),(104,some (outB oN of))],ex,105⟩)
   ⟨T48 n' fuel,mkH ([(90,m1.memB),(91,m1.kn.blk),(92,m1.mB),(100,rB (vI bi k L C) (newS 101 oN) mk wt (vW bs sN)),(101,outB oN of),(103,res0)]++extL bi false bs (inB T inp) (outB oN of) (seB sN sf)),104⟩:=by
 have hr:∀ {σ:Nm},σ 92=some 92->(bi=true->σ 40=some 40)->σ 101=some 104->(bs=true->σ 102=some 102)->BIs Try.prog σ (rB (vI bi k L C) (newS 101 oN) mk wt (vW bs sN)) (rB (vI bi k L C) (newS 104 oN) mk wt (vW bs sN)):=by
  intro σ s92 s40 s101 s102
  show[ren σ 4 pM,ren σ 4 (vI bi k L C),ren σ 4 (newS 101 oN),.int .i64 mk,.bool wt,ren σ 4 (vW bs sN)]=_
  have e0:ren σ 4 pM=pM:=by simp only[ren,renP,s92]
  have e1:ren σ 4 (vI bi k L C)=vI bi k L C:=by
   cases bi with
   |false=>rfl
   |true=>simp only[vI,cond_true,ren,renP,s40 rfl]
  have e2:ren σ 4 (newS 101 oN)=newS 104 oN:=stay_newS s101
  have e3:ren σ 4 (vW bs sN)=vW bs sN:=by
   cases bs with
   |false=>rfl
   |true=>simp only[vW,cond_true,ren,renP,s102 rfl]
  rw[e0,e1,e2,e3]
 refine⟨_,_,_,rfl,?_,?_,?_⟩<;>rw[hn]
 ·cases bi<;>cases bo<;>cases bs<;>rfl
 ·cases bi<;>cases bo<;>cases bs<;>exact⟨rfl,rfl,rfl,rfl,rfl,trivial⟩
 ·rw[hP]
  refine⟨bis_mem,bis_kn,bis_mBg rfl rfl,hr rfl (fun _=>rfl) ?_ ?_,bis_outB,?_⟩
  ·cases bi<;>cases bo<;>cases bs<;>rfl
  ·intro h;subst h;cases bi<;>cases bo<;>rfl
  ·cases bi<;>cases bo<;>cases bs
   ·exact⟨rfl,trivial⟩
   ·exact⟨rfl,bis_seB fun j hj=>hse j hj _,trivial⟩
   ·exact⟨rfl,trivial⟩
   ·exact⟨rfl,bis_seB fun j hj=>hse j hj _,trivial⟩
   ·exact⟨rfl,bis_inB,trivial⟩
   ·exact⟨rfl,bis_inB,bis_seB fun j hj=>hse j hj _,trivial⟩
   ·exact⟨rfl,bis_inB,trivial⟩
   ·exact⟨rfl,bis_inB,bis_seB fun j hj=>hse j hj _,trivial⟩
theorem leafW {E:FEnv} (hP:E.P=Try.prog) (hn:E.B.n=100) (bi bo bs:Bool){m0 m1:MS}{r0 b0:Blk} {n n' fuel:Int}{k L C oN sN:Nat}{mk:Int}{wt:Bool}{T:Nat}{inp of:Nat->Int}{sf:Nat->List Value} (hse:SeOK sN sf) (ex:Exit) :
  LeafTo E ([11]++[10,8,2,0]) (ext ⟨[11],[.id 90,.id 91,.id 92,.id 100,.cell 100 5],[10,8,2,0],103 :: extI bi bo false⟩ (T48 n fuel) (mkH (core48 m0 r0++extL bi bo bs (inB T inp) (outB oN of) b0))
   ⟨[some (true,.int .i64 n')],[(90,some m1.memB),(91,some m1.kn.blk),(92,some m1.mB),(100,some (rB (vI bi k L C) (vO bo oN) mk wt (newS 104 sN))),(104,some (seB sN sf))],ex,105⟩)
   ⟨T48 n' fuel,mkH ([(90,m1.memB),(91,m1.kn.blk),(92,m1.mB),(100,rB (vI bi k L C) (vO bo oN) mk wt (newS 102 sN)),(102,seB sN sf),(103,res0)]++extL bi bo false (inB T inp) (outB oN of) (seB sN sf)),104⟩:=by
 have hr:∀ {σ:Nm},σ 92=some 92->(bi=true->σ 40=some 40)->(bo=true->σ 101=some 101)->σ 102=some 104->BIs Try.prog σ (rB (vI bi k L C) (vO bo oN) mk wt (newS 102 sN)) (rB (vI bi k L C) (vO bo oN) mk wt (newS 104 sN)):=by
  intro σ s92 s40 s101 s102
  show[ren σ 4 pM,ren σ 4 (vI bi k L C),ren σ 4 (vO bo oN),.int .i64 mk,.bool wt,ren σ 4 (newS 102 sN)]=_
  have e0:ren σ 4 pM=pM:=by simp only[ren,renP,s92]
  have e1:ren σ 4 (vI bi k L C)=vI bi k L C:=by
   cases bi with
   |false=>rfl
   |true=>simp only[vI,cond_true,ren,renP,s40 rfl]
  have e3:ren σ 4 (newS 102 sN)=newS 104 sN:=stay_newS s102
  have e2:ren σ 4 (vO bo oN)=vO bo oN:=by
   cases bo with
   |false=>rfl
   |true=>simp only[vO,cond_true,ren,renP,s101 rfl]
  rw[e0,e1,e2,e3]
 refine⟨_,_,_,rfl,?_,?_,?_⟩<;>rw[hn]
 ·cases bi<;>cases bo<;>cases bs<;>rfl
 ·cases bi<;>cases bo<;>cases bs<;>exact⟨rfl,rfl,rfl,rfl,rfl,trivial⟩
 ·rw[hP]
  refine⟨bis_mem,bis_kn,bis_mBg rfl rfl,hr rfl (fun _=>rfl) ?_ ?_,bis_seB fun j hj=>hse j hj _,?_⟩
  ·intro h;subst h;cases bi<;>cases bs<;>rfl
  ·cases bi<;>cases bo<;>cases bs<;>rfl
  ·cases bi<;>cases bo<;>cases bs
   ·exact⟨rfl,trivial⟩
   ·exact⟨rfl,trivial⟩
   ·exact⟨rfl,bis_outB,trivial⟩
   ·exact⟨rfl,bis_outB,trivial⟩
   ·exact⟨rfl,bis_inB,trivial⟩
   ·exact⟨rfl,bis_inB,trivial⟩
   ·exact⟨rfl,bis_inB,bis_outB,trivial⟩
   ·exact⟨rfl,bis_inB,bis_outB,trivial⟩
theorem has_sub {h:Hp}:∀ {A:List (Nat × Blk)},Has h A->∀ id b,hget (mkH A) id=some b->hget h id=some b
 |[],_,id,b,hb=>by cases hb
 |(k,x) :: l,hh,id,b,hb=>by
  simp only[mkH,hget]at hb
  cases hk:Nat.beq k id with
  |true =>
   rw[hk]at hb
   simp only[cond_true,Option.some.injEq]at hb
   subst hb
   rw[<- Nat.eq_of_beq_eq_true hk]
   exact hh.1
  |false=>rw[hk]at hb;exact has_sub hh.2 id b hb
theorem hasO (bi bs:Bool) (m1:MS) (r:Blk) (b40 b101 b101' b102:Blk):Has (mkH ([(90,m1.memB),(91,m1.kn.blk),(92,m1.mB),(100,r),(101,b101),(103,res0)]++extL bi false bs b40 b101' b102)) (core48 m1 r++extL bi true bs b40 b101 b102):=by
 cases bi<;>cases bs<;>first|exact⟨rfl,rfl,rfl,rfl,rfl,rfl,trivial⟩|exact⟨rfl,rfl,rfl,rfl,rfl,rfl,rfl,trivial⟩|exact⟨rfl,rfl,rfl,rfl,rfl,rfl,rfl,rfl,trivial⟩
theorem hasW (bi bo:Bool) (m1:MS) (r:Blk) (b40 b101 b102 b102':Blk):Has (mkH ([(90,m1.memB),(91,m1.kn.blk),(92,m1.mB),(100,r),(102,b102),(103,res0)]++extL bi bo false b40 b101 b102')) (core48 m1 r++extL bi bo true b40 b101 b102):=by
 cases bi<;>cases bo<;>first|exact⟨rfl,rfl,rfl,rfl,rfl,rfl,trivial⟩|exact⟨rfl,rfl,rfl,rfl,rfl,rfl,rfl,trivial⟩|exact⟨rfl,rfl,rfl,rfl,rfl,rfl,rfl,rfl,trivial⟩
theorem bO_pos {n:Nat} (h:0<n):bO n=true:=by
 cases n with
 |zero=>omega
 |succ n=>rfl
theorem newS_vO {n:Nat} (h:0<n):newS 101 n=vO (bO n) n:=by rw[bO_pos h];rfl
theorem newS_vW {n:Nat} (h:0<n):newS 102 n=vW (bO n) n:=by rw[bO_pos h];rfl
structure Steps48 (e:REnv) (fuel:Int) (step:RSt->Bool × RSt) (OK:Nat->RSt->Prop):Prop where
 se:∀ n s,OK n s->SeOK s.sN s.sf
 go:∀ n s s',OK n s->(n:Int)<fuel->s.m.st=0->step s=(true,s')->Next e s s'/\OK (n+1) s'
 no:∀ n s s',OK n s->(n:Int)<fuel->s.m.st=0->step s=(false,s')->Fault e s s'/\OK n s'
theorem runF_go {step:RSt->Bool × RSt} {s s':RSt}{k n:Nat} (h0:(s.m.st==0)=true) (h:step s=(true,s')):runF step (k+1) s n=runF step k s' (n+1):=by
 simp only[runF,h0,cond_true,h,cond_false]
theorem runF_no {step:RSt->Bool × RSt} {s s':RSt}{k n:Nat} (h0:(s.m.st==0)=true) (h:step s=(false,s')):runF step (k+1) s n=(s'.stop,n):=by
 simp only[runF,h0,cond_true,h,cond_false]
theorem runF_end {step:RSt->Bool × RSt}{s:RSt}{k n:Nat} (h0:(s.m.st==0)=false):runF step k s n=(s,n):=by
 cases k with
 |zero=>rfl
 |succ k=>simp only[runF,h0,cond_false]
theorem loop48 {E:FEnv}{Q:Post} (hcl:Cl E.toEnv Q) (hP:E.P=Try.prog) (hn:E.B.n=100){e:REnv}{step:RSt->Bool × RSt}{OK:Nat->RSt->Prop}{fuel:Int} (H:Steps48 e fuel step OK) (hfu:fuel<9223372036854775807) (s0:RSt) (h0:OK 0 s0)
  (hQ:Q (.exit 0) (S48 e fuel (runF step fuel.toNat s0 0).1 ((runF step fuel.toNat s0 0).2:Nat))):XWP E.toEnv (.loop x48_14) Q (S48 e fuel s0 (0:Nat)):=by
 refine xwp_loopR (ι:=RSt × Nat) (fun i=>S48 e fuel i.1 (i.2:Nat)) (fun i=>OK i.2 i.1/\Q (.exit 0) (S48 e fuel (runF step (fuel-i.2).toNat i.1 i.2).1 ((runF step (fuel-i.2).toNat i.1 i.2).2:Nat))) (fun i=>(fuel-i.2).toNat) (s0,0)
  ⟨h0,by simpa using hQ⟩ fun i hi=>?_
 obtain⟨s,n⟩:=i
 obtain⟨hs,hq⟩:=hi
 simp only at hs hq ⊢
 have hcr:=cl_round (S:=fun i:RSt × Nat=>S48 e fuel i.1 (i.2:Nat)) (I:=fun i=>OK i.2 i.1/\Q (.exit 0) (S48 e fuel (runF step (fuel-i.2).toNat i.1 i.2).1 ((runF step (fuel-i.2).toNat i.1 i.2).2:Nat))) (μ:=fun i=>(fuel-i.2).toNat) (i:=(s,n)) hcl
 have FO:FnsOK E.P (lookF FL) noSc:=hP▸FOK
 have ec:=c48 s.m (s.vin e) (vO (bO s.oN) s.oN) (vW (bO s.sN) s.sN) s.mark n fuel e.wt e.bi (bO s.oN) (bO s.sN) (inB e.T e.inp) (outB s.oN s.of) (seB s.sN s.sf)
 show XWP E.toEnv (.seq x48_5 x48_13) _ _
 by_cases hlt:(n:Int)<fuel
 ·obtain⟨k,hk⟩:∃ k,(fuel-n).toNat=k+1:=⟨(fuel-n).toNat-1,by omega⟩
  have hk':(fuel-(n+1:Nat)).toNat=k:=by omega
  cases h0s:(s.m.st==0)with
  |false =>
   rw[decide_eq_true hlt,h0s]at ec
   rw[runF_end h0s]at hq
   exact xwp_seq (xwp_toEnd (cl_seqP hcr) FO 1000 ec (S48 e fuel s n) (leafQ hP hn e.bi (bO s.oN) (bO s.sN) (H.se n s hs) _) hq)
  |true =>
   rw[decide_eq_true hlt,h0s]at ec
   have hst0:s.m.st=0:=by simpa using h0s
   refine xwp_seq (xwp_toEnd (cl_seqP hcr) FO 1000 ec (S48 e fuel s n) (leafQ hP hn e.bi (bO s.oN) (bO s.sN) (H.se n s hs) _) ?_)
   show XWP E.toEnv x48_13 _ (S48 e fuel s n)
   rw[hk]at hq
   have hw1:IntKind.i64.wrap ((n:Int)+1)=((n+1:Nat):Int):=by rw[wrap_i (by omega) (by omega)];omega
   obtain⟨ok,s',hsp⟩:∃ ok s',step s=(ok,s'):=⟨_,_,rfl⟩
   cases ok with
   |false =>
    rw[runF_no h0s hsp]at hq
    obtain⟨⟨pre,g1,g2,g3⟩,hok⟩:=H.no n s s' hs hlt hst0 hsp
    obtain⟨m',ik',oN',of',sN',sf',mk'⟩:=s'
    obtain⟨q1,q2,q3,q4⟩:=g3
    simp only at q1 q2 q3 q4
    subst q1;subst q2;subst q3;subst q4
    have e0:=p48_0 s.m m' (s.vin e) (vO (bO s.oN) s.oN) (vW (bO s.sN) s.sN) (RSt.vin e ⟨m',ik',s.oN,s.of,s.sN,s.sf,mk'⟩) (vO (bO s.oN) s.oN) (vW (bO s.sN) s.sN) s.mark mk' n fuel e.wt false pre e.bi (bO s.oN) (bO s.sN) (inB e.T e.inp) (outB s.oN s.of) (seB s.sN s.sf)
    rw[decP_true ⟨rfl,g1,g2⟩]at e0
    exact xwp_toEnd hcr (hP▸fok FOK _) 1000 e0 (S48 e fuel (RSt.stop ⟨m',ik',s.oN,s.of,s.sN,s.sf,mk'⟩) n) (leaf48 hP hn e.bi (bO s.oN) (bO s.sN) (m1:=stopM m') (H.se n s hs) _) hq
   |true =>
    rw[runF_go h0s hsp]at hq
    obtain⟨hnx,hok⟩:=H.go n s s' hs hlt hst0 hsp
    have hse':=H.se _ s' hok
    cases hnx with
    |st0 pre g1 g2 g3 =>
     obtain⟨m',ik',oN',of',sN',sf',mk'⟩:=s'
     obtain⟨q1,q2,q3,q4⟩:=g3
     simp only at q1 q2 q3 q4
     subst q1;subst q2;subst q3;subst q4
     have e0:=p48_0 s.m m' (s.vin e) (vO (bO s.oN) s.oN) (vW (bO s.sN) s.sN) (RSt.vin e ⟨m',ik',s.oN,s.of,s.sN,s.sf,mk'⟩) (vO (bO s.oN) s.oN) (vW (bO s.sN) s.sN) s.mark mk' n fuel e.wt true pre e.bi (bO s.oN) (bO s.sN) (inB e.T e.inp) (outB s.oN s.of) (seB s.sN s.sf)
     rw[decP_true ⟨rfl,g1,g2⟩,hw1]at e0
     exact xwp_toEnd hcr (hP▸fok FOK _) 1000 e0 (S48 e fuel ⟨m',ik',s.oN,s.of,s.sN,s.sf,mk'⟩ (n+1:Nat)) (leaf48 hP hn e.bi (bO s.oN) (bO s.sN) (m1:=m') (H.se n s hs) _)
      ⟨(⟨m',ik',s.oN,s.of,s.sN,s.sf,mk'⟩,n+1),⟨hok,by simp only;rw[hk'];exact hq⟩,by simp only;omega,Wk.refl _ _⟩
    |stO pre g1 g2 g3 =>
     obtain⟨m',ik',oN',of',sN',sf',mk'⟩:=s'
     obtain⟨q1,q3,q4,q5⟩:=g3
     simp only at q1 q3 q4 q5
     subst q3;subst q4;subst q5
     have e0:=p48_O s.m m' (s.vin e) (vO (bO s.oN) s.oN) (vW (bO s.sN) s.sN) (RSt.vin e ⟨m',ik',oN',of',s.sN,s.sf,s.mark⟩) s.mark n fuel e.wt pre (outB oN' of') oN' e.bi (bO s.oN) (bO s.sN) (inB e.T e.inp) (outB s.oN s.of) (seB s.sN s.sf)
     rw[decP_true ⟨rfl,g1,g2⟩,hw1]at e0
     refine xwp_toEnd hcr (hP▸fok FOK _) 1000 e0 _ (leafO hP hn e.bi (bO s.oN) (bO s.sN) (m1:=m') (H.se n s hs) _)
      ⟨(⟨m',ik',oN',of',s.sN,s.sf,s.mark⟩,n+1),⟨hok,by simp only;rw[hk'];exact hq⟩,by simp only;omega,?_⟩
     refine wk_sub (has_sub ?_)
     show Has _ (core48 m' (rB _ (vO (bO oN') oN') s.mark e.wt _)++extL e.bi (bO oN') (bO s.sN) _ _ _)
     rw[<- newS_vO q1,bO_pos q1]
     exact hasO e.bi (bO s.sN) m' _ _ _ _ _
    |stW pre g1 g2 g3 =>
     obtain⟨m',ik',oN',of',sN',sf',mk'⟩:=s'
     obtain⟨q1,q3,q4,q5,q6⟩:=g3
     simp only at q1 q3 q4 q5 q6
     subst q3;subst q4;subst q5;subst q6
     have e0:=p48_W s.m m' (s.vin e) (vO (bO s.oN) s.oN) (vW (bO s.sN) s.sN) (vO (bO s.oN) s.oN) s.mark n fuel e.wt pre (seB sN' sf') sN' e.bi (bO s.oN) (bO s.sN) (inB e.T e.inp) (outB s.oN s.of) (seB s.sN s.sf)
     rw[decP_true ⟨rfl,g1,g2⟩,hw1]at e0
     refine xwp_toEnd hcr (hP▸fok FOK _) 1000 e0 _ (leafW hP hn e.bi (bO s.oN) (bO s.sN) (m1:=m') (sf:=sf') hse' _)
      ⟨(⟨m',s.ik,s.oN,s.of,sN',sf',s.mark⟩,n+1),⟨hok,by simp only;rw[hk'];exact hq⟩,by simp only;omega,?_⟩
     refine wk_sub (has_sub ?_)
     show Has _ (core48 m' (rB _ _ s.mark e.wt (vW (bO sN') sN'))++extL e.bi (bO s.oN) (bO sN') _ _ _)
     rw[<- newS_vW q1,bO_pos q1]
     exact hasW e.bi (bO s.oN) m' _ _ _ _ _
 ·have hk:(fuel-n).toNat=0:=by omega
  rw[hk]at hq
  rw[decide_eq_false hlt]at ec
  exact xwp_seq (xwp_toEnd (cl_seqP hcr) FO 1000 ec (S48 e fuel s n) (leafQ hP hn e.bi (bO s.oN) (bO s.sN) (H.se n s hs) _) hq)
theorem run_ok {e:REnv}{fuel:Int}{step:RSt->Bool × RSt}{OK:Nat->RSt->Prop} (H:Steps48 e fuel step OK):∀ (k n:Nat) (s:RSt),(k:Int)+n<=fuel->OK n s->(∃ n',OK n' (runF step k s n).1)\/∃ n' s1,OK n' s1/\(runF step k s n).1=s1.stop
 |0,n,s,_,h=>.inl ⟨n,h⟩
 |k+1,n,s,hk,h=>by
  cases h0:(s.m.st==0)with
  |false=>rw[runF_end h0];exact .inl ⟨n,h⟩
  |true =>
   obtain⟨ok,s',hsp⟩:∃ ok s',step s=(ok,s'):=⟨_,_,rfl⟩
   have hlt:(n:Int)<fuel:=by omega
   cases ok with
   |true =>
    rw[runF_go h0 hsp]
    exact run_ok H k (n+1) s' (by omega) (H.go n s s' h hlt (by simpa using h0) hsp).2
   |false =>
    rw[runF_no h0 hsp]
    exact .inr ⟨n,s',(H.no n s s' h hlt (by simpa using h0) hsp).2,rfl⟩
end Go.X
