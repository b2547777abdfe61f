import Derived.Test.YtnekegldodbgjaaM46
set_option linter.all false
namespace Go.X
open Go Go.Proofs
theorem bis_rc {P:Program}{σ:Nm}{bo bs:Bool} {a b a' b' k L C oN sN:Nat}{mk:Int} (s40:σ 40=some 40) (sa:bo=true->σ a=some a') (sb:bs=true->σ b=some b') :
  BIs P σ (rcB bo bs a b k L C oN sN mk) (rcB bo bs a' b' k L C oN sN mk):=by
 show[ren σ 4 (.slice (some ⟨40,k,none⟩) L C),ren σ 4 (vOa a bo oN),.int .i64 mk,ren σ 4 (vOa b bs sN)]=_
 have e1:ren σ 4 (.slice (some ⟨40,k,none⟩) L C)=.slice (some ⟨40,k,none⟩) L C:=by simp only[ren,renP,s40]
 have e2:ren σ 4 (vOa a bo oN)=vOa a' bo oN:=by
  cases bo with
  |false=>rfl
  |true=>simp only[vOa,cond_true,ren,renP,sa rfl]
 have e3:ren σ 4 (vOa b bs sN)=vOa b' bs sN:=by
  cases bs with
  |false=>rfl
  |true=>simp only[vOa,cond_true,ren,renP,sb rfl]
 rw[e1,e2,e3];rfl
def l70 (m2:MS) (bo bs:Bool) (k L C oN sN:Nat) (mk:Int) (ret:Bool):Option Stop:=some ⟨⟨[some (true,pt 102),some (true,pt 103),some (true,.bool ret)],[(102,some (docB 93 m2)),(103,some (rcB bo bs 94 95 k L C oN sN mk))],.ret,104⟩,none⟩
section
variable (m:MS) (bo bs:Bool) (k L C T oN sN d:Nat) (mk:Int) (inp of:Nat->Int)
noncomputable abbrev W70 (v:Int):Option Stop:=walk (lookF FL) (scOf [con65]) 1000 x70 (argTm 0 [docV 93 (m.a7 v),rcV bo bs 94 95 k L C oN sN mk]) (mkH ((40,inB T inp) :: dxO bo 94 oN of)) 100 j0_ ⟨[4,5,6],[.tmp 4,.tmp 5],[],40 :: oneI bo 94⟩ j0_
theorem p70_0:W70 m bo bs k L C T oN sN mk inp of 0=l70 (m.a7 0) bo bs k L C oN sN mk false:=by cases bo<;>cases bs<;>kernel_rfl
theorem p70_6:W70 m bo bs k L C T oN sN mk inp of (Int.ofNat (d+6))=l70 (m.a7 (Int.ofNat (d+6))) bo bs k L C oN sN mk false:=by cases bo<;>cases bs<;>kernel_rfl
theorem p70_3:W70 m bo bs k L C T oN sN mk inp of 3=l70 { m.a7 3 with st:=1,cd:=IntKind.u8.wrap ((xAt m.x 17 3 10).tmod 256) } bo bs k L C oN sN mk true:=by cases bo<;>cases bs<;>kernel_rfl
theorem p70_4:W70 m bo bs k L C T oN sN mk inp of 4=l70 { m.a7 4 with st:=2 } bo bs k L C oN sN mk true:=by cases bo<;>cases bs<;>kernel_rfl
theorem p70_5:W70 m bo bs k L C T oN sN mk inp of 5=l70 { m.a7 5 with st:=3 } bo bs k L C oN sN mk true:=by cases bo<;>cases bs<;>kernel_rfl
theorem p70_2:W70 m bo bs k L C T oN sN mk inp of 2=bif decide ((L:Int)>0)then bif ((k+0).blt T&&true||false)&&((intRange 0 L&&true||false)&&true)then bif (decide (1<=(L:Int))&&decide ((L:Int)<=(C:Int))&&true||false)&&true then
  l70 { m with x:=xAt (xAt m.x 17 2) 10 (IntKind.u64.wrap (inp (k+0))) } bo bs (k+1) ((L:Int)-1).toNat (C-1) oN sN mk true else none else none
  else l70 { m with x:=xAt (xAt m.x 17 2) 10 18446744073709551615 } bo bs k L C oN sN mk true:=by cases bo<;>cases bs<;>kernel_rfl
def l70o (m2:MS) (bs:Bool) (k L C l sN:Nat) (mk:Int) (f:Nat->List Value):Option Stop:=some ⟨⟨[some (true,pt 102),some (true,pt 103),some (true,.bool true)],[(102,some (docB 93 m2)),(103,some (rcB true bs 105 95 k L C l sN mk)),(105,some (.rows l 1 f true false))],.ret,106⟩,none⟩
noncomputable abbrev V70:Option Stop:=walk (lookF FL) noSc 1000 x70 (argTm 0 [docV 93 (m.a7 1),rcV bo bs 94 95 k L C oN sN mk]) (mkH ((40,inB T inp) :: dxO bo 94 oN of)) 100 j0_ ⟨[4,5,6],[.tmp 4,.tmp 5,.cell 103 1],[],[40]⟩ j0_
theorem p70_1n:V70 m false bs k L C T oN sN mk inp of=l70o (m.a7 1) bs k L C 1 sN mk (rowCat (fun x=>[]) 0 0 fun j=>slab [.int .u8 (IntKind.u8.wrap ((xAt m.x 17 1 10).tmod 256))] ((0+j)*1) 1):=by cases bs<;>kernel_rfl
theorem p70_1b:V70 m true bs k L C T oN sN mk inp of=bif !(oN+1).ble oN&&true&&(oN.ble oN&&(0+oN).ble oN)&&true&&decide ((oN+1)*3<=1099511627776)&&true&&true then
  l70o (m.a7 1) bs k L C (oN+1) sN mk (rowCat (fun j=>[.int .u8 (of j)]) 0 oN fun j=>slab [.int .u8 (IntKind.u8.wrap ((xAt m.x 17 1 10).tmod 256))] ((0+j)*1) 1)else none:=by cases bs<;>kernel_rfl
end
abbrev πD:List (Nat × Nat):=[(93,93),(40,40),(94,94),(95,95)]
def pre70 (bo:Bool) (T oN:Nat) (inp of:Nat->Int):List (Nat × Blk):=(40,inB T inp) :: dxO bo 94 oN of
def val70 (m2:MS) (bo bs:Bool) (a b k L C oN sN:Nat) (mk:Int) (ret:Bool):Value:=.tuple ⟨[docV 93 m2,rcV bo bs a b k L C oN sN mk,.bool ret]⟩
def upd70 (N:Nat) (m2:MS) (bo bs:Bool) (k L C oN sN:Nat) (mk:Int) (of:Nat->Int):Hp:=mkH ([(N,docB 93 m2),(N+1,rcB bo bs (N+2) 95 k L C oN sN mk)]++dxO bo (N+2) oN of)++[(94,none)]
theorem b70_of {m m2:MS}{bo bs:Bool}{k L C k2 L2 C2 T oN sN:Nat}{mk:Int}{inp of:Nat->Int}{ret:Bool}
  (e:walk (lookF FL) (scOf [con65]) 1000 x70 (argTm 0 [docV 93 m,rcV bo bs 94 95 k L C oN sN mk]) (mkH (pre70 bo T oN inp of)) 100 j0_ ⟨[4,5,6],[.tmp 4,.tmp 5],[],40 :: oneI bo 94⟩ j0_=l70 m2 bo bs k2 L2 C2 oN sN mk ret) :
  Body Try.prog 70 [docV 93 m,rcV bo bs 94 95 k L C oN sN mk] (mkH (pre70 bo T oN inp of)) (val70 m2 bo bs 102 95 k2 L2 C2 oN sN mk ret) (upd70 100 m2 bo bs k2 L2 C2 oN sN mk of) 100 3:=by
 refine body_walk (fok FOK _) fx70 (by simp) e rfl ⟨mkT [4,5,6] [pt 100,pt 101,.bool ret],mkH ([(100,docB 93 m2),(101,rcB bo bs 102 95 k2 L2 C2 oN sN mk),(40,inB T inp)]++dxO bo 102 oN of),103⟩ (fun ρ w hd=>⟨_,[(100,docB 93 m2),(101,rcB bo bs 102 95 k2 L2 C2 oN sN mk),(40,inB T inp)]++dxO bo 102 oN of,_,rfl,?_,?_,?_⟩) ?_ rfl ?_
 ·cases bo<;>rfl
 ·cases bo<;>exact⟨rfl,rfl,rfl,trivial⟩
 ·refine⟨bis_doc93 rfl,bis_rc rfl (fun h=>by subst h;rfl) (fun h=>by cases bo<;>rfl),bis_inB,?_⟩
  cases bo
  ·exact trivial
  ·exact⟨bis_outB,trivial⟩
 ·cases bo
  ·exact⟨rfl,rfl,trivial,rfl,trivial⟩
  ·exact⟨rfl,rfl,rfl,trivial,rfl,trivial,trivial⟩
 ·cases bo<;>rfl
theorem b70_out {m m2:MS}{bo bs:Bool}{k L C k2 L2 C2 T oN sN l:Nat}{mk:Int}{inp of of2:Nat->Int}{f:Nat->List Value} (hf:∀ j,j<l->f j=[.int .u8 (of2 j)])
  (e:walk (lookF FL) noSc 1000 x70 (argTm 0 [docV 93 m,rcV bo bs 94 95 k L C oN sN mk]) (mkH (pre70 bo T oN inp of)) 100 j0_ ⟨[4,5,6],[.tmp 4,.tmp 5,.cell 103 1],[],[40]⟩ j0_=l70o m2 bs k2 L2 C2 l sN mk f) :
  Body Try.prog 70 [docV 93 m,rcV bo bs 94 95 k L C oN sN mk] (mkH (pre70 bo T oN inp of)) (val70 m2 true bs 102 95 k2 L2 C2 l sN mk true) (upd70 100 m2 true bs k2 L2 C2 l sN mk of2) 100 3:=by
 refine body_walk FOK fx70 (by simp) e rfl ⟨mkT [4,5,6] [pt 100,pt 101,.bool true],mkH [(100,docB 93 m2),(101,rcB true bs 102 95 k2 L2 C2 l sN mk),(102,outB l of2),(40,inB T inp)],103⟩ (fun ρ w hd=>⟨_,[(100,docB 93 m2),(101,rcB true bs 102 95 k2 L2 C2 l sN mk),(102,outB l of2),(40,inB T inp)],_,rfl,?_,?_,?_⟩) ?_ rfl ?_
 ·cases bo<;>rfl
 ·cases bo<;>exact⟨rfl,rfl,rfl,trivial⟩
 ·exact⟨bis_doc93 rfl,bis_rc rfl (fun h=>rfl) (fun h=>rfl),⟨rfl,rfl,fun j hj=>by rw[hf j hj];rfl,.inl rfl,.inr rfl⟩,bis_inB,trivial⟩
 ·cases bo
  ·exact⟨rfl,rfl,rfl,trivial,rfl,trivial⟩
  ·exact⟨rfl,rfl,rfl,trivial,rfl,trivial,trivial⟩
 ·rfl
theorem at70 {m m2:MS}{bo bo2 bs:Bool}{k L C k2 L2 C2 T oN oN2 sN:Nat}{mk:Int}{inp of of2:Nat->Int}{ret:Bool}
  (h:Body Try.prog 70 [docV 93 m,rcV bo bs 94 95 k L C oN sN mk] (mkH (pre70 bo T oN inp of)) (val70 m2 bo2 bs 102 95 k2 L2 C2 oN2 sN mk ret) (upd70 100 m2 bo2 bs k2 L2 C2 oN2 sN mk of2) 100 3) :
  AtN 70 [docV 93 m,rcV bo bs 94 95 k L C oN sN mk] (pre70 bo T oN inp of) (val70 m2 bo2 bs 109 95 k2 L2 C2 oN2 sN mk ret) (upd70 107 m2 bo2 bs k2 L2 C2 oN2 sN mk of2) 107 3:=by
 refine⟨by cases bo<;>rfl,adet_of_body h πD [(107,100),(108,101),(109,102)] ?_ ?_ ?_ ?_ ?_ ?_ ?_⟩
 ·cases bo2<;>rfl
 ·cases bo<;>cases bs<;>rfl
 ·cases bo
  ·exact⟨bis_inB,trivial⟩
  ·exact⟨bis_inB,bis_outB,trivial⟩
 ·cases bo<;>rfl
 ·cases bo2<;>cases bs<;>rfl
 ·have hr:∀ {σ:Nm},σ 40=some 40->σ 109=some 102->σ 95=some 95->BIs Try.prog σ (rcB bo2 bs 109 95 k2 L2 C2 oN2 sN mk) (rcB bo2 bs 102 95 k2 L2 C2 oN2 sN mk):=fun h1 h2 h3=>bis_rc h1 (fun _=>h2) (fun _=>h3)
  cases bo<;>cases bo2
  ·exact⟨bis_doc93 rfl,hr rfl rfl rfl,trivial,bis_inB,trivial⟩
  ·exact⟨bis_doc93 rfl,hr rfl rfl rfl,bis_outB,trivial,bis_inB,trivial⟩
  ·exact⟨bis_doc93 rfl,hr rfl rfl rfl,trivial,bis_inB,trivial,trivial⟩
  ·exact⟨bis_doc93 rfl,hr rfl rfl rfl,bis_outB,trivial,bis_inB,trivial,trivial⟩
 ·cases bo<;>cases bo2<;>rfl
def callM (e:REnv) (s:RSt):MS :=
 bif s.m.x 17==1 then s.m
 else bif s.m.x 17==2 then(bif e.bi&&Nat.blt s.ik e.L0 then inMore s.m (e.inp (e.k0+s.ik))else inMax s.m)
 else bif s.m.x 17==3||(s.m.x 17==4||s.m.x 17==5)then endM s.m else s.m
theorem callR_m (e:REnv) (s:RSt) (k:KM):(callR e s k).2.m=finM s.m (callM e s) k (callR e s k).1/\(callR e s k).2.sN=s.sN/\(callR e s k).2.sf=s.sf/\(callR e s k).2.mark=s.mark:=by
 unfold callR callM
 cases s.m.x 17==1<;>cases s.m.x 17==2<;>cases (s.m.x 17==3||(s.m.x 17==4||s.m.x 17==5))<;>cases (e.bi&&Nat.blt s.ik e.L0)<;>exact⟨rfl,rfl,rfl,rfl⟩
def rsV (e:REnv) (s:RSt) (a b:Nat):Value:=rcV (bO s.oN) (bO s.sN) a b (e.k0+s.ik) (e.L0-s.ik) (e.C0-s.ik) s.oN s.sN s.mark
def rsB (e:REnv) (s:RSt) (a b:Nat):Blk:=rcB (bO s.oN) (bO s.sN) a b (e.k0+s.ik) (e.L0-s.ik) (e.C0-s.ik) s.oN s.sN s.mark
def updK (e:REnv) (s:RSt) (m2:MS):Hp:=mkH ([(107,docB 93 m2),(108,rsB e s 109 95)]++dxO (bO s.oN) 109 s.oN s.of)++[(94,none)]
structure DRun (e:REnv) (s:RSt):Prop where
 bi:e.bi=true
 cap:e.L0<=e.C0
 top:e.k0+e.L0<=e.T
 ik:s.ik<=e.L0
 out:s.oN<1000000000
 x:∀ j,uB (s.m.x j)=true
theorem mod256 {x:Int} (h:uB x=true):IntKind.u8.wrap (x.tmod 256)=IntKind.u8.wrap x:=by
 have h:=uB_iff.1 h
 rw[Int.tmod_eq_emod_of_nonneg h.1,u8w,u8w];omega
theorem at70_all {e:REnv}{s:RSt} (h:DRun e s) (k:KM) :
  AtN 70 [docV 93 s.m,rsV e s 94 95] (pre70 (bO s.oN) e.T s.oN e.inp s.of) (.tuple ⟨[docV 93 (callM e s),rsV e (callR e s k).2 109 95,.bool (callR e s k).1]⟩) (updK e (callR e s k).2 (callM e s)) 107 3:=by
 obtain⟨bi,cap,top,hik,hout,hx⟩:=h
 have a7:∀ {v:Int},s.m.x 17=v->s.m.a7 v=s.m:=a7_id
 have a7x:∀ {v:Int},s.m.x 17=v->xAt s.m.x 17 v=s.m.x:=fun h=>congrArg MS.x (a7_id h)
 unfold callR callM
 cases h1:(s.m.x 17==1)with
 |true =>
  have h1':s.m.x 17=1:=by simpa using h1
  simp only[cond_true]
  cases ho:bO s.oN with
  |false =>
   have hz:s.oN=0:=by
    cases hx:s.oN with
    |zero=>rfl
    |succ y=>rw[hx]at ho;cases ho
   have e1:=p70_1n s.m (bO s.sN) (e.k0+s.ik) (e.L0-s.ik) (e.C0-s.ik) e.T s.oN s.sN s.mark e.inp s.of
   rw[V70,a7 h1',a7x h1',mod256 (hx 10)]at e1
   have hb:=b70_out (of2:=outMore s.of s.oN (IntKind.u8.wrap (s.m.x 10))) (fun j hj=>by
    have:j=0:=by omega
    subst this;rw[hz];rfl) e1
   have:=at70 hb
   unfold rsV updK rsB
   simp only[ho,hz]at this ⊢
   exact this
  |true =>
   have e1:=p70_1b s.m (bO s.sN) (e.k0+s.ik) (e.L0-s.ik) (e.C0-s.ik) e.T s.oN s.sN s.mark e.inp s.of
   rw[V70,a7 h1',a7x h1',mod256 (hx 10)]at e1
   have q1:(s.oN+1).ble s.oN=false:=by rw[Bool.eq_false_iff];exact fun h=>by have:=ble_le h;omega
   have q2:s.oN.ble s.oN=true:=Nat.ble_eq_true_of_le (Nat.le_refl _)
   have g:(!(s.oN+1).ble s.oN&&true&&(s.oN.ble s.oN&&(0+s.oN).ble s.oN)&&true&&decide ((s.oN+1)*3<=1099511627776)&&true&&true)=true:=by rw[Nat.zero_add,q1,q2,decide_eq_true (by omega)];rfl
   rw[g,cond_true]at e1
   have hb:=b70_out (of2:=outMore s.of s.oN (IntKind.u8.wrap (s.m.x 10))) (out_row fun j hj=>rfl) e1
   have:=at70 hb
   unfold rsV updK rsB
   simp only[ho]at this ⊢
   exact this
 |false =>
  cases h2:(s.m.x 17==2)with
  |true =>
   have h2':s.m.x 17=2:=by simpa using h2
   simp only[cond_false,cond_true,bi,Bool.true_and]
   have e2:=p70_2 s.m (bO s.oN) (bO s.sN) (e.k0+s.ik) (e.L0-s.ik) (e.C0-s.ik) e.T s.oN s.sN s.mark e.inp s.of
   rw[W70,a7 h2',a7x h2']at e2
   cases hlt:Nat.blt s.ik e.L0 with
   |true =>
    have hl:=blt_lt hlt
    have g1:(((e.k0+s.ik+0).blt e.T&&true||false)&&((intRange 0 (e.L0-s.ik)&&true||false)&&true))=true:=by
     rw[lt_blt (show e.k0+s.ik+0<e.T by omega)];simp[intRange];omega
    have g2:((decide (1<=((e.L0-s.ik:Nat):Int))&&decide (((e.L0-s.ik:Nat):Int)<=((e.C0-s.ik:Nat):Int))&&true||false)&&true)=true:=by simp;omega
    rw[decide_eq_true (show((e.L0-s.ik:Nat):Int)>0 by omega),cond_true,g1,cond_true,g2,cond_true,show(((e.L0-s.ik:Nat):Int)-1).toNat=e.L0-(s.ik+1) by omega,show e.C0-s.ik-1=e.C0-(s.ik+1) by omega,show e.k0+s.ik+1=e.k0+(s.ik+1) by omega]at e2
    exact at70 (b70_of e2)
   |false =>
    have hl:¬ s.ik<e.L0:=fun h=>by rw[lt_blt h]at hlt;cases hlt
    rw[decide_eq_false (show ¬ ((e.L0-s.ik:Nat):Int)>0 by omega),cond_false]at e2
    exact at70 (b70_of e2)
  |false =>
   simp only[cond_false]
   cases h3:(s.m.x 17==3||(s.m.x 17==4||s.m.x 17==5))with
   |true =>
    simp only[Bool.or_eq_true,beq_iff_eq]at h3
    simp only[cond_true]
    rcases h3 with h3|h3|h3
    ·have e3:=p70_3 s.m (bO s.oN) (bO s.sN) (e.k0+s.ik) (e.L0-s.ik) (e.C0-s.ik) e.T s.oN s.sN s.mark e.inp s.of
     rw[W70,a7 h3,a7x h3,mod256 (hx 10)]at e3
     have hm:endM s.m={ s.m with st:=1,cd:=IntKind.u8.wrap (s.m.x 10) }:=by unfold endM;rw[h3];rfl
     rw[hm];exact at70 (b70_of e3)
    ·have e3:=p70_4 s.m (bO s.oN) (bO s.sN) (e.k0+s.ik) (e.L0-s.ik) (e.C0-s.ik) e.T s.oN s.sN s.mark e.inp s.of
     rw[W70,a7 h3]at e3
     have hm:endM s.m={ s.m with st:=2 }:=by unfold endM;rw[h3];rfl
     rw[hm];exact at70 (b70_of e3)
    ·have e3:=p70_5 s.m (bO s.oN) (bO s.sN) (e.k0+s.ik) (e.L0-s.ik) (e.C0-s.ik) e.T s.oN s.sN s.mark e.inp s.of
     rw[W70,a7 h3]at e3
     have hm:endM s.m={ s.m with st:=3 }:=by unfold endM;rw[h3];rfl
     rw[hm];exact at70 (b70_of e3)
   |false =>
    simp only[cond_false]
    simp only[Bool.or_eq_false_iff,beq_eq_false_iff_ne]at h1 h2 h3
    have hx17:=uB_iff.1 (hx 17)
    by_cases h0:s.m.x 17=0
    ·have e3:=p70_0 s.m (bO s.oN) (bO s.sN) (e.k0+s.ik) (e.L0-s.ik) (e.C0-s.ik) e.T s.oN s.sN s.mark e.inp s.of
     rw[W70,a7 h0]at e3
     exact at70 (b70_of e3)
    ·obtain⟨d,hd⟩:∃ d:Nat,s.m.x 17=Int.ofNat (d+6):=⟨((s.m.x 17)-6).toNat,by simp only[Int.ofNat_eq_natCast];omega⟩
     have e3:=p70_6 s.m (bO s.oN) (bO s.sN) (e.k0+s.ik) (e.L0-s.ik) (e.C0-s.ik) e.T s.oN s.sN d s.mark e.inp s.of
     rw[W70,a7 hd]at e3
     exact at70 (b70_of e3)
noncomputable abbrev sc68 (m:MS) (at_:Int) (n:Int) (pl:Bool) (v64:Int) (rd v81:Int):Short:=scOf [con65,conG 62 [docV 93 m,.int .u64 at_,.int .i64 n] [] (.bool pl),conG 64 [docV 93 m,.int .u64 at_,.int .i64 n] [(93,m.memB)] (.int .u64 v64),con81,con66 m rd v81]
def dgB (m:MS) (r:Int):Bool:=(1+r.toNat*1).blt (docC 93 m).length&&isI .u64 ((docC 93 m).getD (1+r.toNat*1) undefd)
def dgX (m:MS) (r:Int):Int:=asI ((docC 93 m).getD (1+r.toNat*1) undefd)
theorem rg_nat (m:MS):∀ k:Nat,k<32->dgB m (k:Int)=true/\intRange (k:Int) 32=true/\dgX m (k:Int)=m.x k
 |0,_=>⟨rfl,rfl,rfl⟩
 |1,_=>⟨rfl,rfl,rfl⟩
 |2,_=>⟨rfl,rfl,rfl⟩
 |3,_=>⟨rfl,rfl,rfl⟩
 |4,_=>⟨rfl,rfl,rfl⟩
 |5,_=>⟨rfl,rfl,rfl⟩
 |6,_=>⟨rfl,rfl,rfl⟩
 |7,_=>⟨rfl,rfl,rfl⟩
 |8,_=>⟨rfl,rfl,rfl⟩
 |9,_=>⟨rfl,rfl,rfl⟩
 |10,_=>⟨rfl,rfl,rfl⟩
 |11,_=>⟨rfl,rfl,rfl⟩
 |12,_=>⟨rfl,rfl,rfl⟩
 |13,_=>⟨rfl,rfl,rfl⟩
 |14,_=>⟨rfl,rfl,rfl⟩
 |15,_=>⟨rfl,rfl,rfl⟩
 |16,_=>⟨rfl,rfl,rfl⟩
 |17,_=>⟨rfl,rfl,rfl⟩
 |18,_=>⟨rfl,rfl,rfl⟩
 |19,_=>⟨rfl,rfl,rfl⟩
 |20,_=>⟨rfl,rfl,rfl⟩
 |21,_=>⟨rfl,rfl,rfl⟩
 |22,_=>⟨rfl,rfl,rfl⟩
 |23,_=>⟨rfl,rfl,rfl⟩
 |24,_=>⟨rfl,rfl,rfl⟩
 |25,_=>⟨rfl,rfl,rfl⟩
 |26,_=>⟨rfl,rfl,rfl⟩
 |27,_=>⟨rfl,rfl,rfl⟩
 |28,_=>⟨rfl,rfl,rfl⟩
 |29,_=>⟨rfl,rfl,rfl⟩
 |30,_=>⟨rfl,rfl,rfl⟩
 |31,_=>⟨rfl,rfl,rfl⟩
 |k+32,h=>absurd h (by omega)
theorem rg_ok (m:MS){r:Int} (h:inR r):dgB m r=true/\intRange r 32=true/\dgX m r=m.x r.toNat:=by
 obtain⟨k,hk,rfl⟩:=inR_nat h
 exact rg_nat m k hk
def aD (m:MS) (c:Cand):Int:=IntKind.u64.wrap (dgX m c.rs1+rimmF c.imm)
noncomputable def d62 (m:MS) (a n:Int) (pl:Bool):Bool:=decP ([docV 93 m,.int .u64 a,.int .i64 n]=[docV 93 m,.int .u64 a,.int .i64 n]/\Has [] []/\DetG 62 [docV 93 m,.int .u64 a,.int .i64 n] [] (.bool pl))
noncomputable def d64 (m:MS) (a n v:Int):Bool:=decP ([docV 93 m,.int .u64 a,.int .i64 n]=[docV 93 m,.int .u64 a,.int .i64 n]/\Has (mkH [(93,m.memB)]) [(93,m.memB)]/\DetG 64 [docV 93 m,.int .u64 a,.int .i64 n] [(93,m.memB)] (.int .u64 v))
noncomputable def d66 (m:MS) (r v:Int):Bool:=decP ([docV 93 m,.int .i64 r,.int .u64 v]=[docV 93 m,.int .i64 r,.int .u64 v]/\inR r)
def gR (m:MS) (r:Int):Bool:=(dgB m r&&true||false)&&((intRange r 32&&true||false)&&true)
def gS (bs:Bool) (sN:Nat):Bool:=bif bs then !(sN+1).ble sN&&true&&(sN.ble sN&&(0+sN).ble sN)&&true&&decide ((sN+1)*37<=1099511627776)&&true&&true else true
def seL (bs:Bool) (sN:Nat):Nat:=bif bs then sN+1 else 1
def seF (bs:Bool) (sN:Nat) (sf r:Nat->List Value):Nat->List Value:=bif bs then rowCat sf 0 sN r else rowCat (fun _=>[]) 0 0 r
abbrev isLd (op:Int):Prop:=op=38\/op=39\/op=40\/op=41
abbrev isSt (op:Int):Prop:=op=42\/op=43\/op=44
noncomputable abbrev scL (m:MS) (c:Cand) (op:Int) (pl:Bool) (v64:Int):Short:=sc68 m (aD m c) (sizeF op) pl v64 c.rd (narF (8*sizeF op) (op != 39) v64)
section
variable (m:MS) (c:Cand) (bo bs:Bool) (k L C oN sN:Nat) (mk v64:Int) (sf:Nat->List Value) (op:Int)
noncomputable abbrev W68 (pl:Bool) (r l:Pj):Option Stop:=walk (lookF FL) (scL m c op pl v64) 1000 x68 (argTm 0 [docV 93 m,rcV bo bs 94 95 k L C oN sN mk,i18 op c.rd c.rs1 c.rs2 c.imm]) (mkH ((93,m.memB) :: dxW bs 95 sN sf)) 100 j0_ r l
theorem p68_L (h:isLd op):W68 m c bo bs k L C oN sN mk v64 sf op true ⟨[6,7,8],[.tmp 6,.tmp 7,.cell 104 3],[],[93]⟩ j0_ =
  bif gR m c.rs1 then bif (d62 m (aD m c) (sizeF op) true||false)&&true then bif gS bs sN then bif (uB v64&&true||false)&&((d64 m (aD m c) (sizeF op) v64||false)&&true)then bif d66 m c.rd (narF (8*sizeF op) (op != 39) v64)&&true&&true then
   some ⟨⟨[some (true,pt 103),some (true,pt 104),some (true,.bool true)],[(103,some (docB 93 (setD m c.rd (narF (8*sizeF op) (op != 39) v64)))),(104,some (.var [.slice (some ⟨40,k,none⟩) L C,vOa 94 bo oN,.int .i64 mk,.slice (some ⟨106,0,none⟩) (seL bs sN) (seL bs sN)])),(106,some (.rows (seL bs sN) 4 (seF bs sN sf (seRow m (aD m c) (sizeF op) false)) true false))],.ret,108⟩,none⟩
  else none else none else none else none else none:=by
 rcases h with rfl|rfl|rfl|rfl<;>cases bo<;>cases bs<;>kernel_rfl
theorem p68_F (h:isLd op\/isSt op):W68 m c bo bs k L C oN sN mk v64 sf op false ⟨[6,7,8],[.tmp 6,.tmp 7],[],93 :: oneI bs 95⟩ j0_ =
  bif gR m c.rs1 then bif (d62 m (aD m c) (sizeF op) false||false)&&true then
   some ⟨⟨[some (true,pt 103),some (true,pt 104),some (true,.bool false)],[(103,some (docB 93 m)),(104,some (rcB bo bs 94 95 k L C oN sN mk))],.ret,105⟩,none⟩else none else none:=by
 rcases h with(rfl|rfl|rfl|rfl)|rfl|rfl|rfl<;>cases bo<;>cases bs<;>kernel_rfl
def docZ:Blk:=.var ([.slice none 0 0]++regs (fun _=>0)++[.int .u64 0,.int .i64 0,.int .u8 0])
def runZ:Blk:=.var [.slice none 0 0,.slice none 0 0,.int .i64 0,.slice none 0 0]
def rcN (n l:Nat):Blk:=.var [.slice (some ⟨40,k,none⟩) L C,vOa 94 bo oN,.int .i64 mk,.slice (some ⟨n,0,none⟩) l l]
theorem p68_S (h:isSt op):W68 m c bo bs k L C oN sN mk v64 sf op true j0_ ⟨[12,11,3,4,6,7,8,9,10],[.tmp 3,.tmp 4,.tmp 6,.tmp 7,.cell 101 3],[],[93]⟩ =
  bif gR m c.rs1 then bif (d62 m (aD m c) (sizeF op) true||false)&&true then bif gS bs sN then bif gR m c.rs2 then
   some ⟨⟨[some (true,.int .i64 0),some (true,.int .u64 (dgX m c.rs2)),some (true,pt 100),some (true,pt 101),some (true,pt 103),some (true,pt 104),some (true,.bool false),some (true,.int .i64 (sizeF op)),some (true,.int .u64 (aD m c))],
    [(100,some (docB 93 m)),(101,some (rcN bo k L C oN mk 106 (seL bs sN))),(103,some docZ),(104,some runZ),(106,some (.rows (seL bs sN) 4 (seF bs sN sf (seRow m (aD m c) (sizeF op) true)) true false))],.normal,107⟩,some (x68_29,[.bl 0,.sq x68_34,.sq x68_42])⟩
  else none else none else none else none:=by
 rcases h with rfl|rfl|rfl<;>cases bo<;>cases bs<;>kernel_rfl
end
abbrev T68 (j x n a:Int):Tm:=mkT [12,11,3,4,6,7,8,9,10] [.int .i64 j,.int .u64 x,pt 100,pt 101,pt 103,pt 104,.bool false,.int .i64 n,.int .u64 a]
section
variable (m:MS) (f:Nat->Int) (j x n a:Int)
theorem p68_b (b1 b3 b4 b5:Blk):walk (lookF FL) noSc 1000 x68_29 (T68 j x n a) (mkH [(93,mb32 m.sz f),(100,docB 93 m),(101,b1),(103,b3),(104,b4),(105,b5)]) 106 ⟨[12,11],[.id 93],[3,4,6,7,8,9,10],[100,101,103,104,105]⟩ j0_ j0_ =
  bif decide (j<n)then bif (0+(IntKind.i64.wrap (IntKind.i64.wrap a+j)).toNat).blt m.sz&&true&&((intRange (IntKind.i64.wrap (IntKind.i64.wrap a+j)) m.sz&&true||false)&&true)then
   some ⟨⟨[some (true,.int .i64 (IntKind.i64.wrap (j+1))),some (true,.int .u64 (IntKind.u64.wrap (x.tdiv 256)))],[(93,some (.rows m.sz 1 (rowSet (fun j=>[.int .u8 (f j)]) (0+(IntKind.i64.wrap (IntKind.i64.wrap a+j)).toNat) [.int .u8 (IntKind.u8.wrap (x.tmod 256))]) false false))],.normal,106⟩,none⟩else none
  else some ⟨⟨[some (true,.int .i64 j),some (true,.int .u64 x)],[(93,some (mb32 m.sz f))],.exit 0,106⟩,none⟩:=by kernel_rfl
theorem p68_e (bo:Bool) (k L C oN l:Nat) (mk:Int) (b5:Blk):walk (lookF FL) noSc 1000 x68_34 (T68 j x n a) (mkH [(93,mb32 m.sz f),(100,docB 93 m),(101,rcN bo k L C oN mk 105 l),(103,docZ),(104,runZ),(105,b5)]) 106 j0_ ⟨[6,7,8],[.tmp 6,.tmp 7],[],[93,105]⟩ j0_ =
  some ⟨⟨[some (true,pt 103),some (true,pt 104),some (true,.bool true)],[(103,some (docB 93 m)),(104,some (rcN bo k L C oN mk 105 l))],.ret,106⟩,none⟩:=by cases bo<;>kernel_rfl
end
theorem rimm_of (k:Int):rimmF k=ofF k:=by
 unfold rimmF ofF
 by_cases h:k<0
 ·rw[decide_eq_true h,cond_true,u64_wrap,u64_wrap,u64_wrap,IntKind.wrap_i64];omega
 ·rw[decide_eq_false h,cond_false]
theorem aD_at {m:MS}{c:Cand} (hc:CandOK c):aD m c=atM m c:=by
 unfold aD atM
 rw[(rg_ok m hc.rs1).2.2,rimm_of]
theorem gR_ok {m:MS}{r:Int} (h:inR r):gR m r=true:=by
 obtain⟨h1,h2,_⟩:=rg_ok m h
 unfold gR;rw[h1,h2];rfl
theorem gS_ok {bs:Bool}{sN:Nat} (h:sN<1000000000):gS bs sN=true:=by
 unfold gS
 have q1:(sN+1).ble sN=false:=by rw[Bool.eq_false_iff];exact fun h=>by have:=ble_le h;omega
 have q2:sN.ble sN=true:=Nat.ble_eq_true_of_le (Nat.le_refl _)
 rw[Nat.zero_add,q1,q2,decide_eq_true (by omega)]
 cases bs<;>rfl
theorem seL_bO (sN:Nat):seL (bO sN) sN=sN+1:=by cases sN<;>rfl
theorem seF_more {m:MS}{op:Int}{c:Cand} (hc:CandOK c){sN:Nat}{sf:Nat->List Value}:∀ j,j<sN+1->seF (bO sN) sN sf (seRow m (aD m c) (sizeF op) (decide (op>=42))) j=seMore sf sN (rowM m op c) j:=by
 intro j hj
 rw[aD_at hc]
 cases sN with
 |zero =>
  have:j=0:=by omega
  subst this
  rfl
 |succ n =>
  show rowCat sf 0 (n+1) _ j=_
  unfold seMore rowCat
  by_cases hlt:j<n+1
  ·rw[lt_blt hlt,cond_true,cond_true,Nat.zero_add]
  ·have:j=n+1:=by omega
   subst this
   rw[blt_ff (Nat.lt_irrefl _),cond_false,cond_false,Nat.sub_self]
   rfl
end Go.X
