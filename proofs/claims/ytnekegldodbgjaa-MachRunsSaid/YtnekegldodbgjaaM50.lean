import Derived.Test.YtnekegldodbgjaaM49
set_option linter.all false
namespace Go.X
open Go Go.Proofs
def S35 (e:REnv) (fuel:Int) (k L C:Nat) (s:RSt) (n:Int):St:=⟨T35 n fuel k L C,mkH (H35 s.m (rsB e s 104 105) (bO s.oN) (bO s.sN) e.T s.oN s.sN e.inp s.of s.sf),106⟩
structure DSt (e:REnv) (n:Nat) (s:RSt):Prop where
 base:BaseOK e n s
 sn:s.sN<=n
 doc:DocOK e s
theorem go_doc {e:REnv}{n:Nat} {s s':RSt}{ret:Bool} (h:DSt e n s) (hn:(n:Int)<1000000000) (h0:s.m.st=0) (hs:stepF e s=(ret,s')):DNext e s s' ret/\DSt e (bif ret then n+1 else n) s':=by
 have H:=steps_all e (fuel:=1000000000) (Int.le_refl _)
 obtain⟨a,b⟩:=dnext h.base hn h.sn h.doc hs
 cases ret with
 |true =>
  obtain⟨_,c1,c2⟩:=H.go n s s' ⟨h.base,h.sn⟩ hn h0 hs
  exact⟨a,c1,c2,b⟩
 |false =>
  obtain⟨_,c1,c2⟩:=H.no n s s' ⟨h.base,h.sn⟩ hn h0 hs
  exact⟨a,c1,c2,b⟩
section
variable {E:FEnv} (hP:E.P=Try.prog) (hE:E.B.n=100)
include hP hE
theorem lf35 {bo bs:Bool}{m0 m1:MS}{r0:Blk}{k L C k2 L2 C2 T oN sN:Nat} {n n' fuel mk:Int}{inp of:Nat->Int}{sf:Nat->List Value} (hse:SeOK sN sf) (ex:Exit) (hm:m1.memB=m0.memB) :
  LeafTo E ([10]++[3,6,7,8,9,2,1]) (ext ⟨[10],[.id 100,.id 103],[3,6,7,8,9,2,1],[101,102,93,40]++I35 bo bs⟩ (T35 n fuel k L C) (mkH (H35 m0 r0 bo bs T oN sN inp of sf)) ⟨[some (true,.int .i64 n')],[(100,some (docB 93 m1)),(103,some (rcB bo bs 104 105 k2 L2 C2 oN sN mk))],ex,109⟩)
   ⟨T35 n' fuel k L C,mkH (H35 m1 (rcB bo bs 104 105 k2 L2 C2 oN sN mk) bo bs T oN sN inp of sf),106⟩:=by
 refine⟨_,H35 m1 (rcB bo bs 104 105 k2 L2 C2 oN sN mk) bo bs T oN sN inp of sf,106,rfl,?_,?_,?_⟩<;>rw[hE]
 ·cases bo<;>cases bs<;>rfl
 ·cases bo<;>cases bs<;>exact⟨rfl,rfl,rfl,rfl,rfl,rfl,rfl,rfl,trivial⟩
 ·rw[hP]
  have h2:∀ {σ:Nm},BIs Try.prog σ (seB sN sf) (seB sN sf):=bis_seB fun j hj=>hse j hj _
  refine⟨bis_doc93 rfl,bis_rc rfl (fun h=>by rw[h];cases bs<;>rfl) (fun h=>by rw[h];cases bo<;>rfl),rfl,rfl,by rw[hm];exact bis_mem,bis_inB,?_⟩
  cases bo<;>cases bs
  ·exact trivial
  ·exact⟨h2,trivial⟩
  ·exact⟨bis_outB,trivial⟩
  ·exact⟨bis_outB,h2,trivial⟩
theorem lf35c {bo bs:Bool}{m:MS}{k L C k2 L2 C2 T oN sN:Nat}{n fuel mk:Int}{inp of:Nat->Int}{sf:Nat->List Value} (hse:SeOK sN sf) (ex:Exit) :
  LeafTo E ([]++[10,3,6,7,8,9,2,1]) (ext ⟨[],[],[10,3,6,7,8,9,2,1],[100,103,101,102,93,40]++I35 bo bs⟩ (T35 n fuel k L C) (mkH (H35 m (rcB bo bs 104 105 k2 L2 C2 oN sN mk) bo bs T oN sN inp of sf)) ⟨[],[],ex,106⟩)
   ⟨T35 n fuel k L C,mkH (H35 m (rcB bo bs 104 105 k2 L2 C2 oN sN mk) bo bs T oN sN inp of sf),106⟩:=by
 refine⟨_,H35 m (rcB bo bs 104 105 k2 L2 C2 oN sN mk) bo bs T oN sN inp of sf,106,rfl,?_,?_,?_⟩<;>rw[hE]
 ·cases bo<;>cases bs<;>rfl
 ·cases bo<;>cases bs<;>exact⟨rfl,rfl,rfl,rfl,rfl,rfl,rfl,rfl,trivial⟩
 ·rw[hP]
  have h2:∀ {σ:Nm},BIs Try.prog σ (seB sN sf) (seB sN sf):=bis_seB fun j hj=>hse j hj _
  refine⟨bis_doc93 rfl,bis_rc rfl (fun h=>by rw[h];cases bs<;>rfl) (fun h=>by rw[h];cases bo<;>rfl),rfl,rfl,bis_mem,bis_inB,?_⟩
  cases bo<;>cases bs
  ·exact trivial
  ·exact⟨h2,trivial⟩
  ·exact⟨bis_outB,trivial⟩
  ·exact⟨bis_outB,h2,trivial⟩
theorem lf35O {bo bs bo2:Bool}{m0 m1:MS}{r0:Blk}{k L C k2 L2 C2 T oN sN oN2:Nat} {n n' fuel mk:Int}{inp of of2:Nat->Int}{sf:Nat->List Value} (hse:SeOK sN sf) (ex:Exit) (hm:m1.memB=m0.memB) :
  LeafTo E ([10]++[3,6,7,8,9,2,1]) (ext ⟨[10],[.id 100,.id 103]++(oneI bo2 108).map .id,[3,6,7,8,9,2,1],[101,102,93,40]++oneI bs 105⟩ (T35 n fuel k L C) (mkH (H35 m0 r0 bo bs T oN sN inp of sf)) ⟨[some (true,.int .i64 n')],[(100,some (docB 93 m1)),(103,some (rcB bo2 bs 108 105 k2 L2 C2 oN2 sN mk))]++(dxO bo2 108 oN2 of2).map (fun p=>(p.1,some p.2)),ex,109⟩)
   ⟨T35 n' fuel k L C,mkH ([(100,docB 93 m1),(103,rcB bo2 bs 104 105 k2 L2 C2 oN2 sN mk)]++dxO bo2 104 oN2 of2++[(101,docZ),(102,res0),(93,m1.memB),(40,inB T inp)]++dxW bs 105 sN sf),106⟩:=by
 refine⟨_,[(100,docB 93 m1),(103,rcB bo2 bs 104 105 k2 L2 C2 oN2 sN mk)]++dxO bo2 104 oN2 of2++[(101,docZ),(102,res0),(93,m1.memB),(40,inB T inp)]++dxW bs 105 sN sf,106,rfl,?_,?_,?_⟩<;>rw[hE]
 ·cases bo<;>cases bs<;>cases bo2<;>rfl
 ·cases bo<;>cases bs<;>cases bo2<;>exact⟨rfl,rfl,rfl,rfl,rfl,rfl,rfl,rfl,trivial⟩
 ·rw[hP,hm]
  have h2:∀ {σ:Nm},BIs Try.prog σ (seB sN sf) (seB sN sf):=bis_seB fun j hj=>hse j hj _
  cases bo2<;>cases bs
  ·exact⟨bis_doc93 rfl,bis_rc rfl (fun h=>by cases h) (fun h=>by cases h),rfl,rfl,bis_mem,bis_inB,trivial⟩
  ·cases bo<;>exact⟨bis_doc93 rfl,bis_rc rfl (fun h=>by cases h) (fun h=>rfl),rfl,rfl,bis_mem,bis_inB,h2,trivial⟩
  ·exact⟨bis_doc93 rfl,bis_rc rfl (fun h=>rfl) (fun h=>by cases h),bis_outB,rfl,rfl,bis_mem,bis_inB,trivial⟩
  ·cases bo<;>exact⟨bis_doc93 rfl,bis_rc rfl (fun h=>rfl) (fun h=>rfl),bis_outB,rfl,rfl,bis_mem,bis_inB,h2,trivial⟩
theorem lf35W {bo bs bs2:Bool}{m0 m1:MS}{r0:Blk}{k L C k2 L2 C2 T oN sN sN2:Nat} {n n' fuel mk:Int}{inp of:Nat->Int}{sf sf2:Nat->List Value} (hse2:SeOK sN2 sf2) (ex:Exit) :
  LeafTo E ([10]++[3,6,7,8,9,2,1]) (ext ⟨[10],[.id 100,.id 103,.id 93]++(oneI bs2 108).map .id,[3,6,7,8,9,2,1],[101,102,40]++oneI bo 104⟩ (T35 n fuel k L C) (mkH (H35 m0 r0 bo bs T oN sN inp of sf)) ⟨[some (true,.int .i64 n')],[(100,some (docB 93 m1)),(103,some (rcB bo bs2 104 108 k2 L2 C2 oN sN2 mk)),(93,some m1.memB)]++(dxW bs2 108 sN2 sf2).map (fun p=>(p.1,some p.2)),ex,109⟩)
   ⟨T35 n' fuel k L C,mkH ([(100,docB 93 m1),(103,rcB bo bs2 104 105 k2 L2 C2 oN sN2 mk),(93,m1.memB)]++dxW bs2 105 sN2 sf2++[(101,docZ),(102,res0),(40,inB T inp)]++dxO bo 104 oN of),106⟩:=by
 refine⟨_,[(100,docB 93 m1),(103,rcB bo bs2 104 105 k2 L2 C2 oN sN2 mk),(93,m1.memB)]++dxW bs2 105 sN2 sf2++[(101,docZ),(102,res0),(40,inB T inp)]++dxO bo 104 oN of,106,rfl,?_,?_,?_⟩<;>rw[hE]
 ·cases bo<;>cases bs<;>cases bs2<;>rfl
 ·cases bo<;>cases bs<;>cases bs2<;>exact⟨rfl,rfl,rfl,rfl,rfl,rfl,rfl,rfl,trivial⟩
 ·rw[hP]
  have h2:∀ {σ:Nm},BIs Try.prog σ (seB sN2 sf2) (seB sN2 sf2):=bis_seB fun j hj=>hse2 j hj _
  cases bs2<;>cases bo
  ·exact⟨bis_doc93 rfl,bis_rc rfl (fun h=>by cases h) (fun h=>by cases h),bis_mem,rfl,rfl,bis_inB,trivial⟩
  ·cases bs<;>exact⟨bis_doc93 rfl,bis_rc rfl (fun h=>rfl) (fun h=>by cases h),bis_mem,rfl,rfl,bis_inB,bis_outB,trivial⟩
  ·exact⟨bis_doc93 rfl,bis_rc rfl (fun h=>by cases h) (fun h=>rfl),bis_mem,h2,rfl,rfl,bis_inB,trivial⟩
  ·cases bs<;>exact⟨bis_doc93 rfl,bis_rc rfl (fun h=>rfl) (fun h=>rfl),bis_mem,h2,rfl,rfl,bis_inB,bis_outB,trivial⟩
end
theorem c35 (m:MS) (bo bs:Bool) (k L C k2 L2 C2 T oN sN:Nat) (n fuel mk:Int) (inp of:Nat->Int) (sf:Nat->List Value):walk (lookF FL) noSc 1000 x35_5 (T35 n fuel k L C) (mkH (H35 m (rcB bo bs 104 105 k2 L2 C2 oN sN mk) bo bs T oN sN inp of sf)) 106 ⟨[],[],[10,3,6,7,8,9,2,1],[100,103,101,102,93,40]++I35 bo bs⟩ j0_ j0_ =
  bif decide (n<fuel)&&(m.st==0)then some ⟨⟨[],[],.normal,106⟩,none⟩else some ⟨⟨[],[],.exit 0,106⟩,none⟩:=by
 rw[p35_c]
 cases decide (n<fuel)<;>cases m.st==0<;>rfl
theorem hasO35 (bo2 bs:Bool) (m:MS) (r:Blk) (T oN2 sN:Nat) (inp of2:Nat->Int) (sf:Nat->List Value):Has (mkH ([(100,docB 93 m),(103,r)]++dxO bo2 104 oN2 of2++[(101,docZ),(102,res0),(93,m.memB),(40,inB T inp)]++dxW bs 105 sN sf)) (H35 m r bo2 bs T oN2 sN inp of2 sf):=by
 cases bo2<;>cases bs<;>first|exact⟨rfl,rfl,rfl,rfl,rfl,rfl,trivial⟩|exact⟨rfl,rfl,rfl,rfl,rfl,rfl,rfl,trivial⟩|exact⟨rfl,rfl,rfl,rfl,rfl,rfl,rfl,rfl,trivial⟩
theorem hasW35 (bo bs2:Bool) (m:MS) (r:Blk) (T oN sN2:Nat) (inp of:Nat->Int) (sf2:Nat->List Value):Has (mkH ([(100,docB 93 m),(103,r),(93,m.memB)]++dxW bs2 105 sN2 sf2++[(101,docZ),(102,res0),(40,inB T inp)]++dxO bo 104 oN of)) (H35 m r bo bs2 T oN sN2 inp of sf2):=by
 cases bo<;>cases bs2<;>first|exact⟨rfl,rfl,rfl,rfl,rfl,rfl,trivial⟩|exact⟨rfl,rfl,rfl,rfl,rfl,rfl,rfl,trivial⟩|exact⟨rfl,rfl,rfl,rfl,rfl,rfl,rfl,rfl,trivial⟩
theorem has0_35 (bo bs:Bool) (m:MS) (r:Blk) (T oN sN:Nat) (inp of:Nat->Int) (sf:Nat->List Value):Has (mkH (H35 m r bo bs T oN sN inp of sf)) [(93,m.memB)]/\Has (mkH (H35 m r bo bs T oN sN inp of sf)) ((93,m.memB) :: (40,inB T inp) :: dxO bo 104 oN of)/\Has (mkH (H35 m r bo bs T oN sN inp of sf)) ((93,m.memB) :: dxW bs 105 sN sf):=by
 cases bo<;>cases bs<;>first|exact⟨⟨rfl,trivial⟩,⟨rfl,rfl,trivial⟩,rfl,trivial⟩|exact⟨⟨rfl,trivial⟩,⟨rfl,rfl,trivial⟩,rfl,rfl,trivial⟩|exact⟨⟨rfl,trivial⟩,⟨rfl,rfl,rfl,trivial⟩,rfl,trivial⟩|exact⟨⟨rfl,trivial⟩,⟨rfl,rfl,rfl,trivial⟩,rfl,rfl,trivial⟩
def goneS (s:RSt) (ret:Bool):RSt:=bif ret then s else s.stop
theorem loop35 {E:FEnv}{Q:Post} (hcl:Cl E.toEnv Q) (hP:E.P=Try.prog) (hE:E.B.n=100){e:REnv}{fuel:Int} (hfu:fuel<=1000000000) (k L C:Nat) (s0:RSt) (h0:DSt e 0 s0)
  (hQ:Q (.exit 0) (S35 e fuel k L C (runF (stepF e) fuel.toNat s0 0).1 ((runF (stepF e) fuel.toNat s0 0).2:Nat))):XWP E.toEnv (.loop x35_16) Q (S35 e fuel k L C s0 (0:Nat)):=by
 refine xwp_loopR (ι:=RSt × Nat) (fun i=>S35 e fuel k L C i.1 (i.2:Nat)) (fun i=>(DSt e i.2 i.1\/∃ s1,i.1=s1.stop/\DSt e i.2 s1)/\Q (.exit 0) (S35 e fuel k L C (runF (stepF e) (fuel-i.2).toNat i.1 i.2).1 ((runF (stepF e) (fuel-i.2).toNat i.1 i.2).2:Nat)))
  (fun i=>(bif i.1.m.st==0 then 1 else 0)+(fuel-i.2).toNat) (s0,0) ⟨.inl h0,by simpa using hQ⟩ fun i hi=>?_
 obtain⟨s,n⟩:=i
 obtain⟨hs,hq⟩:=hi
 simp only at hs hq ⊢
 have hcr:=cl_round (S:=fun i:RSt × Nat=>S35 e fuel k L C i.1 (i.2:Nat)) (I:=fun i=>(DSt e i.2 i.1\/∃ s1,i.1=s1.stop/\DSt e i.2 s1)/\Q (.exit 0) (S35 e fuel k L C (runF (stepF e) (fuel-i.2).toNat i.1 i.2).1 ((runF (stepF e) (fuel-i.2).toNat i.1 i.2).2:Nat))) (μ:=fun i=>(bif i.1.m.st==0 then 1 else 0)+(fuel-i.2).toNat) (i:=(s,n)) hcl
 have FO:FnsOK E.P (lookF FL) noSc:=hP▸FOK
 have hse:SeOK s.sN s.sf:=by
  rcases hs with h|⟨s1,rfl,h⟩
  ·exact h.base.se
  ·exact h.base.se
 have ec:=c35 s.m (bO s.oN) (bO s.sN) k L C (e.k0+s.ik) (e.L0-s.ik) (e.C0-s.ik) e.T s.oN s.sN n fuel s.mark e.inp s.of s.sf
 show XWP E.toEnv (.seq x35_5 x35_15) _ _
 by_cases hlt:(n:Int)<fuel
 ·obtain⟨j,hj⟩:∃ j,(fuel-n).toNat=j+1:=⟨(fuel-n).toNat-1,by omega⟩
  have hj':(fuel-(n+1:Nat)).toNat=j:=by omega
  cases h0s:(s.m.st==0)with
  |false =>
   rw[decide_eq_true hlt,h0s]at ec
   rw[runF_end h0s]at hq
   exact xwp_seq (xwp_toEnd (cl_seqP hcr) FO 1000 ec (S35 e fuel k L C s n) (lf35c hP hE hse _) hq)
  |true =>
   rw[decide_eq_true hlt,h0s]at ec
   have hst0:s.m.st=0:=by simpa using h0s
   have hD:DSt e n s:=by
    rcases hs with h|⟨s1,rfl,h⟩
    ·exact h
    ·exact absurd hst0 (by show(4:Int)≠0;omega)
   refine xwp_seq (xwp_toEnd (cl_seqP hcr) FO 1000 ec (S35 e fuel k L C s n) (lf35c hP hE hse _) ?_)
   show XWP E.toEnv x35_15 _ (S35 e fuel k L C s n)
   rw[hj]at hq
   have hw1:IntKind.i64.wrap ((n:Int)+1)=((n+1:Nat):Int):=by rw[wrap_i (by omega) (by omega)];omega
   obtain⟨ret,s',hsp⟩:∃ ret s',stepF e s=(ret,s'):=⟨_,_,rfl⟩
   obtain⟨hnx,hD'⟩:=go_doc hD (by omega) hst0 hsp
   have hse':=hD'.base.se
   let n':Nat:=bif ret then n+1 else n
   have hn':goneN (n:Int) ret=((n':Nat):Int):=by
    cases ret with
    |true=>exact hw1
    |false=>rfl
   have hI:((DSt e n' (goneS s' ret)\/∃ s1,goneS s' ret=s1.stop/\DSt e n' s1)/\Q (.exit 0) (S35 e fuel k L C (runF (stepF e) (fuel-n').toNat (goneS s' ret) n').1 ((runF (stepF e) (fuel-n').toNat (goneS s' ret) n').2:Nat))) /\
     (bif (goneS s' ret).m.st==0 then 1 else 0)+(fuel-n').toNat<(bif s.m.st==0 then 1 else 0)+(fuel-n).toNat:=by
    cases ret with
    |true =>
     rw[runF_go h0s hsp]at hq
     refine⟨⟨.inl hD',?_⟩,?_⟩
     ·show Q (.exit 0) (S35 e fuel k L C (runF (stepF e) (fuel-(n+1:Nat)).toNat s' (n+1)).1 ((runF (stepF e) (fuel-(n+1:Nat)).toNat s' (n+1)).2:Nat))
      rw[hj'];exact hq
     ·show(bif s'.m.st==0 then 1 else 0)+(fuel-(n+1:Nat)).toNat<_
      rw[h0s,hj,hj',cond_true]
      cases s'.m.st==0
      ·show 0+j<_;omega
      ·show 1+j<_;omega
    |false =>
     rw[runF_no h0s hsp]at hq
     refine⟨⟨.inr ⟨s',rfl,hD'⟩,?_⟩,?_⟩
     ·show Q (.exit 0) (S35 e fuel k L C (runF (stepF e) (fuel-(n:Nat)).toNat s'.stop n).1 ((runF (stepF e) (fuel-(n:Nat)).toNat s'.stop n).2:Nat))
      rw[runF_end (s:=s'.stop) rfl];exact hq
     ·show(bif s'.stop.m.st==0 then 1 else 0)+(fuel-(n:Nat)).toNat<_
      rw[h0s]
      show 0+(fuel-(n:Nat)).toNat<1+_
      omega
   have hgm:goneM s'.m ret=(goneS s' ret).m:=by cases ret<;>rfl
   have hgd:(goneS s' ret).m.memB=s'.m.memB:=by cases ret<;>rfl
   have hgr:∀ a b,rsB e (goneS s' ret) a b=rsB e s' a b:=fun a b=>by cases ret<;>rfl
   have hgo:(goneS s' ret).oN=s'.oN/\(goneS s' ret).of=s'.of/\(goneS s' ret).sN=s'.sN/\(goneS s' ret).sf=s'.sf:=by cases ret<;>exact⟨rfl,rfl,rfl,rfl⟩
   have hS:S35 e fuel k L C (goneS s' ret) n'=⟨T35 n' fuel k L C,mkH (H35 (goneS s' ret).m (rsB e s' 104 105) (bO s'.oN) (bO s'.sN) e.T s'.oN s'.sN e.inp s'.of s'.sf),106⟩:=by
    unfold S35
    rw[hgr,hgo.1,hgo.2.1,hgo.2.2.1,hgo.2.2.2]
   cases hnx with
   |d0 g1 g2 g3 g4 =>
    have e0:=p35_0 s.m s'.m (bO s.oN) (bO s.sN) ret k L C (e.k0+s.ik) (e.L0-s.ik) (e.C0-s.ik) (e.k0+s'.ik) (e.L0-s'.ik) (e.C0-s'.ik) e.T s.oN s.sN n fuel s.mark s'.mark e.inp s.of s.sf [(93,s.m.memB)]
    unfold valS rsV rsB at g1
    rw[g3.1,g4.1]at g1
    have hd:d49 s.m (bO s.oN) (bO s.sN) (e.k0+s.ik) (e.L0-s.ik) (e.C0-s.ik) e.T s.oN s.sN s.mark e.inp s.of s.sf [(93,s.m.memB)] (val70 s'.m (bO s.oN) (bO s.sN) 104 105 (e.k0+s'.ik) (e.L0-s'.ik) (e.C0-s'.ik) s.oN s.sN s'.mark ret) (mkH [(106,docB 93 s'.m),(107,rcB (bO s.oN) (bO s.sN) 104 105 (e.k0+s'.ik) (e.L0-s'.ik) (e.C0-s'.ik) s.oN s.sN s'.mark)])=true:=decP_true ⟨rfl,(has0_35 _ _ _ _ _ _ _ _ _ _).1,g1⟩
    rw[hd,hn',hgm]at e0
    simp only[Bool.and_self,cond_true]at e0
    refine xwp_toEnd hcr (fokE hP _) 1000 e0 (S35 e fuel k L C (goneS s' ret) n') ?_ ⟨(goneS s' ret,n'),hI.1,hI.2,Wk.refl _ _⟩
    rw[hS]
    unfold rsB
    rw[g3.1,g3.2,g4.1,g4.2]
    exact lf35 hP hE hse _ (hgd.trans g2)
   |dO g1 g2 g4 =>
    have e0:=p35_O s.m s'.m (bO s.oN) (bO s.sN) (bO s'.oN) ret k L C (e.k0+s.ik) (e.L0-s.ik) (e.C0-s.ik) (e.k0+s'.ik) (e.L0-s'.ik) (e.C0-s'.ik) e.T s.oN s.sN s'.oN n fuel s.mark s'.mark e.inp s.of s'.of s.sf ((93,s.m.memB) :: (40,inB e.T e.inp) :: dxO (bO s.oN) 104 s.oN s.of)
    unfold valS rsV rsB at g1
    rw[g4.1]at g1
    have hd:d49 s.m (bO s.oN) (bO s.sN) (e.k0+s.ik) (e.L0-s.ik) (e.C0-s.ik) e.T s.oN s.sN s.mark e.inp s.of s.sf ((93,s.m.memB) :: (40,inB e.T e.inp) :: dxO (bO s.oN) 104 s.oN s.of) (val70 s'.m (bO s'.oN) (bO s.sN) 108 105 (e.k0+s'.ik) (e.L0-s'.ik) (e.C0-s'.ik) s'.oN s.sN s'.mark ret) (mkH ([(106,docB 93 s'.m),(107,rcB (bO s'.oN) (bO s.sN) 108 105 (e.k0+s'.ik) (e.L0-s'.ik) (e.C0-s'.ik) s'.oN s.sN s'.mark)]++dxO (bO s'.oN) 108 s'.oN s'.of)++[(104,none)])=true:=decP_true ⟨rfl,(has0_35 _ _ _ _ _ _ _ _ _ _).2.1,g1⟩
    rw[hd,hn',hgm]at e0
    simp only[Bool.and_self,cond_true]at e0
    refine xwp_toEnd hcr (fokE hP _) 1000 e0 _ (lf35O hP hE hse _ (hgd.trans g2)) ⟨(goneS s' ret,n'),hI.1,hI.2,?_⟩
    show Wk E.toEnv _ (S35 e fuel k L C (goneS s' ret) n')
    rw[hS]
    unfold rsB
    rw[g4.1,g4.2]
    exact wk_sub (has_sub (hasO35 _ _ _ _ _ _ _ _ _ _))
   |dW g1 g3 =>
    have e0:=p35_W s.m s'.m (bO s.oN) (bO s.sN) (bO s'.sN) ret k L C (e.k0+s.ik) (e.L0-s.ik) (e.C0-s.ik) (e.k0+s'.ik) (e.L0-s'.ik) (e.C0-s'.ik) e.T s.oN s.sN s'.sN n fuel s.mark s'.mark e.inp s.of s.sf s'.sf ((93,s.m.memB) :: dxW (bO s.sN) 105 s.sN s.sf)
    unfold valS rsV rsB at g1
    rw[g3.1]at g1
    have hd:d49 s.m (bO s.oN) (bO s.sN) (e.k0+s.ik) (e.L0-s.ik) (e.C0-s.ik) e.T s.oN s.sN s.mark e.inp s.of s.sf ((93,s.m.memB) :: dxW (bO s.sN) 105 s.sN s.sf) (val70 s'.m (bO s.oN) (bO s'.sN) 104 108 (e.k0+s'.ik) (e.L0-s'.ik) (e.C0-s'.ik) s.oN s'.sN s'.mark ret) (mkH ([(106,docB 93 s'.m),(107,rcB (bO s.oN) (bO s'.sN) 104 108 (e.k0+s'.ik) (e.L0-s'.ik) (e.C0-s'.ik) s.oN s'.sN s'.mark)]++dxW (bO s'.sN) 108 s'.sN s'.sf++[(93,s'.m.memB)])++[(105,none)])=true:=decP_true ⟨rfl,(has0_35 _ _ _ _ _ _ _ _ _ _).2.2,g1⟩
    rw[hd,hn',hgm,<- hgd]at e0
    simp only[Bool.and_self,cond_true]at e0
    refine xwp_toEnd hcr (fokE hP _) 1000 e0 _ (lf35W hP hE hse' _) ⟨(goneS s' ret,n'),hI.1,hI.2,?_⟩
    show Wk E.toEnv _ (S35 e fuel k L C (goneS s' ret) n')
    rw[hS]
    unfold rsB
    rw[g3.1,g3.2]
    exact wk_sub (has_sub (hasW35 _ _ _ _ _ _ _ _ _ _))
 ·have hk:(fuel-n).toNat=0:=by omega
  rw[hk]at hq
  rw[decide_eq_false hlt]at ec
  exact xwp_seq (xwp_toEnd (cl_seqP hcr) FO 1000 ec (S35 e fuel k L C s n) (lf35c hP hE hse _) hq)
theorem steps_dst (e:REnv){fuel:Int} (hf:fuel<=1000000000):Steps48 e fuel (stepF e) (fun n s=>DSt e n s) where
 se n s h:=h.base.se
 go n s s' h hlt h0 hs:=⟨((steps_all e hf).go n s s' ⟨h.base,h.sn⟩ hlt h0 hs).1,(go_doc h (by omega) h0 hs).2⟩
 no n s s' h hlt h0 hs:=⟨((steps_all e hf).no n s s' ⟨h.base,h.sn⟩ hlt h0 hs).1,(go_doc h (by omega) h0 hs).2⟩
structure MOK (m:MS):Prop where
 sz:szB m.sz=true
 pl:uB m.pl=true
 x:∀ j,uB (m.x j)=true
 kn:m.kn.OK
 by_:ByOK m.mem
 x0:m.x 0=0
theorem dst_init {e:REnv}{m:MS} (hm:MOK m) (bi:e.bi=true) (wt:e.wt=true) (cap:e.L0<=e.C0) (top:e.k0+e.L0<=e.T):DSt e 0 (RSt.init m) :=
 ⟨⟨hm.sz,hm.pl,hm.x,hm.kn,fun j hj=>absurd hj (Nat.not_lt_zero _),Nat.le_refl _,cap,top,Nat.zero_le _⟩,Nat.le_refl _,bi,wt,hm.by_,hm.x0⟩
theorem dst_mok {e:REnv}{n:Nat}{s:RSt} (h:DSt e n s):MOK s.m/\MOK s.stop.m:=⟨⟨h.base.sz,h.base.pl,h.base.x,h.base.kn,h.doc.by_,h.doc.x0⟩,⟨h.base.sz,h.base.pl,h.base.x,h.base.kn,h.doc.by_,h.doc.x0⟩⟩
theorem run_mok {e:REnv}{fuel:Int} (hf0:0<=fuel) (hf:fuel<=1000000000){s0 s:RSt}{n:Nat} (h0:DSt e 0 s0) (hr:runF (stepF e) fuel.toNat s0 0=(s,n)):MOK s.m/\SeOK s.sN s.sf:=by
 have:=run_ok (steps_dst e hf) fuel.toNat 0 s0 (by omega) h0
 rw[hr]at this
 rcases this with⟨n',h⟩|⟨n',s1,h,e1⟩
 ·exact⟨(dst_mok h).1,h.base.se⟩
 ·simp only at e1;rw[e1];exact⟨(dst_mok h).2,h.base.se⟩
def val35 (m:MS) (bo bs:Bool) (a b oN sN:Nat) (n mk:Int):Value:=.tuple ⟨[docV 93 m,.agg ⟨[.int .i64 m.st,.int .u8 m.cd,.int .i64 0,vOa a bo oN,.int .i64 n,.int .i64 mk]⟩,vOa b bs sN]⟩
def upd35 (N:Nat) (m:MS) (bo bs:Bool) (oN sN:Nat) (n mk:Int) (of:Nat->Int) (sf:Nat->List Value):List (Nat × Blk):=[(N,docB 93 m),(N+1,resB m (vOa (N+2) bo oN) n mk),(93,m.memB)]++dxO bo (N+2) oN of++dxW bs (N+3) sN sf
theorem bis_res {P:Program}{σ:Nm}{m:MS}{bo:Bool}{a b oN:Nat}{n mk:Int} (h:bo=true->σ a=some b):BIs P σ (resB m (vOa a bo oN) n mk) (resB m (vOa b bo oN) n mk):=by
 show[_,_,_,ren σ 4 (vOa a bo oN),_,_]=_
 have e:ren σ 4 (vOa a bo oN)=vOa b bo oN:=by
  cases bo with
  |false=>rfl
  |true=>simp only[vOa,cond_true,ren,renP,h rfl]
 rw[e];rfl
theorem lf35e {E:FEnv} (hP:E.P=Try.prog) (hE:E.B.n=100){bo bs:Bool}{m:MS}{k L C k2 L2 C2 T oN sN:Nat}{n fuel mk:Int}{inp of:Nat->Int}{sf:Nat->List Value} (hse:SeOK sN sf) :
  LeafTo E ([6,7,8]++[]) (ext ⟨[6,7,8],[.tmp 6,.tmp 7],[],[93,40]++I35 bo bs⟩ (T35 n fuel k L C) (mkH (H35 m (rcB bo bs 104 105 k2 L2 C2 oN sN mk) bo bs T oN sN inp of sf)) ⟨[some (true,pt 101),some (true,pt 102),some (true,vOa 105 bs sN)],[(101,some (docB 93 m)),(102,some (resB m (vOa 104 bo oN) n mk))],.ret,106⟩)
   ⟨mkT [6,7,8] [pt 100,pt 101,vOa 103 bs sN],mkH ([(100,docB 93 m),(101,resB m (vOa 102 bo oN) n mk),(93,m.memB),(40,inB T inp)]++dxO bo 102 oN of++dxW bs 103 sN sf),104⟩:=by
 have h2:∀ {σ:Nm},BIs Try.prog σ (seB sN sf) (seB sN sf):=bis_seB fun j hj=>hse j hj _
 refine⟨_,[(100,docB 93 m),(101,resB m (vOa 102 bo oN) n mk),(93,m.memB),(40,inB T inp)]++dxO bo 102 oN of++dxW bs 103 sN sf,104,rfl,?_,?_,?_⟩
 ·rw[hE];cases bo<;>cases bs<;>rfl
 ·rw[hE];cases bo<;>cases bs<;>exact⟨rfl,rfl,rfl,trivial⟩
 ·rw[hE,hP]
  refine⟨bis_doc93 rfl,bis_res (fun h=>by rw[h];cases bs<;>rfl),bis_mem,bis_inB,?_⟩
  cases bo<;>cases bs
  ·exact trivial
  ·exact⟨h2,trivial⟩
  ·exact⟨bis_outB,trivial⟩
  ·exact⟨bis_outB,h2,trivial⟩
theorem b35 (e:REnv) (hbi:e.bi=true) (hwt:e.wt=true) (hcap:e.L0<=e.C0) (htop:e.k0+e.L0<=e.T){fuel:Int} (hf:fuel<=1000000000){m:MS} (hm:MOK m){s:RSt}{n:Nat} (hr:runF (stepF e) fuel.toNat (RSt.init m) 0=(s,n)) :
  Body Try.prog 35 [docV 93 m,.slice (some ⟨40,e.k0,none⟩) e.L0 e.C0,.int .i64 fuel] (mkH [(93,m.memB),(40,inB e.T e.inp)]) (val35 s.m (bO s.oN) (bO s.sN) 102 103 s.oN s.sN n s.mark) (mkH (upd35 100 s.m (bO s.oN) (bO s.sN) s.oN s.sN n s.mark s.of s.sf)) 100 4:=by
 have h0:=dst_init (e:=e) hm hbi hwt hcap htop
 have hse:SeOK s.sN s.sf:=by
  by_cases hf0:0<=fuel
  ·exact(run_mok hf0 hf h0 hr).2
  ·rw[show fuel.toNat=0 by omega]at hr
   cases hr
   exact fun j hj=>absurd hj (Nat.not_lt_zero _)
 refine body_of' mixed fx35 (by simp) fun E Q hP hE hcl hfin=>?_
 have hF:FnsOK E.P (lookF FL) noSc:=hP▸FOK
 refine xwp_toLoop (s:=⟨_,_,_⟩) hF 1000 (p35_a m e.k0 e.L0 e.C0 e.T fuel e.inp) ⟨T35 0 fuel e.k0 e.L0 e.C0,mkH [(100,docB 93 m),(103,rcB false false 104 105 e.k0 e.L0 e.C0 0 0 0),(101,docZ),(102,res0),(93,m.memB),(40,inB e.T e.inp)],106⟩
  ⟨_,[(100,docB 93 m),(103,rcB false false 104 105 e.k0 e.L0 e.C0 0 0 0),(101,docZ),(102,res0),(93,m.memB),(40,inB e.T e.inp)],106,rfl,by rw[hE];rfl,by rw[hE];exact⟨rfl,rfl,rfl,rfl,rfl,rfl,rfl,rfl,trivial⟩,by rw[hE,hP];exact⟨bis_doc93 rfl,bis_rc rfl (fun h=>by cases h) (fun h=>by cases h),rfl,rfl,bis_mem,bis_inB,trivial⟩⟩ ?_
 have hinit:(⟨T35 0 fuel e.k0 e.L0 e.C0,mkH [(100,docB 93 m),(103,rcB false false 104 105 e.k0 e.L0 e.C0 0 0 0),(101,docZ),(102,res0),(93,m.memB),(40,inB e.T e.inp)],106⟩:St)=S35 e fuel e.k0 e.L0 e.C0 (RSt.init m) (0:Nat):=rfl
 rw[hinit]
 refine loop35 (cl_ctx hcl _) hP hE hf e.k0 e.L0 e.C0 (RSt.init m) h0 ?_
 rw[hr]
 show XWP E.toEnv x35_20 _ (S35 e fuel e.k0 e.L0 e.C0 s n)
 have ee:=p35_e s.m (bO s.oN) (bO s.sN) e.k0 e.L0 e.C0 (e.k0+s.ik) (e.L0-s.ik) (e.C0-s.ik) e.T s.oN s.sN n fuel s.mark e.inp s.of s.sf
 refine xwp_toEnd hcl hF 1000 ee ⟨mkT [6,7,8] [pt 100,pt 101,vOa 103 (bO s.sN) s.sN],mkH ([(100,docB 93 s.m),(101,resB s.m (vOa 102 (bO s.oN) s.oN) n s.mark),(93,s.m.memB),(40,inB e.T e.inp)]++dxO (bO s.oN) 102 s.oN s.of++dxW (bO s.sN) 103 s.sN s.sf),104⟩
  (lf35e hP hE hse) (hfin _ _ (fin_of rfl ?_ (by rw[hE]) ?_))
 ·unfold upd35
  cases bO s.oN<;>cases bO s.sN
  ·exact⟨rfl,rfl,rfl,trivial,rfl,trivial⟩
  ·exact⟨rfl,rfl,rfl,rfl,trivial,rfl,trivial⟩
  ·exact⟨rfl,rfl,rfl,rfl,trivial,rfl,trivial⟩
  ·exact⟨rfl,rfl,rfl,rfl,rfl,trivial,rfl,trivial⟩
 ·unfold upd35
  cases bO s.oN<;>cases bO s.sN<;>rfl
theorem adet_demoteL {P:Program}{f:FuncId}{vs:List Value}{v:Value}{upd pre:Hp}{n news b N s:Nat}{F:Nat->List Value} {o o':Bool} (h:ADet P f vs ((b,some (.rows N s F o' true)) :: pre) v upd n news)
  (hb:b ∉ fstL upd) (hrw:updRW upd=true):ADet P f vs ((b,some (.rows N s F o false)) :: pre) v upd n news:=by
 refine⟨h.1,h.2.1,fun ρ g w cargs hvl hr hg hfree hsp=>?_⟩
 have hgb:g b=some (.rows N s F o false):=by
  have:=hg b (by simp[fstL])
  simpa [hget]using this
 obtain⟨lb,hlb,hhb⟩:=hr.holds b _ hgb
 have hro:Holds P ρ w lb (.rows N s F o' true):=⟨hhb.1,fun _ h=>(by cases h),hhb.2.2.1,fun h=>by cases h⟩
 let g':G:=gset g b (some (.rows N s F o' true))
 have hr':RelH P ρ g' w:=by
  refine⟨fun id c hc=>?_,fun id c id' c' l l' hc hc' hne hro1 ht hl hl'=>?_⟩
  ·by_cases e:id=b
   ·subst e
    simp only[g',gset_same]at hc
    cases hc
    exact⟨lb,hlb,hro⟩
   ·simp only[g',gset_ne _ _ e]at hc
    exact hr.holds id c hc
  ·have e1:id≠b:=by
    rintro rfl
    simp only[g',gset_same]at hc
    cases hc;cases hro1
   simp only[g',gset_ne _ _ e1]at hc
   by_cases e2:id'=b
   ·subst e2
    exact hr.sep id c id' _ l l' hc hgb hne hro1 (.inl rfl) hl hl'
   ·simp only[g',gset_ne _ _ e2]at hc'
    exact hr.sep id c id' c' l l' hc hc' hne hro1 ht hl hl'
 have hown:∀ k,Own ρ g' k->Own ρ g k:=by
  rintro k ⟨id,c,l,hc,hro1,hl,hk⟩
  by_cases e:id=b
  ·subst e
   simp only[g',gset_same]at hc
   cases hc;cases hro1
  ·simp only[g',gset_ne _ _ e]at hc
   exact⟨id,c,l,hc,hro1,hl,hk⟩
 have hnb:¬ Own ρ g' lb.addr.block:=by
  rintro⟨id,c,l,hc,hro1,hl,hk⟩
  by_cases e:id=b
  ·subst e
   simp only[g',gset_same]at hc
   cases hc;cases hro1
  ·simp only[g',gset_ne _ _ e]at hc
   exact hr.sep id c b _ l lb hc hgb e hro1 (.inl rfl) hl hlb hk
 have hltb:lb.addr.block<w.heap.size:=hhb.lt (.inl rfl)
 refine(h.2.2 ρ g' w cargs hvl hr' (fun id hid=>?_) hfree hsp).mono ?_
 ·by_cases e:id=b
  ·subst e;simp[g',gset_same,hget]
  ·have hb0:Nat.beq b id=false:=by rw[beq_dec];exact decide_eq_false fun h=>e h.symm
   have:=hg id (by simpa [fstL]using hid)
   simp only[g',gset_ne _ _ e]
   rw[this]
   simp only[hget,hb0,cond_false]
 intro e w' hR
 cases e with
 |panicked _=>exact hR.elim
 |outgrown=>exact hR.elim
 |returned c =>
 obtain⟨ρ',hgood,hv⟩:=hR
 have hap:∀ id,id≠b->gapply g upd id=gapply g' upd id:=fun id hne=>by
  by_cases hu:id∈fstL upd
  ·have h1:gapply g upd id=hget (upd++([]:Hp)) id:=by rw[hget_append];exact gapply_in hu
   have h2:gapply g' upd id=hget (upd++([]:Hp)) id:=by rw[hget_append];exact gapply_in hu
   rw[h1,h2]
  ·rw[gapply_nin hu,gapply_nin hu];simp only[g',gset_ne _ _ hne]
 have hbb:gapply g upd b=some (.rows N s F o false):=by rw[gapply_nin hb];exact hgb
 have hl':ρ' b=some lb:=hgood.le b lb hlb
 have hblk:w'.heap[lb.addr.block]?=w.heap[lb.addr.block]?:=hgood.fr.block _ hltb hnb
 have hupd:∀ id c,id≠b->gapply g' upd id=some c->(id∈fstL upd->c.ro=false):=fun id c hne hc hu=>by
  have h2:gapply g' upd id=hget (upd++([]:Hp)) id:=by rw[hget_append];exact gapply_in hu
  rw[h2,List.append_nil]at hc
  exact updRW_get hrw hc
 have hoff:∀ id c l,id≠b->gapply g' upd id=some c->c.touch->ρ' id=some l->l.addr.block≠lb.addr.block:=by
  intro id c l hne hc ht hl he
  by_cases hu:id∈fstL upd
  ·rcases hgood.own _ ⟨id,c,l,hc,hupd id c hne hc hu,hl,rfl⟩with h|h
   ·rw[he]at h;exact hnb h
   ·omega
  ·rw[gapply_nin hu]at hc
   simp only[g',gset_ne _ _ hne]at hc
   obtain⟨l0,hl0,_⟩:=hr.holds id c hc
   have:=hgood.le id l0 hl0
   rw[hl]at this;cases this
   exact hr.sep b _ id c lb l hgb hc (Ne.symm hne) rfl ht hlb hl0 he.symm
 refine⟨ρ',⟨hgood.le,hgood.new,⟨fun id c hc=>?_,fun id1 b1 id2 b2 l1 l2 hb1 hb2 hne hro1 ht hl1 hl2=>?_⟩,?_,fun k hk=>?_⟩,hv⟩
 ·by_cases e:id=b
  ·subst e
   rw[hbb]at hc;cases hc
   exact⟨lb,hl',hhb.stay hgood.le fun _=>hblk⟩
  ·rw[hap id e]at hc
   exact hgood.rel.holds id c hc
 ·by_cases e1:id1=b
  ·subst e1
   rw[hl']at hl1;cases hl1
   rw[hap id2 (Ne.symm hne)]at hb2
   exact fun he=>hoff id2 b2 l2 (Ne.symm hne) hb2 ht hl2 he.symm
  ·rw[hap id1 e1]at hb1
   by_cases e2:id2=b
   ·subst e2
    rw[hl']at hl2;cases hl2
    exact hoff id1 b1 l1 e1 hb1 (touch_of_rw hro1) hl1
   ·rw[hap id2 e2]at hb2
    exact hgood.rel.sep id1 b1 id2 b2 l1 l2 hb1 hb2 hne hro1 ht hl1 hl2
 ·exact⟨hgood.fr.os,hgood.fr.tape,hgood.fr.output,hgood.fr.size,fun k hk hn=>hgood.fr.block k hk fun ho=>hn (hown k ho)⟩
 ·obtain⟨id,c,l,hc,hro1,hl,rfl⟩:=hk
  by_cases e:id=b
  ·subst e
   rw[hl']at hl;cases hl
   exact .inl ⟨id,_,lb,hgb,rfl,hlb,rfl⟩
  ·rw[hap id e]at hc
   rcases hgood.own _ ⟨id,c,l,hc,hro1,hl,rfl⟩with h|h
   ·exact .inl (hown _ h)
   ·exact .inr h
end Go.X
