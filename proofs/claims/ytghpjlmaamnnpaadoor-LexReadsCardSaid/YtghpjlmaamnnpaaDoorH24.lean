import Derived.Test.YtghpjlmaamnnpaaDoorH23
import Derived.Test.YtghpjlmaamnnpaaDoorH21
set_option linter.all false
namespace Go.X
open Go Go.Proofs
set_option linter.unusedVariables false
set_option linter.unusedSimpArgs false
def ins (D:Nat → Bool) (i:Nat):Nat → Bool:=fun j=>decide (j=i)||D j
def slots34:List Nat:=[0,11,10,9,8,7,6,5,4,3,2,1]
theorem slots_eq (D:Nat → Bool):(LL D).map (·.2.1)=slots34:=rfl
theorem hne_of {D:Nat → Bool}{p k:Nat} (h:(slots34.take p).all (fun s=>!Nat.beq s k)=true):∀ m,m<p → ∀ x,(LL D)[m]?=some x → Nat.beq x.2.1 k=false:=by
 intro m hm x hx
 have h1:slots34[m]?=some x.2.1:=by rw[← slots_eq D,List.getElem?_map,hx];rfl
 have h2:x.2.1∈slots34.take p:=List.mem_of_getElem? (i:=m) (by rw[List.getElem?_take,if_pos hm];exact h1)
 have:=List.all_eq_true.1 h _ h2
 simpa using this
theorem mu_wk {E:Env}{D:Nat → Bool}{i:Nat}{k:Value} (h0:D 0=true) (h0':ins D i 0=true) (hk:hasD D k=false) (hc:cntD (ins D i)=cntD D+1) (hh:∀ q,hasD (ins D i) q=(keq q k||hasD D q)) (hL:LL (ins D i)=LL D) :
  Wk E ⟨[]++(S34 D).t,[(100,some (muB D k))]++(S34 D).h,101+0⟩ (S34 (ins D i)):=by
 have hm:mapD (ins D i)=muB D k:=by
  unfold mapD muB
  rw[hc,hk,cond_false]
  congr 1
  ·funext q;exact hh q
  ·funext q
   rw[hh q]
   cases keq q k<;>rfl
 unfold S34
 rw[h0,h0',hL,hm]
 exact wk_look (fun q x h=>h) fun id=>by
  show hget [(100,some (muB D k))] id=hget [(100,some (muB D k)),(100,some (mapD D))] id
  simp only[hget]
  cases Nat.beq 100 id<;>rfl
theorem bu_wk {E:Env}{D:Nat → Bool}{i p slot:Nat}{k:Value} (hL:LL (ins D i)=(LL D).set p (true,slot,k)) (hp:(LL D)[p]?=some (false,slot,k)) (hne:∀ m,m<p → ∀ x,(LL D)[m]?=some x → Nat.beq x.2.1 slot=false)
  (hm:mapD (ins D i)=mapD D) (h0:ins D i 0=D 0):Wk E ⟨[(slot,true,k)]++(S34 D).t,[]++(S34 D).h,(S34 D).n+0⟩ (S34 (ins D i)):=by
 unfold S34
 rw[hm,h0,hL]
 exact wk_look (fun q x h=>tL_set hp hne h) fun _=>rfl
theorem mv_eff {ce:CE}{hint i k n:Nat}{t:Tm}{h:Hp}{v:Value} (hv:look t k=some (true,v)):eff ce hint i (.op (.mv (.tmp k))) t h n=some ⟨[],v,[],0,true,True⟩:=by
 have he:evs t [.tmp k]=some (true,[v]):=by simp only[evs,ev,hv];rfl
 show effX hint (.mv (.tmp k)) t h n=_
 unfold effX
 rw[show XOp.opds (.mv (.tmp k))=[.tmp k] from rfl,he]
 rfl
theorem step34 {E:Env}{ce:CE} (D:Nat → Bool) (i:Nat) (xo:XOper) (hl:x34_1[i]?=some xo) (hcl:∀ a,D a=true → ∀ j∈ord34.getD a [],D j=true) (hD:D i=false) (hdep:∀ j∈ord34.getD i [],D j=true) :
  ∃ r,StepR ce [] xo i (S34 D).t (S34 D).h (S34 D).n r ∧ Wk E ⟨r.put++(S34 D).t,r.upd++(S34 D).h,(S34 D).n+r.news⟩ (S34 (ins D i)):=by
 match i,hl with
 |0,hl =>
  cases hl
  have f:∀ m,0∈ord34.getD m [] → D m=false:=fun m hm=>by
   cases h:D m with
   |false=>rfl
   |true=>rw[hcl m h 0 hm]at hD;cases hD
  have hn:S34 D=⟨tL (LL D),[],100⟩:=by unfold S34;rw[hD];rfl
  rw[hn]
  refine⟨⟨[(1,true,MV)],[(100,some (.map 68 3 0 (fun _=>false) (fun _=>.int .i64 0)))],[],100,1⟩,⟨rfl,true,rfl,.inr ⟨MV,true,True,rfl,⟨rfl,rfl,trivial⟩,rfl,fun e=>by cases e⟩⟩,?_⟩
  have hh:∀ q,hasD (ins D 0) q=false:=fun q=>by simp[hasD,ins,f 2 (by decide),f 4 (by decide),f 6 (by decide),f 8 (by decide),f 10 (by decide),f 12 (by decide),f 14 (by decide),f 16 (by decide),f 18 (by decide)]
  have hm:mapD (ins D 0)=.map 68 3 0 (fun _=>false) (fun _=>.int .i64 0):=by
   unfold mapD
   rw[show cntD (ins D 0)=0 by simp[cntD,ins,f 2 (by decide),f 4 (by decide),f 6 (by decide),f 8 (by decide),f 10 (by decide),f 12 (by decide),f 14 (by decide),f 16 (by decide),f 18 (by decide)]]
   congr 1
   ·funext q;exact hh q
   ·funext q;rw[hh q];rfl
  unfold S34
  rw[hm,show ins D 0 0=true from rfl]
  exact wk_look (fun q x h=>tL_set (p:=11) (by show some (D 0,1,MV)=_;rw[hD]) (hne_of rfl) h) (fun _=>rfl)
 |1,hl =>
  cases hl
  exact⟨⟨[(2,true,kv 45 62)],[],[],(S34 D).n,0⟩,⟨rfl,true,rfl,.inr ⟨kv 45 62,true,True,rfl,⟨rfl,rfl,trivial⟩,rfl,fun _=>rfl⟩⟩,
   bu_wk (p:=10) rfl (by show some (D 1,2,kv 45 62)=_;rw[hD]) (hne_of rfl) rfl rfl⟩
 |2,hl =>
  cases hl
  have h0:D 0=true:=hdep 0 (by decide)
  have hb:D 1=true:=hdep 1 (by decide)
  have h1:look (tL (LL D)) 1=some (true,MV):=tL_at (p:=11) (by show some (D 0,1,MV)=_;rw[h0]) (hne_of rfl)
  have hs:look (tL (LL D)) 2=some (true,kv 45 62):=tL_at (p:=10) (by show some (D 1,2,kv 45 62)=_;rw[hb]) (hne_of rfl)
  refine⟨_,mu_step (slot:=2) h0 hs h1 rfl,?_⟩
  have hn:(S34 D).n=101:=by unfold S34;rw[h0];rfl
  rw[hn]
  refine mu_wk h0 (by show(false||D 0)=true;rw[h0];rfl) (by simp[hasD,kv,keq,hD]) ?_ (fun q=>?_) rfl
  ·simp[cntD,ins,hD]<;>omega
  ·simp only[hasD,ins]
   cases keq q (kv 45 62)<;>simp[hD]
 |3,hl =>
  cases hl
  exact⟨⟨[(3,true,kv 60 60)],[],[],(S34 D).n,0⟩,⟨rfl,true,rfl,.inr ⟨kv 60 60,true,True,rfl,⟨rfl,rfl,trivial⟩,rfl,fun _=>rfl⟩⟩,
   bu_wk (p:=9) rfl (by show some (D 3,3,kv 60 60)=_;rw[hD]) (hne_of rfl) rfl rfl⟩
 |4,hl =>
  cases hl
  have h0:D 0=true:=hdep 0 (by decide)
  have hb:D 3=true:=hdep 3 (by decide)
  have h1:look (tL (LL D)) 1=some (true,MV):=tL_at (p:=11) (by show some (D 0,1,MV)=_;rw[h0]) (hne_of rfl)
  have hs:look (tL (LL D)) 3=some (true,kv 60 60):=tL_at (p:=9) (by show some (D 3,3,kv 60 60)=_;rw[hb]) (hne_of rfl)
  refine⟨_,mu_step (slot:=3) h0 hs h1 rfl,?_⟩
  have hn:(S34 D).n=101:=by unfold S34;rw[h0];rfl
  rw[hn]
  refine mu_wk h0 (by show(false||D 0)=true;rw[h0];rfl) (by simp[hasD,kv,keq,hD]) ?_ (fun q=>?_) rfl
  ·simp[cntD,ins,hD]<;>omega
  ·simp only[hasD,ins]
   cases keq q (kv 60 60)<;>simp[hD]
 |5,hl =>
  cases hl
  exact⟨⟨[(4,true,kv 62 62)],[],[],(S34 D).n,0⟩,⟨rfl,true,rfl,.inr ⟨kv 62 62,true,True,rfl,⟨rfl,rfl,trivial⟩,rfl,fun _=>rfl⟩⟩,
   bu_wk (p:=8) rfl (by show some (D 5,4,kv 62 62)=_;rw[hD]) (hne_of rfl) rfl rfl⟩
 |6,hl =>
  cases hl
  have h0:D 0=true:=hdep 0 (by decide)
  have hb:D 5=true:=hdep 5 (by decide)
  have h1:look (tL (LL D)) 1=some (true,MV):=tL_at (p:=11) (by show some (D 0,1,MV)=_;rw[h0]) (hne_of rfl)
  have hs:look (tL (LL D)) 4=some (true,kv 62 62):=tL_at (p:=8) (by show some (D 5,4,kv 62 62)=_;rw[hb]) (hne_of rfl)
  refine⟨_,mu_step (slot:=4) h0 hs h1 rfl,?_⟩
  have hn:(S34 D).n=101:=by unfold S34;rw[h0];rfl
  rw[hn]
  refine mu_wk h0 (by show(false||D 0)=true;rw[h0];rfl) (by simp[hasD,kv,keq,hD]) ?_ (fun q=>?_) rfl
  ·simp[cntD,ins,hD]<;>omega
  ·simp only[hasD,ins]
   cases keq q (kv 62 62)<;>simp[hD]
 |7,hl =>
  cases hl
  exact⟨⟨[(5,true,kv 60 61)],[],[],(S34 D).n,0⟩,⟨rfl,true,rfl,.inr ⟨kv 60 61,true,True,rfl,⟨rfl,rfl,trivial⟩,rfl,fun _=>rfl⟩⟩,
   bu_wk (p:=7) rfl (by show some (D 7,5,kv 60 61)=_;rw[hD]) (hne_of rfl) rfl rfl⟩
 |8,hl =>
  cases hl
  have h0:D 0=true:=hdep 0 (by decide)
  have hb:D 7=true:=hdep 7 (by decide)
  have h1:look (tL (LL D)) 1=some (true,MV):=tL_at (p:=11) (by show some (D 0,1,MV)=_;rw[h0]) (hne_of rfl)
  have hs:look (tL (LL D)) 5=some (true,kv 60 61):=tL_at (p:=7) (by show some (D 7,5,kv 60 61)=_;rw[hb]) (hne_of rfl)
  refine⟨_,mu_step (slot:=5) h0 hs h1 rfl,?_⟩
  have hn:(S34 D).n=101:=by unfold S34;rw[h0];rfl
  rw[hn]
  refine mu_wk h0 (by show(false||D 0)=true;rw[h0];rfl) (by simp[hasD,kv,keq,hD]) ?_ (fun q=>?_) rfl
  ·simp[cntD,ins,hD]<;>omega
  ·simp only[hasD,ins]
   cases keq q (kv 60 61)<;>simp[hD]
 |9,hl =>
  cases hl
  exact⟨⟨[(6,true,kv 62 61)],[],[],(S34 D).n,0⟩,⟨rfl,true,rfl,.inr ⟨kv 62 61,true,True,rfl,⟨rfl,rfl,trivial⟩,rfl,fun _=>rfl⟩⟩,
   bu_wk (p:=6) rfl (by show some (D 9,6,kv 62 61)=_;rw[hD]) (hne_of rfl) rfl rfl⟩
 |10,hl =>
  cases hl
  have h0:D 0=true:=hdep 0 (by decide)
  have hb:D 9=true:=hdep 9 (by decide)
  have h1:look (tL (LL D)) 1=some (true,MV):=tL_at (p:=11) (by show some (D 0,1,MV)=_;rw[h0]) (hne_of rfl)
  have hs:look (tL (LL D)) 6=some (true,kv 62 61):=tL_at (p:=6) (by show some (D 9,6,kv 62 61)=_;rw[hb]) (hne_of rfl)
  refine⟨_,mu_step (slot:=6) h0 hs h1 rfl,?_⟩
  have hn:(S34 D).n=101:=by unfold S34;rw[h0];rfl
  rw[hn]
  refine mu_wk h0 (by show(false||D 0)=true;rw[h0];rfl) (by simp[hasD,kv,keq,hD]) ?_ (fun q=>?_) rfl
  ·simp[cntD,ins,hD]<;>omega
  ·simp only[hasD,ins]
   cases keq q (kv 62 61)<;>simp[hD]
 |11,hl =>
  cases hl
  exact⟨⟨[(7,true,kv 61 61)],[],[],(S34 D).n,0⟩,⟨rfl,true,rfl,.inr ⟨kv 61 61,true,True,rfl,⟨rfl,rfl,trivial⟩,rfl,fun _=>rfl⟩⟩,
   bu_wk (p:=5) rfl (by show some (D 11,7,kv 61 61)=_;rw[hD]) (hne_of rfl) rfl rfl⟩
 |12,hl =>
  cases hl
  have h0:D 0=true:=hdep 0 (by decide)
  have hb:D 11=true:=hdep 11 (by decide)
  have h1:look (tL (LL D)) 1=some (true,MV):=tL_at (p:=11) (by show some (D 0,1,MV)=_;rw[h0]) (hne_of rfl)
  have hs:look (tL (LL D)) 7=some (true,kv 61 61):=tL_at (p:=5) (by show some (D 11,7,kv 61 61)=_;rw[hb]) (hne_of rfl)
  refine⟨_,mu_step (slot:=7) h0 hs h1 rfl,?_⟩
  have hn:(S34 D).n=101:=by unfold S34;rw[h0];rfl
  rw[hn]
  refine mu_wk h0 (by show(false||D 0)=true;rw[h0];rfl) (by simp[hasD,kv,keq,hD]) ?_ (fun q=>?_) rfl
  ·simp[cntD,ins,hD]<;>omega
  ·simp only[hasD,ins]
   cases keq q (kv 61 61)<;>simp[hD]
 |13,hl =>
  cases hl
  exact⟨⟨[(8,true,kv 33 61)],[],[],(S34 D).n,0⟩,⟨rfl,true,rfl,.inr ⟨kv 33 61,true,True,rfl,⟨rfl,rfl,trivial⟩,rfl,fun _=>rfl⟩⟩,
   bu_wk (p:=4) rfl (by show some (D 13,8,kv 33 61)=_;rw[hD]) (hne_of rfl) rfl rfl⟩
 |14,hl =>
  cases hl
  have h0:D 0=true:=hdep 0 (by decide)
  have hb:D 13=true:=hdep 13 (by decide)
  have h1:look (tL (LL D)) 1=some (true,MV):=tL_at (p:=11) (by show some (D 0,1,MV)=_;rw[h0]) (hne_of rfl)
  have hs:look (tL (LL D)) 8=some (true,kv 33 61):=tL_at (p:=4) (by show some (D 13,8,kv 33 61)=_;rw[hb]) (hne_of rfl)
  refine⟨_,mu_step (slot:=8) h0 hs h1 rfl,?_⟩
  have hn:(S34 D).n=101:=by unfold S34;rw[h0];rfl
  rw[hn]
  refine mu_wk h0 (by show(false||D 0)=true;rw[h0];rfl) (by simp[hasD,kv,keq,hD]) ?_ (fun q=>?_) rfl
  ·simp[cntD,ins,hD]<;>omega
  ·simp only[hasD,ins]
   cases keq q (kv 33 61)<;>simp[hD]
 |15,hl =>
  cases hl
  exact⟨⟨[(9,true,kv 38 38)],[],[],(S34 D).n,0⟩,⟨rfl,true,rfl,.inr ⟨kv 38 38,true,True,rfl,⟨rfl,rfl,trivial⟩,rfl,fun _=>rfl⟩⟩,
   bu_wk (p:=3) rfl (by show some (D 15,9,kv 38 38)=_;rw[hD]) (hne_of rfl) rfl rfl⟩
 |16,hl =>
  cases hl
  have h0:D 0=true:=hdep 0 (by decide)
  have hb:D 15=true:=hdep 15 (by decide)
  have h1:look (tL (LL D)) 1=some (true,MV):=tL_at (p:=11) (by show some (D 0,1,MV)=_;rw[h0]) (hne_of rfl)
  have hs:look (tL (LL D)) 9=some (true,kv 38 38):=tL_at (p:=3) (by show some (D 15,9,kv 38 38)=_;rw[hb]) (hne_of rfl)
  refine⟨_,mu_step (slot:=9) h0 hs h1 rfl,?_⟩
  have hn:(S34 D).n=101:=by unfold S34;rw[h0];rfl
  rw[hn]
  refine mu_wk h0 (by show(false||D 0)=true;rw[h0];rfl) (by simp[hasD,kv,keq,hD]) ?_ (fun q=>?_) rfl
  ·simp[cntD,ins,hD]<;>omega
  ·simp only[hasD,ins]
   cases keq q (kv 38 38)<;>simp[hD]
 |17,hl =>
  cases hl
  exact⟨⟨[(10,true,kv 124 124)],[],[],(S34 D).n,0⟩,⟨rfl,true,rfl,.inr ⟨kv 124 124,true,True,rfl,⟨rfl,rfl,trivial⟩,rfl,fun _=>rfl⟩⟩,
   bu_wk (p:=2) rfl (by show some (D 17,10,kv 124 124)=_;rw[hD]) (hne_of rfl) rfl rfl⟩
 |18,hl =>
  cases hl
  have h0:D 0=true:=hdep 0 (by decide)
  have hb:D 17=true:=hdep 17 (by decide)
  have h1:look (tL (LL D)) 1=some (true,MV):=tL_at (p:=11) (by show some (D 0,1,MV)=_;rw[h0]) (hne_of rfl)
  have hs:look (tL (LL D)) 10=some (true,kv 124 124):=tL_at (p:=2) (by show some (D 17,10,kv 124 124)=_;rw[hb]) (hne_of rfl)
  refine⟨_,mu_step (slot:=10) h0 hs h1 rfl,?_⟩
  have hn:(S34 D).n=101:=by unfold S34;rw[h0];rfl
  rw[hn]
  refine mu_wk h0 (by show(false||D 0)=true;rw[h0];rfl) (by simp[hasD,kv,keq,hD]) ?_ (fun q=>?_) rfl
  ·simp[cntD,ins,hD]<;>omega
  ·simp only[hasD,ins]
   cases keq q (kv 124 124)<;>simp[hD]
 |19,hl =>
  cases hl
  have h0:D 0=true:=hdep 0 (by decide)
  have h1:look (tL (LL D)) 1=some (true,MV):=tL_at (p:=11) (by show some (D 0,1,MV)=_;rw[h0]) (hne_of rfl)
  exact⟨⟨[(11,true,MV)],[],[],(S34 D).n,0⟩,⟨rfl,true,rfl,.inr ⟨MV,true,True,mv_eff h1,⟨rfl,rfl,trivial⟩,rfl,fun _=>rfl⟩⟩,
   bu_wk (p:=1) rfl (by show some (D 19,11,MV)=_;rw[hD]) (hne_of rfl) rfl rfl⟩
 |20,hl =>
  cases hl
  have hb:D 19=true:=hdep 19 (by decide)
  have h1:look (tL (LL D)) 11=some (true,MV):=tL_at (p:=1) (by show some (D 19,11,MV)=_;rw[hb]) (hne_of rfl)
  exact⟨⟨[(0,true,MV)],[],[],(S34 D).n,0⟩,⟨rfl,true,rfl,.inr ⟨MV,true,True,mv_eff h1,⟨rfl,rfl,trivial⟩,rfl,fun _=>rfl⟩⟩,
   bu_wk (p:=0) rfl (by show some (D 20,0,MV)=_;rw[hD]) (hne_of rfl) rfl rfl⟩
 |i+21,hl=>simp[x34_1]at hl
set_option linter.unusedVariables false
set_option linter.unusedSimpArgs false
def sgB:Blk:=mapD fun _=>true
theorem b34:Body Tryd.prog 34 [] [] (.map (some 100)) [(100,some sgB)] 100 1:=by
 refine body_of' mixed fx34 (by simp) fun E Q hP hn hcl hfin=>?_
 have hF:FnsOK E.P (lookF FL) noSc:=hP▸FOK
 have e0:exec (lookF FL) noSc 10 [] (.region x34_0) (argTm 0 []) [] 100=some ⟨[],.normal,[(0,true,.map none)],[],100,true⟩:=by kernel_rfl
 show XWP E.toEnv (.seq (.region x34_0) x34_2) Q ⟨argTm 0 [],[],100⟩
 refine xwp_seq (xwp_exec hF 10 [] e0 rfl ?_)
 show XWP E.toEnv x34_2 Q ⟨[(0,true,.map none)],[],100⟩
 refine XWP.wk (s':=S34 fun _=>false) (wk_look (fun q x h=>by cases h) fun _=>rfl) ?_
 show XWP E.toEnv (.seq (.draw x34_1 ord34) .ret) Q _
 refine xwp_seq (xwp_drawS (ceOf E.P []) (ceOf_ok E.P []) S34 (fun D i xo a b c d=>step34 D i xo a b c d) (fun D D' h=>?_) ?_)
 ·have h:∀ i,i<21 → D i=D' i:=h
  have hh:hasD D=hasD D':=by
   funext q
   simp only[hasD,h 2 (by decide),h 4 (by decide),h 6 (by decide),h 8 (by decide),h 10 (by decide),h 12 (by decide),h 14 (by decide),h 16 (by decide),h 18 (by decide)]
  have e:S34 D=S34 D':=by
   simp only[S34,LL,mapD,cntD,hh,h 0 (by decide),h 1 (by decide),h 2 (by decide),h 3 (by decide),h 4 (by decide),h 5 (by decide),h 6 (by decide),h 7 (by decide),h 8 (by decide),h 9 (by decide),h 10 (by decide),h 11 (by decide),h 12 (by decide),h 13 (by decide),h 14 (by decide),h 15 (by decide),h 16 (by decide),h 17 (by decide),h 18 (by decide),h 19 (by decide),h 20 (by decide)]
  rw[e];exact Wk.refl _ _
 ·show XWP E.toEnv .ret Q (S34 fun _=>true)
  exact xwp_ret (hfin _ _ (fin_of rfl ⟨rfl,trivial⟩ (by rw[hn];rfl) rfl))
theorem bis_sg {P:Program}{σ:Nm}:BIs P σ sgB sgB:=⟨rfl,rfl,rfl,fun d q _ _=>⟨rfl,rfl⟩⟩
theorem c34 (n:Nat):ADet Tryd.prog 34 [] [] (.map (some n)) [(n,some sgB)] n 1:=by
 refine adet_of_body b34 [] [(n,100)] (names_new rfl) rfl trivial rfl ?_ ?_ ?_
 ·show ren _ 4 (Value.map (some n))=_
  simp[ren,renP,asc,flip,Nat.beq_refl]
 ·refine⟨?_,trivial⟩
  simp only[natMem,flip,List.append_nil,asc,Nat.beq_refl,cond_true,List.cons_append,List.nil_append,hget]
  exact bis_sg
 ·simp[namesOf,nodupB,natMem,asc,flip,Nat.beq_refl]
def con34:Con Tryd.prog where
 f:=34
 run:=fun vs h n=>match vs with
  |[]=>some ([],.map (some n),[(n,some sgB)],1,true)
  |_=>none
 ok:=fun vs h n pre v upd news hx=>by
  split at hx
  ·simp only[Option.some.injEq,Prod.mk.injEq,and_true]at hx
   obtain⟨rfl,rfl,rfl,rfl⟩:=hx
   exact⟨fun id hid=>by simp[fstL]at hid,c34 n⟩
  ·cases hx
set_option linter.unusedVariables false
set_option linter.unusedSimpArgs false
def wordsL:List (List UInt8):=[[99,104,97,114],[105,110,116],[108,111,110,103],[118,111,105,100],[115,116,114,117,99,116],[105,102],[101,108,115,101],[119,104,105,108,101],[114,101,116,117,114,110],[98,114,101,97,107],[99,111,110,116,105,110,117,101],[115,105,122,101,111,102],[109,97,108,108,111,99]]
def wdRow:Nat → List Value:=fun j=>[.string (bs (wordsL.getD j []))]
def wdB:Blk:=.rows 13 1 wdRow false false
theorem bis_wd {P:Program}{σ:Nm}:BIs P σ wdB wdB:=⟨rfl,rfl,fun j _=>rfl,.inr (.inl rfl),.inr rfl⟩
def spB:Blk:=.glb 1 0 1 []
def sc33:Short:=scOf [con50]
theorem FOK33:FnsOK Tryd.prog (lookF FL) sc33:=fok FOK _
theorem e33:exec (lookF FL) sc33 10 [] x33 (argTm 0 []) [(11,some spB)] 100=some ⟨[],.ret,[(0,true,.slice (some ⟨100,0,none⟩) 13 13),(1,true,.slice (some ⟨100,0,none⟩) 13 13),(0,true,.slice none 0 0)],[(100,some wdB),(11,some spB)],101,true⟩:=by kernel_rfl
theorem b33:Body Tryd.prog 33 [] [(11,some spB)] (.slice (some ⟨100,0,none⟩) 13 13) [(100,some wdB)] 100 1:=by
 refine body_of' mixed fx33 (by simp) fun E Q hP hn hcl hfin=>?_
 have hF:FnsOK E.P (lookF FL) sc33:=hP▸FOK33
 exact xwp_exec hF 10 [] e33 rfl (hfin _ _ (fin_of rfl ⟨rfl,rfl,trivial⟩ (by rw[hn]) rfl))
theorem c33 (n:Nat) (hn:n≠11):ADet Tryd.prog 33 [] [(11,some spB)] (.slice (some ⟨n,0,none⟩) 13 13) [(n,some wdB)] n 1:=by
 have h1:Nat.beq n 11=false:=by
  cases h:Nat.beq n 11 with
  |false=>rfl
  |true=>exact absurd (Nat.eq_of_beq_eq_true h) hn
 have h2:Nat.beq 11 n=false:=by
  cases h:Nat.beq 11 n with
  |false=>rfl
  |true=>exact absurd (Nat.eq_of_beq_eq_true h).symm hn
 refine adet_of_body b33 [(11,11)] [(n,100)] ?_ rfl ⟨bis_tab,trivial⟩ rfl ?_ ?_ ?_
 ·simp[namesOK,updRW,Nat.blt_eq,wdB,Blk.ro,isSomeEq,asc]
 ·show ren _ 4 (Value.slice (some ⟨n,0,none⟩) 13 13)=_
  simp[ren,renP,asc,flip,Nat.beq_refl]
 ·refine⟨?_,?_,trivial⟩
  ·simp only[natMem,flip,asc,Nat.beq_refl,cond_true,List.cons_append,List.nil_append,hget]
   exact bis_wd
  ·simp only[natMem,flip,asc,h1,h2,Nat.beq_refl,cond_true,cond_false,List.cons_append,List.nil_append,hget,Bool.or_false]
   exact bis_tab
 ·simp[namesOf,nodupB,natMem,asc,flip,Nat.beq_refl,h1,h2]
  rfl
def con33:Con Tryd.prog where
 f:=33
 run:=fun vs h n=>match vs,hget h 11 with
  |[],some (.glb 1 0 1 [])=>some ([(11,some spB)],.slice (some ⟨n,0,none⟩) 13 13,[(n,some wdB)],1,!Nat.beq n 11)
  |_,_=>none
 ok:=fun vs h n pre v upd news hx=>by
  split at hx
  ·rename_i hg
   simp only[Option.some.injEq,Prod.mk.injEq,Bool.not_eq_true']at hx
   obtain⟨rfl,rfl,rfl,rfl,h1⟩:=hx
   refine⟨fun id hid=>?_,c33 n fun e=>by rw[e]at h1;cases h1⟩
   simp only[fstL,List.mem_singleton]at hid
   subst hid;exact hg
  ·cases hx
def scT3:Short:=scOf [con14,con20,con27,con30,con31,con32,con33,con34]
theorem FOKT3:FnsOK Tryd.prog (lookF FL) scT3:=fok FOK _
end Go.X
namespace Go.X
open Go
set_option linter.unusedVariables false
theorem xrun_app {ce:CE}{hints:List (Nat × Nat)}:∀ (l1 l2:List XOper) (i:Nat) (t:Tm) (h:Hp) (n:Nat) (ok:Bool) (pr:Prop) (tr:List Foot) (s:RS),xrun ce hints l1 i t h n ok pr tr=some s →
  xrun ce hints (l1++l2) i t h n ok pr tr=xrun ce hints l2 (i+l1.length) s.t s.h s.n s.ok s.pr s.tr
 |[],l2,i,t,h,n,ok,pr,tr,s,e=>by
  simp only[xrun,Option.some.injEq]at e
  subst e;rfl
 |o :: l1,l2,i,t,h,n,ok,pr,tr,s,e=>by
  have hl:i+(o :: l1).length=i+1+l1.length:=by simp only[List.length_cons];omega
  rw[hl]
  generalize hR:xrun ce hints l2 (i+1+l1.length) s.t s.h s.n s.ok s.pr s.tr=R
  have ih:∀ {t h n ok pr tr},xrun ce hints l1 (i+1) t h n ok pr tr=some s → xrun ce hints (l1++l2) (i+1) t h n ok pr tr=R:=fun e=>(xrun_app l1 l2 _ _ _ _ _ _ _ s e).trans hR
  simp only[List.cons_append,xrun]at e ⊢
  clear hR
  cases hg:gd t o.guard with
  |none=>rw[hg]at e;cases e
  |some cg =>
   obtain⟨c,g⟩:=cg
   rw[hg]at e
   simp only at e ⊢
   cases he:eff ce (hintOf hints i) i o.k t h n with
   |none =>
    rw[he]at e
    simp only at e ⊢
    cases g<;>cases hd:o.dst<;>rw[hd]at e<;>simp only at e ⊢<;>first|exact ih e|cases e
   |some x =>
    obtain⟨rd,v,upd,news,ok',pr'⟩:=x
    rw[he]at e
    cases upd with
    |nil=>cases hd:o.dst<;>rw[hd]at e<;>simp only at e ⊢<;>exact ih e
    |cons u us=>cases g<;>cases hd:o.dst<;>rw[hd]at e<;>simp only at e ⊢<;>exact ih e
end Go.X
namespace Go.X
open Go Go.Proofs
set_option linter.unusedVariables false
set_option linter.unusedSimpArgs false
def ce17:CE:=callE (lookF FL) scT3 (exec (lookF FL) scT3 10 [])
def sgT (s:ByteArray) (c:Int) (g:Bool):Tm:=[(60,true,.bool g),(59,true,.bool g),(58,true,.int .i64 (s.size:Int)),(57,true,.string s),(4,true,.int .u8 c),(0,true,.string s)]
def P1 (p:Prop):Prop:=p ∧ (true=true → True)
theorem sg1 (s:ByteArray) (c:Int) (G:Gv):xrun ce17 [] (x17_43.take 4) 0 (mkT [4,0] [.int .u8 c,.string s]) (mkH (glH G)) 100 true True [] =
  some ⟨sgT s c (decide ((s.size:Int)>1)),mkH (glH G),100,true,P1 (P1 (P1 (P1 True))),[⟨3,[],[]⟩,⟨2,[],[]⟩,⟨1,[],[]⟩,⟨0,[],[]⟩]⟩:=by kernel_rfl
theorem sg2 (s:ByteArray) (c:Int) (G:Gv) (g:Bool) (hg:decide ((s.size:Int)>1)=g):xrun ce17 [] x17_43 0 (mkT [4,0] [.int .u8 c,.string s]) (mkH (glH G)) 100 true True [] =
  xrun ce17 [] (x17_43.drop 4) 4 (sgT s c g) (mkH (glH G)) 100 true (P1 (P1 (P1 (P1 True)))) [⟨3,[],[]⟩,⟨2,[],[]⟩,⟨1,[],[]⟩,⟨0,[],[]⟩]:=by
 have:=xrun_app (x17_43.take 4) (x17_43.drop 4) 0 _ _ _ _ _ _ _ (sg1 s c G)
 rw[List.take_append_drop,hg]at this
 exact this
set_option linter.unusedVariables false
set_option linter.unusedSimpArgs false
def one22:ByteArray:=⟨#[43,45,42,47,37,38,124,94,126,33,60,62,61,40,41,123,125,91,93,59,44,46]⟩
def min3 (s:ByteArray):Int:=if (s.size:Int)<3 then(s.size:Int)else 3
def two17 (s:ByteArray) (c:Int):Bool:=decide ((bif hasD (fun _=>true) (kv c (byteAt s 1))then(2:Int)else 0)>0)
def tok2 (a b:Int):Option Stop:=some (Stop.mk (Leaf.mk [some (true,.int .i64 a),some (true,.int .i64 b)] [] Exit.ret 100) none)
def tok2n (a b:Int):Option Stop:=some (Stop.mk (Leaf.mk [some (true,.int .i64 a),some (true,.int .i64 b)] [] Exit.ret 101) none)
abbrev W17 (x:XCode) (s:ByteArray) (c:Int) (G:Gv):Option Stop:=walk (lookF FL) scT3 1000 x (mkT [4,0] [.int .u8 c,.string s]) (mkH (glH G)) 100 ⟨[],[],[],[]⟩ ⟨[2,3],[],[],gIds⟩ ⟨[],[],[],[]⟩
theorem p17_18 (s:ByteArray) (c:Int) (G:Gv):W17 x17_18 s c G=bif (s.size.blt 9223372036854775807||false)&&true then bif (decide (0 ≤ (spanF s:Int))&&decide ((spanF s:Int) ≤ (s.size:Int))&&true||false)&&true then bif inW 13 wdRow (s.extract 0 (spanF s))then tok2n 4 (spanF s)else bif decide ((spanF s:Int)>32)then tok2n 0 0 else tok2n 1 (spanF s)else none else none:=by kernel_rfl
theorem p17_31 (s:ByteArray) (c:Int) (G:Gv):W17 x17_31 s c G=bif (s.size.blt 9223372036854775807||false)&&true then bif ((s.extract 0 (spanF s)).size.blt 35184372088832||false)&&((decide (0 ≤ (spanF s:Int))&&decide ((spanF s:Int) ≤ (s.size:Int))&&true||false)&&true)then bif (meanF (s.extract 0 (spanF s))).snd != 0 then tok2 0 0 else tok2 2 (spanF s)else none else none:=by kernel_rfl
theorem p17_42 (s:ByteArray) (c:Int) (G:Gv):W17 x17_42 s c G=bif ((s.extract 0 (min3 s).toNat).size.blt 35184372088832||false)&&((decide (0 ≤ min3 s)&&decide (min3 s ≤ (s.size:Int))&&true||false)&&true)then bif (meanF (s.extract 0 (min3 s).toNat)).snd != 0 then tok2 0 0 else tok2 2 3 else none:=by kernel_rfl
theorem p17_45 (s:ByteArray) (c:Int) (G:Gv):W17 x17_45 s c G=bif (keyOf (TypeDesc.array 2 5) (kv c (byteAt s 1))&&true||false)&&((intRange 1 s.size&&true||false)&&true)then tok2n 3 (bif hasD (fun _=>true) (kv c (byteAt s 1))then 2 else 0)else none:=by kernel_rfl
theorem p17_50 (s:ByteArray) (c:Int) (G:Gv):walk (lookF FL) scT3 1000 x17_50 (mkT [4,0] [.int .u8 c,.string s]) (mkH (glH G)) 100 ⟨[],[],[4,0],gIds⟩ ⟨[2,3],[],[],gIds⟩ ⟨[],[],[],[]⟩=bif decide (ixB one22 c ≥ 0)then tok2 3 1 else some ⟨⟨[],[],.normal,100⟩,none⟩:=by kernel_rfl
theorem p17_0 (s:ByteArray) (G:Gv):walk (lookF FL) scT3 1000 (.region x17_0) (argTm 0 [.string s]) (mkH (glH G)) 100 ⟨[],[],[0],gIds⟩ ⟨[],[],[],[]⟩ ⟨[],[],[],[]⟩=some ⟨⟨[],[],.normal,100⟩,none⟩:=by kernel_rfl
theorem p17_1 (s:ByteArray) (G:Gv):walk (lookF FL) scT3 1000 (.region x17_1) (mkT [0] [.string s]) (mkH (glH G)) 100 ⟨[4],[],[0],gIds⟩ ⟨[],[],[],[]⟩ ⟨[],[],[],[]⟩=bif (intRange 0 s.size&&true||false)&&true then some ⟨⟨[some (true,.int .u8 (byteAt s 0))],[],.normal,100⟩,none⟩else none:=by kernel_rfl
theorem p17_61 (s:ByteArray) (c:Int) (G:Gv):W17 x17_61 s c G=tok2 0 0:=by kernel_rfl
theorem p17_2 (s:ByteArray) (c:Int) (G:Gv):walk (lookF FL) scT3 1000 (.region x17_2) (mkT [4,0] [.int .u8 c,.string s]) (mkH (glH G)) 100 ⟨[13],[],[4,0],gIds⟩ ⟨[],[],[],[]⟩ ⟨[],[],[],[]⟩=some ⟨⟨[some (true,.bool (letF c))],[],.normal,100⟩,none⟩:=by kernel_rfl
theorem p17_19 (s:ByteArray) (c:Int) (G:Gv):walk (lookF FL) scT3 1000 (.region x17_19) (mkT [4,0] [.int .u8 c,.string s]) (mkH (glH G)) 100 ⟨[27],[],[4,0],gIds⟩ ⟨[],[],[],[]⟩ ⟨[],[],[],[]⟩=some ⟨⟨[some (true,.bool (digF c))],[],.normal,100⟩,none⟩:=by kernel_rfl
theorem p17_32 (s:ByteArray) (c:Int) (G:Gv):walk (lookF FL) scT3 1000 (.region x17_32) (mkT [4,0] [.int .u8 c,.string s]) (mkH (glH G)) 100 ⟨[42],[],[4,0],gIds⟩ ⟨[],[],[],[]⟩ ⟨[],[],[],[]⟩=some ⟨⟨[some (true,.bool (c==39))],[],.normal,100⟩,none⟩:=by kernel_rfl
set_option linter.unusedVariables false
set_option linter.unusedSimpArgs false
def pvK (ks:List Nat) (rs:List Ref):Option RS → Option (Option Leaf × Bool × List Foot)
 |some r=>some (prjK ks rs .normal r.t r.h r.n,r.ok,r.tr)
 |none=>none
theorem xwp_drawK {E:FEnv}{Q:Post} (hcl:Cl E.toEnv Q){s:St}{F:Fns}{sc:Short} (hF:FnsOK E.P F sc) (k:Nat){l:List XOper}{ord:List (List Nat)}{tr:List Foot}{lf:Leaf} (ks:List Nat) (rs:List Ref)
  (hx:pvK ks rs (xrun (callE F sc (exec F sc k [])) [] l 0 s.t s.h s.n true True [])=some (some lf,true,tr)) (htr:heapOK ord tr=true) (s':St) (hl:LeafTo E ks lf s') (hQ:Q .normal s'):XWP E.toEnv (.draw l ord) Q s:=fun c hc a w hr=>by
 cases hr0:xrun (callE F sc (exec F sc k [])) [] l 0 s.t s.h s.n true True []with
 |none=>rw[hr0]at hx;cases hx
 |some r =>
  obtain⟨t,h,n,ok,pr,tr'⟩:=r
  rw[hr0]at hx
  simp only[pvK,Option.some.injEq,Prod.mk.injEq]at hx
  obtain⟨h1,h2,h3⟩:=hx
  subst h3
  have hce:=callE_ok hF (exec_sound hF k)
  have hpr:pr:=xrun_pr callE_pr hr0 trivial
  have hn:s.n ≤ n:=by
   obtain⟨rs,_,_,_,h4,_⟩:=xrun_recs hce hr0 h2 hpr
   simp only at h4;rw[h4];exact newsOf_le _ _
  exact xwp_drawG (E:=E.toEnv) _ hce [] hr0 htr h2 hpr (fun id h1 _=>E.dom id (Nat.le_trans hr.1 h1)) ⟨n,Nat.le_refl _,E.dom n (Nat.le_trans hr.1 hn)⟩ (hcl _ _ _ (hl.wk h1) hQ) c hc a w hr
def tr0:List Foot:=[⟨3,[],[]⟩,⟨2,[],[]⟩,⟨1,[],[]⟩,⟨0,[],[]⟩]
theorem sgf (s:ByteArray) (c:Int) (G:Gv):pvK [56,4,0] (gIds.map .id) (xrun ce17 [] (x17_43.drop 4) 4 (sgT s c false) (mkH (glH G)) 100 true (P1 (P1 (P1 (P1 True)))) tr0) =
  some (some ⟨[some (true,.bool false),some (true,.int .u8 c),some (true,.string s)],mkH (glH G),.normal,100⟩,(intRange 1 s.size&&false||true)&&true,[⟨12,[],[]⟩,⟨11,[],[]⟩,⟨8,[],[]⟩,⟨7,[],[]⟩,⟨6,[],[]⟩,⟨5,[],[]⟩]++tr0):=by kernel_rfl
theorem sgt (s:ByteArray) (c:Int) (G:Gv):pvK [56,4,0] (gIds.map .id) (xrun ce17 [] (x17_43.drop 4) 4 (sgT s c true) (mkH (glH G)) 100 true (P1 (P1 (P1 (P1 True)))) tr0) =
  some (some ⟨[some (true,.bool (two17 s c)),some (true,.int .u8 c),some (true,.string s)],mkH (glH G),.normal,101⟩,(keyOf (TypeDesc.array 2 5) (kv c (byteAt s 1))&&true||false)&&((intRange 1 s.size&&true||false)&&true),
   [⟨12,[],[]⟩,⟨11,[],[]⟩,⟨10,[],[]⟩,⟨9,[100],[]⟩,⟨8,[],[]⟩,⟨7,[],[]⟩,⟨6,[],[]⟩,⟨5,[],[]⟩,⟨4,[],[100]⟩]++tr0):=by kernel_rfl
end Go.X
