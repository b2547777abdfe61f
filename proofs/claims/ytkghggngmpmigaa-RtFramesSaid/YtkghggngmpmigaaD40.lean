import Derived.Test.YtkghggngmpmigaaD39
set_option linter.all false
namespace Go.X
open Go Go.Proofs
def nS (bs:Bool):Nat:=bif bs then 1 else 0
def seV (a:Nat) (bs:Bool) (se:Value) (l:Nat):Value:=bif bs then newS a l else se
theorem bis_rV {P:Program}{σ:Nm}{vin vout se:Value}{mk:Int}{wt bs:Bool}{a b l:Nat} (h1:Stay vin) (h2:Stay vout) (h3:Stay se) (s92:σ 92=some 92) (s94:σ 40=some 40) (s101:σ 101=some 101) (s102:σ 102=some 102) (hs:bs=true->σ a=some b) :
  BIs P σ (rB vin vout mk wt (seV a bs se l)) (rB vin vout mk wt (seV b bs se l)):=by
 cases bs with
 |false=>exact bis_rB h1 h2 h3 s92 s94 s101 s102
 |true=>exact bis_rBs h1 h2 s92 s94 s101 s102 (hs rfl)
section
variable {op:Int}{c:Cand}{m:MS}{vin vout se:Value}{mk:Int}{wt bs:Bool}{l:Nat}{sf:Nat->List Value}{E:FEnv}{Q:Post}
theorem lf76t (hP:E.P=Try.prog) (hn:E.B.n=103) (h1:Stay vin) (h2:Stay vout) (h3:Stay se) (hse:SeOK l sf){vs:List Value}{ts:List (Option (Bool × Value))}{ks:List Nat}{ex:Exit}{bl:List (Nat × Option Blk)}{n1:Nat}
  (hbl:bl=(103,some (ib op c)) :: (90,some m.memB) :: (92,some m.mB) :: (100,some (rB vin vout mk wt (seV 104 bs se l))) :: (bif bs then[(104,some (seB l sf))]else[]))
  (hts:∀ x,tsOK (stayOr 103 ((103,103) :: (90,90) :: (92,92) :: (100,100) :: x)) ts vs) :
  LeafTo E ks ⟨ts,bl,ex,n1⟩ ⟨mkT ks vs,mkH (h76 op c m (rB vin vout mk wt (seV 104 bs se l)) 104 bs (seB l sf)),105⟩:=by
 subst hbl
 refine⟨vs,h76 op c m (rB vin vout mk wt (seV 104 bs se l)) 104 bs (seB l sf),105,rfl,?_,?_,?_⟩<;>rw[hn]
 ·cases bs<;>rfl
 ·cases bs
  ·exact hts []
  ·exact hts [(104,104)]
 ·rw[hP]
  cases bs
  ·exact⟨rfl,bis_mem,rfl,bis_rV h1 h2 h3 rfl rfl rfl rfl (fun h=>by cases h),trivial⟩
  ·exact⟨rfl,bis_mem,rfl,bis_rV h1 h2 h3 rfl rfl rfl rfl (fun _=>rfl),bis_seB fun j hj=>hse j hj _,trivial⟩
def S76 (m:MS) (vin vout se:Value) (mk:Int) (wt bs:Bool) (l:Nat) (sf:Nat->List Value):St:=⟨mkT [4] [.bool true],mkH ([(90,m.memB),(92,m.mB),(100,rB vin vout mk wt (seV 103 bs se l))]++exS 103 bs (seB l sf)),103+nS bs⟩
theorem lf76e (hP:E.P=Try.prog) (hn:E.B.n=103) (h1:Stay vin) (h2:Stay vout) (h3:Stay se) (hse:SeOK l sf){ex:Exit}{bl:List (Nat × Option Blk)}{n1:Nat}
  (hbl:bl=(90,some m.memB) :: (92,some m.mB) :: (100,some (rB vin vout mk wt (seV 104 bs se l))) :: (bif bs then[(104,some (seB l sf))]else[])) :
  LeafTo E [4] ⟨[some (true,.bool true)],bl,ex,n1⟩ (S76 m vin vout se mk wt bs l sf):=by
 subst hbl
 refine⟨[.bool true],[(90,m.memB),(92,m.mB),(100,rB vin vout mk wt (seV 103 bs se l))]++exS 103 bs (seB l sf),103+nS bs,rfl,?_,?_,?_⟩<;>rw[hn]
 ·cases bs<;>rfl
 ·cases bs<;>exact⟨rfl,trivial⟩
 ·rw[hP]
  cases bs
  ·exact⟨bis_mem,rfl,bis_rV h1 h2 h3 rfl rfl rfl rfl (fun h=>by cases h),trivial⟩
  ·exact⟨bis_mem,rfl,bis_rV h1 h2 h3 rfl rfl rfl rfl (fun _=>rfl),bis_seB fun j hj=>hse j hj _,trivial⟩
theorem load76 (hP:E.P=Try.prog) (hn:E.B.n=103) (hcl:Cl E.toEnv Q) (h1:Stay vin) (h2:Stay vout) (h3:Stay se) (hse:SeOK l sf) (hc:CandOK c){n:Int}{v:Int}{k cap:Nat}{idx:Nat} (hk:n=(k:Int)) (hk4:n84 k) (hi:idx+k<=m.sz)
  (hv:v=narF (8*k) (op != 39) (numF k m.mem idx)) (hQ:Q .ret (S76 (putX m c.rd v) vin vout se mk wt bs l sf)) :
  XWP E.toEnv x76_38 Q ⟨mkT [9,7,5,3,0] [.bool false,sl9 idx k cap,.int .i64 n,pI,pR],mkH (h76 op c m (rB vin vout mk wt (seV 104 bs se l)) 104 bs (seB l sf)),105⟩:=by
 have FO:FnsOK E.P (lookF FL) noSc:=hP▸FOK
 have e1:=q76_33l op c m vin vout (seV 104 bs se l) mk wt bs (seB l sf) n idx cap k
 refine xwp_seqW (s:=⟨_,_,_⟩) hcl FO 1000 e1 rfl ⟨mkT [7,5,3,0] [sl9 idx k cap,.int .i64 n,pI,pR],mkH (h76 op c m (rB vin vout mk wt (seV 104 bs se l)) 104 bs (seB l sf)),105⟩ (lf76t hP hn h1 h2 h3 hse (by cases bs<;>rfl) fun x=>⟨rfl,rfl,rfl,rfl,trivial⟩) ?_
 have hw:IntKind.i64.wrap (8*n)=((8*k:Nat):Int):=by
  rw[wrap_i (by rcases hk4 with rfl|rfl|rfl<;>omega) (by rcases hk4 with rfl|rfl|rfl<;>omega),hk];omega
 have e:=q76_37 op c m vin vout (seV 104 bs se l) mk wt bs (seB l sf) n idx cap k (numF k m.mem idx) v
 obtain⟨a1,a2,a3,a4⟩:=reg_ok m hc.rd
 have d36:DetG 70 [.int .u64 (numF k m.mem idx),.int .i64 (IntKind.i64.wrap (8*n)),.bool (op != 39)] [] (.tuple ⟨[.int .u64 v,.int .i64 0]⟩):=by
  rw[hw,hv]
  refine detG_pure fun j=>?_
  rcases hk4 with rfl|rfl|rfl
  ·exact c36_8 _ _ j
  ·exact c36_32 _ _ j
  ·exact c36_64 _ _ j
 rw[decP_true ⟨rfl,trivial,d36⟩,decP_true ⟨rfl,⟨rfl,trivial⟩,rfl,c84 m idx cap hk4 hi⟩,a1,a3,upd_ok m hc.rd]at e
 simp only[Bool.and_self,Bool.or_false,cond_true]at e
 exact xwp_toEnd (s:=⟨_,_,_⟩) hcl (fokE hP _) 1000 e _ (lf76e (m:=putX m c.rd v) hP hn h1 h2 h3 hse (by cases bs<;>rfl)) hQ
end
section
variable {op:Int}{c:Cand}{m:MS}{vin vout se:Value}{mk:Int}{wt bs:Bool}{l:Nat}{sf:Nat->List Value}{E:FEnv}{Q:Post}
def SS (op:Int) (c:Cand) (m:MS) (vin vout se:Value) (mk:Int) (wt bs:Bool) (l:Nat) (sf:Nat->List Value) (v:Int) (idx n cap k:Nat):St :=
 ⟨mkT [70,69,7,3,0] [.int .i64 (k:Int),.int .i64 (n:Int),sl9 idx n cap,pI,pR],mkH (h76 op c (stB m idx v k) (rB vin vout mk wt (seV 104 bs se l)) 104 bs (seB l sf)),105⟩
theorem bis_put {P:Program}{σ:Nm}{m:MS}{i:Nat}{v:Int}:BIs P σ (putB m i v).memB (.rows m.sz 1 (rowSet (fun j=>[.int .u8 (m.mem j)]) i [.int .u8 v]) false false):=by
 refine⟨rfl,rfl,fun j hj=>?_,by first|exact .inl rfl|exact .inr rfl|exact .inr (.inl rfl),by first|exact .inl rfl|exact .inr rfl⟩
 show[Value.int .u8 (bif Nat.beq j i then v else m.mem j)]=cond (Nat.beq j i) [.int .u8 v] [.int .u8 (m.mem j)]
 cases Nat.beq j i<;>rfl
theorem storeL (hP:E.P=Try.prog) (hn:E.B.n=103) (hcl:Cl E.toEnv Q) (h1:Stay vin) (h2:Stay vout) (h3:Stay se) (hse:SeOK l sf) (hc:CandOK c){v:Int}{n cap idx:Nat} (hn4:n84 n) (hi:idx+n<=m.sz) (hv:v=m.x c.rs2.toNat)
  (hQ:Q (.exit 0) (SS op c m vin vout se mk wt bs l sf v idx n cap n)):XWP E.toEnv (.loop x76_25) Q (SS op c m vin vout se mk wt bs l sf v idx n cap 0):=by
 have hn8:n<=8:=by rcases hn4 with rfl|rfl|rfl<;>omega
 refine xwp_loopR (ι:=Nat) (fun k=>SS op c m vin vout se mk wt bs l sf v idx n cap k) (fun k=>k<=n) (fun k=>n-k) 0 (Nat.zero_le _) fun k hk=>?_
 have hcr:=cl_round (S:=fun k=>SS op c m vin vout se mk wt bs l sf v idx n cap k) (I:=fun k=>k<=n) (μ:=fun k=>n-k) (i:=k) hcl
 have FO:FnsOK E.P (lookF FL) noSc:=hP▸FOK
 obtain⟨s1,s2,s3,s4,s5,s6,s7⟩:=stB_same m idx v k
 have e:=q76_25 op c (stB m idx v k) vin vout (seV 104 bs se l) mk wt bs (seB l sf) idx cap n k
 by_cases hlt:k<n
 ·obtain⟨a1,a2,a3,a4⟩:=reg_ok (stB m idx v k) hc.rs2
  have hw8:IntKind.i64.wrap (8*(k:Int))=((8*k:Nat):Int):=by rw[wrap_i (by omega) (by omega)];omega
  have hir:intRange (k:Int) n=true:=by rw[ir_nat,decide_eq_true hlt]
  have hi':(idx+k).blt (stB m idx v k).sz=true:=by rw[s1];exact lt_blt (by omega)
  have h0:decide (0<=IntKind.i64.wrap (8*(k:Int)))=true:=by rw[hw8];exact decide_eq_true (by omega)
  rw[decide_eq_true (show(k:Int)<n by omega),hi',hir,h0,a1,a2,a3,a4,s2,<- hv,wrap_i (n:=(k:Int)+1) (by omega) (by omega)]at e
  simp only[Bool.and_self,Bool.or_false,cond_true]at e
  refine xwp_toEnd (s:=SS op c m vin vout se mk wt bs l sf v idx n cap k) hcr FO 1000 e (SS op c m vin vout se mk wt bs l sf v idx n cap (k+1)) ⟨_,h76 op c (stB m idx v (k+1)) (rB vin vout mk wt (seV 104 bs se l)) 104 bs (seB l sf),105,rfl,?_,?_,?_⟩ ⟨k+1,hlt,by simp only;omega,Wk.refl _ _⟩<;>rw[hn]
  ·cases bs<;>rfl
  ·cases bs<;>exact⟨rfl,rfl,rfl,rfl,rfl,trivial⟩
  ·rw[hP]
   have hm:∀ {σ:Nm},σ 90=some 90->σ 91=some 91->BIs Try.prog σ (stB m idx v (k+1)).mB (stB m idx v k).mB:=fun g g'=>bis_mBg (m:=stB m idx v k) g g'
   cases bs
   ·exact⟨rfl,bis_put,hm rfl rfl,bis_rV h1 h2 h3 rfl rfl rfl rfl (fun h=>by cases h),trivial⟩
   ·exact⟨rfl,bis_put,hm rfl rfl,bis_rV h1 h2 h3 rfl rfl rfl rfl (fun _=>rfl),bis_seB fun j hj=>hse j hj _,trivial⟩
 ·have:k=n:=by omega
  subst this
  rw[decide_eq_false (show ¬ (k:Int)<k by omega),cond_false]at e
  exact xwp_toEnd (s:=SS op c m vin vout se mk wt bs l sf v idx k cap k) hcr FO 1000 e (SS op c m vin vout se mk wt bs l sf v idx k cap k) (lf76t (m:=stB m idx v k) (vs:=[.int .i64 (k:Int),.int .i64 (k:Int),sl9 idx k cap,pI,pR]) hP hn h1 h2 h3 hse (by cases bs<;>rfl) fun x=>⟨rfl,rfl,rfl,rfl,rfl,trivial⟩) hQ
theorem store76 (hP:E.P=Try.prog) (hn:E.B.n=103) (hcl:Cl E.toEnv Q) (h1:Stay vin) (h2:Stay vout) (h3:Stay se) (hse:SeOK l sf) (hc:CandOK c){nn:Int}{n cap idx:Nat} (hn4:n84 n) (hi:idx+n<=m.sz)
  (hQ:Q .ret (S76 (stB m idx (m.x c.rs2.toNat) n) vin vout se mk wt bs l sf)) :
  XWP E.toEnv x76_38 Q ⟨mkT [9,7,5,3,0] [.bool true,sl9 idx n cap,.int .i64 nn,pI,pR],mkH (h76 op c m (rB vin vout mk wt (seV 104 bs se l)) 104 bs (seB l sf)),105⟩:=by
 have FO:FnsOK E.P (lookF FL) noSc:=hP▸FOK
 have e1:=q76_33s op c m vin vout (seV 104 bs se l) mk wt bs (seB l sf) nn idx cap n
 refine xwp_seq (xwp_toLoop (s:=⟨_,_,_⟩) FO 1000 e1 (SS op c m vin vout se mk wt bs l sf (m.x c.rs2.toNat) idx n cap 0) (lf76t hP hn h1 h2 h3 hse (by cases bs<;>rfl) fun x=>⟨rfl,rfl,rfl,rfl,rfl,trivial⟩) ?_)
 refine storeL hP hn (cl_ctx (cl_seqP hcl) _) h1 h2 h3 hse hc hn4 hi rfl ?_
 have e:=q76_30 op c (stB m idx (m.x c.rs2.toNat) n) vin vout (seV 104 bs se l) mk wt bs (seB l sf) idx cap n n
 show XWP E.toEnv x76_30 _ (SS op c m vin vout se mk wt bs l sf (m.x c.rs2.toNat) idx n cap n)
 exact xwp_toEnd (s:=SS op c m vin vout se mk wt bs l sf (m.x c.rs2.toNat) idx n cap n) (cl_seqP hcl) FO 1000 e _ (lf76e hP hn h1 h2 h3 hse (by cases bs<;>rfl)) hQ
end
def atM (m:MS) (c:Cand):Int:=IntKind.u64.wrap (m.x c.rs1.toNat+ofF c.imm)
def nM (op:Int):Nat:=(sizeF op).toNat
def memM (m:MS) (op:Int) (c:Cand):MS :=
 bif decide (op>=42)then stB m ((atM m c).toNat*1) (m.x c.rs2.toNat) (nM op)
 else putX m c.rd (narF (8*(nM op:Int)) (op != 39) (numF (nM op) m.mem ((atM m c).toNat*1)))
def seMore (sf:Nat->List Value) (sN:Nat) (r:List Value):Nat->List Value:=fun j=>bif Nat.blt j sN then sf j else r
def rowM (m:MS) (op:Int) (c:Cand):List Value:=[.int .u64 m.pl,.int .u64 (atM m c),.int .i64 (sizeF op),.bool (decide (op>=42))]
theorem nM_n84 (op:Int):n84 (nM op):=by
 unfold nM sizeF n84
 cases op==40<;>cases op==43<;>cases op==41<;>cases op==44<;>simp
theorem nM_cast (op:Int):sizeF op=(nM op:Int):=by
 unfold nM sizeF
 cases op==40<;>cases op==43<;>cases op==41<;>cases op==44<;>rfl
theorem plB_le {sz:Nat}{a:Int}{op:Int} (h:plB sz a (sizeF op)=true):a.toNat*1+nM op<=sz:=by
 unfold plB at h
 simp only[Bool.and_eq_true,beq_iff_eq,decide_eq_true_eq]at h
 rw[nM_cast]at h
 omega
theorem seOK_more {sf:Nat->List Value}{sN:Nat} (h:SeOK sN sf){m:MS}{op:Int}{c:Cand}:SeOK (sN+1) (seMore sf sN (rowM m op c)):=fun j hj σ=>by
 unfold seMore
 by_cases hlt:j<sN
 ·rw[lt_blt hlt];exact h j hlt σ
 ·rw[show Nat.blt j sN=false by rw[blt_dec];simp;omega];rfl
theorem bis_more {P:Program}{σ:Nm}{sf:Nat->List Value}{sN:Nat} (h:SeOK sN sf){m:MS}{op:Int}{c:Cand}{f:Nat->List Value} (hf:∀ j,j<sN->f j=sf j):BIs P σ (seB (sN+1) (seMore sf sN (rowM m op c))) (.rows (sN+1) 4 (rowCat f 0 sN (seRow m (atM m c) (sizeF op) (decide (op>=42)))) true false):=by
 refine⟨rfl,rfl,fun j hj=>?_,.inl rfl,.inr rfl⟩
 show rnL σ (bif Nat.blt j sN then sf j else rowM m op c)=cond (Nat.blt j sN) (f (0+j)) (seRow m (atM m c) (sizeF op) (decide (op>=42)) (j-sN))
 by_cases hlt:j<sN
 ·rw[lt_blt hlt,cond_true,cond_true,Nat.zero_add,hf j hlt];exact h j hlt σ
 ·rw[show Nat.blt j sN=false by rw[blt_dec];simp;omega,cond_false,cond_false,show j-sN=0 by omega];rfl
section
variable {op:Int}{c:Cand}{m:MS}{vin vout se:Value}{mk:Int}{wt bs:Bool}{l:Nat}{sf:Nat->List Value}{E:FEnv}{Q:Post}
theorem tail76 (hP:E.P=Try.prog) (hn:E.B.n=103) (hcl:Cl E.toEnv Q) (h1:Stay vin) (h2:Stay vout) (h3:Stay se) (hse:SeOK l sf) (hc:CandOK c) (hok:plB m.sz (atM m c) (sizeF op)=true)
  (hQ:Q .ret (S76 (memM m op c) vin vout se mk wt bs l sf)) :
  XWP E.toEnv x76_38 Q ⟨mkT [9,7,5,3,0] [.bool (decide (op>=42)),slM m (atM m c) (sizeF op),.int .i64 (sizeF op),pI,pR],mkH (h76 op c m (rB vin vout mk wt (seV 104 bs se l)) 104 bs (seB l sf)),105⟩:=by
 have hi:=plB_le hok
 have hsl:slM m (atM m c) (sizeF op)=sl9 ((atM m c).toNat*1) (nM op) (m.sz-(atM m c).toNat):=rfl
 rw[hsl]
 unfold memM at hQ
 cases hst:decide (op>=42)with
 |true =>
  rw[hst,cond_true]at hQ
  exact store76 hP hn hcl h1 h2 h3 hse hc (nM_n84 op) hi hQ
 |false =>
  rw[hst,cond_false]at hQ
  exact load76 hP hn hcl h1 h2 h3 hse hc (nM_cast op) (nM_n84 op) hi rfl hQ
end
section
variable {op:Int}{c:Cand}{m:MS}{vin vout se:Value}{mk:Int}{wt:Bool}
abbrev pre76L (m:MS) (r:Blk) (ex:List (Nat × Blk)):List (Nat × Blk):=[(90,m.memB),(92,m.mB),(100,r)]++ex
theorem body76_no (h1:Stay vin) (h2:Stay vout) (h3:Stay se) (hs:szB m.sz=true) (hx:∀ j,uB (m.x j)=true) (hc:CandOK c) (hok:plB m.sz (atM m c) (sizeF op)=false) :
  Body Try.prog 61 [pR,i18 op c.rd c.rs1 c.rs2 c.imm] (mkH (pre76L m (rB vin vout mk wt se) [])) (.bool false) [(90,some m.memB),(92,some m.mB),(100,some (rB vin vout mk wt se))] 103 0:=by
 refine body_of mixed fx76 (by simp) fun ρ w hd=>?_
 let E:=envOf Try.prog 111 103 (mkH (pre76L m (rB vin vout mk wt se) [])) mixed ρ w hd
 refine pre76 (E:=E) (bs:=false) (b:=m.memB) rfl rfl cl_fin h1 h2 h3 (fun _=>bis_mem) hs hx hc rfl rfl hok ?_
 have e:=q76_8f op c m vin vout se mk wt false m.memB (sizeF op) (atM m c) (.slice none 0 0)
 refine xwp_seq (xwp_toEnd (E:=E) (s:=⟨_,_,_⟩) (cl_seqP cl_fin) FOK 1000 e ⟨mkT [4] [.bool false],mkH (pre76L m (rB vin vout mk wt se) []),103⟩ ⟨_,_,_,rfl,rfl,⟨rfl,trivial⟩,bis_mem,rfl,bis_rB h1 h2 h3 rfl rfl rfl rfl,trivial⟩ (fin_of rfl ?_ rfl rfl))
 exact⟨rfl,rfl,rfl,trivial,trivial,trivial,trivial⟩
theorem body76_F (h1:Stay vin) (h2:Stay vout) (h3:Stay se) (hs:szB m.sz=true) (hx:∀ j,uB (m.x j)=true) (hc:CandOK c) (hok:plB m.sz (atM m c) (sizeF op)=true) :
  Body Try.prog 61 [pR,i18 op c.rd c.rs1 c.rs2 c.imm] (mkH (pre76L m (rB vin vout mk false se) [])) (.bool true) [(90,some (memM m op c).memB),(92,some (memM m op c).mB),(100,some (rB vin vout mk false se))] 103 0:=by
 refine body_of mixed fx76 (by simp) fun ρ w hd=>?_
 let E:=envOf Try.prog 111 103 (mkH (pre76L m (rB vin vout mk false se) [])) mixed ρ w hd
 refine pre76 (E:=E) (bs:=false) (b:=m.memB) rfl rfl cl_fin h1 h2 h3 (fun _=>bis_mem) hs hx hc rfl rfl hok ?_
 have e8:=q76_8t op c m vin vout se mk false false m.memB (sizeF op) (atM m c) (slM m (atM m c) (sizeF op))
 refine xwp_seqW (E:=E) (s:=⟨_,_,_⟩) cl_fin FOK 1000 e8 rfl ⟨mkT [7,6,5,3,0] [slM m (atM m c) (sizeF op),.int .u64 (atM m c),.int .i64 (sizeF op),pI,pR],mkH (h76 op c m (rB vin vout mk false se) 102 false m.memB),104⟩ (lf76 rfl rfl h1 h2 h3 (fun _=>bis_mem) rfl fun x=>⟨rfl,rfl,rfl,rfl,rfl,trivial⟩) ?_
 have e9:=q76_9 op c m vin vout se mk false false m.memB (sizeF op) (atM m c) ((atM m c).toNat*1) (m.sz-(atM m c).toNat) (nM op)
 refine xwp_seqW (E:=E) (s:=⟨_,_,_⟩) cl_fin FOK 1000 e9 rfl ⟨mkT [9,7,6,5,3,0] [.bool (decide (op>=42)),slM m (atM m c) (sizeF op),.int .u64 (atM m c),.int .i64 (sizeF op),pI,pR],mkH (h76 op c m (rB vin vout mk false se) 102 false m.memB),104⟩ (lf76 rfl rfl h1 h2 h3 (fun _=>bis_mem) rfl fun x=>⟨rfl,rfl,rfl,rfl,rfl,rfl,trivial⟩) ?_
 have e13:=q76_13f op c m vin vout se mk m.memB (sizeF op) (atM m c) (decide (op>=42)) ((atM m c).toNat*1) (m.sz-(atM m c).toNat) (nM op)
 refine xwp_seqW (E:=E) (s:=⟨_,_,_⟩) cl_fin FOK 1000 e13 rfl ⟨mkT [9,7,5,3,0] [.bool (decide (op>=42)),slM m (atM m c) (sizeF op),.int .i64 (sizeF op),pI,pR],mkH [(100,rB vin vout mk false se),(103,ib op c),(90,m.memB),(92,m.mB)],105⟩ ⟨_,_,_,rfl,rfl,⟨rfl,rfl,rfl,rfl,rfl,trivial⟩,bis_rB h1 h2 h3 rfl rfl rfl rfl,rfl,bis_mem,rfl,trivial⟩ ?_
 refine XWP.wk (wk_sub (has_sub (A:=h76 op c m (rB vin vout mk false (seV 104 false se 0)) 104 false (seB 0 fun _=>[])) ⟨rfl,rfl,rfl,rfl,trivial⟩)) ?_
 refine tail76 (E:=E) (bs:=false) (l:=0) (sf:=fun _=>[]) rfl rfl cl_fin h1 h2 h3 (fun j hj=>absurd hj (Nat.not_lt_zero _)) hc hok (fin_of rfl ?_ rfl rfl)
 exact⟨rfl,rfl,rfl,trivial,trivial,trivial,trivial⟩
end
theorem bO_false' {n:Nat} (h:bO n=false):n=0:=by
 cases n with
 |zero=>rfl
 |succ n=>cases h
section
variable {op:Int}{c:Cand}{m:MS}{vin vout:Value}{mk:Int}{sN:Nat}{sf:Nat->List Value}
abbrev seN (m:MS) (op:Int) (c:Cand) (sN:Nat) (sf:Nat->List Value):Blk:=seB (sN+1) (seMore sf sN (rowM m op c))
theorem body76_W (h1:Stay vin) (h2:Stay vout) (hse:SeOK sN sf) (hsN:sN<=1000000000) (hs:szB m.sz=true) (hx:∀ j,uB (m.x j)=true) (hc:CandOK c) (hok:plB m.sz (atM m c) (sizeF op)=true) :
  Body Try.prog 61 [pR,i18 op c.rd c.rs1 c.rs2 c.imm] (mkH (pre76L m (rB vin vout mk true (vW (bO sN) sN)) (exS 102 (bO sN) (seB sN sf)))) (.bool true)
   ((103,some (seN m op c sN sf)) :: [(90,some (memM m op c).memB),(92,some (memM m op c).mB),(100,some (rB vin vout mk true (newS 103 (sN+1)))),(102,none)]) 103 1:=by
 cases hbo:bO sN with
 |false =>
  have h0:=bO_false' hbo
  subst h0
  refine body_of mixed fx76 (by simp) fun ρ w hd=>?_
  let E:=envOf Try.prog 111 103 (mkH (pre76L m (rB vin vout mk true (vW (false) 0)) (exS 102 (false) (seB 0 sf)))) mixed ρ w hd
  have h3:Stay (vW (false) 0):=stay_nil
  have hb:∀ σ:Nm,BIs Try.prog σ (seB 0 sf) (seB 0 sf):=fun σ=>bis_seB fun j hj=>hse j hj _
  refine pre76 (E:=E) (bs:=false) (b:=seB 0 sf) rfl rfl cl_fin h1 h2 h3 hb hs hx hc rfl rfl hok ?_
  have e8:=q76_8t op c m vin vout (vW (false) 0) mk true (false) (seB 0 sf) (sizeF op) (atM m c) (slM m (atM m c) (sizeF op))
  refine xwp_seqW (E:=E) (s:=⟨_,_,_⟩) cl_fin FOK 1000 e8 rfl ⟨mkT [7,6,5,3,0] [slM m (atM m c) (sizeF op),.int .u64 (atM m c),.int .i64 (sizeF op),pI,pR],mkH (h76 op c m (rB vin vout mk true (vW (false) 0)) 102 (false) (seB 0 sf)),104⟩ (lf76 rfl rfl h1 h2 h3 hb (rfl) fun x=>⟨rfl,rfl,rfl,rfl,rfl,trivial⟩) ?_
  have e9:=q76_9 op c m vin vout (vW (false) 0) mk true (false) (seB 0 sf) (sizeF op) (atM m c) ((atM m c).toNat*1) (m.sz-(atM m c).toNat) (nM op)
  refine xwp_seqW (E:=E) (s:=⟨_,_,_⟩) cl_fin FOK 1000 e9 rfl ⟨mkT [9,7,6,5,3,0] [.bool (decide (op>=42)),slM m (atM m c) (sizeF op),.int .u64 (atM m c),.int .i64 (sizeF op),pI,pR],mkH (h76 op c m (rB vin vout mk true (vW (false) 0)) 102 (false) (seB 0 sf)),104⟩ (lf76 rfl rfl h1 h2 h3 hb (rfl) fun x=>⟨rfl,rfl,rfl,rfl,rfl,rfl,trivial⟩) ?_
  have hse':=seOK_more hse (m:=m) (op:=op) (c:=c)
  have e13:=q76_13n op c m vin vout mk (seB 0 sf) (sizeF op) (atM m c) (decide (op>=42)) ((atM m c).toNat*1) (m.sz-(atM m c).toNat) (nM op)
  refine xwp_seqW (E:=E) (s:=⟨_,_,_⟩) cl_fin FOK 1000 e13 rfl ⟨mkT [9,7,5,3,0] [.bool (decide (op>=42)),slM m (atM m c) (sizeF op),.int .i64 (sizeF op),pI,pR],mkH [(100,rB vin vout mk true (newS 104 1)),(104,seN m op c 0 sf),(103,ib op c),(90,m.memB),(92,m.mB)],105⟩ ⟨_,_,_,rfl,rfl,⟨rfl,rfl,rfl,rfl,rfl,trivial⟩,bis_rBs h1 h2 rfl rfl rfl rfl rfl,bis_more hse (fun j hj=>absurd hj (Nat.not_lt_zero _)),rfl,bis_mem,rfl,trivial⟩ ?_
  refine XWP.wk (wk_sub (has_sub (A:=h76 op c m (rB vin vout mk true (seV 104 true (.slice none 0 0) 1)) 104 true (seN m op c 0 sf)) ⟨rfl,rfl,rfl,rfl,rfl,trivial⟩)) ?_
  refine tail76 (E:=E) (bs:=true) (l:=1) (sf:=seMore sf 0 (rowM m op c)) (se:=.slice none 0 0) rfl rfl cl_fin h1 h2 stay_nil hse' hc hok (fin_of rfl ?_ rfl rfl)
  exact⟨rfl,rfl,rfl,rfl,trivial,trivial,trivial,trivial,trivial⟩
 |true =>
  refine body_of mixed fx76 (by simp) fun ρ w hd=>?_
  let E:=envOf Try.prog 111 103 (mkH (pre76L m (rB vin vout mk true (vW (true) sN)) (exS 102 (true) (seB sN sf)))) mixed ρ w hd
  have h3:Stay (vW (true) sN):=stay_seen _ _
  have hb:∀ σ:Nm,BIs Try.prog σ (seB sN sf) (seB sN sf):=fun σ=>bis_seB fun j hj=>hse j hj _
  refine pre76 (E:=E) (bs:=true) (b:=seB sN sf) rfl rfl cl_fin h1 h2 h3 hb hs hx hc rfl rfl hok ?_
  have e8:=q76_8t op c m vin vout (vW (true) sN) mk true (true) (seB sN sf) (sizeF op) (atM m c) (slM m (atM m c) (sizeF op))
  refine xwp_seqW (E:=E) (s:=⟨_,_,_⟩) cl_fin FOK 1000 e8 rfl ⟨mkT [7,6,5,3,0] [slM m (atM m c) (sizeF op),.int .u64 (atM m c),.int .i64 (sizeF op),pI,pR],mkH (h76 op c m (rB vin vout mk true (vW (true) sN)) 102 (true) (seB sN sf)),104⟩ (lf76 rfl rfl h1 h2 h3 hb (rfl) fun x=>⟨rfl,rfl,rfl,rfl,rfl,trivial⟩) ?_
  have e9:=q76_9 op c m vin vout (vW (true) sN) mk true (true) (seB sN sf) (sizeF op) (atM m c) ((atM m c).toNat*1) (m.sz-(atM m c).toNat) (nM op)
  refine xwp_seqW (E:=E) (s:=⟨_,_,_⟩) cl_fin FOK 1000 e9 rfl ⟨mkT [9,7,6,5,3,0] [.bool (decide (op>=42)),slM m (atM m c) (sizeF op),.int .u64 (atM m c),.int .i64 (sizeF op),pI,pR],mkH (h76 op c m (rB vin vout mk true (vW (true) sN)) 102 (true) (seB sN sf)),104⟩ (lf76 rfl rfl h1 h2 h3 hb (rfl) fun x=>⟨rfl,rfl,rfl,rfl,rfl,rfl,trivial⟩) ?_
  have hse':=seOK_more hse (m:=m) (op:=op) (c:=c)
  have e13:=q76_13b op c m vin vout mk (sizeF op) (atM m c) (decide (op>=42)) ((atM m c).toNat*1) (m.sz-(atM m c).toNat) (nM op) sN sf
  have g:(!(sN+1).ble sN&&true&&(sN.ble sN&&(0+sN).ble sN)&&true&&decide ((sN+1)*37<=1099511627776)&&true&&true)=true:=by
   rw[Nat.zero_add,show(sN+1).ble sN=false by rw[ble_dec];simp,show sN.ble sN=true by simp,decide_eq_true (by omega)];rfl
  rw[g,cond_true]at e13
  refine xwp_seqW (E:=E) (s:=⟨_,_,_⟩) cl_fin FOK 1000 e13 rfl ⟨mkT [9,7,5,3,0] [.bool (decide (op>=42)),slM m (atM m c) (sizeF op),.int .i64 (sizeF op),pI,pR],mkH [(100,rB vin vout mk true (newS 104 (sN+1))),(104,seN m op c sN sf),(103,ib op c),(90,m.memB),(92,m.mB)],105⟩ ⟨_,_,_,rfl,rfl,⟨rfl,rfl,rfl,rfl,rfl,trivial⟩,bis_rBs h1 h2 rfl rfl rfl rfl rfl,bis_more hse (fun j hj=>rfl),rfl,bis_mem,rfl,trivial⟩ ?_
  refine XWP.wk (wk_sub (has_sub (A:=h76 op c m (rB vin vout mk true (seV 104 true (.slice none 0 0) (sN+1))) 104 true (seN m op c sN sf)) ⟨rfl,rfl,rfl,rfl,rfl,trivial⟩)) ?_
  refine tail76 (E:=E) (bs:=true) (l:=sN+1) (sf:=seMore sf sN (rowM m op c)) (se:=.slice none 0 0) rfl rfl cl_fin h1 h2 stay_nil hse' hc hok (fin_of rfl ?_ rfl rfl)
  exact⟨rfl,rfl,rfl,rfl,trivial,trivial,trivial,trivial,trivial,trivial⟩
end
section
variable {op:Int}{c:Cand}{m:MS}{vin vout se:Value}{mk:Int}{wt:Bool}
theorem call76_no (h1:Stay vin) (h2:Stay vout) (h3:Stay se) (hs:szB m.sz=true) (hx:∀ j,uB (m.x j)=true) (hc:CandOK c) (hok:plB m.sz (atM m c) (sizeF op)=false) :
  Call0 61 [pR,(⟨op,c,0⟩:Ans).i] (pre76L m (rB vin vout mk wt se) []) false m.memB m vin vout se mk wt :=
 ⟨rfl,fun n hn=>adet_of_body (body76_no h1 h2 h3 hs hx hc hok) πR [] rfl rfl ⟨bis_mem,rfl,bis_rB h1 h2 h3 rfl rfl rfl rfl,trivial⟩ rfl rfl ⟨bis_mem,rfl,bis_rB h1 h2 h3 rfl rfl rfl rfl,trivial,trivial,trivial,trivial⟩ rfl⟩
theorem call76_F (h1:Stay vin) (h2:Stay vout) (h3:Stay se) (hs:szB m.sz=true) (hx:∀ j,uB (m.x j)=true) (hc:CandOK c) (hok:plB m.sz (atM m c) (sizeF op)=true) :
  Call0 61 [pR,(⟨op,c,0⟩:Ans).i] (pre76L m (rB vin vout mk false se) []) true (memM m op c).memB (memM m op c) vin vout se mk false :=
 ⟨rfl,fun n hn=>adet_of_body (body76_F h1 h2 h3 hs hx hc hok) πR [] rfl rfl ⟨bis_mem,rfl,bis_rB h1 h2 h3 rfl rfl rfl rfl,trivial⟩ rfl rfl ⟨bis_mem,bis_mBg rfl rfl,bis_rB h1 h2 h3 rfl rfl rfl rfl,trivial,trivial,trivial,trivial⟩ rfl⟩
theorem call76_W (h1:Stay vin) (h2:Stay vout){sN:Nat}{sf:Nat->List Value} (hse:SeOK sN sf) (hsN:sN<=1000000000) (hs:szB m.sz=true) (hx:∀ j,uB (m.x j)=true) (hc:CandOK c) (hok:plB m.sz (atM m c) (sizeF op)=true) :
  CallS ⟨op,c,0⟩ (pre76L m (rB vin vout mk true (vW (bO sN) sN)) (exS 102 (bO sN) (seB sN sf))) (memM m op c).memB (memM m op c) vin vout (sN+1) (seN m op c sN sf) mk true:=by
 have h3:Stay (vW (bO sN) sN):=by cases bO sN<;>first|exact stay_nil|exact stay_seen _ _
 have hse':=seOK_more hse (m:=m) (op:=op) (c:=c)
 have b:=body76_W (mk:=mk) h1 h2 hse hsN hs hx hc hok
 cases hbo:bO sN with
 |false =>
  rw[hbo]at b h3
  refine⟨rfl,fun n hn=>?_⟩
  exact adet_newR (upd:=fun n=>[(90,some (memM m op c).memB),(92,some (memM m op c).mB),(100,some (rB vin vout mk true (newS n (sN+1)))),(102,none)]) b rfl
   ⟨bis_mem,rfl,bis_rB h1 h2 h3 rfl rfl rfl rfl,trivial⟩ rfl rfl (fun d=>rfl) (fun d=>rfl) (fun d=>bis_seB fun j hj=>hse' j hj _)
   (fun d=>⟨bis_mem,bis_mBg rfl rfl,bis_rBs h1 h2 rfl rfl rfl rfl (asc_newR d _),trivial,trivial,trivial,trivial,trivial⟩) (fun d=>⟨rfl,rfl⟩) hn
 |true =>
  rw[hbo]at b h3
  refine⟨rfl,fun n hn=>?_⟩
  exact adet_newR (upd:=fun n=>[(90,some (memM m op c).memB),(92,some (memM m op c).mB),(100,some (rB vin vout mk true (newS n (sN+1)))),(102,none)]) b rfl
   ⟨bis_mem,rfl,bis_rB h1 h2 h3 rfl rfl rfl rfl,bis_seB fun j hj=>hse j hj _,trivial⟩ rfl rfl (fun d=>rfl) (fun d=>rfl) (fun d=>bis_seB fun j hj=>hse' j hj _)
   (fun d=>⟨bis_mem,bis_mBg rfl rfl,bis_rBs h1 h2 rfl rfl rfl rfl (asc_newR d _),trivial,trivial,trivial,trivial,trivial,trivial⟩) (fun d=>⟨rfl,rfl⟩) hn
end
end Go.X
