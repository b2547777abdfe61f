import Derived.Test.YtnekegldodbgjaaM47
set_option linter.all false
namespace Go.X
open Go Go.Proofs
def memD (m:MS) (op:Int) (c:Cand):MS :=
 bif decide (op>=42)then stB m ((atM m c).toNat*1) (m.x c.rs2.toNat) (nM op)
 else setD m c.rd (narF (8*(nM op:Int)) (op != 39) (numF (nM op) m.mem ((atM m c).toNat*1)))
def pre68 (m:MS) (bs:Bool) (sN:Nat) (sf:Nat->List Value):List (Nat × Blk):=(93,m.memB) :: dxW bs 95 sN sf
def upd68 (N:Nat) (m2:MS) (bo bs:Bool) (k L C oN sN:Nat) (mk:Int) (sf:Nat->List Value):Hp:=mkH ([(N,docB 93 m2),(N+1,rcB bo bs 94 (N+2) k L C oN sN mk)]++dxW bs (N+2) sN sf++[(93,m2.memB)])++[(95,none)]
theorem bis_seF {P:Program}{σ:Nm}{m:MS}{op:Int}{c:Cand} (hc:CandOK c){sN:Nat}{sf:Nat->List Value} (h:SeOK sN sf) :
  BIs P σ (seB (sN+1) (seMore sf sN (rowM m op c))) (.rows (seL (bO sN) sN) 4 (seF (bO sN) sN sf (seRow m (aD m c) (sizeF op) (decide (op>=42)))) true false) :=
 ⟨(seL_bO sN).symm,rfl,fun j hj=>by rw[seL_bO]at hj;rw[seF_more hc j hj];exact seOK_more h j hj σ,.inl rfl,.inr rfl⟩
theorem at_uB (m:MS) (c:Cand):uB (atM m c)=true:=uB_wrap _
section
variable {m:MS}{c:Cand}{bo:Bool}{k L C oN sN:Nat}{mk:Int}{sf:Nat->List Value}{op:Int} (hs:szB m.sz=true) (hc:CandOK c)
include hs hc
theorem d62_ok {pl:Bool} (hp:plB m.sz (atM m c) (sizeF op)=pl):d62 m (aD m c) (sizeF op) pl=true:=by
 unfold d62
 rw[aD_at hc,nM_cast]
 rw[nM_cast]at hp
 have:=det62 (m:=m) (a:=atM m c) (nM_n84 op) hs (at_uB m c)
 rw[hp]at this
 exact decP_true ⟨rfl,trivial,this⟩
theorem b68_F (h:isLd op\/isSt op) (hp:plB m.sz (atM m c) (sizeF op)=false) (hse:SeOK sN sf) :
  Body Try.prog 68 [docV 93 m,rcV bo (bO sN) 94 95 k L C oN sN mk,i18 op c.rd c.rs1 c.rs2 c.imm] (mkH (pre68 m (bO sN) sN sf)) (val70 m bo (bO sN) 94 102 k L C oN sN mk false) (upd68 100 m bo (bO sN) k L C oN sN mk sf) 100 3:=by
 have e:=p68_F m c bo (bO sN) k L C oN sN mk 0 sf op h
 rw[gR_ok hc.rs1,d62_ok hs hc hp]at e
 simp only[Bool.or_false,Bool.and_self,cond_true]at e
 refine body_walk (fok FOK _) fx68 (by simp) e rfl ⟨mkT [6,7,8] [pt 100,pt 101,.bool false],mkH ([(100,docB 93 m),(101,rcB bo (bO sN) 94 102 k L C oN sN mk),(93,m.memB)]++dxW (bO sN) 102 sN sf),103⟩ (fun ρ w hd=>⟨_,[(100,docB 93 m),(101,rcB bo (bO sN) 94 102 k L C oN sN mk),(93,m.memB)]++dxW (bO sN) 102 sN sf,_,rfl,?_,?_,?_⟩) ?_ rfl ?_
 ·cases bO sN<;>rfl
 ·cases bO sN<;>exact⟨rfl,rfl,rfl,trivial⟩
 ·refine⟨bis_doc93 rfl,bis_rc rfl (fun h=>by cases bO sN<;>rfl) (fun h=>by rw[h];rfl),bis_mem,?_⟩
  cases hb:bO sN
  ·exact trivial
  ·exact⟨bis_seB fun j hj=>hse j hj _,trivial⟩
 ·cases bO sN
  ·exact⟨rfl,rfl,rfl,trivial,trivial,trivial⟩
  ·exact⟨rfl,rfl,rfl,rfl,trivial,trivial,trivial,trivial⟩
 ·cases bO sN<;>rfl
theorem b68_L (h:isLd op) (hp:plB m.sz (atM m c) (sizeF op)=true) (hse:SeOK sN sf) (hsn:sN<1000000000) (hm:ByOK m.mem) :
  Body Try.prog 68 [docV 93 m,rcV bo (bO sN) 94 95 k L C oN sN mk,i18 op c.rd c.rs1 c.rs2 c.imm] (mkH (pre68 m (bO sN) sN sf)) (val70 (memD m op c) bo true 94 102 k L C oN (sN+1) mk true) (upd68 100 (memD m op c) bo true k L C oN (sN+1) mk (seMore sf sN (rowM m op c))) 100 3:=by
 have hp1:=plB_le hp
 have hat:=uB_iff.1 (at_uB m c)
 have e:=p68_L m c bo (bO sN) k L C oN sN mk (numF (nM op) m.mem (atM m c).toNat) sf op h
 have h64:d64 m (aD m c) (sizeF op) (numF (nM op) m.mem (atM m c).toNat)=true:=by
  unfold d64
  rw[aD_at hc,nM_cast]
  exact decP_true ⟨rfl,⟨rfl,trivial⟩,det64 hm hs (nM_n84 op) hat.1 (by omega)⟩
 have h42:decide (op>=42)=false:=by rcases h with rfl|rfl|rfl|rfl<;>rfl
 have huB:uB (numF (nM op) m.mem (atM m c).toNat)=true:=by
  rw[numF_R hm (nM_n84 op)]
  obtain⟨r0,r1⟩:=numR_rng hm (nM op) (atM m c).toNat
  have hp:(256:Nat) ^ (nM op)<=256 ^ 8:=Nat.pow_le_pow_right (by decide) (by rcases nM_n84 op with h|h|h<;>omega)
  have hp1:((256 ^ (nM op):Nat):Int)<=18446744073709551616:=Int.ofNat_le.2 hp
  have hp2:((256 ^ (nM op):Nat):Int)=256 ^ (nM op):=by rw[Int.natCast_pow];rfl
  exact uB_iff.2 ⟨r0,by omega⟩
 rw[gR_ok hc.rs1,d62_ok hs hc hp,gS_ok hsn,h64,huB,show d66 m c.rd (narF (8*sizeF op) (op != 39) (numF (nM op) m.mem (atM m c).toNat))=true from decP_true ⟨rfl,hc.rd⟩]at e
 simp only[Bool.or_false,Bool.and_self,cond_true]at e
 have hmd:memD m op c=setD m c.rd (narF (8*sizeF op) (op != 39) (numF (nM op) m.mem (atM m c).toNat)):=by
  unfold memD
  rw[h42,cond_false,nM_cast,Nat.mul_one]
 rw[<- hmd]at e
 have hmem:(memD m op c).memB=m.memB:=by rw[hmd];rfl
 refine body_walk (fok FOK _) fx68 (by simp) e rfl ⟨mkT [6,7,8] [pt 100,pt 101,.bool true],mkH [(100,docB 93 (memD m op c)),(101,rcB bo true 94 102 k L C oN (sN+1) mk),(102,seB (sN+1) (seMore sf sN (rowM m op c))),(93,m.memB)],103⟩
  (fun ρ w hd=>⟨_,[(100,docB 93 (memD m op c)),(101,rcB bo true 94 102 k L C oN (sN+1) mk),(102,seB (sN+1) (seMore sf sN (rowM m op c))),(93,m.memB)],_,rfl,?_,?_,?_⟩) ?_ rfl ?_
 ·rfl
 ·exact⟨rfl,rfl,rfl,trivial⟩
 ·have hb:=bis_seF (P:=Try.prog) (σ:=stayOr 100 [(100,103),(101,104),(102,106),(93,93)]) (m:=m) (op:=op) hc hse
  rw[h42]at hb
  refine⟨bis_doc93 rfl,?_,hb,bis_mem,trivial⟩
  have:=bis_rc (P:=Try.prog) (σ:=stayOr 100 [(100,103),(101,104),(102,106),(93,93)]) (bo:=bo) (bs:=true) (a:=94) (b:=102) (a':=94) (b':=106) (k:=k) (L:=L) (C:=C) (oN:=oN) (sN:=sN+1) (mk:=mk) rfl (fun _=>rfl) (fun _=>rfl)
  rw[seL_bO]
  exact this
 ·rw[upd68,hmem]
  cases bO sN
  ·exact⟨rfl,rfl,rfl,rfl,trivial,trivial,trivial⟩
  ·exact⟨rfl,rfl,rfl,rfl,trivial,trivial,trivial,trivial⟩
 ·rfl
theorem b68_S (hx:∀ j,uB (m.x j)=true) (h:isSt op) (hp:plB m.sz (atM m c) (sizeF op)=true) (hse:SeOK sN sf) (hsn:sN<1000000000) :
  Body Try.prog 68 [docV 93 m,rcV bo (bO sN) 94 95 k L C oN sN mk,i18 op c.rd c.rs1 c.rs2 c.imm] (mkH (pre68 m (bO sN) sN sf)) (val70 (memD m op c) bo true 94 102 k L C oN (sN+1) mk true) (upd68 100 (memD m op c) bo true k L C oN (sN+1) mk (seMore sf sN (rowM m op c))) 100 3:=by
 have hp1:=plB_le hp
 have hat:=uB_iff.1 (at_uB m c)
 have hsz:m.sz<=4194304:=szB_iff.1 hs
 have e:=p68_S m c bo (bO sN) k L C oN sN mk 0 sf op h
 have h42:decide (op>=42)=true:=by rcases h with rfl|rfl|rfl<;>rfl
 rw[gR_ok hc.rs1,d62_ok hs hc hp,gS_ok hsn,gR_ok hc.rs2,(rg_ok m hc.rs2).2.2]at e
 simp only[Bool.or_false,Bool.and_self,cond_true]at e
 have hn8:nM op<=8:=by rcases nM_n84 op with h|h|h<;>omega
 have hx2:=uB_iff.1 (hx c.rs2.toNat)
 rw[nM_cast]at e
 generalize hX:m.x c.rs2.toNat=X at *
 obtain⟨A,hA⟩:∃ A:Nat,atM m c=A:=⟨(atM m c).toNat,by omega⟩
 have hmd:memD m op c=stB m (A*1) X (nM op):=by
  unfold memD
  rw[h42,cond_true,hA,hX];rfl
 rw[aD_at hc,hA]at e
 rw[hA,Int.toNat_natCast]at hp1
 obtain⟨s1,s2,s3,s4,s5,_⟩:=stB_same m (A*1) X (nM op)
 have hdoc:docB 93 (stB m (A*1) X (nM op))=docB 93 m:=by unfold docB docC;rw[s1,s2,s3,s4,s5]
 have hbF:=bis_seF (P:=Try.prog) (σ:=stayOr 100 [(100,100),(101,101),(103,103),(104,104),(105,106),(93,93)]) (m:=m) (op:=op) hc hse
 rw[h42,aD_at hc,hA,nM_cast]at hbF
 rw[hmd]
 refine body_of' mixed fx68 (by simp) fun E Q hP hE hcl hfin=>?_
 have hF:FnsOK E.P (lookF FL) noSc:=hP▸FOK
 let SB:=seB (sN+1) (seMore sf sN (rowM m op c))
 have hSB:∀ σ:Nm,BIs Try.prog σ SB SB:=fun σ=>bis_seB fun j hj=>seOK_more hse j hj σ
 let H:Nat->List (Nat × Blk):=fun j=>[(93,(stB m (A*1) X j).memB),(100,docB 93 m),(101,rcN bo k L C oN mk 105 (sN+1)),(103,docZ),(104,runZ),(105,SB)]
 let S:Nat->St:=fun j=>⟨T68 (j:Int) (X / 2 ^ (8*j)) (nM op:Int) (A:Int),mkH (H j),106⟩
 have hrc:∀ {σ:Nm}{a b:Nat},σ 40=some 40->(σ 94=some 94)->σ a=some b->BIs Try.prog σ (rcN bo k L C oN mk a (sN+1)) (rcN bo k L C oN mk b (sN+1)):=fun h1 h2 h3=>bis_rc (bo:=bo) (bs:=true) h1 (fun _=>h2) (fun _=>h3)
 have hmemB:∀ j,(stB m (A*1) X j).memB=mb32 m.sz (stB m (A*1) X j).mem:=fun j=>by
  obtain⟨q1,_⟩:=stB_same m (A*1) X j
  show Blk.rows (stB m (A*1) X j).sz 1 _ _ _=_
  rw[q1];rfl
 have lf:∀ {j:Nat}{ex:Exit}{q:Nat}{b:Blk}{ts:List (Option (Bool × Value))}{vs:List Value}{ks:List Nat},BIs Try.prog (stayOr 100 [(93,93),(100,100),(101,101),(103,103),(104,104),(105,105)]) (stB m (A*1) X j).memB b->tsOK (stayOr 100 [(93,93),(100,100),(101,101),(103,103),(104,104),(105,105)]) ts vs ->
   LeafTo E ks ⟨ts,[(93,some b),(100,some (docB 93 m)),(101,some (rcN bo k L C oN mk 105 (sN+1))),(103,some docZ),(104,some runZ),(105,some SB)],ex,q⟩ ⟨mkT ks vs,mkH (H j),106⟩:=fun {j ex q b ts vs ks} hf ht =>
  ⟨_,H j,106,rfl,by rw[hE];rfl,by rw[hE];exact ht,by
   rw[hE,hP]
   exact⟨hf,bis_doc93 rfl,hrc rfl rfl rfl,rfl,rfl,hSB _,trivial⟩⟩
 refine xwp_toLoop (s:=⟨_,_,_⟩) (hP▸fok FOK _) 1000 e ⟨T68 0 X (nM op:Int) (A:Int),mkH [(100,docB 93 m),(101,rcN bo k L C oN mk 105 (sN+1)),(103,docZ),(104,runZ),(105,SB),(93,m.memB)],106⟩
  ⟨_,[(100,docB 93 m),(101,rcN bo k L C oN mk 105 (sN+1)),(103,docZ),(104,runZ),(105,SB),(93,m.memB)],106,rfl,by rw[hE];rfl,by rw[hE];exact⟨rfl,rfl,rfl,rfl,rfl,rfl,rfl,rfl,rfl,trivial⟩,by rw[hE,hP];exact⟨bis_doc93 rfl,by rw[seL_bO];exact hrc rfl rfl rfl,rfl,rfl,hbF,bis_mem,trivial⟩⟩ ?_
 refine XWP.wk (s':=S 0) ?_ ?_
 ·have:S 0=⟨T68 0 X (nM op:Int) (A:Int),mkH (H 0),106⟩:=by
   show(⟨T68 ((0:Nat):Int) (X / 2 ^ (8*0)) (nM op:Int) (A:Int),mkH (H 0),106⟩:St)=_
   rw[Nat.mul_zero,Int.pow_zero,Int.ediv_one];rfl
  rw[this]
  exact wk_sub (has_sub ⟨rfl,rfl,rfl,rfl,rfl,rfl,trivial⟩)
 refine xwp_loopR (ι:=Nat) S (fun j=>j<=nM op) (fun j=>nM op-j) 0 (Nat.zero_le _) fun j hj=>?_
 have hcr:=cl_round (S:=S) (I:=fun j=>j<=nM op) (μ:=fun j=>nM op-j) (i:=j) (cl_ctx hcl [.bl 0,.sq x68_34,.sq x68_42])
 have eb:=p68_b m (stB m (A*1) X j).mem (j:Int) (X / 2 ^ (8*j)) (nM op:Int) (A:Int) (rcN bo k L C oN mk 105 (sN+1)) docZ runZ SB
 rw[<- hmemB j]at eb
 have hd0:0<=X / 2 ^ (8*j):=Int.ediv_nonneg hx2.1 (Int.le_of_lt (Int.pow_pos (by decide)))
 have hd1:X / 2 ^ (8*j)<=X:=Int.ediv_le_self _ hx2.1
 by_cases hlt:j<nM op
 ·have hi:IntKind.i64.wrap (IntKind.i64.wrap (A:Int)+(j:Int))=((A+j:Nat):Int):=by rw[wrap_i (n:=(A:Int)) (by omega) (by omega),wrap_i (by omega) (by omega)];omega
  have i1:intRange ((A+j:Nat):Int) m.sz=true:=by rw[ir_nat];exact decide_eq_true (by omega)
  rw[decide_eq_true (show(j:Int)<(nM op:Int) by omega),cond_true,hi,i1,Int.toNat_natCast,Nat.zero_add,lt_blt (show A+j<m.sz by omega),wrap_i (n:=(j:Int)+1) (by omega) (by omega)]at eb
  simp only[Bool.and_self,Bool.or_false,Bool.and_true,cond_true]at eb
  have hv:IntKind.u64.wrap ((X / 2 ^ (8*j)).tdiv 256)=X / 2 ^ (8*(j+1)):=by
   rw[Int.tdiv_eq_ediv_of_nonneg hd0,u64_wrap,show 8*(j+1)=8*j+8 by omega,Int.pow_add,<- Int.ediv_ediv_of_nonneg (Int.le_of_lt (Int.pow_pos (by decide)))]
   show _=X / 2 ^ (8*j) / 256
   omega
  have hby:IntKind.u8.wrap ((X / 2 ^ (8*j)).tmod 256)=byteX X j:=by
   rw[byteX_val hx2.1 j (by omega),Int.tmod_eq_emod_of_nonneg hd0,u8w];omega
  rw[hv,hby]at eb
  have hrow:∀ i,rowSet (fun i=>[Value.int .u8 ((stB m (A*1) X j).mem i)]) (A+j) [Value.int .u8 (byteX X j)] i=[Value.int .u8 ((stB m (A*1) X (j+1)).mem i)]:=by
   intro i
   show(bif Nat.beq i (A+j)then[Value.int .u8 (byteX X j)]else[Value.int .u8 ((stB m (A*1) X j).mem i)])=[Value.int .u8 (bif Nat.beq i (A*1+j)then byteX X j else(stB m (A*1) X j).mem i)]
   rw[Nat.mul_one]
   cases Nat.beq i (A+j)<;>rfl
  exact xwp_toEnd (s:=S j) hcr hF 1000 eb (S (j+1)) (lf (j:=j+1) (by rw[hmemB];exact bis_mb fun i hi=>hrow i) ⟨rfl,rfl,rfl,rfl,rfl,rfl,rfl,rfl,rfl,trivial⟩) ⟨j+1,hlt,by simp only;omega,Wk.refl _ _⟩
 ·have:j=nM op:=by omega
  rw[decide_eq_false (show ¬ (j:Int)<(nM op:Int) by omega),cond_false]at eb
  refine xwp_toEnd (s:=S j) hcr hF 1000 eb (S j) (lf (j:=j) bis_mem ⟨rfl,rfl,rfl,rfl,rfl,rfl,rfl,rfl,rfl,trivial⟩) ?_
  have ee:=p68_e m (stB m (A*1) X j).mem (j:Int) (X / 2 ^ (8*j)) (nM op:Int) (A:Int) bo k L C oN (sN+1) mk SB
  rw[<- hmemB j]at ee
  refine xwp_toEnd (s:=S j) (cl_ctx hcl [.sq x68_42]) hF 1000 ee ⟨mkT [6,7,8] [pt 100,pt 101,.bool true],mkH [(100,docB 93 m),(101,rcB bo true 94 102 k L C oN (sN+1) mk),(93,(stB m (A*1) X j).memB),(102,SB)],103⟩ ⟨_,[(100,docB 93 m),(101,rcB bo true 94 102 k L C oN (sN+1) mk),(93,(stB m (A*1) X j).memB),(102,SB)],103,rfl,by rw[hE];rfl,by rw[hE];exact⟨rfl,rfl,rfl,trivial⟩,by rw[hE,hP];exact⟨bis_doc93 rfl,bis_rc rfl (fun _=>rfl) (fun _=>rfl),bis_mem,hSB _,trivial⟩⟩ ?_
  subst this
  refine hfin _ _ (fin_of rfl ?_ (by rw[hE]) ?_)
  ·rw[upd68,hdoc]
   cases bO sN
   ·exact⟨rfl,rfl,rfl,rfl,trivial,trivial,trivial⟩
   ·exact⟨rfl,rfl,rfl,rfl,trivial,trivial,trivial,trivial⟩
  ·rw[upd68,hdoc]
   unfold val70 docV
   have:docC 93 (stB m (A*1) X (nM op))=docC 93 m:=Blk.var.inj hdoc
   rw[this];rfl
end
noncomputable def con63x (w:Int) (i:Ans):Con Try.prog where
 f:=63
 run:=fun vs _ n=>some ([],i.vr,mkH [(n,i.b)],1,decP (vs=[.int .u32 w]/\decA w=i/\0<=w/\w<4294967296))
 ok:=fun vs h n pre v upd news hx=>by
  simp only[Option.some.injEq,Prod.mk.injEq]at hx
  obtain⟨rfl,rfl,rfl,rfl,hu⟩:=hx
  obtain⟨rfl,rfl,hw⟩:=of_decP hu
  exact⟨fun id hid=>by simp[fstL]at hid,c63 hw n⟩
def rn4 (pi po ps:Option Addr) (li ci lo co ls cs:Nat) (mk:Int):Value:=.agg ⟨[.slice pi li ci,.slice po lo co,.int .i64 mk,.slice ps ls cs]⟩
def rb4 (pi po ps:Option Addr) (li ci lo co ls cs:Nat) (mk:Int):Blk:=.var [.slice pi li ci,.slice po lo co,.int .i64 mk,.slice ps ls cs]
noncomputable abbrev sc49 (m:MS) (i:Ans) (pl:Bool) (v:Int):Short:=scOf [conG 62 [docV 93 m,.int .u64 m.pl,.int .i64 4] [] (.bool pl),conG 64 [docV 93 m,.int .u64 m.pl,.int .i64 4] [(93,m.memB)] (.int .u64 (num4 m.mem (m.pl.toNat*1))),con63x (w32 m) i,con65,con67,con69,con66 m i.c.rd v]
noncomputable def d63 (m:MS) (i:Ans):Bool:=decP ([Value.int .u32 (w32 m)]=[Value.int .u32 (w32 m)]/\decA (w32 m)=i/\0<=w32 m/\w32 m<4294967296)
def gg (m:MS) (c:Cand):Bool:=(dgB m c.rs2&&true||false)&&((intRange c.rs2 32&&true||false)&&((dgB m c.rs1&&true||false)&&((intRange c.rs1 32&&true||false)&&true)))
noncomputable def a49 (m:MS) (i:Ans) (rest:Option Stop):Option Stop:=bif (d62 m m.pl 4 true||false)&&true then bif d63 m i&&((d64 m m.pl 4 (num4 m.mem (m.pl.toNat*1))||false)&&true)then rest else none else none
section
variable (m:MS) (c:Cand) (pi po ps:Option Addr) (li ci lo co ls cs:Nat) (mk:Int)
def l49 (m2:MS) (mk2:Int) (ret:Bool) (n:Nat):Option Stop:=some ⟨⟨[some (true,pt 102),some (true,pt 103),some (true,.bool ret)],[(102,some (docB 93 m2)),(103,some (rb4 pi po ps li ci lo co ls cs mk2))],.ret,n⟩,none⟩
noncomputable abbrev W49 (i:Ans) (pl:Bool) (v:Int):Option Stop:=walk (lookF FL) (sc49 m i pl v) 1000 x49 (argTm 0 [docV 93 m,rn4 pi po ps li ci lo co ls cs mk]) (mkH [(93,m.memB)]) 100 j0_ ⟨[4,5,6],[.tmp 4,.tmp 5],[],[93]⟩ j0_
def sP (m:MS) (r v p:Int):MS:={ m with x:=regD m.x r v,pl:=p }
theorem p49_f1 (i:Ans):W49 m pi po ps li ci lo co ls cs mk i false 0=bif (d62 m m.pl 4 false||false)&&true then l49 pi po ps li ci lo co ls cs m mk false 104 else none:=by kernel_rfl
theorem p49_f2:W49 m pi po ps li ci lo co ls cs mk ⟨0,⟨0,0,0,0⟩,2⟩ true 0=a49 m ⟨0,⟨0,0,0,0⟩,2⟩ (l49 pi po ps li ci lo co ls cs m mk false 106):=by kernel_rfl
abbrev isR (q:Int):Prop:=q=1\/q=2\/q=3\/q=4\/q=5\/q=6\/q=7\/q=8\/q=9\/q=10\/q=11\/q=12\/q=13\/q=14\/q=15\/q=16\/q=17\/q=18\/q=19\/q=20\/q=21\/q=22\/q=23\/q=24\/q=25\/q=26\/q=27
abbrev isI9 (q:Int):Prop:=q=29\/q=30\/q=31\/q=32\/q=33\/q=34\/q=35\/q=36\/q=37
abbrev isB6 (q:Int):Prop:=q=45\/q=46\/q=47\/q=48\/q=49\/q=50
theorem p49_R {q:Int} (h:isR q):W49 m pi po ps li ci lo co ls cs mk ⟨q,c,0⟩ true (doF q (dgX m c.rs1) (dgX m c.rs2))=a49 m ⟨q,c,0⟩ (bif gg m c then
  bif d66 m c.rd (doF q (dgX m c.rs1) (dgX m c.rs2))&&true&&((decide (1<=q)&&decide (q<=27)&&(uB (dgX m c.rs1)&&uB (dgX m c.rs2))||false)&&true)then l49 pi po ps li ci lo co ls cs (sP m c.rd (doF q (dgX m c.rs1) (dgX m c.rs2)) (IntKind.u64.wrap (m.pl+4))) mk true 108 else none else none):=by
 rcases h with rfl|rfl|rfl|rfl|rfl|rfl|rfl|rfl|rfl|rfl|rfl|rfl|rfl|rfl|rfl|rfl|rfl|rfl|rfl|rfl|rfl|rfl|rfl|rfl|rfl|rfl|rfl<;>kernel_rfl
theorem p49_I {q:Int} (h:isI9 q):W49 m pi po ps li ci lo co ls cs mk ⟨q,c,0⟩ true (doF (plainF q) (dgX m c.rs1) (rimmF c.imm))=a49 m ⟨q,c,0⟩ (bif gg m c then
  bif d66 m c.rd (doF (plainF q) (dgX m c.rs1) (rimmF c.imm))&&true&&((decide (1<=plainF q)&&decide (plainF q<=27)&&(uB (dgX m c.rs1)&&uB (rimmF c.imm))||false)&&true)then l49 pi po ps li ci lo co ls cs (sP m c.rd (doF (plainF q) (dgX m c.rs1) (rimmF c.imm)) (IntKind.u64.wrap (m.pl+4))) mk true 108 else none else none):=by
 rcases h with rfl|rfl|rfl|rfl|rfl|rfl|rfl|rfl|rfl<;>kernel_rfl
def g28 (A B:Bool):Bool:=(((bif A then B else false)||!bif A then B else false)&&true||false)&&(((bif A then B else false)&&true||!bif A then B else false)&&(((bif A then B else false)&&true||!bif A then B else false)&&(((A||!A)&&true||false)&&((A&&true||!A)&&((A&&true||!A)&&true)))))
theorem p49_28:W49 m pi po ps li ci lo co ls cs mk ⟨28,c,0⟩ true (doF 1 (dgX m c.rs1) (rimmF c.imm))=a49 m ⟨28,c,0⟩ (bif gg m c then
  bif d66 m c.rd (doF 1 (dgX m c.rs1) (rimmF c.imm))&&true&&((decide ((1:Int)<=1)&&decide ((1:Int)<=27)&&(uB (dgX m c.rs1)&&uB (rimmF c.imm))||false)&&true)then bif g28 (c.rd==0) (c.rs1==0)then
   bif bif bif c.rd==0 then c.rs1==0 else false then c.imm==1 else false then l49 pi po ps li ci lo co ls cs (sP m c.rd (doF 1 (dgX m c.rs1) (rimmF c.imm)) (IntKind.u64.wrap (m.pl+4))) (IntKind.i64.wrap (mk+1)) true 108 else l49 pi po ps li ci lo co ls cs (sP m c.rd (doF 1 (dgX m c.rs1) (rimmF c.imm)) (IntKind.u64.wrap (m.pl+4))) mk true 108
  else none else none else none):=by kernel_rfl
theorem p49_B {q:Int} (h:isB6 q):W49 m pi po ps li ci lo co ls cs mk ⟨q,c,0⟩ true 0=a49 m ⟨q,c,0⟩ (bif gg m c then
  bif (decide (45<=q)&&decide (q<=50)&&(uB (dgX m c.rs1)&&uB (dgX m c.rs2))||false)&&true then bif takenF q (dgX m c.rs1) (dgX m c.rs2)then l49 pi po ps li ci lo co ls cs { m with pl:=IntKind.u64.wrap (m.pl+rimmF c.imm) } mk true 107 else l49 pi po ps li ci lo co ls cs { m with pl:=IntKind.u64.wrap (m.pl+4) } mk true 107 else none else none):=by
 rcases h with rfl|rfl|rfl|rfl|rfl|rfl<;>kernel_rfl
noncomputable def s5 (v p:Int) (i:Ans):Option Stop:=a49 m i (bif gg m c then bif d66 m c.rd v&&true&&true then l49 pi po ps li ci lo co ls cs (sP m c.rd v p) mk true 108 else none else none)
theorem p49_51:W49 m pi po ps li ci lo co ls cs mk ⟨51,c,0⟩ true (IntKind.u64.wrap (rimmF c.imm*4096))=s5 m c pi po ps li ci lo co ls cs mk (IntKind.u64.wrap (rimmF c.imm*4096)) (IntKind.u64.wrap (m.pl+4)) ⟨51,c,0⟩:=by kernel_rfl
theorem p49_52:W49 m pi po ps li ci lo co ls cs mk ⟨52,c,0⟩ true (IntKind.u64.wrap (IntKind.u64.wrap (rimmF c.imm*4096)+m.pl))=s5 m c pi po ps li ci lo co ls cs mk (IntKind.u64.wrap (IntKind.u64.wrap (rimmF c.imm*4096)+m.pl)) (IntKind.u64.wrap (m.pl+4)) ⟨52,c,0⟩:=by kernel_rfl
theorem p49_53:W49 m pi po ps li ci lo co ls cs mk ⟨53,c,0⟩ true (IntKind.u64.wrap (m.pl+4))=s5 m c pi po ps li ci lo co ls cs mk (IntKind.u64.wrap (m.pl+4)) (IntKind.u64.wrap (m.pl+rimmF c.imm)) ⟨53,c,0⟩:=by kernel_rfl
theorem p49_54:W49 m pi po ps li ci lo co ls cs mk ⟨54,c,0⟩ true (IntKind.u64.wrap (m.pl+4))=s5 m c pi po ps li ci lo co ls cs mk (IntKind.u64.wrap (m.pl+4)) (IntKind.u64.wrap (IntKind.u64.wrap ((IntKind.u64.wrap (dgX m c.rs1+rimmF c.imm)).tdiv 2)*2)) ⟨54,c,0⟩:=by kernel_rfl
end
structure DOK (m:MS) (i:Ans):Prop where
 sz:szB m.sz=true
 pl:uB m.pl=true
 at_:plB m.sz m.pl 4=true
 by_:ByOK m.mem
 x:∀ j,uB (m.x j)=true
 x0:m.x 0=0
 dec:decA (w32 m)=i
theorem w32_rng (m:MS):0<=w32 m/\w32 m<4294967296:=by unfold w32;rw[u32_wrap];omega
theorem a49_ok {m:MS}{i:Ans} (h:DOK m i) (rest:Option Stop):a49 m i rest=rest:=by
 have hp:=uB_iff.1 h.pl
 have hat:=h.at_
 unfold plB at hat
 simp only[Bool.and_eq_true,beq_iff_eq,decide_eq_true_eq]at hat
 have h62:d62 m m.pl 4 true=true:=by
  have:=det62 (m:=m) (a:=m.pl) (n:=4) (.inr (.inl rfl)) h.sz h.pl
  unfold d62
  refine decP_true ⟨rfl,trivial,?_⟩
  rw[show plB m.sz m.pl ((4:Nat):Int)=true from h.at_]at this
  exact this
 have h64:d64 m m.pl 4 (num4 m.mem (m.pl.toNat*1))=true:=by
  have:=det64 h.by_ h.sz (a:=m.pl) (n:=4) (.inr (.inl rfl)) hp.1 (by omega)
  unfold d64
  rw[Nat.mul_one]
  exact decP_true ⟨rfl,⟨rfl,trivial⟩,this⟩
 have h63:d63 m i=true:=decP_true ⟨rfl,h.dec,w32_rng m⟩
 unfold a49
 rw[h62,h64,h63];rfl
theorem gg_ok {m:MS}{c:Cand} (hc:CandOK c):gg m c=true:=by
 obtain⟨a1,a2,_⟩:=rg_ok m hc.rs1
 obtain⟨b1,b2,_⟩:=rg_ok m hc.rs2
 unfold gg;rw[a1,a2,b1,b2];rfl
theorem reg_put {m:MS} (h0:m.x 0=0){r:Int} (hr:inR r) (v:Int):regs (regD m.x r v)=regs (putR m.x r (some v)):=by
 refine regs_congr fun j hj=>?_
 obtain⟨k,hk,rfl⟩:=inR_nat hr
 show(bif decide ((k:Int)>0)&&Nat.beq (j+1) (1+(k:Int).toNat*1)then v else m.x j)=bif Nat.beq j 0 then 0 else bif Nat.beq (j+1) (1+(k:Int).toNat*1)then v else m.x j
 rw[Int.toNat_natCast,beq_dec,beq_dec]
 by_cases hj0:j=0
 ·subst hj0
  rw[decide_eq_true (rfl:(0:Nat)=0),cond_true]
  by_cases hk0:k=0
  ·subst hk0;rw[decide_eq_false (show ¬ (((0:Nat):Int)>0) by omega)];exact h0
  ·rw[decide_eq_false (show ¬ (0+1=1+k*1) by omega),Bool.and_false];exact h0
 ·rw[decide_eq_false hj0,cond_false]
  by_cases hk0:j+1=1+k*1
  ·rw[decide_eq_true hk0,decide_eq_true (show(k:Int)>0 by omega)];rfl
  ·rw[decide_eq_false hk0,Bool.and_false]
theorem reg_zero {m:MS} (h0:m.x 0=0):zeroX m.x=m.x:=by
 funext j
 unfold zeroX
 cases hb:Nat.beq j 0 with
 |true=>rw[Nat.eq_of_beq_eq_true hb,h0];rfl
 |false=>rfl
theorem doc_eq {m m':MS} (h1:m.sz=m'.sz) (h2:regs m.x=regs m'.x) (h3:m.pl=m'.pl) (h4:m.st=m'.st) (h5:m.cd=m'.cd):docB 93 m=docB 93 m':=by
 unfold docB docC;rw[h1,h2,h3,h4,h5]
theorem andNot1 {x:Int} (h:0<=x/\x<18446744073709551616):bits2 .andNot .u64 x 1=IntKind.u64.wrap (IntKind.u64.wrap (x.tdiv 2)*2):=by
 obtain⟨n,rfl⟩:∃ n:Nat,x=n:=⟨x.toNat,by omega⟩
 have hn:n<18446744073709551616:=by omega
 show IntKind.u64.wrap (BitVec.ofInt 64 (n:Int) &&& ~~~(BitVec.ofInt 64 ((1:Nat):Int))).toNat=_
 rw[BitVec.toNat_and,BitVec.toNat_not,bv64 n hn,bv64 1 (by omega),Int.tdiv_eq_ediv_of_nonneg h.1]
 have e:n &&& (2 ^ 64-1-1)=n / 2*2:=by
  apply Nat.eq_of_testBit_eq
  intro i
  rw[Nat.testBit_and]
  cases i with
  |zero=>rw[Nat.testBit_zero,Nat.testBit_zero,Nat.testBit_zero];simp
  |succ i =>
   rw[show(2 ^ 64-1-1:Nat)=2*(2 ^ 63-1) from rfl,Nat.testBit_succ (x:=2*(2 ^ 63-1)),Nat.testBit_succ (x:=n / 2*2),Nat.mul_div_cancel_left _ (by decide),Nat.mul_div_cancel _ (by decide),Nat.testBit_two_pow_sub_one,Nat.testBit_succ]
   by_cases hi:i<63
   ·simp[hi]
   ·have:(n / 2).testBit i=false:=by
     apply Nat.testBit_lt_two_pow
     exact Nat.lt_of_lt_of_le (show n / 2<2 ^ 63 by omega) (Nat.pow_le_pow_right (by decide) (by omega))
    rw[this];rfl
 rw[e,u64_wrap,u64_wrap,u64_wrap];omega
theorem dec28 {w:Int}{c:Cand} (h:decA w=⟨28,c,0⟩):c.rs2=0:=by
 have he:(decA w).err=0:=by rw[h]
 have hd:=(decA_ok he).2.2.2.2
 rw[h]at hd
 have:=(restF_some hd).1
 simp only at this
 rw[this]
 have hr:(rowOf (.int .i64 28)).1=73:=by kernel_rfl
 rw[hr];rfl
section
variable {m:MS}{q:Int}{c:Cand} (pi po ps:Option Addr) (li ci lo co ls cs:Nat) (mk:Int)
theorem plain49 (h:DOK m ⟨q,c,0⟩) (hc:CandOK c) (hq:plainB q=true) (k:KM):∃ v n m2,W49 m pi po ps li ci lo co ls cs mk ⟨q,c,0⟩ true v=l49 pi po ps li ci lo co ls cs m2 (markF q c mk) true n/\docB 93 m2=docB 93 (stepM m k q c)/\m2.mem=m.mem/\m2.sz=m.sz:=by
 simp only[plainB,Bool.or_eq_true,Bool.and_eq_true,decide_eq_true_eq]at hq
 obtain⟨a1,a2,a3⟩:=rg_ok m hc.rs1
 obtain⟨b1,b2,b3⟩:=rg_ok m hc.rs2
 have hd:∀ v,d66 m c.rd v=true:=fun v=>decP_true ⟨rfl,hc.rd⟩
 have hof:∀ k,uB (rimmF k)=true:=fun k=>by rw[rimm_of];exact uB_wrap _
 have hdoc:∀ v p,valF m q c=some v->nextF m q c=p->docB 93 (sP m c.rd v p)=docB 93 (stepM m k q c):=fun v p hv hp=>by
  refine doc_eq rfl ?_ ?_ rfl rfl
  ·show regs (regD m.x c.rd v)=regs (putR m.x c.rd (valF m q c))
   rw[hv];exact reg_put h.x0 hc.rd v
  ·exact hp.symm
 have h5:∀ v p,valF m q c=some v->nextF m q c=p->markF q c mk=mk->∃ n m2,s5 m c pi po ps li ci lo co ls cs mk v p ⟨q,c,0⟩=l49 pi po ps li ci lo co ls cs m2 (markF q c mk) true n/\docB 93 m2=docB 93 (stepM m k q c)/\m2.mem=m.mem/\m2.sz=m.sz:=fun v p hv hp hmk=>by
  refine⟨108,sP m c.rd v p,?_,hdoc v p hv hp,rfl,rfl⟩
  unfold s5
  rw[a49_ok h,gg_ok hc,hd,hmk];rfl
 by_cases hR:q<=27
 ·have hR':isR q:=by unfold isR;omega
  refine⟨_,108,sP m c.rd (doF q (m.x c.rs1.toNat) (m.x c.rs2.toNat)) (nxt m),(p49_R m c pi po ps li ci lo co ls cs mk hR').trans ?_,?_,rfl,rfl⟩
  ·rw[a49_ok h,gg_ok hc,hd,a3,b3,h.x,h.x,decide_eq_true (show 1<=q by omega),decide_eq_true hR]
   have:markF q c mk=mk:=by
    unfold markF markB
    rw[show(q==28)=false by rw[beq_eq_false_iff_ne];omega];rfl
   rw[this];rfl
  ·refine hdoc _ _ ?_ ?_
   ·rcases hR' with rfl|rfl|rfl|rfl|rfl|rfl|rfl|rfl|rfl|rfl|rfl|rfl|rfl|rfl|rfl|rfl|rfl|rfl|rfl|rfl|rfl|rfl|rfl|rfl|rfl|rfl|rfl<;>rfl
   ·rcases hR' with rfl|rfl|rfl|rfl|rfl|rfl|rfl|rfl|rfl|rfl|rfl|rfl|rfl|rfl|rfl|rfl|rfl|rfl|rfl|rfl|rfl|rfl|rfl|rfl|rfl|rfl|rfl<;>rfl
 by_cases h28:q=28
 ·subst h28
  refine⟨_,108,sP m c.rd (doF 1 (m.x c.rs1.toNat) (ofF c.imm)) (nxt m),(p49_28 m c pi po ps li ci lo co ls cs mk).trans ?_,hdoc _ _ rfl rfl,rfl,rfl⟩
  rw[a49_ok h,gg_ok hc,hd,a3,h.x,hof,rimm_of,show ∀ A B,g28 A B=true from fun A B=>by cases A<;>cases B<;>rfl]
  have hmk:markF 28 c mk=bif bif bif c.rd==0 then c.rs1==0 else false then c.imm==1 else false then IntKind.i64.wrap (mk+1)else mk:=by
   unfold markF markB
   rw[dec28 h.dec]
   cases c.rd==0<;>cases c.rs1==0<;>cases c.imm==1<;>rfl
  rw[hmk]
  cases (bif bif c.rd==0 then c.rs1==0 else false then c.imm==1 else false)<;>rfl
 by_cases hI:q<=37
 ·have hI':isI9 q:=by unfold isI9;omega
  have hpl:1<=plainF q/\plainF q<=27:=plain_rng (by omega) hI
  refine⟨_,108,sP m c.rd (doF (plainF q) (m.x c.rs1.toNat) (ofF c.imm)) (nxt m),(p49_I m c pi po ps li ci lo co ls cs mk hI').trans ?_,?_,rfl,rfl⟩
  ·rw[a49_ok h,gg_ok hc,hd,a3,h.x,hof,rimm_of,decide_eq_true hpl.1,decide_eq_true hpl.2]
   have:markF q c mk=mk:=by
    unfold markF markB
    rw[show(q==28)=false by rw[beq_eq_false_iff_ne];omega];rfl
   rw[this];rfl
  ·refine hdoc _ _ ?_ ?_
   ·rcases hI' with rfl|rfl|rfl|rfl|rfl|rfl|rfl|rfl|rfl<;>rfl
   ·rcases hI' with rfl|rfl|rfl|rfl|rfl|rfl|rfl|rfl|rfl<;>rfl
 have hmk:markF q c mk=mk:=by
  unfold markF markB
  rw[show(q==28)=false by rw[beq_eq_false_iff_ne];omega];rfl
 by_cases hB:q<=50
 ·have hB':isB6 q:=by unfold isB6;omega
  have hz:=reg_zero h.x0
  have e:=p49_B m c pi po ps li ci lo co ls cs mk hB'
  rw[a49_ok h,gg_ok hc,a3,b3,h.x,h.x,decide_eq_true (show 45<=q by omega),decide_eq_true hB,rimm_of]at e
  simp only[Bool.and_self,Bool.or_false,Bool.and_true,cond_true]at e
  have hn:nextF m q c=bif takenF q (m.x c.rs1.toNat) (m.x c.rs2.toNat)then IntKind.u64.wrap (m.pl+ofF c.imm)else nxt m:=by
   rcases hB' with rfl|rfl|rfl|rfl|rfl|rfl<;>rfl
  have hv:valF m q c=none:=by rcases hB' with rfl|rfl|rfl|rfl|rfl|rfl<;>rfl
  refine⟨0,107,{ m with pl:=nextF m q c },e.trans ?_,?_,rfl,rfl⟩
  ·rw[hmk,hn]
   cases takenF q (m.x c.rs1.toNat) (m.x c.rs2.toNat)<;>rfl
  ·refine doc_eq rfl ?_ rfl rfl rfl
   show regs m.x=regs (putR m.x c.rd (valF m q c))
   rw[hv]
   show regs m.x=regs (zeroX m.x)
   rw[hz]
 obtain rfl|rfl|rfl|rfl:q=51\/q=52\/q=53\/q=54:=by omega
 ·have e:=p49_51 m c pi po ps li ci lo co ls cs mk
  rw[rimm_of]at e
  obtain⟨n,m2,g⟩:=h5 (IntKind.u64.wrap (ofF c.imm*4096)) (IntKind.u64.wrap (m.pl+4)) rfl rfl hmk
  exact⟨_,n,m2,e.trans g.1,g.2⟩
 ·have e:=p49_52 m c pi po ps li ci lo co ls cs mk
  rw[rimm_of]at e
  obtain⟨n,m2,g⟩:=h5 (IntKind.u64.wrap (IntKind.u64.wrap (ofF c.imm*4096)+m.pl)) (IntKind.u64.wrap (m.pl+4)) rfl rfl hmk
  exact⟨_,n,m2,e.trans g.1,g.2⟩
 ·have e:=p49_53 m c pi po ps li ci lo co ls cs mk
  rw[rimm_of]at e
  obtain⟨n,m2,g⟩:=h5 (IntKind.u64.wrap (m.pl+4)) (IntKind.u64.wrap (m.pl+ofF c.imm)) rfl rfl hmk
  exact⟨_,n,m2,e.trans g.1,g.2⟩
 ·have e:=p49_54 m c pi po ps li ci lo co ls cs mk
  rw[rimm_of,a3]at e
  obtain⟨n,m2,g⟩:=h5 (IntKind.u64.wrap (m.pl+4)) (IntKind.u64.wrap (IntKind.u64.wrap ((IntKind.u64.wrap (m.x c.rs1.toNat+ofF c.imm)).tdiv 2)*2)) rfl (andNot1 (uB_iff.1 (uB_wrap _))) hmk
  exact⟨_,n,m2,e.trans g.1,g.2⟩
end
end Go.X
