import Derived.Test.YtkghggngmpmigaaD40
import Derived.Test.YtkghggngmpmigaaD32
set_option linter.all false
namespace Go.X
open Go Go.Proofs
def opM (op:Int):Prop:=op=38\/op=39\/op=40\/op=41\/op=42\/op=43\/op=44
theorem opM_of {op:Int} (h1:38<=op) (h2:op<=44):opM op:=by unfold opM;omega
theorem w61m (m m2:MS) (op:Int) (h:opM op) (c:Cand) (k:KM) (vin vout se:Value) (mk:Int) (wt ret:Bool) (pre:List (Nat × Blk)) (me:Blk) :
  walk (lookF FL) (scC0 m ⟨op,c,0⟩ k 61 [pR,(⟨op,c,0⟩:Ans).i] pre ret me m2 vin vout se mk wt) 1000 x61 (argTm 0 [pR]) (mkH [(90,m.memB),(91,m.kn.blk),(92,m.mB),(100,rB vin vout mk wt se)]) 103 j0_ ⟨[2],[.id 90,.id 91,.id 92,.id 100],[],[]⟩ j0_ =
  bif decP (Has (mkH [(90,m.memB),(91,m.kn.blk),(92,m.mB),(100,rB vin vout mk wt se)]) m.H/\FetchOK m ⟨op,c,0⟩ k)&&true&&true then
   bif ((1+c.rs1.toNat*1).blt m.cells.length&&rdB m c.rs1&&true||false)&&((intRange c.rs1 32&&true||false)&&true)then
    bif decP ([pR,(⟨op,c,0⟩:Ans).i]=[pR,(⟨op,c,0⟩:Ans).i]/\Has (hC ⟨op,c,0⟩ k (mkH [(90,m.memB),(91,m.kn.blk),(92,m.mB),(100,rB vin vout mk wt se)])) pre/\Call0 61 [pR,(⟨op,c,0⟩:Ans).i] pre ret me m2 vin vout se mk wt)&&true&&true then
     bif ret then some ⟨⟨[some (true,.bool ret)],[(90,some me),(91,some k.blk),(92,some (plM m2 (IntKind.u64.wrap (m.pl+4)))),(100,some (rB vin vout mk wt se))],.ret,105⟩,none⟩
     else some ⟨⟨[some (true,.bool ret)],[(90,some me),(91,some k.blk),(92,some m2.mB),(100,some (rB vin vout mk wt se))],.ret,105⟩,none⟩
    else none else none else none:=by
 rcases h with rfl|rfl|rfl|rfl|rfl|rfl|rfl<;>kernel_rfl
theorem w61sn (m m2:MS) (op:Int) (h:opM op) (c:Cand) (k:KM) (vin vout se:Value) (mk:Int) (wt:Bool) (pre:List (Nat × Blk)) (me b2:Blk) (l:Nat) :
  walk (lookF FL) (scS m ⟨op,c,0⟩ k pre me m2 vin vout l b2 mk wt) 1000 x61 (argTm 0 [pR]) (mkH [(90,m.memB),(91,m.kn.blk),(92,m.mB),(100,rB vin vout mk wt se)]) 103 j0_ ⟨[2],[.id 90,.id 91,.id 92,.id 100,.cell 100 5],[],[]⟩ j0_ =
  bif decP (Has (mkH [(90,m.memB),(91,m.kn.blk),(92,m.mB),(100,rB vin vout mk wt se)]) m.H/\FetchOK m ⟨op,c,0⟩ k)&&true&&true then
   bif ((1+c.rs1.toNat*1).blt m.cells.length&&rdB m c.rs1&&true||false)&&((intRange c.rs1 32&&true||false)&&true)then
    bif decP ([pR,(⟨op,c,0⟩:Ans).i]=[pR,(⟨op,c,0⟩:Ans).i]/\Has (hC ⟨op,c,0⟩ k (mkH [(90,m.memB),(91,m.kn.blk),(92,m.mB),(100,rB vin vout mk wt se)])) pre/\CallS ⟨op,c,0⟩ pre me m2 vin vout l b2 mk wt)&&true&&true then
     some ⟨⟨[some (true,.bool true)],[(90,some me),(91,some k.blk),(92,some (plM m2 (IntKind.u64.wrap (m.pl+4)))),(100,some (rB vin vout mk wt (newS 105 l))),(105,some b2)],.ret,106⟩,none⟩
    else none else none else none:=by
 rcases h with rfl|rfl|rfl|rfl|rfl|rfl|rfl<;>kernel_rfl
theorem w61sb (m m2:MS) (op:Int) (h:opM op) (c:Cand) (k:KM) (vin vout se:Value) (mk:Int) (wt:Bool) (pre:List (Nat × Blk)) (me b b2:Blk) (l:Nat) :
  walk (lookF FL) (scS m ⟨op,c,0⟩ k pre me m2 vin vout l b2 mk wt) 1000 x61 (argTm 0 [pR]) (mkH [(90,m.memB),(91,m.kn.blk),(92,m.mB),(100,rB vin vout mk wt se),(102,b)]) 103 j0_ ⟨[2],[.id 90,.id 91,.id 92,.id 100,.cell 100 5],[],[]⟩ j0_ =
  bif decP (Has (mkH [(90,m.memB),(91,m.kn.blk),(92,m.mB),(100,rB vin vout mk wt se),(102,b)]) m.H/\FetchOK m ⟨op,c,0⟩ k)&&true&&true then
   bif ((1+c.rs1.toNat*1).blt m.cells.length&&rdB m c.rs1&&true||false)&&((intRange c.rs1 32&&true||false)&&true)then
    bif decP ([pR,(⟨op,c,0⟩:Ans).i]=[pR,(⟨op,c,0⟩:Ans).i]/\Has (hC ⟨op,c,0⟩ k (mkH [(90,m.memB),(91,m.kn.blk),(92,m.mB),(100,rB vin vout mk wt se),(102,b)])) pre/\CallS ⟨op,c,0⟩ pre me m2 vin vout l b2 mk wt)&&true&&true then
     some ⟨⟨[some (true,.bool true)],[(90,some me),(91,some k.blk),(92,some (plM m2 (IntKind.u64.wrap (m.pl+4)))),(100,some (rB vin vout mk wt (newS 105 l))),(105,some b2)],.ret,106⟩,none⟩
    else none else none else none:=by
 rcases h with rfl|rfl|rfl|rfl|rfl|rfl|rfl<;>kernel_rfl
section
variable {op:Int}{c:Cand}{m:MS}{vin vout se:Value}{mk:Int}{wt:Bool}{k:KM}
theorem step_mem0 (h1:Stay vin) (h2:Stay vout) (h3:Stay se) (ho:opM op) (hf:FetchOK m ⟨op,c,0⟩ k) (hc:CandOK c){m2:MS}{ret:Bool}
  (hcall:Call0 61 [pR,(⟨op,c,0⟩:Ans).i] (pre76L m (rB vin vout mk wt se) []) ret m2.memB m2 vin vout se mk wt):Step0 (preS m (rB vin vout mk wt se) []) ret (finM m m2 k ret) (rB vin vout mk wt se):=by
 refine⟨rfl,fun n hn=>?_⟩
 have e:=w61m m m2 op ho c k vin vout se mk wt ret (pre76L m (rB vin vout mk wt se) []) m2.memB
 obtain⟨a1,a2,a3,a4⟩:=reg_ok m hc.rs1
 rw[decP_true ⟨hasH m [(100,rB vin vout mk wt se)],hf⟩,decP_true ⟨rfl,⟨rfl,rfl,rfl,trivial⟩,hcall⟩]at e
 simp only[a1,a2,a3,Bool.and_self,Bool.or_false,cond_true]at e
 have e2:walk (lookF FL) (scC0 m ⟨op,c,0⟩ k 61 [pR,(⟨op,c,0⟩:Ans).i] (pre76L m (rB vin vout mk wt se) []) ret m2.memB m2 vin vout se mk wt) 1000 x61 (argTm 0 [pR]) (mkH (preS m (rB vin vout mk wt se) [])) 103 j0_ ⟨[2],[.id 90,.id 91,.id 92,.id 100],[],[]⟩ j0_ =
   some ⟨⟨[some (true,.bool ret)],[(90,some (finM m m2 k ret).memB),(91,some k.blk),(92,some (finM m m2 k ret).mB),(100,some (rB vin vout mk wt se))],.ret,105⟩,none⟩:=by
  cases ret
  ·exact e
  ·exact e
 have hk:(finM m m2 k ret).kn=k:=by cases ret<;>rfl
 have hs:∀ {σ:Nm},σ 90=some 90->σ 91=some 91->BIs Try.prog σ (finM m m2 k ret).mB (finM m m2 k ret).mB:=fun a b=>bis_mBg a b
 refine adet_of_body (body_walk (news:=0) (fok FOK _) fx61 (by simp) e2 rfl ⟨mkT [2] [.bool ret],mkH [(90,(finM m m2 k ret).memB),(91,k.blk),(92,(finM m m2 k ret).mB),(100,rB vin vout mk wt se)],103⟩
  (fun ρ w hd=>⟨_,_,_,rfl,rfl,⟨rfl,trivial⟩,bis_mem,bis_kn,hs rfl rfl,bis_rB h1 h2 h3 rfl rfl rfl rfl,trivial⟩) (upd:=updS (finM m m2 k ret) (rB vin vout mk wt se)) ⟨rfl,by rw[hk];rfl,rfl,rfl,trivial,trivial,trivial,trivial,trivial⟩ rfl rfl) πR [] rfl rfl
  ⟨bis_mem,bis_kn,rfl,bis_rB h1 h2 h3 rfl rfl rfl rfl,trivial⟩ rfl rfl ⟨bis_mem,bis_kn,hs rfl rfl,bis_rB h1 h2 h3 rfl rfl rfl rfl,trivial,trivial,trivial,trivial,trivial⟩ rfl
theorem step_memW (h1:Stay vin) (h2:Stay vout){sN:Nat}{sf:Nat->List Value} (hse:SeOK sN sf) (ho:opM op) (hf:FetchOK m ⟨op,c,0⟩ k) (hc:CandOK c){m2:MS}
  (hcall:CallS ⟨op,c,0⟩ (pre76L m (rB vin vout mk true (vW (bO sN) sN)) (exS 102 (bO sN) (seB sN sf))) m2.memB m2 vin vout (sN+1) (seN m op c sN sf) mk true) :
  StepW (preS m (rB vin vout mk true (vW (bO sN) sN)) (exS 102 (bO sN) (seB sN sf))) (finM m m2 k true) vin vout (sN+1) (seN m op c sN sf) mk true:=by
 have hse':=seOK_more hse (m:=m) (op:=op) (c:=c)
 have hs:∀ {σ:Nm},σ 90=some 90->σ 91=some 91->BIs Try.prog σ (finM m m2 k true).mB (finM m m2 k true).mB:=fun a b=>bis_mBg a b
 obtain⟨a1,a2,a3,a4⟩:=reg_ok m hc.rs1
 cases hbo:bO sN with
 |false =>
  rw[hbo]at hcall
  refine⟨rfl,fun n hn=>?_⟩
  have e:=w61sn m m2 op ho c k vin vout (.slice none 0 0) mk true (pre76L m (rB vin vout mk true (vW false sN)) (exS 102 false (seB sN sf))) m2.memB (seN m op c sN sf) (sN+1)
  rw[decP_true ⟨hasH m [(100,rB vin vout mk true (.slice none 0 0))],hf⟩,decP_true ⟨rfl,⟨rfl,rfl,rfl,trivial⟩,hcall⟩]at e
  simp only[a1,a2,a3,Bool.and_self,Bool.or_false,cond_true]at e
  exact adet_newR (upd:=fun n=>updX (finM m m2 k true) (rB vin vout mk true (newS n (sN+1))) 102) (body_walk (fok FOK _) fx61 (by simp) e rfl ⟨mkT [2] [.bool true],mkH [(90,m2.memB),(91,k.blk),(92,(finM m m2 k true).mB),(100,rB vin vout mk true (newS 103 (sN+1))),(103,seN m op c sN sf)],104⟩
   (fun ρ w hd=>⟨_,_,_,rfl,rfl,⟨rfl,trivial⟩,bis_mem,bis_kn,hs rfl rfl,bis_rBs h1 h2 rfl rfl rfl rfl rfl,bis_seB fun j hj=>hse' j hj _,trivial⟩) ⟨rfl,rfl,rfl,rfl,rfl,trivial,trivial,trivial,trivial,trivial,trivial⟩ rfl rfl)
   rfl ⟨bis_mem,bis_kn,rfl,bis_rB h1 h2 stay_nil rfl rfl rfl rfl,trivial⟩ rfl rfl (fun d=>rfl) (fun d=>rfl) (fun d=>bis_seB fun j hj=>hse' j hj _)
   (fun d=>⟨bis_mem,bis_kn,hs rfl rfl,bis_rBs h1 h2 rfl rfl rfl rfl (asc_newR d _),trivial,trivial,trivial,trivial,trivial,trivial⟩) (fun d=>⟨rfl,rfl⟩) hn
 |true =>
  rw[hbo]at hcall
  refine⟨rfl,fun n hn=>?_⟩
  have e:=w61sb m m2 op ho c k vin vout (newS 102 sN) mk true (pre76L m (rB vin vout mk true (vW true sN)) (exS 102 true (seB sN sf))) m2.memB (seB sN sf) (seN m op c sN sf) (sN+1)
  rw[decP_true ⟨hasH m [(100,rB vin vout mk true (newS 102 sN)),(102,seB sN sf)],hf⟩,decP_true ⟨rfl,⟨rfl,rfl,rfl,rfl,trivial⟩,hcall⟩]at e
  simp only[a1,a2,a3,Bool.and_self,Bool.or_false,cond_true]at e
  exact adet_newR (upd:=fun n=>updX (finM m m2 k true) (rB vin vout mk true (newS n (sN+1))) 102) (body_walk (fok FOK _) fx61 (by simp) e rfl ⟨mkT [2] [.bool true],mkH [(90,m2.memB),(91,k.blk),(92,(finM m m2 k true).mB),(100,rB vin vout mk true (newS 103 (sN+1))),(103,seN m op c sN sf)],104⟩
   (fun ρ w hd=>⟨_,_,_,rfl,rfl,⟨rfl,trivial⟩,bis_mem,bis_kn,hs rfl rfl,bis_rBs h1 h2 rfl rfl rfl rfl rfl,bis_seB fun j hj=>hse' j hj _,trivial⟩) ⟨rfl,rfl,rfl,rfl,rfl,trivial,trivial,trivial,trivial,trivial,trivial,trivial⟩ rfl rfl)
   rfl ⟨bis_mem,bis_kn,rfl,bis_rB h1 h2 (stay_seen _ _) rfl rfl rfl rfl,bis_seB fun j hj=>hse j hj _,trivial⟩ rfl rfl (fun d=>rfl) (fun d=>rfl) (fun d=>bis_seB fun j hj=>hse' j hj _)
   (fun d=>⟨bis_mem,bis_kn,hs rfl rfl,bis_rBs h1 h2 rfl rfl rfl rfl (asc_newR d _),trivial,trivial,trivial,trivial,trivial,trivial,trivial⟩) (fun d=>⟨rfl,rfl⟩) hn
end
theorem uB_narF (k:Int) (s:Bool) (a:Int):uB (narF k s a)=true:=by
 unfold narF
 split<;>cases s<;>first|exact uB_wrap _|exact uB_fdiv (uB_wrap _) (by omega)
def memF (e:REnv) (s:RSt) (i:Ans):Bool × RSt :=
 bif plB s.m.sz (atM s.m i.c) (sizeF i.q)then
  (true,{ s with m:=finM s.m (memM s.m i.q i.c) s.m.kn' true,sN:=bif e.wt then s.sN+1 else s.sN,sf:=bif e.wt then seMore s.sf s.sN (rowM s.m i.q i.c)else s.sf })
 else(false,{ s with m:=finM s.m s.m s.m.kn' false })
theorem memM_facts (m:MS) (op:Int) (c:Cand) (hx:∀ j,uB (m.x j)=true):(memM m op c).sz=m.sz/\(∀ j,uB ((memM m op c).x j)=true):=by
 unfold memM
 cases decide (op>=42)with
 |true =>
  simp only[cond_true]
  obtain⟨s1,s2,_⟩:=stB_same m ((atM m c).toNat*1) (m.x c.rs2.toNat) (nM op)
  exact⟨s1,fun j=>by rw[s2];exact hx j⟩
 |false =>
  refine⟨rfl,fun j=>?_⟩
  show uB (bif Nat.beq (j+1) (1+c.rd.toNat*1)then _ else m.x j)=true
  cases Nat.beq (j+1) (1+c.rd.toNat*1)
  ·exact hx j
  ·exact uB_narF _ _ _
theorem hasS (e:REnv) (s:RSt):Has (mkH (s.hp e)) (preS s.m (s.rb e) (exS 102 (bO s.sN) (seB s.sN s.sf))):=by
 refine⟨rfl,rfl,rfl,rfl,?_⟩
 show Has (mkH (core48 s.m (s.rb e)++extL e.bi (bO s.oN) (bO s.sN) _ _ _)) _
 cases e.bi<;>cases bO s.oN<;>cases bO s.sN<;>first|exact trivial|exact⟨rfl,trivial⟩
theorem memF_ok {e:REnv}{n:Nat}{s:RSt} (hb:BaseOK e n s) (hn:(n:Int)<1000000000) (hsn:s.sN<=n):MemOK memF e n s:=by
 intro i k hf hc h1 h2 s'
 have ho:=opM_of h1 h2
 obtain⟨op,c,er⟩:=i
 have he:=hf.err
 simp only at he
 subst he
 have hk:=hf.k
 subst hk
 have hko:s.m.kn'.OK:=kn_ok hb.kn
 have sv:Stay (s.vin e):=stay_vI
 have so:Stay (vO (bO s.oN) s.oN):=stay_vO
 have ss:Stay (vW (bO s.sN) s.sN):=stay_vW
 have hx:=hb.x
 unfold memF
 simp only
 cases hp:plB s.m.sz (atM s.m c) (sizeF op)with
 |false =>
  simp only[cond_false]
  refine⟨fun h=>(by cases h),fun h=>?_⟩
  cases h
  obtain⟨q1,q2,q3,q4⟩:=fin_base hb (m2:=s.m) (ret:=false) hko rfl hb.x (.inr rfl)
  exact⟨⟨_,has0 e s,step_mem0 (m2:=s.m) sv so ss ho hf hc (call76_no sv so ss hb.sz hx hc hp),rfl,rfl,rfl,rfl⟩,q1,q2,q3,q4,hb.se,hb.out,hb.cap,hb.top,hb.ik⟩
 |true =>
  simp only[cond_true]
  refine⟨fun h=>?_,fun h=>(by cases h)⟩
  cases h
  obtain⟨f1,f2⟩:=memM_facts s.m op c hx
  obtain⟨q1,q2,q3,q4⟩:=fin_base hb (m2:=memM s.m op c) (ret:=true) hko f1 f2 (.inl rfl)
  have hout:s.oN<=n+1:=by have:=hb.out;omega
  cases hwt:e.wt with
  |false =>
   refine⟨.st0 _ (has0 e s) ?_ ⟨rfl,rfl,rfl,rfl⟩,q1,q2,q3,q4,hb.se,hout,hb.cap,hb.top,hb.ik⟩
   have h:=step_mem0 (m2:=memM s.m op c) (mk:=s.mark) sv so ss ho hf hc (call76_F sv so ss hb.sz hx hc hp)
   unfold RSt.rb
   rw[hwt]
   exact h
  |true =>
   have hse':=seOK_more hb.se (m:=s.m) (op:=op) (c:=c)
   refine⟨.stW _ (hasS e s) ?_ ⟨Nat.succ_pos _,rfl,rfl,rfl,rfl⟩,q1,q2,q3,q4,hse',hout,hb.cap,hb.top,hb.ik⟩
   have h:=step_memW (m2:=memM s.m op c) (mk:=s.mark) sv so hb.se ho hf hc (call76_W sv so hb.se (by omega) hb.sz hx hc hp)
   unfold RSt.rb
   rw[hwt]
   exact h
theorem u32_wrap (x:Int):IntKind.u32.wrap x=x % 4294967296:=by simp[IntKind.wrap,IntKind.bits,IntKind.signed]
def isU (x:Int):Prop:=0<=x/\x<4294967296
theorem or_nat {a b:Int} (ha:isU a) (hb:isU b):orW a b=((a.toNat ||| b.toNat:Nat):Int):=by
 show IntKind.u32.wrap (BitVec.ofInt 32 a ||| BitVec.ofInt 32 b).toNat=_
 have e:∀ x:Int,isU x->(BitVec.ofInt 32 x).toNat=x.toNat:=fun x hx=>by
  rw[BitVec.toNat_ofInt]
  unfold isU at hx
  omega
 rw[BitVec.toNat_or,e a ha,e b hb,u32_wrap]
 have:a.toNat ||| b.toNat<2 ^ 32:=Nat.or_lt_two_pow (by unfold isU at ha;omega) (by unfold isU at hb;omega)
 omega
theorem or_isU {a b:Int} (ha:isU a) (hb:isU b):isU (orW a b):=by
 rw[or_nat ha hb]
 have:a.toNat ||| b.toNat<2 ^ 32:=Nat.or_lt_two_pow (by unfold isU at ha;omega) (by unfold isU at hb;omega)
 unfold isU
 omega
def e12 (x:Nat):Nat:=(x >>> 12) % 2 ^ 3
theorem e12_or (a b:Nat):e12 (a ||| b)=e12 a ||| e12 b:=by unfold e12;rw[Nat.shiftRight_or_distrib,Nat.or_mod_two_pow]
theorem e12_div (x:Nat):e12 x=x / 4096 % 8:=by unfold e12;rw[Nat.shiftRight_eq_div_pow]
def h25 (x:Nat):Nat:=x >>> 25
theorem h25_or (a b:Nat):h25 (a ||| b)=h25 a ||| h25 b:=Nat.shiftRight_or_distrib
theorem h25_div (x:Nat):h25 x=x / 33554432:=Nat.shiftRight_eq_div_pow x 25
def h26 (x:Nat):Nat:=x >>> 26
theorem h26_or (a b:Nat):h26 (a ||| b)=h26 a ||| h26 b:=Nat.shiftRight_or_distrib
theorem h26_div (x:Nat):h26 x=x / 67108864:=Nat.shiftRight_eq_div_pow x 26
theorem orE {a b:Int} (ha:isU a) (hb:isU b) (h:e12 b.toNat=0):isU (orW a b)/\e12 (orW a b).toNat=e12 a.toNat:=by
 refine⟨or_isU ha hb,?_⟩
 rw[or_nat ha hb,Int.toNat_natCast,e12_or,h,Nat.or_zero]
def regI (r:Int):Prop:=0<=r/\r<32
theorem word_ok {o f3 f7 rd rs1 rs2:Int} (ho:0<=o/\o<128) (h3:0<=f3/\f3<8) (h7:0<=f7/\f7<128) (hd:regI rd) (h1:regI rs1) (h2:regI rs2) :
  isU (wordB o f3 f7 rd rs1 rs2)/\e12 (wordB o f3 f7 rd rs1 rs2).toNat=f3.toNat/\h25 (wordB o f3 f7 rd rs1 rs2).toNat=f7.toNat/\h26 (wordB o f3 f7 rd rs1 rs2).toNat=f7.toNat / 2:=by
 show isU (orW (orW (orW (orW (orW o _) _) _) _) _)/\e12 (orW (orW (orW (orW (orW o _) _) _) _) _).toNat=_/\h25 (orW (orW (orW (orW (orW o _) _) _) _) _).toNat=_/\h26 (orW (orW (orW (orW (orW o _) _) _) _) _).toNat=_
 unfold regI at hd h1 h2
 have p0:isU o:=⟨ho.1,by omega⟩
 have p1:isU (IntKind.u32.wrap (f3*4096)):=by rw[u32_wrap];unfold isU;omega
 have p2:isU (IntKind.u32.wrap (f7*33554432)):=by rw[u32_wrap];unfold isU;omega
 have p3:isU (IntKind.u32.wrap (IntKind.u32.wrap rd*128)):=by rw[u32_wrap];unfold isU;omega
 have p4:isU (IntKind.u32.wrap (IntKind.u32.wrap rs1*32768)):=by rw[u32_wrap];unfold isU;omega
 have p5:isU (IntKind.u32.wrap (IntKind.u32.wrap rs2*1048576)):=by rw[u32_wrap];unfold isU;omega
 have v1:(IntKind.u32.wrap (f3*4096)).toNat=f3.toNat*4096:=by rw[u32_wrap];omega
 have v2:(IntKind.u32.wrap (f7*33554432)).toNat=f7.toNat*33554432:=by rw[u32_wrap];omega
 have v3:(IntKind.u32.wrap (IntKind.u32.wrap rd*128)).toNat=rd.toNat*128:=by rw[u32_wrap,u32_wrap];omega
 have v4:(IntKind.u32.wrap (IntKind.u32.wrap rs1*32768)).toNat=rs1.toNat*32768:=by rw[u32_wrap,u32_wrap];omega
 have v5:(IntKind.u32.wrap (IntKind.u32.wrap rs2*1048576)).toNat=rs2.toNat*1048576:=by rw[u32_wrap,u32_wrap];omega
 have u1:=or_isU p0 p1
 have u2:=or_isU u1 p2
 have u3:=or_isU u2 p3
 have u4:=or_isU u3 p4
 refine⟨or_isU u4 p5,?_,?_,?_⟩
 ·rw[or_nat u4 p5,Int.toNat_natCast,e12_or,or_nat u3 p4,Int.toNat_natCast,e12_or,or_nat u2 p3,Int.toNat_natCast,e12_or,or_nat u1 p2,Int.toNat_natCast,e12_or,or_nat p0 p1,Int.toNat_natCast,e12_or,v1,v2,v3,v4,v5]
  rw[show e12 o.toNat=0 by rw[e12_div];omega,show e12 (f3.toNat*4096)=f3.toNat by rw[e12_div];omega,show e12 (f7.toNat*33554432)=0 by rw[e12_div];omega,show e12 (rd.toNat*128)=0 by rw[e12_div];omega,
   show e12 (rs1.toNat*32768)=0 by rw[e12_div];omega,show e12 (rs2.toNat*1048576)=0 by rw[e12_div];omega]
  simp
 ·rw[or_nat u4 p5,Int.toNat_natCast,h25_or,or_nat u3 p4,Int.toNat_natCast,h25_or,or_nat u2 p3,Int.toNat_natCast,h25_or,or_nat u1 p2,Int.toNat_natCast,h25_or,or_nat p0 p1,Int.toNat_natCast,h25_or,v1,v2,v3,v4,v5]
  rw[show h25 o.toNat=0 by rw[h25_div];omega,show h25 (f3.toNat*4096)=0 by rw[h25_div];omega,show h25 (f7.toNat*33554432)=f7.toNat by rw[h25_div];omega,show h25 (rd.toNat*128)=0 by rw[h25_div];omega,
   show h25 (rs1.toNat*32768)=0 by rw[h25_div];omega,show h25 (rs2.toNat*1048576)=0 by rw[h25_div];omega]
  simp
 ·rw[or_nat u4 p5,Int.toNat_natCast,h26_or,or_nat u3 p4,Int.toNat_natCast,h26_or,or_nat u2 p3,Int.toNat_natCast,h26_or,or_nat u1 p2,Int.toNat_natCast,h26_or,or_nat p0 p1,Int.toNat_natCast,h26_or,v1,v2,v3,v4,v5]
  rw[show h26 o.toNat=0 by rw[h26_div];omega,show h26 (f3.toNat*4096)=0 by rw[h26_div];omega,show h26 (f7.toNat*33554432)=f7.toNat / 2 by rw[h26_div];omega,show h26 (rd.toNat*128)=0 by rw[h26_div];omega,
   show h26 (rs1.toNat*32768)=0 by rw[h26_div];omega,show h26 (rs2.toNat*1048576)=0 by rw[h26_div];omega]
  simp
theorem bitsAt_eq (imm d:Int){m s:Int} (hm:0<=m) (hms:m<4294967296):∃ t:Int,0<=t/\t<=m/\bitsAt imm d m s=IntKind.u32.wrap (t*s):=by
 refine⟨bits2 .and .u32 ((IntKind.u32.wrap imm).fdiv d) m,?_,?_,rfl⟩
 ·show 0<=IntKind.u32.wrap _
  rw[u32_wrap];omega
 ·show IntKind.u32.wrap (BitVec.ofInt 32 ((IntKind.u32.wrap imm).fdiv d) &&& BitVec.ofInt 32 m).toNat<=m
  have h1:(BitVec.ofInt 32 ((IntKind.u32.wrap imm).fdiv d) &&& BitVec.ofInt 32 m).toNat<=m.toNat:=by
   rw[BitVec.toNat_and]
   refine Nat.le_trans Nat.and_le_right ?_
   rw[BitVec.toNat_ofInt]
   omega
  rw[u32_wrap]
  omega
theorem encRegs_ok {bad:Bool}{rd rs1 rs2 w:Int}{rest:Int × Int} (h:encRegs bad rd rs1 rs2 rest=(w,0)):bad=false/\regI rd/\regI rs1/\regI rs2/\rest=(w,0):=by
 unfold encRegs at h
 have nr:∀ r,noReg r=false->regI r:=fun r hr=>by
  simp only[noReg,Bool.or_eq_false_iff,decide_eq_false_iff_not]at hr
  exact⟨by omega,by omega⟩
 cases bad with
 |true=>cases h
 |false =>
  cases hd:noReg rd with
  |true=>rw[hd]at h;cases h
  |false =>
   cases h1:noReg rs1 with
   |true=>rw[hd,h1]at h;cases h
   |false =>
    cases h2:noReg rs2 with
    |true=>rw[hd,h1,h2]at h;cases h
    |false=>rw[hd,h1,h2]at h;exact⟨rfl,nr _ hd,nr _ h1,nr _ h2,h⟩
theorem rest_ok {c:Bool}{x w:Int} (h:(bif c then((0:Int),(1:Int))else(x,0))=(w,0)):c=false/\x=w:=by
 cases c with
 |true=>cases h
 |false=>cases h;exact⟨rfl,rfl⟩
section
variable {o f3 f7 rd rs1 rs2 imm w:Int} (ho:0<=o/\o<128) (h3:0<=f3/\f3<8) (h7:0<=f7/\f7<128)
include ho h3 h7
theorem factR (h:encR o f3 f7 rd rs1 rs2 imm=(w,0)):e12 w.toNat=f3.toNat/\h25 w.toNat=f7.toNat:=by
 obtain⟨_,hd,h1,h2,h⟩:=encRegs_ok h
 cases h
 obtain⟨_,a,b,_⟩:=word_ok ho h3 h7 hd h1 h2
 exact⟨a,b⟩
theorem factI (h:encI o f3 f7 rd rs1 rs2 imm=(w,0)):e12 w.toNat=f3.toNat:=by
 obtain⟨_,hd,h1,h2,h⟩:=encRegs_ok h
 obtain⟨_,rfl⟩:=rest_ok h
 obtain⟨p,a,_,_⟩:=word_ok ho h3 h7 hd h1 h2
 obtain⟨t,t0,t1,ht⟩:=bitsAt_eq imm 1 (m:=4095) (s:=1048576) (by omega) (by omega)
 have hp:isU (bitsAt imm 1 4095 1048576):=by rw[ht,u32_wrap];unfold isU;omega
 rw[(orE p hp (by rw[e12_div,ht,u32_wrap];omega)).2,a]
theorem factT (h:encT o f3 f7 rd rs1 rs2 imm=(w,0)):e12 w.toNat=f3.toNat/\h26 w.toNat=f7.toNat / 2:=by
 obtain⟨_,hd,h1,h2,h⟩:=encRegs_ok h
 obtain⟨_,rfl⟩:=rest_ok h
 obtain⟨p,a,_,b⟩:=word_ok ho h3 h7 hd h1 h2
 obtain⟨t,t0,t1,ht⟩:=bitsAt_eq imm 1 (m:=63) (s:=1048576) (by omega) (by omega)
 have hp:isU (bitsAt imm 1 63 1048576):=by rw[ht,u32_wrap];unfold isU;omega
 refine⟨by rw[(orE p hp (by rw[e12_div,ht,u32_wrap];omega)).2,a],?_⟩
 rw[or_nat p hp,Int.toNat_natCast,h26_or,b,show h26 (bitsAt imm 1 63 1048576).toNat=0 by rw[h26_div,ht,u32_wrap];omega,Nat.or_zero]
theorem factS (h:encS o f3 f7 rd rs1 rs2 imm=(w,0)):e12 w.toNat=f3.toNat:=by
 obtain⟨_,hd,h1,h2,h⟩:=encRegs_ok h
 obtain⟨_,rfl⟩:=rest_ok h
 obtain⟨p,a,_,_⟩:=word_ok ho h3 h7 hd h1 h2
 obtain⟨t,t0,t1,ht⟩:=bitsAt_eq imm 1 (m:=31) (s:=128) (by omega) (by omega)
 obtain⟨u,u0,u1,hu⟩:=bitsAt_eq imm 32 (m:=127) (s:=33554432) (by omega) (by omega)
 have hp:isU (bitsAt imm 1 31 128):=by rw[ht,u32_wrap];unfold isU;omega
 have hq:isU (bitsAt imm 32 127 33554432):=by rw[hu,u32_wrap];unfold isU;omega
 have e1:=orE p hp (by rw[e12_div,ht,u32_wrap];omega)
 rw[(orE e1.1 hq (by rw[e12_div,hu,u32_wrap];omega)).2,e1.2,a]
theorem factB (h:encB o f3 f7 rd rs1 rs2 imm=(w,0)):e12 w.toNat=f3.toNat:=by
 obtain⟨_,hd,h1,h2,h⟩:=encRegs_ok h
 obtain⟨_,rfl⟩:=rest_ok h
 obtain⟨p,a,_,_⟩:=word_ok ho h3 h7 hd h1 h2
 obtain⟨t,t0,t1,ht⟩:=bitsAt_eq imm 2048 (m:=1) (s:=128) (by omega) (by omega)
 obtain⟨u,u0,u1,hu⟩:=bitsAt_eq imm 2 (m:=15) (s:=256) (by omega) (by omega)
 obtain⟨v,v0,v1,hv⟩:=bitsAt_eq imm 32 (m:=63) (s:=33554432) (by omega) (by omega)
 obtain⟨x,x0,x1,hx⟩:=bitsAt_eq imm 4096 (m:=1) (s:=2147483648) (by omega) (by omega)
 have q1:isU (bitsAt imm 2048 1 128):=by rw[ht,u32_wrap];unfold isU;omega
 have q2:isU (bitsAt imm 2 15 256):=by rw[hu,u32_wrap];unfold isU;omega
 have q3:isU (bitsAt imm 32 63 33554432):=by rw[hv,u32_wrap];unfold isU;omega
 have q4:isU (bitsAt imm 4096 1 2147483648):=by rw[hx,u32_wrap];unfold isU;omega
 have e1:=orE p q1 (by rw[e12_div,ht,u32_wrap];omega)
 have e2:=orE e1.1 q2 (by rw[e12_div,hu,u32_wrap];omega)
 have e3:=orE e2.1 q3 (by rw[e12_div,hv,u32_wrap];omega)
 rw[(orE e3.1 q4 (by rw[e12_div,hx,u32_wrap];omega)).2,e3.2,e2.2,e1.2,a]
end
def tells (F f3 f7:Int) (w:Nat):Prop:=(F=82->e12 w=f3.toNat/\h25 w=f7.toNat)/\(F=73\/F=83\/F=66->e12 w=f3.toNat)/\(F=84->e12 w=f3.toNat/\h26 w=f7.toNat / 2)
theorem keysB:(shTab.all fun p=>decide (1<=p.1)&&decide (p.1<=55))=true:=by kernel_rfl
def rowQ (q:Int):Int × Int × Int × Int:=rowOf (.int .i64 q)
theorem tells_of {q rd rs1 rs2 imm w:Int} (hq:tabHas shTab (.int .i64 q)=true) (h:encF q rd rs1 rs2 imm=(w,0)):tells (rowQ q).1 (rowQ q).2.2.1 (rowQ q).2.2.2 w.toNat:=by
 obtain⟨p,hp,h1,_⟩:=has_mem hq
 have hk:=List.all_eq_true.1 keysB p hp
 rw[h1]at hk
 simp only[Bool.and_eq_true,decide_eq_true_eq]at hk
 obtain⟨k,rfl⟩:∃ k:Nat,q=Int.ofNat k:=⟨q.toNat,by simp;omega⟩
 have hk:1<=k/\k<=55:=by simp only[Int.ofNat_eq_natCast]at hk;omega
 match k,hk with
 |1,_=>exact⟨fun _=>factR (o:=51) (f3:=0) (f7:=0) (by decide) (by decide) (by decide) h,fun h=>absurd h (by decide),fun h=>absurd h (by decide)⟩
 |2,_=>exact⟨fun _=>factR (o:=51) (f3:=0) (f7:=32) (by decide) (by decide) (by decide) h,fun h=>absurd h (by decide),fun h=>absurd h (by decide)⟩
 |3,_=>exact⟨fun _=>factR (o:=51) (f3:=1) (f7:=0) (by decide) (by decide) (by decide) h,fun h=>absurd h (by decide),fun h=>absurd h (by decide)⟩
 |4,_=>exact⟨fun _=>factR (o:=51) (f3:=2) (f7:=0) (by decide) (by decide) (by decide) h,fun h=>absurd h (by decide),fun h=>absurd h (by decide)⟩
 |5,_=>exact⟨fun _=>factR (o:=51) (f3:=3) (f7:=0) (by decide) (by decide) (by decide) h,fun h=>absurd h (by decide),fun h=>absurd h (by decide)⟩
 |6,_=>exact⟨fun _=>factR (o:=51) (f3:=4) (f7:=0) (by decide) (by decide) (by decide) h,fun h=>absurd h (by decide),fun h=>absurd h (by decide)⟩
 |7,_=>exact⟨fun _=>factR (o:=51) (f3:=5) (f7:=0) (by decide) (by decide) (by decide) h,fun h=>absurd h (by decide),fun h=>absurd h (by decide)⟩
 |8,_=>exact⟨fun _=>factR (o:=51) (f3:=5) (f7:=32) (by decide) (by decide) (by decide) h,fun h=>absurd h (by decide),fun h=>absurd h (by decide)⟩
 |9,_=>exact⟨fun _=>factR (o:=51) (f3:=6) (f7:=0) (by decide) (by decide) (by decide) h,fun h=>absurd h (by decide),fun h=>absurd h (by decide)⟩
 |10,_=>exact⟨fun _=>factR (o:=51) (f3:=7) (f7:=0) (by decide) (by decide) (by decide) h,fun h=>absurd h (by decide),fun h=>absurd h (by decide)⟩
 |11,_=>exact⟨fun _=>factR (o:=51) (f3:=0) (f7:=1) (by decide) (by decide) (by decide) h,fun h=>absurd h (by decide),fun h=>absurd h (by decide)⟩
 |12,_=>exact⟨fun _=>factR (o:=51) (f3:=1) (f7:=1) (by decide) (by decide) (by decide) h,fun h=>absurd h (by decide),fun h=>absurd h (by decide)⟩
 |13,_=>exact⟨fun _=>factR (o:=51) (f3:=3) (f7:=1) (by decide) (by decide) (by decide) h,fun h=>absurd h (by decide),fun h=>absurd h (by decide)⟩
 |14,_=>exact⟨fun _=>factR (o:=51) (f3:=4) (f7:=1) (by decide) (by decide) (by decide) h,fun h=>absurd h (by decide),fun h=>absurd h (by decide)⟩
 |15,_=>exact⟨fun _=>factR (o:=51) (f3:=5) (f7:=1) (by decide) (by decide) (by decide) h,fun h=>absurd h (by decide),fun h=>absurd h (by decide)⟩
 |16,_=>exact⟨fun _=>factR (o:=51) (f3:=6) (f7:=1) (by decide) (by decide) (by decide) h,fun h=>absurd h (by decide),fun h=>absurd h (by decide)⟩
 |17,_=>exact⟨fun _=>factR (o:=51) (f3:=7) (f7:=1) (by decide) (by decide) (by decide) h,fun h=>absurd h (by decide),fun h=>absurd h (by decide)⟩
 |18,_=>exact⟨fun _=>factR (o:=59) (f3:=0) (f7:=0) (by decide) (by decide) (by decide) h,fun h=>absurd h (by decide),fun h=>absurd h (by decide)⟩
 |19,_=>exact⟨fun _=>factR (o:=59) (f3:=0) (f7:=32) (by decide) (by decide) (by decide) h,fun h=>absurd h (by decide),fun h=>absurd h (by decide)⟩
 |20,_=>exact⟨fun _=>factR (o:=59) (f3:=1) (f7:=0) (by decide) (by decide) (by decide) h,fun h=>absurd h (by decide),fun h=>absurd h (by decide)⟩
 |21,_=>exact⟨fun _=>factR (o:=59) (f3:=5) (f7:=0) (by decide) (by decide) (by decide) h,fun h=>absurd h (by decide),fun h=>absurd h (by decide)⟩
 |22,_=>exact⟨fun _=>factR (o:=59) (f3:=5) (f7:=32) (by decide) (by decide) (by decide) h,fun h=>absurd h (by decide),fun h=>absurd h (by decide)⟩
 |23,_=>exact⟨fun _=>factR (o:=59) (f3:=0) (f7:=1) (by decide) (by decide) (by decide) h,fun h=>absurd h (by decide),fun h=>absurd h (by decide)⟩
 |24,_=>exact⟨fun _=>factR (o:=59) (f3:=4) (f7:=1) (by decide) (by decide) (by decide) h,fun h=>absurd h (by decide),fun h=>absurd h (by decide)⟩
 |25,_=>exact⟨fun _=>factR (o:=59) (f3:=5) (f7:=1) (by decide) (by decide) (by decide) h,fun h=>absurd h (by decide),fun h=>absurd h (by decide)⟩
 |26,_=>exact⟨fun _=>factR (o:=59) (f3:=6) (f7:=1) (by decide) (by decide) (by decide) h,fun h=>absurd h (by decide),fun h=>absurd h (by decide)⟩
 |27,_=>exact⟨fun _=>factR (o:=59) (f3:=7) (f7:=1) (by decide) (by decide) (by decide) h,fun h=>absurd h (by decide),fun h=>absurd h (by decide)⟩
 |28,_=>exact⟨fun h=>absurd h (by decide),fun _=>factI (o:=19) (f3:=0) (f7:=0) (by decide) (by decide) (by decide) h,fun h=>absurd h (by decide)⟩
 |29,_=>exact⟨fun h=>absurd h (by decide),fun _=>factI (o:=19) (f3:=2) (f7:=0) (by decide) (by decide) (by decide) h,fun h=>absurd h (by decide)⟩
 |30,_=>exact⟨fun h=>absurd h (by decide),fun _=>factI (o:=19) (f3:=3) (f7:=0) (by decide) (by decide) (by decide) h,fun h=>absurd h (by decide)⟩
 |31,_=>exact⟨fun h=>absurd h (by decide),fun _=>factI (o:=19) (f3:=4) (f7:=0) (by decide) (by decide) (by decide) h,fun h=>absurd h (by decide)⟩
 |32,_=>exact⟨fun h=>absurd h (by decide),fun _=>factI (o:=19) (f3:=6) (f7:=0) (by decide) (by decide) (by decide) h,fun h=>absurd h (by decide)⟩
 |33,_=>exact⟨fun h=>absurd h (by decide),fun _=>factI (o:=19) (f3:=7) (f7:=0) (by decide) (by decide) (by decide) h,fun h=>absurd h (by decide)⟩
 |34,_=>exact⟨fun h=>absurd h (by decide),fun h=>absurd h (by decide),fun _=>factT (o:=19) (f3:=1) (f7:=0) (by decide) (by decide) (by decide) h⟩
 |35,_=>exact⟨fun h=>absurd h (by decide),fun h=>absurd h (by decide),fun _=>factT (o:=19) (f3:=5) (f7:=0) (by decide) (by decide) (by decide) h⟩
 |36,_=>exact⟨fun h=>absurd h (by decide),fun h=>absurd h (by decide),fun _=>factT (o:=19) (f3:=5) (f7:=32) (by decide) (by decide) (by decide) h⟩
 |37,_=>exact⟨fun h=>absurd h (by decide),fun _=>factI (o:=27) (f3:=0) (f7:=0) (by decide) (by decide) (by decide) h,fun h=>absurd h (by decide)⟩
 |38,_=>exact⟨fun h=>absurd h (by decide),fun _=>factI (o:=3) (f3:=0) (f7:=0) (by decide) (by decide) (by decide) h,fun h=>absurd h (by decide)⟩
 |39,_=>exact⟨fun h=>absurd h (by decide),fun _=>factI (o:=3) (f3:=4) (f7:=0) (by decide) (by decide) (by decide) h,fun h=>absurd h (by decide)⟩
 |40,_=>exact⟨fun h=>absurd h (by decide),fun _=>factI (o:=3) (f3:=2) (f7:=0) (by decide) (by decide) (by decide) h,fun h=>absurd h (by decide)⟩
 |41,_=>exact⟨fun h=>absurd h (by decide),fun _=>factI (o:=3) (f3:=3) (f7:=0) (by decide) (by decide) (by decide) h,fun h=>absurd h (by decide)⟩
 |42,_=>exact⟨fun h=>absurd h (by decide),fun _=>factS (o:=35) (f3:=0) (f7:=0) (by decide) (by decide) (by decide) h,fun h=>absurd h (by decide)⟩
 |43,_=>exact⟨fun h=>absurd h (by decide),fun _=>factS (o:=35) (f3:=2) (f7:=0) (by decide) (by decide) (by decide) h,fun h=>absurd h (by decide)⟩
 |44,_=>exact⟨fun h=>absurd h (by decide),fun _=>factS (o:=35) (f3:=3) (f7:=0) (by decide) (by decide) (by decide) h,fun h=>absurd h (by decide)⟩
 |45,_=>exact⟨fun h=>absurd h (by decide),fun _=>factB (o:=99) (f3:=0) (f7:=0) (by decide) (by decide) (by decide) h,fun h=>absurd h (by decide)⟩
 |46,_=>exact⟨fun h=>absurd h (by decide),fun _=>factB (o:=99) (f3:=1) (f7:=0) (by decide) (by decide) (by decide) h,fun h=>absurd h (by decide)⟩
 |47,_=>exact⟨fun h=>absurd h (by decide),fun _=>factB (o:=99) (f3:=4) (f7:=0) (by decide) (by decide) (by decide) h,fun h=>absurd h (by decide)⟩
 |48,_=>exact⟨fun h=>absurd h (by decide),fun _=>factB (o:=99) (f3:=5) (f7:=0) (by decide) (by decide) (by decide) h,fun h=>absurd h (by decide)⟩
 |49,_=>exact⟨fun h=>absurd h (by decide),fun _=>factB (o:=99) (f3:=6) (f7:=0) (by decide) (by decide) (by decide) h,fun h=>absurd h (by decide)⟩
 |50,_=>exact⟨fun h=>absurd h (by decide),fun _=>factB (o:=99) (f3:=7) (f7:=0) (by decide) (by decide) (by decide) h,fun h=>absurd h (by decide)⟩
 |51,_=>exact⟨fun h=>absurd h (by decide),fun h=>absurd h (by decide),fun h=>absurd h (by decide)⟩
 |52,_=>exact⟨fun h=>absurd h (by decide),fun h=>absurd h (by decide),fun h=>absurd h (by decide)⟩
 |53,_=>exact⟨fun h=>absurd h (by decide),fun h=>absurd h (by decide),fun h=>absurd h (by decide)⟩
 |54,_=>exact⟨fun h=>absurd h (by decide),fun _=>factI (o:=103) (f3:=0) (f7:=0) (by decide) (by decide) (by decide) h,fun h=>absurd h (by decide)⟩
 |55,_=>exact⟨fun h=>absurd h (by decide),fun h=>absurd h (by decide),fun h=>absurd h (by decide)⟩
 |0,h=>exact absurd h (by omega)
 |k+56,h=>exact absurd h (by omega)
def apart (a b:Int × Int × Int × Int):Bool:=!(a.2.1==b.2.1) ||
 (match a.1,b.1 with
 |82,82=>!(a.2.2.1==b.2.2.1)||!(a.2.2.2==b.2.2.2)
 |84,84=>!(a.2.2.1==b.2.2.1)||!(a.2.2.2.toNat / 2==b.2.2.2.toNat / 2)
 |_,_=>!(a.2.2.1==b.2.2.1))
def hasF (F:Int):Bool:=F==82||(F==73||(F==83||(F==66||F==84)))
theorem all_apart:(shTab.all fun p=>shTab.all fun r=>p.1==r.1||((hasF (rowQ p.1).1&&hasF (rowQ r.1).1&&apart (rowQ p.1) (rowQ r.1))||!((rowQ p.1).2.1==(rowQ r.1).2.1)))=true:=by kernel_rfl
end Go.X
