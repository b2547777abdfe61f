import Derived.Test.YtkghggngmpmigaaD35
set_option linter.all false
namespace Go.X
open Go Go.Proofs
theorem p78_0 (m:MS) (vin vout vs:Value) (mk:Int) (wt:Bool) (inp of:Nat->Int) (T k L C oN d:Nat):walk (lookF FL) noSc 1000 x78 (argTm 0 [pR]) (mkH [(90,m.memB),(92,(m.a7 0).mB),(100,rB vin vout mk wt vs)]) 103 j0_ (Pj.mk [2] [Ref.id 92,Ref.id 100] [] [90]) j0_=some (Stop.mk (Leaf.mk [some (true,Value.bool false)] [(92,some (MS.mB { m with x:=(xAt m.x 17 0),pl:=m.pl,st:=m.st,cd:=m.cd })),(100,some (rB (vin) (vout) mk wt (vs)))] Exit.ret 103) none):=by kernel_rfl
theorem p78_3 (m:MS) (vin vout vs:Value) (mk:Int) (wt:Bool) (inp of:Nat->Int) (T k L C oN d:Nat):walk (lookF FL) noSc 1000 x78 (argTm 0 [pR]) (mkH [(90,m.memB),(92,(m.a7 3).mB),(100,rB vin vout mk wt vs)]) 103 j0_ (Pj.mk [2] [Ref.id 92,Ref.id 100] [] [90]) j0_=some (Stop.mk (Leaf.mk [some (true,Value.bool true)] [(92,some (MS.mB { m with x:=(xAt m.x 17 3),pl:=m.pl,st:=1,cd:=(IntKind.u8.wrap (xAt m.x 17 3 10)) })),(100,some (rB (vin) (vout) mk wt (vs)))] Exit.ret 103) none):=by kernel_rfl
theorem p78_4 (m:MS) (vin vout vs:Value) (mk:Int) (wt:Bool) (inp of:Nat->Int) (T k L C oN d:Nat):walk (lookF FL) noSc 1000 x78 (argTm 0 [pR]) (mkH [(90,m.memB),(92,(m.a7 4).mB),(100,rB vin vout mk wt vs)]) 103 j0_ (Pj.mk [2] [Ref.id 92,Ref.id 100] [] [90]) j0_=some (Stop.mk (Leaf.mk [some (true,Value.bool true)] [(92,some (MS.mB { m with x:=(xAt m.x 17 4),pl:=m.pl,st:=2,cd:=m.cd })),(100,some (rB (vin) (vout) mk wt (vs)))] Exit.ret 103) none):=by kernel_rfl
theorem p78_5 (m:MS) (vin vout vs:Value) (mk:Int) (wt:Bool) (inp of:Nat->Int) (T k L C oN d:Nat):walk (lookF FL) noSc 1000 x78 (argTm 0 [pR]) (mkH [(90,m.memB),(92,(m.a7 5).mB),(100,rB vin vout mk wt vs)]) 103 j0_ (Pj.mk [2] [Ref.id 92,Ref.id 100] [] [90]) j0_=some (Stop.mk (Leaf.mk [some (true,Value.bool true)] [(92,some (MS.mB { m with x:=(xAt m.x 17 5),pl:=m.pl,st:=3,cd:=m.cd })),(100,some (rB (vin) (vout) mk wt (vs)))] Exit.ret 103) none):=by kernel_rfl
theorem p78_6 (m:MS) (vin vout vs:Value) (mk:Int) (wt:Bool) (inp of:Nat->Int) (T k L C oN d:Nat):walk (lookF FL) noSc 1000 x78 (argTm 0 [pR]) (mkH [(90,m.memB),(92,(m.a7 (Int.ofNat (d+6))).mB),(100,rB vin vout mk wt vs)]) 103 j0_ (Pj.mk [2] [Ref.id 92,Ref.id 100] [] [90]) j0_=some (Stop.mk (Leaf.mk [some (true,Value.bool false)] [(92,some (MS.mB { m with x:=(xAt m.x 17 (Int.ofNat (d+6))),pl:=m.pl,st:=m.st,cd:=m.cd })),(100,some (rB (vin) (vout) mk wt (vs)))] Exit.ret 103) none):=by kernel_rfl
theorem p78_2n (m:MS) (vin vout vs:Value) (mk:Int) (wt:Bool) (inp of:Nat->Int) (T k L C oN d:Nat):walk (lookF FL) noSc 1000 x78 (argTm 0 [pR]) (mkH [(90,m.memB),(92,(m.a7 2).mB),(100,rB (Value.slice none 0 0) vout mk wt vs)]) 103 j0_ (Pj.mk [2] [Ref.id 92,Ref.id 100] [] [90]) j0_=some (Stop.mk (Leaf.mk [some (true,Value.bool true)] [(92,some (MS.mB { m with x:=(xAt (xAt m.x 17 2) 10 18446744073709551615),pl:=m.pl,st:=m.st,cd:=m.cd })),(100,some (rB (Value.slice none 0 0) (vout) mk wt (vs)))] Exit.ret 103) none):=by kernel_rfl
theorem p78_2b (m:MS) (vin vout vs:Value) (mk:Int) (wt:Bool) (inp of:Nat->Int) (T k L C oN d:Nat):walk (lookF FL) noSc 1000 x78 (argTm 0 [pR]) (mkH [(90,m.memB),(92,(m.a7 2).mB),(100,rB (Value.slice (some (Addr.mk 40 k none)) L C) vout mk wt vs),(40,Blk.rows T 1 (fun j ↦ [Value.int IntKind.u8 (inp j)]) false true)]) 103 j0_ (Pj.mk [2] [Ref.id 92,Ref.id 100] [] [90,40]) j0_=bif decide ((↑L:Int)>0)then bif (decide (1<=(↑L:Int))&&decide ((↑L:Int)<=(↑C:Int))&&true||false)&&(((k+0).blt T&&true||false)&&((intRange 0 L&&true||false)&&true))then some (Stop.mk (Leaf.mk [some (true,Value.bool true)] [(92,some (MS.mB { m with x:=(xAt (xAt m.x 17 2) 10 (IntKind.u64.wrap (inp (k+0)))),pl:=m.pl,st:=m.st,cd:=m.cd })),(100,some (rB (Value.slice (some (Addr.mk 40 (k+1) none)) ((↑L:Int)-1).toNat (C-1)) (vout) mk wt (vs)))] Exit.ret 103) none)else none else some (Stop.mk (Leaf.mk [some (true,Value.bool true)] [(92,some (MS.mB { m with x:=(xAt (xAt m.x 17 2) 10 18446744073709551615),pl:=m.pl,st:=m.st,cd:=m.cd })),(100,some (rB (Value.slice (some (Addr.mk 40 k none)) L C) (vout) mk wt (vs)))] Exit.ret 103) none):=by kernel_rfl
theorem p78_1n (m:MS) (vin vout vs:Value) (mk:Int) (wt:Bool) (inp of:Nat->Int) (T k L C oN d:Nat):walk (lookF FL) noSc 1000 x78 (argTm 0 [pR]) (mkH [(90,m.memB),(92,(m.a7 1).mB),(100,rB vin (Value.slice none 0 0) mk wt vs)]) 103 j0_ (Pj.mk [2] [Ref.id 92,Ref.id 100,Ref.cell 100 2] [] [90]) j0_=some (Stop.mk (Leaf.mk [some (true,Value.bool true)] [(92,some (MS.mB { m with x:=(xAt m.x 17 1),pl:=m.pl,st:=m.st,cd:=m.cd })),(100,some (rB (vin) (Value.slice (some (Addr.mk 104 0 none)) 1 1) mk wt (vs))),(104,some (Blk.rows 1 1 (rowCat (fun x ↦ []) 0 0 fun j ↦ slab [Value.int IntKind.u8 (IntKind.u8.wrap (xAt m.x 17 1 10))] ((0+j)*1) 1) true false))] Exit.ret 105) none):=by kernel_rfl
theorem p78_1b (m:MS) (vin vout vs:Value) (mk:Int) (wt:Bool) (inp of:Nat->Int) (T k L C oN d:Nat):walk (lookF FL) noSc 1000 x78 (argTm 0 [pR]) (mkH [(90,m.memB),(92,(m.a7 1).mB),(100,rB vin (Value.slice (some (Addr.mk 101 0 none)) oN oN) mk wt vs),(101,Blk.rows oN 1 (fun j ↦ [Value.int IntKind.u8 (of j)]) true false)]) 103 j0_ (Pj.mk [2] [Ref.id 92,Ref.id 100,Ref.cell 100 2] [] [90]) j0_=bif !(oN+1).ble oN&&true&&(oN.ble oN&&(0+oN).ble oN)&&true&&decide ((oN+1)*3<=1099511627776)&&true&&true then some (Stop.mk (Leaf.mk [some (true,Value.bool true)] [(92,some (MS.mB { m with x:=(xAt m.x 17 1),pl:=m.pl,st:=m.st,cd:=m.cd })),(100,some (rB (vin) (Value.slice (some (Addr.mk 104 0 none)) (oN+1) (oN+1)) mk wt (vs))),(104,some (Blk.rows (oN+1) 1 (rowCat (fun j ↦ [Value.int IntKind.u8 (of j)]) 0 oN fun j ↦ slab [Value.int IntKind.u8 (IntKind.u8.wrap (xAt m.x 17 1 10))] ((0+j)*1) 1) true false))] Exit.ret 105) none)else none:=by kernel_rfl
abbrev πR:List (Nat × Nat):=[(90,90),(91,91),(92,92),(40,40),(100,100),(101,101),(102,102)]
def Stay (v:Value):Prop:=∀ σ:Nm,σ 40=some 40->σ 101=some 101->σ 102=some 102->rn σ v=v
theorem stay_nil:Stay (.slice none 0 0):=fun _ _ _ _=>rfl
theorem stay_in (k L C:Nat):Stay (.slice (some ⟨40,k,none⟩) L C):=fun σ h _ _=>by simp only[rn,ren,renP,h]
theorem stay_out (n c:Nat):Stay (.slice (some ⟨101,0,none⟩) n c):=fun σ _ h _=>by simp only[rn,ren,renP,h]
theorem stay_seen (n c:Nat):Stay (.slice (some ⟨102,0,none⟩) n c):=fun σ _ _ h=>by simp only[rn,ren,renP,h]
theorem bis_rB {P:Program}{σ:Nm}{vin vout se:Value}{mk:Int}{wt:Bool} (h1:Stay vin) (h2:Stay vout) (h3:Stay se) (s92:σ 92=some 92) (s94:σ 40=some 40) (s101:σ 101=some 101) (s102:σ 102=some 102) :
  BIs P σ (rB vin vout mk wt se) (rB vin vout mk wt se):=by
 show renL (ren σ 4) [pM,vin,vout,.int .i64 mk,.bool wt,se]=_
 have e0:ren σ 4 pM=pM:=by simp only[ren,renP,s92]
 have e1:ren σ 4 vin=vin:=h1 σ s94 s101 s102
 have e2:ren σ 4 vout=vout:=h2 σ s94 s101 s102
 have e3:ren σ 4 se=se:=h3 σ s94 s101 s102
 show[ren σ 4 pM,ren σ 4 vin,ren σ 4 vout,.int .i64 mk,.bool wt,ren σ 4 se]=_
 rw[e0,e1,e2,e3]
theorem bis_mBg {P:Program}{σ:Nm}{m:MS} (s90:σ 90=some 90) (s91:σ 91=some 91):BIs P σ m.mB m.mB:=by
 show renL (ren σ 4) _=_
 simp only[MS.mB,regs,List.cons_append,List.nil_append,renL,ren,renP,s90,s91]
theorem a7_id {m:MS}{v:Int} (h:m.x 17=v):m.a7 v=m:=by
 have:xAt m.x 17 v=m.x:=by
  funext j
  unfold xAt
  cases hb:Nat.beq j 17 with
  |true=>rw[Nat.eq_of_beq_eq_true hb,h];rfl
  |false=>rfl
 unfold MS.a7
 rw[this]
def endM (m:MS):MS:={ m with st:=bif m.x 17==3 then 1 else bif m.x 17==4 then 2 else 3,cd:=bif m.x 17==3 then IntKind.u8.wrap (m.x 10)else m.cd }
def pre78 (m:MS) (r:Blk) (ex:List (Nat × Blk)):List (Nat × Blk):=(90,m.memB) :: (92,m.mB) :: (100,r) :: ex
abbrev r78:Pj:=⟨[2],[.id 92,.id 100],[],[90]⟩
section
variable {m:MS}{vin vout se:Value}{mk:Int}{wt:Bool} (h1:Stay vin) (h2:Stay vout) (h3:Stay se)
include h1 h2 h3
theorem call0_of {ret:Bool}{m2:MS} (e:walk (lookF FL) noSc 1000 x78 (argTm 0 [pR]) (mkH (pre78 m (rB vin vout mk wt se) [])) 103 j0_ r78 j0_=some ⟨⟨[some (true,.bool ret)],[(92,some m2.mB),(100,some (rB vin vout mk wt se))],.ret,103⟩,none⟩) :
  Call0 63 [pR] (pre78 m (rB vin vout mk wt se) []) ret m.memB m2 vin vout se mk wt:=by
 refine⟨rfl,fun n hn=>?_⟩
 refine adet_of_body (body_walk (news:=0) FOK fx78 (by simp) e rfl ⟨mkT [2] [.bool ret],mkH [(92,m2.mB),(100,rB vin vout mk wt se),(90,m.memB)],103⟩
  (fun ρ w hd=>⟨_,_,_,rfl,rfl,⟨rfl,trivial⟩,rfl,bis_rB h1 h2 h3 rfl rfl rfl rfl,bis_mem,trivial⟩) (upd:=[(90,some m.memB),(92,some m2.mB),(100,some (rB vin vout mk wt se))]) ⟨rfl,rfl,rfl,trivial,trivial,trivial,trivial⟩ rfl rfl) πR [] rfl rfl
  ⟨bis_mem,rfl,bis_rB h1 h2 h3 rfl rfl rfl rfl,trivial⟩ rfl rfl ⟨bis_mem,rfl,bis_rB h1 h2 h3 rfl rfl rfl rfl,trivial,trivial,trivial,trivial⟩ rfl
theorem call_end (h:m.x 17=3\/m.x 17=4\/m.x 17=5):Call0 63 [pR] (pre78 m (rB vin vout mk wt se) []) true m.memB (endM m) vin vout se mk wt:=by
 rcases h with h|h|h
 ·have e:=p78_3 m vin vout se mk wt (fun _=>0) (fun _=>0) 0 0 0 0 0 0
  rw[a7_id h]at e
  have g:endM m={ m with x:=xAt m.x 17 3,st:=1,cd:=IntKind.u8.wrap (xAt m.x 17 3 10) }:=by
   have:=congrArg MS.x (a7_id h)
   unfold endM
   rw[h]
   rw[show xAt m.x 17 3=m.x from this]
   rfl
  exact call0_of h1 h2 h3 (by rw[g];exact e)
 ·have e:=p78_4 m vin vout se mk wt (fun _=>0) (fun _=>0) 0 0 0 0 0 0
  rw[a7_id h]at e
  have g:endM m={ m with x:=xAt m.x 17 4,st:=2,cd:=m.cd }:=by
   have:=congrArg MS.x (a7_id h)
   unfold endM
   rw[h]
   rw[show xAt m.x 17 4=m.x from this]
   rfl
  exact call0_of h1 h2 h3 (by rw[g];exact e)
 ·have e:=p78_5 m vin vout se mk wt (fun _=>0) (fun _=>0) 0 0 0 0 0 0
  rw[a7_id h]at e
  have g:endM m={ m with x:=xAt m.x 17 5,st:=3,cd:=m.cd }:=by
   have:=congrArg MS.x (a7_id h)
   unfold endM
   rw[h]
   rw[show xAt m.x 17 5=m.x from this]
   rfl
  exact call0_of h1 h2 h3 (by rw[g];exact e)
theorem call_no (h0:0<=m.x 17) (h:m.x 17=0\/6<=m.x 17):Call0 63 [pR] (pre78 m (rB vin vout mk wt se) []) false m.memB m vin vout se mk wt:=by
 rcases h with h|h
 ·have e:=p78_0 m vin vout se mk wt (fun _=>0) (fun _=>0) 0 0 0 0 0 0
  rw[a7_id h,show xAt m.x 17 0=m.x from congrArg MS.x (a7_id h)]at e
  exact call0_of h1 h2 h3 e
 ·obtain⟨d,hd⟩:∃ d:Nat,m.x 17=Int.ofNat (d+6):=⟨(m.x 17).toNat-6,by simp only[Int.ofNat_eq_natCast];omega⟩
  have e:=p78_6 m vin vout se mk wt (fun _=>0) (fun _=>0) 0 0 0 0 0 d
  rw[a7_id hd,show xAt m.x 17 (Int.ofNat (d+6))=m.x from congrArg MS.x (a7_id hd)]at e
  exact call0_of h1 h2 h3 e
end
def inMax (m:MS):MS:={ m with x:=xAt m.x 10 18446744073709551615 }
theorem call_in0 {m:MS}{vout se:Value}{mk:Int}{wt:Bool} (h2:Stay vout) (h3:Stay se) (h:m.x 17=2):Call0 63 [pR] (pre78 m (rB (.slice none 0 0) vout mk wt se) []) true m.memB (inMax m) (.slice none 0 0) vout se mk wt:=by
 have e:=p78_2n m (.slice none 0 0) vout se mk wt (fun _=>0) (fun _=>0) 0 0 0 0 0 0
 rw[a7_id h,show xAt m.x 17 2=m.x from congrArg MS.x (a7_id h)]at e
 exact call0_of stay_nil h2 h3 e
def inB (T:Nat) (inp:Nat->Int):Blk:=.rows T 1 (fun j=>[.int .u8 (inp j)]) false true
def outB (n:Nat) (of:Nat->Int):Blk:=.rows n 1 (fun j=>[.int .u8 (of j)]) true false
theorem bis_inB {P:Program}{σ:Nm}{T:Nat}{inp:Nat->Int}:BIs P σ (inB T inp) (inB T inp):=bis_rw fun _ _=>rfl
abbrev inS (k L C:Nat):Value:=.slice (some ⟨40,k,none⟩) L C
abbrev r78i:Pj:=⟨[2],[.id 92,.id 100],[],[90,40]⟩
section
variable {m:MS}{vout se:Value}{mk:Int}{wt:Bool}{T k L C:Nat}{inp:Nat->Int} (h2:Stay vout) (h3:Stay se)
include h2 h3
theorem call0_ofi {vin vin2:Value} (h1:Stay vin) (h1':Stay vin2){m2:MS} (e:walk (lookF FL) noSc 1000 x78 (argTm 0 [pR]) (mkH (pre78 m (rB vin vout mk wt se) [(40,inB T inp)])) 103 j0_ r78i j0_=some ⟨⟨[some (true,.bool true)],[(92,some m2.mB),(100,some (rB vin2 vout mk wt se))],.ret,103⟩,none⟩) :
  Call0 63 [pR] (pre78 m (rB vin vout mk wt se) [(40,inB T inp)]) true m.memB m2 vin2 vout se mk wt:=by
 refine⟨rfl,fun n hn=>?_⟩
 refine adet_of_body (body_walk (news:=0) FOK fx78 (by simp) e rfl ⟨mkT [2] [.bool true],mkH [(92,m2.mB),(100,rB vin2 vout mk wt se),(90,m.memB),(40,inB T inp)],103⟩
  (fun ρ w hd=>⟨_,_,_,rfl,rfl,⟨rfl,trivial⟩,rfl,bis_rB h1' h2 h3 rfl rfl rfl rfl,bis_mem,bis_inB,trivial⟩) (upd:=[(90,some m.memB),(92,some m2.mB),(100,some (rB vin2 vout mk wt se))]) ⟨rfl,rfl,rfl,trivial,trivial,trivial,rfl,trivial⟩ rfl rfl) πR [] rfl rfl
  ⟨bis_mem,rfl,bis_rB h1 h2 h3 rfl rfl rfl rfl,bis_inB,trivial⟩ rfl rfl ⟨bis_mem,rfl,bis_rB h1' h2 h3 rfl rfl rfl rfl,trivial,trivial,trivial,bis_inB,trivial⟩ rfl
def inMore (m:MS) (v:Int):MS:={ m with x:=xAt m.x 10 (IntKind.u64.wrap v) }
theorem call_in1 (h:m.x 17=2) (hL:0<L) (hC:L<=C) (hT:k+L<=T):Call0 63 [pR] (pre78 m (rB (inS k L C) vout mk wt se) [(40,inB T inp)]) true m.memB (inMore m (inp k)) (inS (k+1) (L-1) (C-1)) vout se mk wt:=by
 have e:=p78_2b m (.slice none 0 0) vout se mk wt inp (fun _=>0) T k L C 0 0
 rw[a7_id h,show xAt m.x 17 2=m.x from congrArg MS.x (a7_id h)]at e
 have g1:decide ((L:Int)>0)=true:=by simp;omega
 have g2:((decide ((1:Int)<=(L:Int))&&decide ((L:Int)<=(C:Int))&&true||false)&&(((k+0).blt T&&true||false)&&((intRange 0 L&&true||false)&&true)))=true:=by
  have:(k+0).blt T=true:=lt_blt (by omega)
  rw[this];simp[intRange];omega
 rw[g1,cond_true,g2,cond_true,show((L:Int)-1).toNat=L-1 by omega]at e
 exact call0_ofi h2 h3 (stay_in k L C) (stay_in (k+1) (L-1) (C-1)) e
theorem call_in2 (h:m.x 17=2):Call0 63 [pR] (pre78 m (rB (inS k 0 C) vout mk wt se) [(40,inB T inp)]) true m.memB (inMax m) (inS k 0 C) vout se mk wt:=by
 have e:=p78_2b m (.slice none 0 0) vout se mk wt inp (fun _=>0) T k 0 C 0 0
 rw[a7_id h,show xAt m.x 17 2=m.x from congrArg MS.x (a7_id h)]at e
 exact call0_ofi h2 h3 (stay_in k 0 C) (stay_in k 0 C) e
end
theorem asc_newR (d:Nat) (l:List (Nat × Nat)):asc ((d+103,103) :: l) (d+103)=some 103:=by simp[asc]
theorem stay_newS {σ:Nm}{a b l:Nat} (h:σ a=some b):rn σ (newS a l)=newS b l:=by simp only[rn,newS,ren,renP,h]
theorem bis_rBo {P:Program}{σ:Nm}{vin se:Value}{mk:Int}{wt:Bool}{a b l:Nat} (h1:Stay vin) (h3:Stay se) (s92:σ 92=some 92) (s94:σ 40=some 40) (s101:σ 101=some 101) (s102:σ 102=some 102) (ha:σ a=some b) :
  BIs P σ (rB vin (newS a l) mk wt se) (rB vin (newS b l) mk wt se):=by
 show[ren σ 4 pM,ren σ 4 vin,ren σ 4 (newS a l),.int .i64 mk,.bool wt,ren σ 4 se]=_
 have e0:ren σ 4 pM=pM:=by simp only[ren,renP,s92]
 have e1:ren σ 4 vin=vin:=h1 σ s94 s101 s102
 have e3:ren σ 4 se=se:=h3 σ s94 s101 s102
 have e2:ren σ 4 (newS a l)=newS b l:=stay_newS ha
 rw[e0,e1,e2,e3]
theorem bis_rBs {P:Program}{σ:Nm}{vin vout:Value}{mk:Int}{wt:Bool}{a b l:Nat} (h1:Stay vin) (h2:Stay vout) (s92:σ 92=some 92) (s94:σ 40=some 40) (s101:σ 101=some 101) (s102:σ 102=some 102) (ha:σ a=some b) :
  BIs P σ (rB vin vout mk wt (newS a l)) (rB vin vout mk wt (newS b l)):=by
 show[ren σ 4 pM,ren σ 4 vin,ren σ 4 vout,.int .i64 mk,.bool wt,ren σ 4 (newS a l)]=_
 have e0:ren σ 4 pM=pM:=by simp only[ren,renP,s92]
 have e1:ren σ 4 vin=vin:=h1 σ s94 s101 s102
 have e3:ren σ 4 vout=vout:=h2 σ s94 s101 s102
 have e2:ren σ 4 (newS a l)=newS b l:=stay_newS ha
 rw[e0,e1,e2,e3]
theorem nOKR (d:Nat):(Nat.ble (d+103) (d+103)&&Nat.blt (d+103) (d+103+1)&&true)=true:=by simp[Nat.blt]
theorem adet_newR {f:FuncId}{vs:List Value}{pre:List (Nat × Blk)}{v:Value}{b:Blk}{upd:Nat->Hp} (h:Body Try.prog f vs (mkH pre) v ((103,some b) :: upd 103) 103 1)
  (hvs:rnL (asc πR) vs=vs) (hpre:HsOK Try.prog (asc πR) (hget (mkH pre)) [] (mkH pre)) (hpn:nodupB (namesOf (asc πR) [] (mkH pre))=true)
  (hb:b.ro=false) (hur:∀ d,updRW (upd (d+103))=true) (hv:∀ d,rn (asc ((d+103,103) :: πR)) v=v) (hbb:∀ d,BIs Try.prog (asc ((d+103,103) :: πR)) b b)
  (hup:∀ d,HsOK Try.prog (asc ((d+103,103) :: πR)) (hget ((103,some b) :: upd 103++mkH pre)) [d+103] (upd (d+103)++mkH pre))
  (hun:∀ d,natMem 103 (namesOf (asc ((d+103,103) :: πR)) [d+103] (upd (d+103)++mkH pre))=false/\nodupB (namesOf (asc ((d+103,103) :: πR)) [d+103] (upd (d+103)++mkH pre))=true){n:Nat} (hn:103<=n) :
  ADet Try.prog f vs (mkH pre) v ((n,some b) :: upd n) n 1:=by
 obtain⟨d,rfl⟩:∃ d,n=d+103:=⟨n-103,by omega⟩
 refine adet_of_body h πR [(d+103,103)] ?_ hvs hpre hpn (hv d) ?_ ?_
 ·simp only[namesOK,List.all_cons,List.all_nil,updRW,hb,hur,Bool.not_false]
  rw[nOKR]
  rfl
 ·refine⟨?_,hup d⟩
  show(match asc ((d+103,103) :: πR) (d+103)with|some id0=>(match hget ((103,some b) :: upd 103++mkH pre) id0 with|some x=>BIs Try.prog (asc ((d+103,103) :: πR)) b x|none=>False)|none=>False)
  rw[asc_newR]
  exact hbb d
 ·show nodupB (match natMem (d+103) [],some b,asc ((d+103,103) :: πR) (d+103)with|false,some _,some x=>x :: namesOf (asc ((d+103,103) :: πR)) [d+103] (upd (d+103)++mkH pre)|_,_,_=>_)=true
  rw[asc_newR]
  show(!natMem 103 _&&nodupB _)=true
  rw[(hun d).1,(hun d).2];rfl
def outMore (of:Nat->Int) (n:Nat) (v:Int):Nat->Int:=fun j=>bif Nat.blt j n then of j else v
theorem out_row {n:Nat}{f:Nat->List Value}{of:Nat->Int}{v:Int} (hf:∀ j,j<n->f j=[.int .u8 (of j)]):∀ j,j<n+1->(rowCat f 0 n fun j=>slab [.int .u8 v] ((0+j)*1) 1) j=[.int .u8 (outMore of n v j)]:=fun j hj=>by
 by_cases hlt:j<n
 ·simp only[rowCat,outMore,lt_blt hlt,cond_true,Nat.zero_add]
  exact hf j hlt
 ·have:j=n:=by omega
  subst this
  have hb0:Nat.blt j j=false:=by rw[blt_dec];simp
  simp only[rowCat,outMore,hb0,cond_false,Nat.sub_self]
  rfl
theorem bis_out {P:Program}{σ:Nm}{n:Nat}{of:Nat->Int}{f:Nat->List Value} (h:∀ j,j<n->f j=[.int .u8 (of j)]):BIs P σ (outB n of) (.rows n 1 f true false):=⟨rfl,rfl,fun j hj=>by rw[h j hj];rfl,.inl rfl,.inr rfl⟩
theorem bis_outB {P:Program}{σ:Nm}{n:Nat}{of:Nat->Int}:BIs P σ (outB n of) (outB n of):=bis_out fun _ _=>rfl
section
variable {m:MS}{vin se:Value}{mk:Int}{wt:Bool} (h1:Stay vin) (h3:Stay se) (h:m.x 17=1)
include h1 h3 h
theorem call_out0:CallO (pre78 m (rB vin (.slice none 0 0) mk wt se) []) m vin se 1 (outB 1 (outMore (fun _=>0) 0 (IntKind.u8.wrap (m.x 10)))) mk wt:=by
 refine⟨rfl,fun n hn=>?_⟩
 have e:=p78_1n m vin (.slice none 0 0) se mk wt (fun _=>0) (fun _=>0) 0 0 0 0 0 0
 rw[a7_id h,show xAt m.x 17 1=m.x from congrArg MS.x (a7_id h)]at e
 refine adet_newR (upd:=fun n=>[(92,some m.mB),(100,some (rB vin (newS n 1) mk wt se)),(101,none)]) (body_walk FOK fx78 (by simp) e rfl ⟨mkT [2] [.bool true],mkH [(92,m.mB),(100,rB vin (newS 103 1) mk wt se),(103,outB 1 (outMore (fun _=>0) 0 (IntKind.u8.wrap (m.x 10)))),(90,m.memB)],104⟩
  (fun ρ w hd=>⟨_,_,_,rfl,rfl,⟨rfl,trivial⟩,rfl,bis_rBo h1 h3 rfl rfl rfl rfl rfl,bis_out (out_row fun _ h=>absurd h (Nat.not_lt_zero _)),bis_mem,trivial⟩) ⟨rfl,rfl,rfl,trivial,rfl,trivial,trivial,trivial⟩ rfl rfl)
  rfl ⟨bis_mem,rfl,bis_rB h1 stay_nil h3 rfl rfl rfl rfl,trivial⟩ rfl rfl (fun d=>rfl) (fun d=>rfl) (fun d=>bis_outB)
  (fun d=>⟨rfl,bis_rBo h1 h3 rfl rfl rfl rfl (asc_newR d _),trivial,bis_mem,trivial,trivial,trivial⟩) (fun d=>⟨rfl,rfl⟩) hn
theorem call_out1 {oN:Nat}{of:Nat->Int} (ho:oN<=1000000000):CallO (pre78 m (rB vin (.slice (some ⟨101,0,none⟩) oN oN) mk wt se) [(101,outB oN of)]) m vin se (oN+1) (outB (oN+1) (outMore of oN (IntKind.u8.wrap (m.x 10)))) mk wt:=by
 refine⟨rfl,fun n hn=>?_⟩
 have e:=p78_1b m vin (.slice none 0 0) se mk wt (fun _=>0) of 0 0 0 0 oN 0
 rw[a7_id h,show xAt m.x 17 1=m.x from congrArg MS.x (a7_id h)]at e
 have g:(!(oN+1).ble oN&&true&&(oN.ble oN&&(0+oN).ble oN)&&true&&decide ((oN+1)*3<=1099511627776)&&true&&true)=true:=by
  simp only[ble_dec];simp;omega
 rw[g,cond_true]at e
 refine adet_newR (upd:=fun n=>[(92,some m.mB),(100,some (rB vin (newS n (oN+1)) mk wt se)),(101,none)]) (body_walk FOK fx78 (by simp) e rfl ⟨mkT [2] [.bool true],mkH [(92,m.mB),(100,rB vin (newS 103 (oN+1)) mk wt se),(103,outB (oN+1) (outMore of oN (IntKind.u8.wrap (m.x 10)))),(90,m.memB)],104⟩
  (fun ρ w hd=>⟨_,_,_,rfl,rfl,⟨rfl,trivial⟩,rfl,bis_rBo h1 h3 rfl rfl rfl rfl rfl,bis_out (out_row fun _ _=>rfl),bis_mem,trivial⟩) ⟨rfl,rfl,rfl,trivial,rfl,trivial,trivial,trivial,trivial⟩ rfl rfl)
  rfl ⟨bis_mem,rfl,bis_rB h1 (stay_out _ _) h3 rfl rfl rfl rfl,bis_outB,trivial⟩ rfl rfl (fun d=>rfl) (fun d=>rfl) (fun d=>bis_outB)
  (fun d=>⟨rfl,bis_rBo h1 h3 rfl rfl rfl rfl (asc_newR d _),trivial,bis_mem,trivial,trivial,trivial,trivial⟩) (fun d=>⟨rfl,rfl⟩) hn
end
def preS (m:MS) (r:Blk) (ex:List (Nat × Blk)):List (Nat × Blk):=(90,m.memB) :: (91,m.kn.blk) :: (92,m.mB) :: (100,r) :: ex
def updS (m:MS) (r:Blk):Hp:=[(90,some m.memB),(91,some m.kn.blk),(92,some m.mB),(100,some r)]
def updX (m:MS) (r:Blk) (d:Nat):Hp:=[(90,some m.memB),(91,some m.kn.blk),(92,some m.mB),(100,some r),(d,none)]
def Step0 (pre:List (Nat × Blk)) (ret:Bool) (m2:MS) (r:Blk):Prop :=
 nodupB (pre.map (·.1))=true/\∀ n,103<=n->ADet Try.prog 56 [pR] (mkH pre) (.bool ret) (updS m2 r) n 0
def StepO (pre:List (Nat × Blk)) (m2:MS) (vin se:Value) (l:Nat) (b:Blk) (mk:Int) (wt:Bool):Prop :=
 nodupB (pre.map (·.1))=true/\∀ n,103<=n->ADet Try.prog 56 [pR] (mkH pre) (.bool true) ((n,some b) :: updX m2 (rB vin (newS n l) mk wt se) 101) n 1
def StepW (pre:List (Nat × Blk)) (m2:MS) (vin vout:Value) (l:Nat) (b:Blk) (mk:Int) (wt:Bool):Prop :=
 nodupB (pre.map (·.1))=true/\∀ n,103<=n->ADet Try.prog 56 [pR] (mkH pre) (.bool true) ((n,some b) :: updX m2 (rB vin vout mk wt (newS n l)) 102) n 1
section
variable {m:MS}{vin vout se:Value}{mk:Int}{wt:Bool}
theorem step_plain (h1:Stay vin) (h2:Stay vout) (h3:Stay se){c:Cand}{k:KM}{op:Int} (ho:plainB op=true) (hf:FetchOK m ⟨op,c,0⟩ k) (hc:CandOK c) (hx:∀ j,uB (m.x j)=true) :
  Step0 (preS m (rB vin vout mk wt se) []) true (stepM m k op c) (rB vin vout (markF op c mk) wt se):=by
 refine⟨rfl,fun n hn=>?_⟩
 have e:=s61 ho m c k vin vout se mk wt hf hc hx
 exact adet_of_body (body_walk (news:=0) (FOK61 m ⟨op,c,0⟩ k) fx61 (by simp) e rfl ⟨mkT [2] [.bool true],mkH [(91,k.blk),(92,(stepM m k op c).mB),(100,rB vin vout (markF op c mk) wt se),(90,m.memB)],103⟩
  (fun ρ w hd=>⟨_,_,_,rfl,rfl,⟨rfl,trivial⟩,bis_kn,rfl,bis_rB h1 h2 h3 rfl rfl rfl rfl,bis_mem,trivial⟩) (upd:=updS (stepM m k op c) (rB vin vout (markF op c mk) wt se)) ⟨rfl,rfl,rfl,rfl,trivial,trivial,trivial,trivial,trivial⟩ rfl rfl) πR [] rfl rfl
  ⟨bis_mem,bis_kn,rfl,bis_rB h1 h2 h3 rfl rfl rfl rfl,trivial⟩ rfl rfl ⟨bis_mem,bis_kn,rfl,bis_rB h1 h2 h3 rfl rfl rfl rfl,trivial,trivial,trivial,trivial,trivial⟩ rfl
theorem step_no (h1:Stay vin) (h2:Stay vout) (h3:Stay se){i:Ans} (hf:FetchNo m i):Step0 (preS m (rB vin vout mk wt se) []) false m (rB vin vout mk wt se):=by
 refine⟨rfl,fun n hn=>?_⟩
 have e:=p61n m i vin vout se mk wt
 rw[decP_true ⟨hasH m [(100,rB vin vout mk wt se)],hf⟩]at e
 simp only[Bool.and_self,cond_true]at e
 exact adet_of_body (body_walk (news:=0) (FOK61n m i) fx61 (by simp) e rfl ⟨mkT [2] [.bool false],mkH [(91,m.kn.blk),(90,m.memB),(92,m.mB),(100,rB vin vout mk wt se)],103⟩
  (fun ρ w hd=>⟨_,_,_,rfl,rfl,⟨rfl,trivial⟩,bis_kn,bis_mem,rfl,bis_rB h1 h2 h3 rfl rfl rfl rfl,trivial⟩) (upd:=updS m (rB vin vout mk wt se)) ⟨rfl,rfl,rfl,rfl,trivial,trivial,trivial,trivial,trivial⟩ rfl rfl) πR [] rfl rfl
  ⟨bis_mem,bis_kn,rfl,bis_rB h1 h2 h3 rfl rfl rfl rfl,trivial⟩ rfl rfl ⟨bis_mem,bis_kn,rfl,bis_rB h1 h2 h3 rfl rfl rfl rfl,trivial,trivial,trivial,trivial,trivial⟩ rfl
def finM (m m2:MS) (k:KM) (ret:Bool):MS:=bif ret then { m2 with x:=zeroX m2.x,pl:=nxt m,kn:=k }else { m2 with kn:=k }
theorem step_call (h1:Stay vin) (h2:Stay vout) (h3:Stay se){vin2:Value} (h1':Stay vin2){c:Cand}{k:KM} (hf:FetchOK m ⟨55,c,0⟩ k) (hc:CandOK c){m2:MS} (hm:m2.memB=m.memB){ret:Bool}
  (hcall:Call0 63 [pR] (pre78 m (rB vin vout mk wt se) []) ret m.memB m2 vin2 vout se mk wt):Step0 (preS m (rB vin vout mk wt se) []) ret (finM m m2 k ret) (rB vin2 vout mk wt se):=by
 refine⟨rfl,fun n hn=>?_⟩
 have e:=p61c_n m m2 c k vin vout se vin2 vout mk wt ret (pre78 m (rB vin vout mk wt se) []) m.memB m.memB
 obtain⟨a1,a2,a3,a4⟩:=reg_ok m hc.rs1
 rw[decP_true ⟨hasH m [(100,rB vin vout mk wt se)],hf⟩,decP_true ⟨rfl,⟨rfl,rfl,rfl,trivial⟩,hcall⟩]at e
 simp only[a1,a2,a3,Bool.and_self,Bool.or_false,cond_true]at e
 have hme:(finM m m2 k ret).memB=m.memB:=by rw[<- hm];cases ret<;>rfl
 have e2:walk (lookF FL) (scC0 m ⟨55,c,0⟩ k 63 [pR] (pre78 m (rB vin vout mk wt se) []) ret m.memB m2 vin2 vout se mk wt) 1000 x61 (argTm 0 [pR]) (mkH (preS m (rB vin vout mk wt se) [])) 103 j0_ ⟨[2],[.id 90,.id 91,.id 92,.id 100],[],[]⟩ j0_ =
   some ⟨⟨[some (true,.bool ret)],[(90,some (finM m m2 k ret).memB),(91,some k.blk),(92,some (finM m m2 k ret).mB),(100,some (rB vin2 vout mk wt se))],.ret,105⟩,none⟩:=by
  rw[hme]
  cases ret
  ·exact e
  ·exact e
 have hk:(finM m m2 k ret).kn=k:=by cases ret<;>rfl
 have hs:∀ {σ:Nm},σ 90=some 90->σ 91=some 91->BIs Try.prog σ (finM m m2 k ret).mB (finM m m2 k ret).mB:=fun a b=>bis_mBg a b
 refine adet_of_body (body_walk (news:=0) (fok FOK _) fx61 (by simp) e2 rfl ⟨mkT [2] [.bool ret],mkH [(90,(finM m m2 k ret).memB),(91,k.blk),(92,(finM m m2 k ret).mB),(100,rB vin2 vout mk wt se)],103⟩
  (fun ρ w hd=>⟨_,_,_,rfl,rfl,⟨rfl,trivial⟩,bis_mem,bis_kn,hs rfl rfl,bis_rB h1' h2 h3 rfl rfl rfl rfl,trivial⟩) (upd:=updS (finM m m2 k ret) (rB vin2 vout mk wt se)) ⟨rfl,by rw[hk];rfl,rfl,rfl,trivial,trivial,trivial,trivial,trivial⟩ rfl rfl) πR [] rfl rfl
  ⟨bis_mem,bis_kn,rfl,bis_rB h1 h2 h3 rfl rfl rfl rfl,trivial⟩ rfl rfl ⟨bis_mem,bis_kn,hs rfl rfl,bis_rB h1' h2 h3 rfl rfl rfl rfl,trivial,trivial,trivial,trivial,trivial⟩ rfl
end
section
variable {m:MS}{vin vout se:Value}{mk:Int}{wt:Bool}
theorem step_calli (h1:Stay vin) (h2:Stay vout) (h3:Stay se){vin2:Value} (h1':Stay vin2){T:Nat}{inp:Nat->Int}{c:Cand}{k:KM} (hf:FetchOK m ⟨55,c,0⟩ k) (hc:CandOK c){m2:MS} (hm:m2.memB=m.memB)
  (hcall:Call0 63 [pR] (pre78 m (rB vin vout mk wt se) [(40,inB T inp)]) true m.memB m2 vin2 vout se mk wt):Step0 (preS m (rB vin vout mk wt se) [(40,inB T inp)]) true (finM m m2 k true) (rB vin2 vout mk wt se):=by
 refine⟨rfl,fun n hn=>?_⟩
 have e:=p61c_i m m2 c k vin vout se vin2 vout mk wt true (pre78 m (rB vin vout mk wt se) [(40,inB T inp)]) (inB T inp) m.memB
 obtain⟨a1,a2,a3,a4⟩:=reg_ok m hc.rs1
 rw[decP_true ⟨hasH m [(100,rB vin vout mk wt se),(40,inB T inp)],hf⟩,decP_true ⟨rfl,⟨rfl,rfl,rfl,rfl,trivial⟩,hcall⟩]at e
 simp only[a1,a2,a3,Bool.and_self,Bool.or_false,cond_true]at e
 have hme:(finM m m2 k true).memB=m.memB:=by rw[<- hm];rfl
 have e2:walk (lookF FL) (scC0 m ⟨55,c,0⟩ k 63 [pR] (pre78 m (rB vin vout mk wt se) [(40,inB T inp)]) true m.memB m2 vin2 vout se mk wt) 1000 x61 (argTm 0 [pR]) (mkH (preS m (rB vin vout mk wt se) [(40,inB T inp)])) 103 j0_ ⟨[2],[.id 90,.id 91,.id 92,.id 100],[],[40]⟩ j0_ =
   some ⟨⟨[some (true,.bool true)],[(90,some (finM m m2 k true).memB),(91,some k.blk),(92,some (finM m m2 k true).mB),(100,some (rB vin2 vout mk wt se))],.ret,105⟩,none⟩:=by
  rw[hme]
  exact e
 refine adet_of_body (body_walk (news:=0) (fok FOK _) fx61 (by simp) e2 rfl ⟨mkT [2] [.bool true],mkH [(90,(finM m m2 k true).memB),(91,k.blk),(92,(finM m m2 k true).mB),(100,rB vin2 vout mk wt se),(40,inB T inp)],103⟩
  (fun ρ w hd=>⟨_,_,_,rfl,rfl,⟨rfl,trivial⟩,bis_mem,bis_kn,rfl,bis_rB h1' h2 h3 rfl rfl rfl rfl,bis_inB,trivial⟩) (upd:=updS (finM m m2 k true) (rB vin2 vout mk wt se)) ⟨rfl,rfl,rfl,rfl,trivial,trivial,trivial,trivial,rfl,trivial⟩ rfl rfl) πR [] rfl rfl
  ⟨bis_mem,bis_kn,rfl,bis_rB h1 h2 h3 rfl rfl rfl rfl,bis_inB,trivial⟩ rfl rfl ⟨bis_mem,bis_kn,rfl,bis_rB h1' h2 h3 rfl rfl rfl rfl,trivial,trivial,trivial,trivial,bis_inB,trivial⟩ rfl
theorem step_out0 (h1:Stay vin) (h3:Stay se){c:Cand}{k:KM} (hf:FetchOK m ⟨55,c,0⟩ k) (hc:CandOK c){m2:MS} (hm:m2.memB=m.memB){l:Nat}{of:Nat->Int}
  (hcall:CallO (pre78 m (rB vin (.slice none 0 0) mk wt se) []) m2 vin se l (outB l of) mk wt):StepO (preS m (rB vin (.slice none 0 0) mk wt se) []) (finM m m2 k true) vin se l (outB l of) mk wt:=by
 refine⟨rfl,fun n hn=>?_⟩
 have e:=p61o_n m m2 c k vin (.slice none 0 0) se mk wt (pre78 m (rB vin (.slice none 0 0) mk wt se) []) m.memB (outB l of) l
 obtain⟨a1,a2,a3,a4⟩:=reg_ok m hc.rs1
 rw[decP_true ⟨hasH m [(100,rB vin (.slice none 0 0) mk wt se)],hf⟩,decP_true ⟨rfl,⟨rfl,rfl,rfl,trivial⟩,hcall⟩]at e
 simp only[a1,a2,a3,Bool.and_self,Bool.or_false,cond_true]at e
 have hme:(finM m m2 k true).memB=m.memB:=by rw[<- hm];rfl
 refine adet_newR (upd:=fun n=>updX (finM m m2 k true) (rB vin (newS n l) mk wt se) 101) (body_walk (fok FOK _) fx61 (by simp) e rfl ⟨mkT [2] [.bool true],mkH [(91,k.blk),(92,(finM m m2 k true).mB),(100,rB vin (newS 103 l) mk wt se),(103,outB l of),(90,m.memB)],104⟩
  (fun ρ w hd=>⟨_,_,_,rfl,rfl,⟨rfl,trivial⟩,bis_kn,rfl,bis_rBo h1 h3 rfl rfl rfl rfl rfl,bis_outB,bis_mem,trivial⟩) ⟨rfl,by rw[hme];rfl,rfl,rfl,rfl,trivial,trivial,trivial,trivial,trivial,trivial⟩ rfl rfl)
  rfl ⟨bis_mem,bis_kn,rfl,bis_rB h1 stay_nil h3 rfl rfl rfl rfl,trivial⟩ rfl rfl (fun d=>rfl) (fun d=>rfl) (fun d=>bis_outB)
  (fun d=>⟨bis_mem,bis_kn,rfl,bis_rBo h1 h3 rfl rfl rfl rfl (asc_newR d _),trivial,trivial,trivial,trivial,trivial,trivial⟩) (fun d=>⟨rfl,rfl⟩) hn
theorem step_out1 (h1:Stay vin) (h3:Stay se){c:Cand}{k:KM} (hf:FetchOK m ⟨55,c,0⟩ k) (hc:CandOK c){m2:MS} (hm:m2.memB=m.memB){l oN:Nat} {of of':Nat->Int}
  (hcall:CallO (pre78 m (rB vin (.slice (some ⟨101,0,none⟩) oN oN) mk wt se) [(101,outB oN of')]) m2 vin se l (outB l of) mk wt):StepO (preS m (rB vin (.slice (some ⟨101,0,none⟩) oN oN) mk wt se) [(101,outB oN of')]) (finM m m2 k true) vin se l (outB l of) mk wt:=by
 refine⟨rfl,fun n hn=>?_⟩
 have e:=p61o_b m m2 c k vin (.slice (some ⟨101,0,none⟩) oN oN) se mk wt (pre78 m (rB vin (.slice (some ⟨101,0,none⟩) oN oN) mk wt se) [(101,outB oN of')]) (outB oN of') (outB l of) l
 obtain⟨a1,a2,a3,a4⟩:=reg_ok m hc.rs1
 rw[decP_true ⟨hasH m [(100,rB vin (.slice (some ⟨101,0,none⟩) oN oN) mk wt se),(101,outB oN of')],hf⟩,decP_true ⟨rfl,⟨rfl,rfl,rfl,rfl,trivial⟩,hcall⟩]at e
 simp only[a1,a2,a3,Bool.and_self,Bool.or_false,cond_true]at e
 have hme:(finM m m2 k true).memB=m.memB:=by rw[<- hm];rfl
 refine adet_newR (upd:=fun n=>updX (finM m m2 k true) (rB vin (newS n l) mk wt se) 101) (body_walk (fok FOK _) fx61 (by simp) e rfl ⟨mkT [2] [.bool true],mkH [(91,k.blk),(92,(finM m m2 k true).mB),(100,rB vin (newS 103 l) mk wt se),(103,outB l of),(90,m.memB)],104⟩
  (fun ρ w hd=>⟨_,_,_,rfl,rfl,⟨rfl,trivial⟩,bis_kn,rfl,bis_rBo h1 h3 rfl rfl rfl rfl rfl,bis_outB,bis_mem,trivial⟩) ⟨rfl,by rw[hme];rfl,rfl,rfl,rfl,trivial,trivial,trivial,trivial,trivial,trivial,trivial⟩ rfl rfl)
  rfl ⟨bis_mem,bis_kn,rfl,bis_rB h1 (stay_out _ _) h3 rfl rfl rfl rfl,bis_outB,trivial⟩ rfl rfl (fun d=>rfl) (fun d=>rfl) (fun d=>bis_outB)
  (fun d=>⟨bis_mem,bis_kn,rfl,bis_rBo h1 h3 rfl rfl rfl rfl (asc_newR d _),trivial,trivial,trivial,trivial,trivial,trivial,trivial⟩) (fun d=>⟨rfl,rfl⟩) hn
end
end Go.X
