import Derived.Test.YtkghggngmpmigaaD34
set_option linter.all false
namespace Go.X
open Go Go.Proofs
def inR (r:Int):Prop:=0<=r/\r<32
structure CandOK (c:Cand):Prop where
 rd:inR c.rd
 rs1:inR c.rs1
 rs2:inR c.rs2
theorem inR_nat {r:Int} (h:inR r):∃ k:Nat,k<32/\r=(k:Int):=⟨r.toNat,by unfold inR at h;omega,by unfold inR at h;omega⟩
theorem reg_ok (m:MS){r:Int} (h:inR r):(1+r.toNat*1).blt m.cells.length=true/\rdB m r=true/\intRange r 32=true/\rdX m r=m.x r.toNat:=by
 obtain⟨k,hk,rfl⟩:=inR_nat h
 match k,hk with
 |0,_=>exact⟨rfl,rfl,rfl,rfl⟩
 |1,_=>exact⟨rfl,rfl,rfl,rfl⟩
 |2,_=>exact⟨rfl,rfl,rfl,rfl⟩
 |3,_=>exact⟨rfl,rfl,rfl,rfl⟩
 |4,_=>exact⟨rfl,rfl,rfl,rfl⟩
 |5,_=>exact⟨rfl,rfl,rfl,rfl⟩
 |6,_=>exact⟨rfl,rfl,rfl,rfl⟩
 |7,_=>exact⟨rfl,rfl,rfl,rfl⟩
 |8,_=>exact⟨rfl,rfl,rfl,rfl⟩
 |9,_=>exact⟨rfl,rfl,rfl,rfl⟩
 |10,_=>exact⟨rfl,rfl,rfl,rfl⟩
 |11,_=>exact⟨rfl,rfl,rfl,rfl⟩
 |12,_=>exact⟨rfl,rfl,rfl,rfl⟩
 |13,_=>exact⟨rfl,rfl,rfl,rfl⟩
 |14,_=>exact⟨rfl,rfl,rfl,rfl⟩
 |15,_=>exact⟨rfl,rfl,rfl,rfl⟩
 |16,_=>exact⟨rfl,rfl,rfl,rfl⟩
 |17,_=>exact⟨rfl,rfl,rfl,rfl⟩
 |18,_=>exact⟨rfl,rfl,rfl,rfl⟩
 |19,_=>exact⟨rfl,rfl,rfl,rfl⟩
 |20,_=>exact⟨rfl,rfl,rfl,rfl⟩
 |21,_=>exact⟨rfl,rfl,rfl,rfl⟩
 |22,_=>exact⟨rfl,rfl,rfl,rfl⟩
 |23,_=>exact⟨rfl,rfl,rfl,rfl⟩
 |24,_=>exact⟨rfl,rfl,rfl,rfl⟩
 |25,_=>exact⟨rfl,rfl,rfl,rfl⟩
 |26,_=>exact⟨rfl,rfl,rfl,rfl⟩
 |27,_=>exact⟨rfl,rfl,rfl,rfl⟩
 |28,_=>exact⟨rfl,rfl,rfl,rfl⟩
 |29,_=>exact⟨rfl,rfl,rfl,rfl⟩
 |30,_=>exact⟨rfl,rfl,rfl,rfl⟩
 |31,_=>exact⟨rfl,rfl,rfl,rfl⟩
 |k+32,h=>exact absurd h (by omega)
theorem upd_ok (m:MS){r:Int} (h:inR r) (v:Int):updOK (1+r.toNat*1) (Value.int IntKind.u64 v) 0 m.cells=true:=by
 obtain⟨k,hk,rfl⟩:=inR_nat h
 match k,hk with
 |0,_=>rfl
 |1,_=>rfl
 |2,_=>rfl
 |3,_=>rfl
 |4,_=>rfl
 |5,_=>rfl
 |6,_=>rfl
 |7,_=>rfl
 |8,_=>rfl
 |9,_=>rfl
 |10,_=>rfl
 |11,_=>rfl
 |12,_=>rfl
 |13,_=>rfl
 |14,_=>rfl
 |15,_=>rfl
 |16,_=>rfl
 |17,_=>rfl
 |18,_=>rfl
 |19,_=>rfl
 |20,_=>rfl
 |21,_=>rfl
 |22,_=>rfl
 |23,_=>rfl
 |24,_=>rfl
 |25,_=>rfl
 |26,_=>rfl
 |27,_=>rfl
 |28,_=>rfl
 |29,_=>rfl
 |30,_=>rfl
 |31,_=>rfl
 |k+32,h=>exact absurd h (by omega)
theorem uB_of (k:Int):uB (ofF k)=true:=uB_wrap _
def nxt (m:MS):Int:=IntKind.u64.wrap (m.pl+4)
def valF (m:MS) (op:Int) (c:Cand):Option Int :=
 match op with
 |1=>some (doF 1 (m.x c.rs1.toNat) (m.x c.rs2.toNat))
 |2=>some (doF 2 (m.x c.rs1.toNat) (m.x c.rs2.toNat))
 |3=>some (doF 3 (m.x c.rs1.toNat) (m.x c.rs2.toNat))
 |4=>some (doF 4 (m.x c.rs1.toNat) (m.x c.rs2.toNat))
 |5=>some (doF 5 (m.x c.rs1.toNat) (m.x c.rs2.toNat))
 |6=>some (doF 6 (m.x c.rs1.toNat) (m.x c.rs2.toNat))
 |7=>some (doF 7 (m.x c.rs1.toNat) (m.x c.rs2.toNat))
 |8=>some (doF 8 (m.x c.rs1.toNat) (m.x c.rs2.toNat))
 |9=>some (doF 9 (m.x c.rs1.toNat) (m.x c.rs2.toNat))
 |10=>some (doF 10 (m.x c.rs1.toNat) (m.x c.rs2.toNat))
 |11=>some (doF 11 (m.x c.rs1.toNat) (m.x c.rs2.toNat))
 |12=>some (doF 12 (m.x c.rs1.toNat) (m.x c.rs2.toNat))
 |13=>some (doF 13 (m.x c.rs1.toNat) (m.x c.rs2.toNat))
 |14=>some (doF 14 (m.x c.rs1.toNat) (m.x c.rs2.toNat))
 |15=>some (doF 15 (m.x c.rs1.toNat) (m.x c.rs2.toNat))
 |16=>some (doF 16 (m.x c.rs1.toNat) (m.x c.rs2.toNat))
 |17=>some (doF 17 (m.x c.rs1.toNat) (m.x c.rs2.toNat))
 |18=>some (doF 18 (m.x c.rs1.toNat) (m.x c.rs2.toNat))
 |19=>some (doF 19 (m.x c.rs1.toNat) (m.x c.rs2.toNat))
 |20=>some (doF 20 (m.x c.rs1.toNat) (m.x c.rs2.toNat))
 |21=>some (doF 21 (m.x c.rs1.toNat) (m.x c.rs2.toNat))
 |22=>some (doF 22 (m.x c.rs1.toNat) (m.x c.rs2.toNat))
 |23=>some (doF 23 (m.x c.rs1.toNat) (m.x c.rs2.toNat))
 |24=>some (doF 24 (m.x c.rs1.toNat) (m.x c.rs2.toNat))
 |25=>some (doF 25 (m.x c.rs1.toNat) (m.x c.rs2.toNat))
 |26=>some (doF 26 (m.x c.rs1.toNat) (m.x c.rs2.toNat))
 |27=>some (doF 27 (m.x c.rs1.toNat) (m.x c.rs2.toNat))
 |28=>some (doF (plainF 28) (m.x c.rs1.toNat) (ofF c.imm))
 |29=>some (doF (plainF 29) (m.x c.rs1.toNat) (ofF c.imm))
 |30=>some (doF (plainF 30) (m.x c.rs1.toNat) (ofF c.imm))
 |31=>some (doF (plainF 31) (m.x c.rs1.toNat) (ofF c.imm))
 |32=>some (doF (plainF 32) (m.x c.rs1.toNat) (ofF c.imm))
 |33=>some (doF (plainF 33) (m.x c.rs1.toNat) (ofF c.imm))
 |34=>some (doF (plainF 34) (m.x c.rs1.toNat) (ofF c.imm))
 |35=>some (doF (plainF 35) (m.x c.rs1.toNat) (ofF c.imm))
 |36=>some (doF (plainF 36) (m.x c.rs1.toNat) (ofF c.imm))
 |37=>some (doF (plainF 37) (m.x c.rs1.toNat) (ofF c.imm))
 |51=>some (IntKind.u64.wrap (ofF c.imm*4096))
 |52=>some (IntKind.u64.wrap (IntKind.u64.wrap (ofF c.imm*4096)+m.pl))
 |53=>some (nxt m)
 |54=>some (nxt m)
 |_=>none
def nextF (m:MS) (op:Int) (c:Cand):Int :=
 match op with
 |45=>bif takenF 45 (m.x c.rs1.toNat) (m.x c.rs2.toNat)then IntKind.u64.wrap (m.pl+ofF c.imm)else nxt m
 |46=>bif takenF 46 (m.x c.rs1.toNat) (m.x c.rs2.toNat)then IntKind.u64.wrap (m.pl+ofF c.imm)else nxt m
 |47=>bif takenF 47 (m.x c.rs1.toNat) (m.x c.rs2.toNat)then IntKind.u64.wrap (m.pl+ofF c.imm)else nxt m
 |48=>bif takenF 48 (m.x c.rs1.toNat) (m.x c.rs2.toNat)then IntKind.u64.wrap (m.pl+ofF c.imm)else nxt m
 |49=>bif takenF 49 (m.x c.rs1.toNat) (m.x c.rs2.toNat)then IntKind.u64.wrap (m.pl+ofF c.imm)else nxt m
 |50=>bif takenF 50 (m.x c.rs1.toNat) (m.x c.rs2.toNat)then IntKind.u64.wrap (m.pl+ofF c.imm)else nxt m
 |53=>IntKind.u64.wrap (m.pl+ofF c.imm)
 |54=>bits2 .andNot .u64 (IntKind.u64.wrap (m.x c.rs1.toNat+ofF c.imm)) 1
 |_=>nxt m
def putR (x:Nat->Int) (r:Int):Option Int->Nat->Int
 |some v=>setX x r v
 |none=>zeroX x
def stepM (m:MS) (k:KM) (op:Int) (c:Cand):MS:={ m with x:=putR m.x c.rd (valF m op c),pl:=nextF m op c,kn:=k }
def markB (op:Int) (c:Cand):Bool:=op==28&&(c.rd==0&&(c.rs1==0&&(c.rs2==0&&(c.imm==1&&true))))
def markF (op:Int) (c:Cand) (mk:Int):Int:=bif markB op c then IntKind.i64.wrap (mk+1)else mk
abbrev r61:Pj:=⟨[2],[.id 91,.id 92,.id 100],[],[90]⟩
abbrev hp61 (m:MS) (vin vout vs:Value) (mk:Int) (wt:Bool):Hp:=mkH [(90,m.memB),(91,m.kn.blk),(92,m.mB),(100,rB vin vout mk wt vs)]
def St61 (op:Int):Prop:=∀ (m:MS) (c:Cand) (k:KM) (vin vout vs:Value) (mk:Int) (wt:Bool),FetchOK m ⟨op,c,0⟩ k->CandOK c->(∀ j,uB (m.x j)=true) ->
 walk (lookF FL) (sc61 m ⟨op,c,0⟩ k) 1000 x61 (argTm 0 [pR]) (hp61 m vin vout vs mk wt) 103 j0_ r61 j0_ =
  some ⟨⟨[some (true,.bool true)],[(91,some k.blk),(92,some (stepM m k op c).mB),(100,some (rB vin vout (markF op c mk) wt vs))],.ret,105⟩,none⟩
theorem hasH (m:MS) (l:List (Nat × Blk)):Has (mkH (m.H++l)) m.H:=⟨rfl,rfl,rfl,trivial⟩
theorem s61R {q:Int} (h:∀ (m:MS) (c:Cand) (k:KM) (vin vout vs:Value) (mk:Int) (wt:Bool),W61 m c k vin vout vs mk wt q=T61R m c k vin vout vs mk wt q) (hv:∀ (m:MS) (c:Cand),valF m q c=some (doF q (m.x c.rs1.toNat) (m.x c.rs2.toNat))) (hn:∀ (m:MS) (c:Cand),nextF m q c=nxt m) (hm:∀ (c:Cand) (mk:Int),markF q c mk=mk):St61 q:=by
 intro m c k vin vout vs mk wt hf hc hx
 have e:=h m c k vin vout vs mk wt
 unfold T61R at e
 obtain⟨a1,a2,a3,a4⟩:=reg_ok m hc.rs1
 obtain⟨b1,b2,b3,b4⟩:=reg_ok m hc.rs2
 obtain⟨d1,d2,d3,d4⟩:=reg_ok m hc.rd
 rw[decP_true ⟨hasH m [(100,rB vin vout mk wt vs)],hf⟩]at e
 simp only[a1,a2,a3,a4,b1,b2,b3,b4,d1,d3,upd_ok m hc.rd,hx,uB_of,Bool.and_self,Bool.or_false,cond_true]at e
 unfold stepM
 rw[hv,hn,hm]
 exact e
theorem s61I {q:Int} (h:∀ (m:MS) (c:Cand) (k:KM) (vin vout vs:Value) (mk:Int) (wt:Bool),W61 m c k vin vout vs mk wt q=T61I m c k vin vout vs mk wt q) (hv:∀ (m:MS) (c:Cand),valF m q c=some (doF (plainF q) (m.x c.rs1.toNat) (ofF c.imm))) (hn:∀ (m:MS) (c:Cand),nextF m q c=nxt m) (hm:∀ (c:Cand) (mk:Int),markF q c mk=mk):St61 q:=by
 intro m c k vin vout vs mk wt hf hc hx
 have e:=h m c k vin vout vs mk wt
 unfold T61I at e
 obtain⟨a1,a2,a3,a4⟩:=reg_ok m hc.rs1
 obtain⟨d1,d2,d3,d4⟩:=reg_ok m hc.rd
 rw[decP_true ⟨hasH m [(100,rB vin vout mk wt vs)],hf⟩]at e
 simp only[a1,a2,a3,a4,d1,d3,upd_ok m hc.rd,hx,uB_of,Bool.and_self,Bool.or_false,cond_true]at e
 unfold stepM
 rw[hv,hn,hm]
 exact e
theorem s61B {q:Int} (h:∀ (m:MS) (c:Cand) (k:KM) (vin vout vs:Value) (mk:Int) (wt:Bool),W61 m c k vin vout vs mk wt q=T61B m c k vin vout vs mk wt q) (hv:∀ (m:MS) (c:Cand),valF m q c=none) (hn:∀ (m:MS) (c:Cand),nextF m q c=bif takenF q (m.x c.rs1.toNat) (m.x c.rs2.toNat)then IntKind.u64.wrap (m.pl+ofF c.imm)else nxt m) (hm:∀ (c:Cand) (mk:Int),markF q c mk=mk):St61 q:=by
 intro m c k vin vout vs mk wt hf hc hx
 have e:=h m c k vin vout vs mk wt
 unfold T61B at e
 obtain⟨a1,a2,a3,a4⟩:=reg_ok m hc.rs1
 obtain⟨b1,b2,b3,b4⟩:=reg_ok m hc.rs2
 rw[decP_true ⟨hasH m [(100,rB vin vout mk wt vs)],hf⟩]at e
 simp only[a1,a2,a3,a4,b1,b2,b3,b4,hx,uB_of,Bool.and_self,Bool.or_false,cond_true]at e
 cases ht:takenF q (m.x c.rs1.toNat) (m.x c.rs2.toNat)with
 |true=>rw[ht]at e;rw[show stepM m k q c={ m with x:=zeroX m.x,pl:=IntKind.u64.wrap (m.pl+ofF c.imm),kn:=k } from by simp only[stepM,hv,hn,putR,ht,cond_true]];rw[hm];exact e
 |false=>rw[ht]at e;rw[show stepM m k q c={ m with x:=zeroX m.x,pl:=nxt m,kn:=k } from by simp only[stepM,hv,hn,putR,ht,cond_false]];rw[hm];exact e
theorem s61_1:St61 1:=s61R p61_1 (fun _ _=>rfl) (fun _ _=>rfl) fun _ _=>rfl
theorem s61_2:St61 2:=s61R p61_2 (fun _ _=>rfl) (fun _ _=>rfl) fun _ _=>rfl
theorem s61_3:St61 3:=s61R p61_3 (fun _ _=>rfl) (fun _ _=>rfl) fun _ _=>rfl
theorem s61_4:St61 4:=s61R p61_4 (fun _ _=>rfl) (fun _ _=>rfl) fun _ _=>rfl
theorem s61_5:St61 5:=s61R p61_5 (fun _ _=>rfl) (fun _ _=>rfl) fun _ _=>rfl
theorem s61_6:St61 6:=s61R p61_6 (fun _ _=>rfl) (fun _ _=>rfl) fun _ _=>rfl
theorem s61_7:St61 7:=s61R p61_7 (fun _ _=>rfl) (fun _ _=>rfl) fun _ _=>rfl
theorem s61_8:St61 8:=s61R p61_8 (fun _ _=>rfl) (fun _ _=>rfl) fun _ _=>rfl
theorem s61_9:St61 9:=s61R p61_9 (fun _ _=>rfl) (fun _ _=>rfl) fun _ _=>rfl
theorem s61_10:St61 10:=s61R p61_10 (fun _ _=>rfl) (fun _ _=>rfl) fun _ _=>rfl
theorem s61_11:St61 11:=s61R p61_11 (fun _ _=>rfl) (fun _ _=>rfl) fun _ _=>rfl
theorem s61_12:St61 12:=s61R p61_12 (fun _ _=>rfl) (fun _ _=>rfl) fun _ _=>rfl
theorem s61_13:St61 13:=s61R p61_13 (fun _ _=>rfl) (fun _ _=>rfl) fun _ _=>rfl
theorem s61_14:St61 14:=s61R p61_14 (fun _ _=>rfl) (fun _ _=>rfl) fun _ _=>rfl
theorem s61_15:St61 15:=s61R p61_15 (fun _ _=>rfl) (fun _ _=>rfl) fun _ _=>rfl
theorem s61_16:St61 16:=s61R p61_16 (fun _ _=>rfl) (fun _ _=>rfl) fun _ _=>rfl
theorem s61_17:St61 17:=s61R p61_17 (fun _ _=>rfl) (fun _ _=>rfl) fun _ _=>rfl
theorem s61_18:St61 18:=s61R p61_18 (fun _ _=>rfl) (fun _ _=>rfl) fun _ _=>rfl
theorem s61_19:St61 19:=s61R p61_19 (fun _ _=>rfl) (fun _ _=>rfl) fun _ _=>rfl
theorem s61_20:St61 20:=s61R p61_20 (fun _ _=>rfl) (fun _ _=>rfl) fun _ _=>rfl
theorem s61_21:St61 21:=s61R p61_21 (fun _ _=>rfl) (fun _ _=>rfl) fun _ _=>rfl
theorem s61_22:St61 22:=s61R p61_22 (fun _ _=>rfl) (fun _ _=>rfl) fun _ _=>rfl
theorem s61_23:St61 23:=s61R p61_23 (fun _ _=>rfl) (fun _ _=>rfl) fun _ _=>rfl
theorem s61_24:St61 24:=s61R p61_24 (fun _ _=>rfl) (fun _ _=>rfl) fun _ _=>rfl
theorem s61_25:St61 25:=s61R p61_25 (fun _ _=>rfl) (fun _ _=>rfl) fun _ _=>rfl
theorem s61_26:St61 26:=s61R p61_26 (fun _ _=>rfl) (fun _ _=>rfl) fun _ _=>rfl
theorem s61_27:St61 27:=s61R p61_27 (fun _ _=>rfl) (fun _ _=>rfl) fun _ _=>rfl
theorem s61_28:St61 28:=by
 intro m c k vin vout vs mk wt hf hc hx
 have e:=p61_28 m c k vin vout vs mk wt
 obtain⟨a1,a2,a3,a4⟩:=reg_ok m hc.rs1
 obtain⟨d1,d2,d3,d4⟩:=reg_ok m hc.rd
 rw[decP_true ⟨hasH m [(100,rB vin vout mk wt vs)],hf⟩]at e
 simp only[a1,a2,a3,a4,d1,d3,upd_ok m hc.rd,hx,uB_of,Bool.and_self,Bool.or_false,cond_true]at e
 cases hm:(c.rd==0&&(c.rs1==0&&(c.rs2==0&&(c.imm==1&&true))))with
 |true=>rw[hm]at e;rw[show markF 28 c mk=IntKind.i64.wrap (mk+1) from by unfold markF markB;rw[hm];rfl];exact e
 |false=>rw[hm]at e;rw[show markF 28 c mk=mk from by unfold markF markB;rw[hm];rfl];exact e
theorem s61_29:St61 29:=s61I p61_29 (fun _ _=>rfl) (fun _ _=>rfl) fun _ _=>rfl
theorem s61_30:St61 30:=s61I p61_30 (fun _ _=>rfl) (fun _ _=>rfl) fun _ _=>rfl
theorem s61_31:St61 31:=s61I p61_31 (fun _ _=>rfl) (fun _ _=>rfl) fun _ _=>rfl
theorem s61_32:St61 32:=s61I p61_32 (fun _ _=>rfl) (fun _ _=>rfl) fun _ _=>rfl
theorem s61_33:St61 33:=s61I p61_33 (fun _ _=>rfl) (fun _ _=>rfl) fun _ _=>rfl
theorem s61_34:St61 34:=s61I p61_34 (fun _ _=>rfl) (fun _ _=>rfl) fun _ _=>rfl
theorem s61_35:St61 35:=s61I p61_35 (fun _ _=>rfl) (fun _ _=>rfl) fun _ _=>rfl
theorem s61_36:St61 36:=s61I p61_36 (fun _ _=>rfl) (fun _ _=>rfl) fun _ _=>rfl
theorem s61_37:St61 37:=s61I p61_37 (fun _ _=>rfl) (fun _ _=>rfl) fun _ _=>rfl
theorem s61_45:St61 45:=s61B p61_45 (fun _ _=>rfl) (fun _ _=>rfl) fun _ _=>rfl
theorem s61_46:St61 46:=s61B p61_46 (fun _ _=>rfl) (fun _ _=>rfl) fun _ _=>rfl
theorem s61_47:St61 47:=s61B p61_47 (fun _ _=>rfl) (fun _ _=>rfl) fun _ _=>rfl
theorem s61_48:St61 48:=s61B p61_48 (fun _ _=>rfl) (fun _ _=>rfl) fun _ _=>rfl
theorem s61_49:St61 49:=s61B p61_49 (fun _ _=>rfl) (fun _ _=>rfl) fun _ _=>rfl
theorem s61_50:St61 50:=s61B p61_50 (fun _ _=>rfl) (fun _ _=>rfl) fun _ _=>rfl
theorem s61_51:St61 51:=by
 intro m c k vin vout vs mk wt hf hc hx
 have e:=p61_51 m c k vin vout vs mk wt
 obtain⟨a1,a2,a3,a4⟩:=reg_ok m hc.rs1
 obtain⟨d1,d2,d3,d4⟩:=reg_ok m hc.rd
 rw[decP_true ⟨hasH m [(100,rB vin vout mk wt vs)],hf⟩]at e
 simp only[a1,a2,a3,a4,d1,d3,upd_ok m hc.rd,hx,uB_of,Bool.and_self,Bool.or_false,cond_true]at e
 exact e
theorem s61_52:St61 52:=by
 intro m c k vin vout vs mk wt hf hc hx
 have e:=p61_52 m c k vin vout vs mk wt
 obtain⟨a1,a2,a3,a4⟩:=reg_ok m hc.rs1
 obtain⟨d1,d2,d3,d4⟩:=reg_ok m hc.rd
 rw[decP_true ⟨hasH m [(100,rB vin vout mk wt vs)],hf⟩]at e
 simp only[a1,a2,a3,a4,d1,d3,upd_ok m hc.rd,hx,uB_of,Bool.and_self,Bool.or_false,cond_true]at e
 exact e
theorem s61_53:St61 53:=by
 intro m c k vin vout vs mk wt hf hc hx
 have e:=p61_53 m c k vin vout vs mk wt
 obtain⟨a1,a2,a3,a4⟩:=reg_ok m hc.rs1
 obtain⟨d1,d2,d3,d4⟩:=reg_ok m hc.rd
 rw[decP_true ⟨hasH m [(100,rB vin vout mk wt vs)],hf⟩]at e
 simp only[a1,a2,a3,a4,d1,d3,upd_ok m hc.rd,hx,uB_of,Bool.and_self,Bool.or_false,cond_true]at e
 exact e
theorem s61_54:St61 54:=by
 intro m c k vin vout vs mk wt hf hc hx
 have e:=p61_54 m c k vin vout vs mk wt
 obtain⟨a1,a2,a3,a4⟩:=reg_ok m hc.rs1
 obtain⟨d1,d2,d3,d4⟩:=reg_ok m hc.rd
 rw[decP_true ⟨hasH m [(100,rB vin vout mk wt vs)],hf⟩]at e
 simp only[a1,a2,a3,a4,d1,d3,upd_ok m hc.rd,hx,uB_of,Bool.and_self,Bool.or_false,cond_true]at e
 exact e
def plainB (op:Int):Bool:=decide (1<=op)&&decide (op<=37)||decide (45<=op)&&decide (op<=54)
theorem s61 {op:Int} (h:plainB op=true):St61 op:=by
 simp only[plainB,Bool.or_eq_true,Bool.and_eq_true,decide_eq_true_eq]at h
 obtain⟨k,rfl⟩:∃ k:Nat,op=Int.ofNat k:=⟨op.toNat,by simp;omega⟩
 have h:(1<=k/\k<=37)\/(45<=k/\k<=54):=by simp only[Int.ofNat_eq_natCast]at h;omega
 match k,h with
 |0,h=>exact absurd h (by omega)
 |1,_=>exact s61_1
 |2,_=>exact s61_2
 |3,_=>exact s61_3
 |4,_=>exact s61_4
 |5,_=>exact s61_5
 |6,_=>exact s61_6
 |7,_=>exact s61_7
 |8,_=>exact s61_8
 |9,_=>exact s61_9
 |10,_=>exact s61_10
 |11,_=>exact s61_11
 |12,_=>exact s61_12
 |13,_=>exact s61_13
 |14,_=>exact s61_14
 |15,_=>exact s61_15
 |16,_=>exact s61_16
 |17,_=>exact s61_17
 |18,_=>exact s61_18
 |19,_=>exact s61_19
 |20,_=>exact s61_20
 |21,_=>exact s61_21
 |22,_=>exact s61_22
 |23,_=>exact s61_23
 |24,_=>exact s61_24
 |25,_=>exact s61_25
 |26,_=>exact s61_26
 |27,_=>exact s61_27
 |28,_=>exact s61_28
 |29,_=>exact s61_29
 |30,_=>exact s61_30
 |31,_=>exact s61_31
 |32,_=>exact s61_32
 |33,_=>exact s61_33
 |34,_=>exact s61_34
 |35,_=>exact s61_35
 |36,_=>exact s61_36
 |37,_=>exact s61_37
 |38,h=>exact absurd h (by omega)
 |39,h=>exact absurd h (by omega)
 |40,h=>exact absurd h (by omega)
 |41,h=>exact absurd h (by omega)
 |42,h=>exact absurd h (by omega)
 |43,h=>exact absurd h (by omega)
 |44,h=>exact absurd h (by omega)
 |45,_=>exact s61_45
 |46,_=>exact s61_46
 |47,_=>exact s61_47
 |48,_=>exact s61_48
 |49,_=>exact s61_49
 |50,_=>exact s61_50
 |51,_=>exact s61_51
 |52,_=>exact s61_52
 |53,_=>exact s61_53
 |54,_=>exact s61_54
 |k+55,h=>exact absurd h (by omega)
def xAt (x:Nat->Int) (i:Nat) (v:Int):Nat->Int:=fun j=>bif Nat.beq j i then v else x j
def MS.a7 (m:MS) (v:Int):MS:={ m with x:=xAt m.x 17 v }
abbrev newS (n l:Nat):Value:=.slice (some ⟨n,0,none⟩) l l
def Call0 (f:FuncId) (vs:List Value) (pre:List (Nat × Blk)) (ret:Bool) (me:Blk) (m2:MS) (vin vout se:Value) (mk:Int) (wt:Bool):Prop :=
 nodupB (pre.map (·.1))=true/\∀ n,103<=n->ADet Try.prog f vs (mkH pre) (.bool ret) [(90,some me),(92,some m2.mB),(100,some (rB vin vout mk wt se))] n 0
noncomputable def conC0 (f:FuncId) (vs0:List Value) (pre:List (Nat × Blk)) (ret:Bool) (me:Blk) (m2:MS) (vin vout se:Value) (mk:Int) (wt:Bool):Con Try.prog where
 f:=f
 run:=fun vs h n=>some (mkH pre,.bool ret,[(90,some me),(92,some m2.mB),(100,some (rB vin vout mk wt se))],0,decP (vs=vs0/\Has h pre/\Call0 f vs0 pre ret me m2 vin vout se mk wt)&&Nat.ble 103 n)
 ok:=fun vs h n pre' v upd news hx=>by
  simp only[Option.some.injEq,Prod.mk.injEq,Bool.and_eq_true]at hx
  obtain⟨rfl,rfl,rfl,rfl,hA,hn⟩:=hx
  obtain⟨rfl,hh,hc⟩:=of_decP hA
  exact⟨has_pre hh hc.1,hc.2 n (ble_le hn)⟩
def CallO (pre:List (Nat × Blk)) (m2:MS) (vin se:Value) (l:Nat) (b:Blk) (mk:Int) (wt:Bool):Prop :=
 nodupB (pre.map (·.1))=true/\∀ n,103<=n->ADet Try.prog 63 [pR] (mkH pre) (.bool true) [(n,some b),(92,some m2.mB),(100,some (rB vin (newS n l) mk wt se)),(101,none)] n 1
noncomputable def conO (pre:List (Nat × Blk)) (m2:MS) (vin se:Value) (l:Nat) (b:Blk) (mk:Int) (wt:Bool):Con Try.prog where
 f:=63
 run:=fun vs h n=>some (mkH pre,.bool true,[(n,some b),(92,some m2.mB),(100,some (rB vin (newS n l) mk wt se)),(101,none)],1,decP (vs=[pR]/\Has h pre/\CallO pre m2 vin se l b mk wt)&&Nat.ble 103 n)
 ok:=fun vs h n pre' v upd news hx=>by
  simp only[Option.some.injEq,Prod.mk.injEq,Bool.and_eq_true]at hx
  obtain⟨rfl,rfl,rfl,rfl,hA,hn⟩:=hx
  obtain⟨rfl,hh,hc⟩:=of_decP hA
  exact⟨has_pre hh hc.1,hc.2 n (ble_le hn)⟩
def CallS (i:Ans) (pre:List (Nat × Blk)) (me:Blk) (m2:MS) (vin vout:Value) (l:Nat) (b:Blk) (mk:Int) (wt:Bool):Prop :=
 nodupB (pre.map (·.1))=true/\∀ n,103<=n->ADet Try.prog 61 [pR,i.i] (mkH pre) (.bool true) [(n,some b),(90,some me),(92,some m2.mB),(100,some (rB vin vout mk wt (newS n l))),(102,none)] n 1
noncomputable def conS (i:Ans) (pre:List (Nat × Blk)) (me:Blk) (m2:MS) (vin vout:Value) (l:Nat) (b:Blk) (mk:Int) (wt:Bool):Con Try.prog where
 f:=61
 run:=fun vs h n=>some (mkH pre,.bool true,[(n,some b),(90,some me),(92,some m2.mB),(100,some (rB vin vout mk wt (newS n l))),(102,none)],1,decP (vs=[pR,i.i]/\Has h pre/\CallS i pre me m2 vin vout l b mk wt)&&Nat.ble 103 n)
 ok:=fun vs h n pre' v upd news hx=>by
  simp only[Option.some.injEq,Prod.mk.injEq,Bool.and_eq_true]at hx
  obtain⟨rfl,rfl,rfl,rfl,hA,hn⟩:=hx
  obtain⟨rfl,hh,hc⟩:=of_decP hA
  exact⟨has_pre hh hc.1,hc.2 n (ble_le hn)⟩
noncomputable abbrev scC0 (m:MS) (i:Ans) (k:KM) (f:FuncId) (vs0:List Value) (pre:List (Nat × Blk)) (ret:Bool) (me:Blk) (m2:MS) (vin vout se:Value) (mk:Int) (wt:Bool):Short :=
 scOf [con72 m i k,con73,con74,conC0 f vs0 pre ret me m2 vin vout se mk wt]
noncomputable abbrev scO (m:MS) (i:Ans) (k:KM) (pre:List (Nat × Blk)) (m2:MS) (vin se:Value) (l:Nat) (b:Blk) (mk:Int) (wt:Bool):Short :=
 scOf [con72 m i k,con73,con74,conO pre m2 vin se l b mk wt]
noncomputable abbrev scS (m:MS) (i:Ans) (k:KM) (pre:List (Nat × Blk)) (me:Blk) (m2:MS) (vin vout:Value) (l:Nat) (b:Blk) (mk:Int) (wt:Bool):Short :=
 scOf [con72 m i k,con73,con74,conS i pre me m2 vin vout l b mk wt]
def hC (i:Ans) (k:KM) (base:Hp):Hp:=(104,some i.b) :: (104,some var0) :: (103,some i.b) :: (91,some k.blk) :: base
theorem p61c_n (m m2:MS) (c:Cand) (k:KM) (vin vout se vin2 vout2:Value) (mk:Int) (wt ret:Bool) (pre:List (Nat × Blk)) (b me:Blk):walk (lookF FL) (scC0 m (Ans.mk 55 c 0) k 63 [pR] pre ret m.memB m2 vin2 vout2 se mk wt) 1000 x61 (argTm 0 [pR]) (mkH [(90,m.memB),(91,m.kn.blk),(92,m.mB),(100,rB vin vout mk wt se)]) 103 j0_ (Pj.mk [2] [Ref.id 90,Ref.id 91,Ref.id 92,Ref.id 100] [] []) j0_=bif decP (Has (mkH [(90,m.memB),(91,m.kn.blk),(92,m.mB),(100,rB vin vout mk wt se)]) m.H/\FetchOK m (Ans.mk 55 c 0) k)&&true&&true then bif ((1+c.rs1.toNat*1).blt m.cells.length&&rdB m c.rs1&&true||false)&&((intRange c.rs1 32&&true||false)&&true)then bif decP ([pR]=[pR]/\Has (hC (Ans.mk 55 c 0) k (mkH [(90,m.memB),(91,m.kn.blk),(92,m.mB),(100,rB vin vout mk wt se)])) pre/\Call0 63 [pR] pre ret m.memB m2 vin2 vout2 se mk wt)&&true&&true then bif ret then some (Stop.mk (Leaf.mk [some (true,Value.bool ret)] [(90,some m.memB),(91,some k.blk),(92,some (plM m2 (IntKind.u64.wrap (m.pl+4)))),(100,some (rB (vin2) (vout2) mk wt (se)))] Exit.ret 105) none)else some (Stop.mk (Leaf.mk [some (true,Value.bool ret)] [(90,some m.memB),(91,some k.blk),(92,some (m2.mB)),(100,some (rB (vin2) (vout2) mk wt (se)))] Exit.ret 105) none)else none else none else none:=by kernel_rfl
theorem p61c_i (m m2:MS) (c:Cand) (k:KM) (vin vout se vin2 vout2:Value) (mk:Int) (wt ret:Bool) (pre:List (Nat × Blk)) (b me:Blk):walk (lookF FL) (scC0 m (Ans.mk 55 c 0) k 63 [pR] pre ret m.memB m2 vin2 vout2 se mk wt) 1000 x61 (argTm 0 [pR]) (mkH [(90,m.memB),(91,m.kn.blk),(92,m.mB),(100,rB vin vout mk wt se),(40,b)]) 103 j0_ (Pj.mk [2] [Ref.id 90,Ref.id 91,Ref.id 92,Ref.id 100] [] [40]) j0_=bif decP (Has (mkH [(90,m.memB),(91,m.kn.blk),(92,m.mB),(100,rB vin vout mk wt se),(40,b)]) m.H/\FetchOK m (Ans.mk 55 c 0) k)&&true&&true then bif ((1+c.rs1.toNat*1).blt m.cells.length&&rdB m c.rs1&&true||false)&&((intRange c.rs1 32&&true||false)&&true)then bif decP ([pR]=[pR]/\Has (hC (Ans.mk 55 c 0) k (mkH [(90,m.memB),(91,m.kn.blk),(92,m.mB),(100,rB vin vout mk wt se),(40,b)])) pre/\Call0 63 [pR] pre ret m.memB m2 vin2 vout2 se mk wt)&&true&&true then bif ret then some (Stop.mk (Leaf.mk [some (true,Value.bool ret)] [(90,some m.memB),(91,some k.blk),(92,some (plM m2 (IntKind.u64.wrap (m.pl+4)))),(100,some (rB (vin2) (vout2) mk wt (se)))] Exit.ret 105) none)else some (Stop.mk (Leaf.mk [some (true,Value.bool ret)] [(90,some m.memB),(91,some k.blk),(92,some (m2.mB)),(100,some (rB (vin2) (vout2) mk wt (se)))] Exit.ret 105) none)else none else none else none:=by kernel_rfl
theorem p61o_n (m m2:MS) (c:Cand) (k:KM) (vin vout se:Value) (mk:Int) (wt:Bool) (pre:List (Nat × Blk)) (b b2:Blk) (l:Nat):walk (lookF FL) (scO m (Ans.mk 55 c 0) k pre m2 vin se l b2 mk wt) 1000 x61 (argTm 0 [pR]) (mkH [(90,m.memB),(91,m.kn.blk),(92,m.mB),(100,rB vin vout mk wt se)]) 103 j0_ (Pj.mk [2] [Ref.id 91,Ref.id 92,Ref.id 100,Ref.cell 100 2] [] [90]) j0_=bif decP (Has (mkH [(90,m.memB),(91,m.kn.blk),(92,m.mB),(100,rB vin vout mk wt se)]) m.H/\FetchOK m (Ans.mk 55 c 0) k)&&true&&true then bif ((1+c.rs1.toNat*1).blt m.cells.length&&rdB m c.rs1&&true||false)&&((intRange c.rs1 32&&true||false)&&true)then bif decP ([pR]=[pR]/\Has (hC (Ans.mk 55 c 0) k (mkH [(90,m.memB),(91,m.kn.blk),(92,m.mB),(100,rB vin vout mk wt se)])) pre/\CallO pre m2 vin se l b2 mk wt)&&true&&true then some (Stop.mk (Leaf.mk [some (true,Value.bool true)] [(91,some k.blk),(92,some (plM m2 (IntKind.u64.wrap (m.pl+4)))),(100,some (rB (vin) (Value.slice (some (Addr.mk 105 0 none)) l l) mk wt (se))),(105,some b2)] Exit.ret 106) none)else none else none else none:=by kernel_rfl
theorem p61o_b (m m2:MS) (c:Cand) (k:KM) (vin vout se:Value) (mk:Int) (wt:Bool) (pre:List (Nat × Blk)) (b b2:Blk) (l:Nat):walk (lookF FL) (scO m (Ans.mk 55 c 0) k pre m2 vin se l b2 mk wt) 1000 x61 (argTm 0 [pR]) (mkH [(90,m.memB),(91,m.kn.blk),(92,m.mB),(100,rB vin vout mk wt se),(101,b)]) 103 j0_ (Pj.mk [2] [Ref.id 91,Ref.id 92,Ref.id 100,Ref.cell 100 2] [] [90]) j0_=bif decP (Has (mkH [(90,m.memB),(91,m.kn.blk),(92,m.mB),(100,rB vin vout mk wt se),(101,b)]) m.H/\FetchOK m (Ans.mk 55 c 0) k)&&true&&true then bif ((1+c.rs1.toNat*1).blt m.cells.length&&rdB m c.rs1&&true||false)&&((intRange c.rs1 32&&true||false)&&true)then bif decP ([pR]=[pR]/\Has (hC (Ans.mk 55 c 0) k (mkH [(90,m.memB),(91,m.kn.blk),(92,m.mB),(100,rB vin vout mk wt se),(101,b)])) pre/\CallO pre m2 vin se l b2 mk wt)&&true&&true then some (Stop.mk (Leaf.mk [some (true,Value.bool true)] [(91,some k.blk),(92,some (plM m2 (IntKind.u64.wrap (m.pl+4)))),(100,some (rB (vin) (Value.slice (some (Addr.mk 105 0 none)) l l) mk wt (se))),(105,some b2)] Exit.ret 106) none)else none else none else none:=by kernel_rfl
end Go.X
