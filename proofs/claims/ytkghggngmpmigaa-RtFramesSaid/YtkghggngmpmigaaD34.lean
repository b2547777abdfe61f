import Derived.Test.YtkghggngmpmigaaD33
set_option linter.all false
namespace Go.X
open Go Go.Proofs
def plainF (op:Int):Int :=
 match op with
 |28=>1
 |29=>4
 |30=>5
 |31=>6
 |32=>9
 |33=>10
 |34=>3
 |35=>7
 |36=>8
 |_=>18
theorem p75_28:execC (lookF FL) noSc 1000 x75 (argTm 0 [.int .i64 28]) [] 100 (valK [2])=some [.int .i64 1]:=by kernel_rfl
theorem p75_29:execC (lookF FL) noSc 1000 x75 (argTm 0 [.int .i64 29]) [] 100 (valK [2])=some [.int .i64 4]:=by kernel_rfl
theorem p75_30:execC (lookF FL) noSc 1000 x75 (argTm 0 [.int .i64 30]) [] 100 (valK [2])=some [.int .i64 5]:=by kernel_rfl
theorem p75_31:execC (lookF FL) noSc 1000 x75 (argTm 0 [.int .i64 31]) [] 100 (valK [2])=some [.int .i64 6]:=by kernel_rfl
theorem p75_32:execC (lookF FL) noSc 1000 x75 (argTm 0 [.int .i64 32]) [] 100 (valK [2])=some [.int .i64 9]:=by kernel_rfl
theorem p75_33:execC (lookF FL) noSc 1000 x75 (argTm 0 [.int .i64 33]) [] 100 (valK [2])=some [.int .i64 10]:=by kernel_rfl
theorem p75_34:execC (lookF FL) noSc 1000 x75 (argTm 0 [.int .i64 34]) [] 100 (valK [2])=some [.int .i64 3]:=by kernel_rfl
theorem p75_35:execC (lookF FL) noSc 1000 x75 (argTm 0 [.int .i64 35]) [] 100 (valK [2])=some [.int .i64 7]:=by kernel_rfl
theorem p75_36:execC (lookF FL) noSc 1000 x75 (argTm 0 [.int .i64 36]) [] 100 (valK [2])=some [.int .i64 8]:=by kernel_rfl
theorem p75_37:execC (lookF FL) noSc 1000 x75 (argTm 0 [.int .i64 37]) [] 100 (valK [2])=some [.int .i64 18]:=by kernel_rfl
theorem c75 {op:Int} (h1:28<=op) (h2:op<=37) (n:Nat):ADet Try.prog 60 [.int .i64 op] [] (.int .i64 (plainF op)) [] n 0:=by
 obtain⟨k,rfl⟩:∃ k:Nat,op=Int.ofNat k:=⟨op.toNat,by simp;omega⟩
 match k,h1,h2 with
 |28,_,_=>exact adet_tree FOK 1000 fx75 (by simp) [2] p75_28 rfl rfl rfl rfl n
 |29,_,_=>exact adet_tree FOK 1000 fx75 (by simp) [2] p75_29 rfl rfl rfl rfl n
 |30,_,_=>exact adet_tree FOK 1000 fx75 (by simp) [2] p75_30 rfl rfl rfl rfl n
 |31,_,_=>exact adet_tree FOK 1000 fx75 (by simp) [2] p75_31 rfl rfl rfl rfl n
 |32,_,_=>exact adet_tree FOK 1000 fx75 (by simp) [2] p75_32 rfl rfl rfl rfl n
 |33,_,_=>exact adet_tree FOK 1000 fx75 (by simp) [2] p75_33 rfl rfl rfl rfl n
 |34,_,_=>exact adet_tree FOK 1000 fx75 (by simp) [2] p75_34 rfl rfl rfl rfl n
 |35,_,_=>exact adet_tree FOK 1000 fx75 (by simp) [2] p75_35 rfl rfl rfl rfl n
 |36,_,_=>exact adet_tree FOK 1000 fx75 (by simp) [2] p75_36 rfl rfl rfl rfl n
 |37,_,_=>exact adet_tree FOK 1000 fx75 (by simp) [2] p75_37 rfl rfl rfl rfl n
 |0,h1,_=>exact absurd h1 (by decide)
 |1,h1,_=>exact absurd h1 (by decide)
 |2,h1,_=>exact absurd h1 (by decide)
 |3,h1,_=>exact absurd h1 (by decide)
 |4,h1,_=>exact absurd h1 (by decide)
 |5,h1,_=>exact absurd h1 (by decide)
 |6,h1,_=>exact absurd h1 (by decide)
 |7,h1,_=>exact absurd h1 (by decide)
 |8,h1,_=>exact absurd h1 (by decide)
 |9,h1,_=>exact absurd h1 (by decide)
 |10,h1,_=>exact absurd h1 (by decide)
 |11,h1,_=>exact absurd h1 (by decide)
 |12,h1,_=>exact absurd h1 (by decide)
 |13,h1,_=>exact absurd h1 (by decide)
 |14,h1,_=>exact absurd h1 (by decide)
 |15,h1,_=>exact absurd h1 (by decide)
 |16,h1,_=>exact absurd h1 (by decide)
 |17,h1,_=>exact absurd h1 (by decide)
 |18,h1,_=>exact absurd h1 (by decide)
 |19,h1,_=>exact absurd h1 (by decide)
 |20,h1,_=>exact absurd h1 (by decide)
 |21,h1,_=>exact absurd h1 (by decide)
 |22,h1,_=>exact absurd h1 (by decide)
 |23,h1,_=>exact absurd h1 (by decide)
 |24,h1,_=>exact absurd h1 (by decide)
 |25,h1,_=>exact absurd h1 (by decide)
 |26,h1,_=>exact absurd h1 (by decide)
 |27,h1,_=>exact absurd h1 (by decide)
 |k+38,_,h2=>exact absurd h2 (by simp;omega)
def con75:Con Try.prog where
 f:=60
 run:=fun vs _ _=>match vs with
  |[.int .i64 op]=>some ([],.int .i64 (plainF op),[],0,decide (28<=op)&&decide (op<=37))
  |_=>none
 ok:=fun vs h n pre v upd news hx=>by
  split at hx
  ·simp only[Option.some.injEq,Prod.mk.injEq,Bool.and_eq_true,decide_eq_true_eq]at hx
   obtain⟨rfl,rfl,rfl,rfl,h1,h2⟩:=hx
   exact⟨fun id hid=>by simp[fstL]at hid,c75 h1 h2 n⟩
  ·cases hx
def conNo (f:FuncId) (v:Value):Con Try.prog where
 f:=f
 run:=fun _ _ _=>some ([],v,[],0,false)
 ok:=fun vs h n pre v upd news hx=>by simp at hx
structure FetchOK (m:MS) (i:Ans) (k:KM):Prop where
 sz:szB m.sz=true
 pl:uB m.pl=true
 at_:plB m.sz m.pl 4=true
 u:DecU (w32 m)
 kn:m.kn.OK
 is:decA (w32 m)=i
 k:m.kn'=k
 err:i.err=0
noncomputable def con72 (m:MS) (i:Ans) (k:KM):Con Try.prog where
 f:=57
 run:=fun vs h n=>match vs with
  |[.pointer (some ⟨92,0,some 0⟩)]=>some (mkH m.H,.tuple ⟨[i.i,.bool true]⟩,[(n,some i.b),(91,some k.blk)],1,decP (Has h m.H/\FetchOK m i k)&&Nat.ble 100 n)
  |_=>none
 ok:=fun vs h n pre v upd news hx=>by
  split at hx
  ·simp only[Option.some.injEq,Prod.mk.injEq,Bool.and_eq_true]at hx
   obtain⟨rfl,rfl,rfl,rfl,hA,hn⟩:=hx
   obtain⟨hh,ho⟩:=of_decP hA
   refine⟨has_pre hh rfl,?_⟩
   have:=c72 m ho.sz ho.pl ho.at_ ho.u ho.kn (ble_le hn)
   rw[ho.is,ho.k,ho.err]at this
   exact this
  ·cases hx
def FetchNo (m:MS) (i:Ans):Prop:=szB m.sz=true/\uB m.pl=true/\((plB m.sz m.pl 4=false/\i=ans0)\/(plB m.sz m.pl 4=true/\DecU (w32 m)/\m.kn.OK/\decA (w32 m)=i/\i.err≠0))
theorem c72n {m:MS}{i:Ans} (h:FetchNo m i){n:Nat} (hn:100<=n):ADet Try.prog 57 [pM] (mkH m.H) (.tuple ⟨[i.i,.bool false]⟩) [(n,some i.b),(91,some m.kn.blk)] n 1:=by
 obtain⟨hs,hp,⟨hb,rfl⟩|⟨hb,hu,hk,rfl,he⟩⟩:=h
 ·have e:=p72n m
  rw[decP_true (has_83 m),hs,hp,hb]at e
  simp only[Bool.and_self,Bool.not_false,cond_true]at e
  refine adet_new1 (pre:=m.H) (b:=ans0.b) ?_ hn rfl ⟨bis_mem,bis_kn,rfl,trivial⟩ rfl rfl rfl (fun d=>rfl) (fun d=>rfl) (fun d=>⟨bis_kn,bis_mem,trivial,rfl,trivial⟩) (fun d=>⟨rfl,rfl⟩)
  exact body_walk (FOK72n m) fx72 (by simp) e rfl ⟨mkT [3,2] [.bool false,.pointer (some ⟨100,0,some 0⟩)],mkH [(100,var0),(90,m.memB),(91,m.kn.blk),(92,m.mB)],101⟩
   (fun ρ w hd=>⟨_,_,_,rfl,rfl,⟨rfl,rfl,trivial⟩,rfl,bis_mem,bis_kn,rfl,trivial⟩) ⟨rfl,rfl,rfl,trivial,rfl,trivial⟩ rfl rfl
 ·have h:=c72 m hs hp hb hu hk hn
  have g:((decA (w32 m)).err != 0)=true:=by simpa using he
  have g':((decA (w32 m)).err==0)=false:=by simpa using he
  have:m.kn'=m.kn:=by unfold MS.kn';rw[g];simp
  rw[this,g']at h
  exact h
noncomputable def con72n (m:MS) (i:Ans):Con Try.prog where
 f:=57
 run:=fun vs h n=>match vs with
  |[.pointer (some ⟨92,0,some 0⟩)]=>some (mkH m.H,.tuple ⟨[i.i,.bool false]⟩,[(n,some i.b),(91,some m.kn.blk)],1,decP (Has h m.H/\FetchNo m i)&&Nat.ble 100 n)
  |_=>none
 ok:=fun vs h n pre v upd news hx=>by
  split at hx
  ·simp only[Option.some.injEq,Prod.mk.injEq,Bool.and_eq_true]at hx
   obtain⟨rfl,rfl,rfl,rfl,hA,hn⟩:=hx
   obtain⟨hh,ho⟩:=of_decP hA
   exact⟨has_pre hh rfl,c72n ho (ble_le hn)⟩
  ·cases hx
def rB (vin vout:Value) (mk:Int) (wt:Bool) (vseen:Value):Blk:=.var [pM,vin,vout,.int .i64 mk,.bool wt,vseen]
noncomputable abbrev sc61 (m:MS) (i:Ans) (k:KM):Short:=scOf [con72 m i k,con73,con74,con75,con77,conNo 61 (.bool false),conNo 63 (.bool false)]
noncomputable abbrev sc61n (m:MS) (i:Ans):Short:=scOf [con72n m i]
theorem FOK61 (m:MS) (i:Ans) (k:KM):FnsOK Try.prog (lookF FL) (sc61 m i k):=fok FOK _
theorem FOK61n (m:MS) (i:Ans):FnsOK Try.prog (lookF FL) (sc61n m i):=fok FOK _
def rdX (m:MS) (r:Int):Int:=asI (([.slice (some ⟨90,0,none⟩) m.sz m.sz]++regs m.x++[.int .u64 m.pl,.int .i64 m.st,.int .u8 m.cd,.map (some 91)]:List Value).getD (1+r.toNat*1) undefd)
def rdB (m:MS) (r:Int):Bool:=isI .u64 (([.slice (some ⟨90,0,none⟩) m.sz m.sz]++regs m.x++[.int .u64 m.pl,.int .i64 m.st,.int .u8 m.cd,.map (some 91)]:List Value).getD (1+r.toNat*1) undefd)
def MS.cells (m:MS):List Value:=[.slice (some ⟨90,0,none⟩) m.sz m.sz]++regs m.x++[.int .u64 m.pl,.int .i64 m.st,.int .u8 m.cd,.map (some 91)]
def setX (x:Nat->Int) (r v:Int):Nat->Int:=fun j=>bif Nat.beq j 0 then 0 else bif Nat.beq (j+1) (1+r.toNat*1)then v else x j
def zeroX (x:Nat->Int):Nat->Int:=fun j=>bif Nat.beq j 0 then 0 else x j
def wrM (m:MS) (r v p:Int):Blk:=MS.mB { m with x:=setX m.x r v,pl:=p }
def plM (m:MS) (p:Int):Blk:=MS.mB { m with x:=zeroX m.x,pl:=p }
abbrev H61 (m:MS) (vin vout vs:Value) (mk:Int) (wt:Bool):Hp:=mkH [(90,m.memB),(91,m.kn.blk),(92,m.mB),(100,rB vin vout mk wt vs)]
noncomputable abbrev W61 (m:MS) (c:Cand) (k:KM) (vin vout vs:Value) (mk:Int) (wt:Bool) (q:Int):Option Stop:=walk (lookF FL) (sc61 m (Ans.mk q c 0) k) 1000 x61 (argTm 0 [pR]) (H61 m vin vout vs mk wt) 103 j0_ (Pj.mk [2] [Ref.id 91,Ref.id 92,Ref.id 100] [] [90]) j0_
noncomputable abbrev T61R (m:MS) (c:Cand) (k:KM) (vin vout vs:Value) (mk:Int) (wt:Bool) (q:Int):Option Stop:=bif decP (Has (mkH m.H) m.H/\FetchOK m (Ans.mk q c 0) k)&&true&&true then bif ((1+c.rs1.toNat*1).blt m.cells.length&&rdB m c.rs1&&true||false)&&((intRange c.rs1 32&&true||false)&&true)then bif (1+c.rd.toNat*1).blt m.cells.length&&updOK (1+c.rd.toNat*1) (Value.int IntKind.u64 (doF q (rdX m c.rs1) (rdX m c.rs2))) 0 m.cells&&true&&((intRange c.rd 32&&true||false)&&((uB (rdX m c.rs2)||false)&&(((1+c.rs2.toNat*1).blt m.cells.length&&rdB m c.rs2&&true||false)&&((intRange c.rs2 32&&true||false)&&true))))then some (Stop.mk (Leaf.mk [some (true,Value.bool true)] [(91,some k.blk),(92,some (wrM m c.rd (doF q (rdX m c.rs1) (rdX m c.rs2)) (IntKind.u64.wrap (m.pl+4)))),(100,some (rB vin vout mk wt vs))] Exit.ret 105) none)else none else none else none
noncomputable abbrev T61I (m:MS) (c:Cand) (k:KM) (vin vout vs:Value) (mk:Int) (wt:Bool) (q:Int):Option Stop:=bif decP (Has (mkH m.H) m.H/\FetchOK m (Ans.mk q c 0) k)&&true&&true then bif ((1+c.rs1.toNat*1).blt m.cells.length&&rdB m c.rs1&&true||false)&&((intRange c.rs1 32&&true||false)&&true)then bif (1+c.rd.toNat*1).blt m.cells.length&&updOK (1+c.rd.toNat*1) (Value.int IntKind.u64 (doF (plainF q) (rdX m c.rs1) (ofF c.imm))) 0 m.cells&&true&&((intRange c.rd 32&&true||false)&&((uB (ofF c.imm)||false)&&((true||false)&&true)))then some (Stop.mk (Leaf.mk [some (true,Value.bool true)] [(91,some k.blk),(92,some (wrM m c.rd (doF (plainF q) (rdX m c.rs1) (ofF c.imm)) (IntKind.u64.wrap (m.pl+4)))),(100,some (rB vin vout mk wt vs))] Exit.ret 105) none)else none else none else none
noncomputable abbrev T61B (m:MS) (c:Cand) (k:KM) (vin vout vs:Value) (mk:Int) (wt:Bool) (q:Int):Option Stop:=bif decP (Has (mkH m.H) m.H/\FetchOK m (Ans.mk q c 0) k)&&true&&true then bif ((1+c.rs1.toNat*1).blt m.cells.length&&rdB m c.rs1&&true||false)&&((intRange c.rs1 32&&true||false)&&true)then bif ((1+c.rs2.toNat*1).blt m.cells.length&&rdB m c.rs2&&true||false)&&((intRange c.rs2 32&&true||false)&&true)then bif takenF q (rdX m c.rs1) (rdX m c.rs2)then some (Stop.mk (Leaf.mk [some (true,Value.bool true)] [(91,some k.blk),(92,some (plM m (IntKind.u64.wrap (m.pl+ofF c.imm)))),(100,some (rB vin vout mk wt vs))] Exit.ret 105) none)else some (Stop.mk (Leaf.mk [some (true,Value.bool true)] [(91,some k.blk),(92,some (plM m (IntKind.u64.wrap (m.pl+4)))),(100,some (rB vin vout mk wt vs))] Exit.ret 105) none)else none else none else none
section
variable (m:MS) (c:Cand) (k:KM) (vin vout vs:Value) (mk:Int) (wt:Bool)
theorem p61_1:W61 m c k vin vout vs mk wt 1=T61R m c k vin vout vs mk wt 1:=by kernel_rfl
theorem p61_2:W61 m c k vin vout vs mk wt 2=T61R m c k vin vout vs mk wt 2:=by kernel_rfl
theorem p61_3:W61 m c k vin vout vs mk wt 3=T61R m c k vin vout vs mk wt 3:=by kernel_rfl
theorem p61_4:W61 m c k vin vout vs mk wt 4=T61R m c k vin vout vs mk wt 4:=by kernel_rfl
theorem p61_5:W61 m c k vin vout vs mk wt 5=T61R m c k vin vout vs mk wt 5:=by kernel_rfl
theorem p61_6:W61 m c k vin vout vs mk wt 6=T61R m c k vin vout vs mk wt 6:=by kernel_rfl
theorem p61_7:W61 m c k vin vout vs mk wt 7=T61R m c k vin vout vs mk wt 7:=by kernel_rfl
theorem p61_8:W61 m c k vin vout vs mk wt 8=T61R m c k vin vout vs mk wt 8:=by kernel_rfl
theorem p61_9:W61 m c k vin vout vs mk wt 9=T61R m c k vin vout vs mk wt 9:=by kernel_rfl
theorem p61_10:W61 m c k vin vout vs mk wt 10=T61R m c k vin vout vs mk wt 10:=by kernel_rfl
theorem p61_11:W61 m c k vin vout vs mk wt 11=T61R m c k vin vout vs mk wt 11:=by kernel_rfl
theorem p61_12:W61 m c k vin vout vs mk wt 12=T61R m c k vin vout vs mk wt 12:=by kernel_rfl
theorem p61_13:W61 m c k vin vout vs mk wt 13=T61R m c k vin vout vs mk wt 13:=by kernel_rfl
theorem p61_14:W61 m c k vin vout vs mk wt 14=T61R m c k vin vout vs mk wt 14:=by kernel_rfl
theorem p61_15:W61 m c k vin vout vs mk wt 15=T61R m c k vin vout vs mk wt 15:=by kernel_rfl
theorem p61_16:W61 m c k vin vout vs mk wt 16=T61R m c k vin vout vs mk wt 16:=by kernel_rfl
theorem p61_17:W61 m c k vin vout vs mk wt 17=T61R m c k vin vout vs mk wt 17:=by kernel_rfl
theorem p61_18:W61 m c k vin vout vs mk wt 18=T61R m c k vin vout vs mk wt 18:=by kernel_rfl
theorem p61_19:W61 m c k vin vout vs mk wt 19=T61R m c k vin vout vs mk wt 19:=by kernel_rfl
theorem p61_20:W61 m c k vin vout vs mk wt 20=T61R m c k vin vout vs mk wt 20:=by kernel_rfl
theorem p61_21:W61 m c k vin vout vs mk wt 21=T61R m c k vin vout vs mk wt 21:=by kernel_rfl
theorem p61_22:W61 m c k vin vout vs mk wt 22=T61R m c k vin vout vs mk wt 22:=by kernel_rfl
theorem p61_23:W61 m c k vin vout vs mk wt 23=T61R m c k vin vout vs mk wt 23:=by kernel_rfl
theorem p61_24:W61 m c k vin vout vs mk wt 24=T61R m c k vin vout vs mk wt 24:=by kernel_rfl
theorem p61_25:W61 m c k vin vout vs mk wt 25=T61R m c k vin vout vs mk wt 25:=by kernel_rfl
theorem p61_26:W61 m c k vin vout vs mk wt 26=T61R m c k vin vout vs mk wt 26:=by kernel_rfl
theorem p61_27:W61 m c k vin vout vs mk wt 27=T61R m c k vin vout vs mk wt 27:=by kernel_rfl
theorem p61_28:W61 m c k vin vout vs mk wt 28=bif decP (Has (mkH m.H) m.H/\FetchOK m (Ans.mk 28 c 0) k)&&true&&true then bif ((1+c.rs1.toNat*1).blt m.cells.length&&rdB m c.rs1&&true||false)&&((intRange c.rs1 32&&true||false)&&true)then bif c.rd==0&&(c.rs1==0&&(c.rs2==0&&(c.imm==1&&true)))then bif (1+c.rd.toNat*1).blt m.cells.length&&updOK (1+c.rd.toNat*1) (Value.int IntKind.u64 (doF (plainF 28) (rdX m c.rs1) (ofF c.imm))) 0 m.cells&&true&&((intRange c.rd 32&&true||false)&&((uB (ofF c.imm)||false)&&((true||false)&&true)))then some (Stop.mk (Leaf.mk [some (true,Value.bool true)] [(91,some k.blk),(92,some (wrM m c.rd (doF (plainF 28) (rdX m c.rs1) (ofF c.imm)) (IntKind.u64.wrap (m.pl+4)))),(100,some (rB vin vout (IntKind.i64.wrap (mk+1)) wt vs))] Exit.ret 105) none)else none else bif (1+c.rd.toNat*1).blt m.cells.length&&updOK (1+c.rd.toNat*1) (Value.int IntKind.u64 (doF (plainF 28) (rdX m c.rs1) (ofF c.imm))) 0 m.cells&&true&&((intRange c.rd 32&&true||false)&&((uB (ofF c.imm)||false)&&((true||false)&&true)))then some (Stop.mk (Leaf.mk [some (true,Value.bool true)] [(91,some k.blk),(92,some (wrM m c.rd (doF (plainF 28) (rdX m c.rs1) (ofF c.imm)) (IntKind.u64.wrap (m.pl+4)))),(100,some (rB vin vout mk wt vs))] Exit.ret 105) none)else none else none else none:=by kernel_rfl
theorem p61_29:W61 m c k vin vout vs mk wt 29=T61I m c k vin vout vs mk wt 29:=by kernel_rfl
theorem p61_30:W61 m c k vin vout vs mk wt 30=T61I m c k vin vout vs mk wt 30:=by kernel_rfl
theorem p61_31:W61 m c k vin vout vs mk wt 31=T61I m c k vin vout vs mk wt 31:=by kernel_rfl
theorem p61_32:W61 m c k vin vout vs mk wt 32=T61I m c k vin vout vs mk wt 32:=by kernel_rfl
theorem p61_33:W61 m c k vin vout vs mk wt 33=T61I m c k vin vout vs mk wt 33:=by kernel_rfl
theorem p61_34:W61 m c k vin vout vs mk wt 34=T61I m c k vin vout vs mk wt 34:=by kernel_rfl
theorem p61_35:W61 m c k vin vout vs mk wt 35=T61I m c k vin vout vs mk wt 35:=by kernel_rfl
theorem p61_36:W61 m c k vin vout vs mk wt 36=T61I m c k vin vout vs mk wt 36:=by kernel_rfl
theorem p61_37:W61 m c k vin vout vs mk wt 37=T61I m c k vin vout vs mk wt 37:=by kernel_rfl
theorem p61_45:W61 m c k vin vout vs mk wt 45=T61B m c k vin vout vs mk wt 45:=by kernel_rfl
theorem p61_46:W61 m c k vin vout vs mk wt 46=T61B m c k vin vout vs mk wt 46:=by kernel_rfl
theorem p61_47:W61 m c k vin vout vs mk wt 47=T61B m c k vin vout vs mk wt 47:=by kernel_rfl
theorem p61_48:W61 m c k vin vout vs mk wt 48=T61B m c k vin vout vs mk wt 48:=by kernel_rfl
theorem p61_49:W61 m c k vin vout vs mk wt 49=T61B m c k vin vout vs mk wt 49:=by kernel_rfl
theorem p61_50:W61 m c k vin vout vs mk wt 50=T61B m c k vin vout vs mk wt 50:=by kernel_rfl
theorem p61_51:W61 m c k vin vout vs mk wt 51=bif decP (Has (mkH m.H) m.H/\FetchOK m (Ans.mk 51 c 0) k)&&true&&true then bif ((1+c.rs1.toNat*1).blt m.cells.length&&rdB m c.rs1&&true||false)&&((intRange c.rs1 32&&true||false)&&true)then bif (1+c.rd.toNat*1).blt m.cells.length&&updOK (1+c.rd.toNat*1) (Value.int IntKind.u64 (IntKind.u64.wrap (ofF c.imm*4096))) 0 m.cells&&true&&((intRange c.rd 32&&true||false)&&true)then some (Stop.mk (Leaf.mk [some (true,Value.bool true)] [(91,some k.blk),(92,some (wrM m c.rd (IntKind.u64.wrap (ofF c.imm*4096)) (IntKind.u64.wrap (m.pl+4)))),(100,some (rB vin vout mk wt vs))] Exit.ret 105) none)else none else none else none:=by kernel_rfl
theorem p61_52:W61 m c k vin vout vs mk wt 52=bif decP (Has (mkH m.H) m.H/\FetchOK m (Ans.mk 52 c 0) k)&&true&&true then bif ((1+c.rs1.toNat*1).blt m.cells.length&&rdB m c.rs1&&true||false)&&((intRange c.rs1 32&&true||false)&&true)then bif (1+c.rd.toNat*1).blt m.cells.length&&updOK (1+c.rd.toNat*1) (Value.int IntKind.u64 (IntKind.u64.wrap (IntKind.u64.wrap (ofF c.imm*4096)+m.pl))) 0 m.cells&&true&&((intRange c.rd 32&&true||false)&&true)then some (Stop.mk (Leaf.mk [some (true,Value.bool true)] [(91,some k.blk),(92,some (wrM m c.rd (IntKind.u64.wrap (IntKind.u64.wrap (ofF c.imm*4096)+m.pl)) (IntKind.u64.wrap (m.pl+4)))),(100,some (rB vin vout mk wt vs))] Exit.ret 105) none)else none else none else none:=by kernel_rfl
theorem p61_53:W61 m c k vin vout vs mk wt 53=bif decP (Has (mkH m.H) m.H/\FetchOK m (Ans.mk 53 c 0) k)&&true&&true then bif ((1+c.rs1.toNat*1).blt m.cells.length&&rdB m c.rs1&&true||false)&&((intRange c.rs1 32&&true||false)&&true)then bif (1+c.rd.toNat*1).blt m.cells.length&&updOK (1+c.rd.toNat*1) (Value.int IntKind.u64 (IntKind.u64.wrap (m.pl+4))) 0 m.cells&&true&&((intRange c.rd 32&&true||false)&&true)then some (Stop.mk (Leaf.mk [some (true,Value.bool true)] [(91,some k.blk),(92,some (wrM m c.rd (IntKind.u64.wrap (m.pl+4)) (IntKind.u64.wrap (m.pl+ofF c.imm)))),(100,some (rB vin vout mk wt vs))] Exit.ret 105) none)else none else none else none:=by kernel_rfl
theorem p61_54:W61 m c k vin vout vs mk wt 54=bif decP (Has (mkH m.H) m.H/\FetchOK m (Ans.mk 54 c 0) k)&&true&&true then bif ((1+c.rs1.toNat*1).blt m.cells.length&&rdB m c.rs1&&true||false)&&((intRange c.rs1 32&&true||false)&&true)then bif (1+c.rd.toNat*1).blt m.cells.length&&updOK (1+c.rd.toNat*1) (Value.int IntKind.u64 (IntKind.u64.wrap (m.pl+4))) 0 m.cells&&true&&((intRange c.rd 32&&true||false)&&true)then some (Stop.mk (Leaf.mk [some (true,Value.bool true)] [(91,some k.blk),(92,some (wrM m c.rd (IntKind.u64.wrap (m.pl+4)) (bits2 BinOp.andNot IntKind.u64 (IntKind.u64.wrap (rdX m c.rs1+ofF c.imm)) 1))),(100,some (rB vin vout mk wt vs))] Exit.ret 105) none)else none else none else none:=by kernel_rfl
end
theorem p61n (m:MS) (i:Ans) (vin vout vs:Value) (mk:Int) (wt:Bool):walk (lookF FL) (sc61n m i) 1000 x61 (argTm 0 [pR]) (mkH [(90,m.memB),(91,m.kn.blk),(92,m.mB),(100,rB vin vout mk wt vs)]) 103 j0_ (Pj.mk [2] [Ref.id 91] [] [90,92,100]) j0_=bif decP (Has (mkH m.H) m.H/\FetchNo m i)&&true&&true then some (Stop.mk (Leaf.mk [some (true,Value.bool false)] [(91,some m.kn.blk)] Exit.ret 105) none)else none:=by kernel_rfl
end Go.X
