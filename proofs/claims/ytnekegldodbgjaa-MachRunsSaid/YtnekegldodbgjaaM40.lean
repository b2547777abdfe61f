import Derived.Test.YtnekegldodbgjaaM39
set_option linter.all false
namespace Go.X
open Go Go.Proofs
theorem bitR_val {x:Int}{f n:Nat} (h0:-2097152<=x) (h1:x<2097152):bitR x f n=x % 2097152 / 2 ^ f % 2 ^ n:=by
 unfold bitR
 by_cases h:x<0
 ·rw[decide_eq_true h,cond_true,show x % 2097152=x+2097152 by omega]
 ·rw[decide_eq_false h,cond_false,show x % 2097152=x by omega]
theorem tmod2 (x:Int):(x.tmod 2 != 0)=(x % 2==1):=by
 by_cases h:0<=x
 ·rw[Int.tmod_eq_emod_of_nonneg h,Bool.eq_iff_iff]
  simp only[bne_iff_ne,beq_iff_eq,ne_eq]
  omega
 ·obtain⟨y,rfl⟩:∃ y,x=-y:=⟨-x,by omega⟩
  rw[Int.neg_tmod,Int.tmod_eq_emod_of_nonneg (a:=y) (by omega),Bool.eq_iff_iff]
  simp only[bne_iff_ne,beq_iff_eq,ne_eq]
  omega
theorem d58_true {op F o f3 f7:Int} (h:At58 op F o f3 f7):D58 op F o f3 f7=true:=decP_true ⟨rfl,h⟩
theorem v47R {op rd rs1 rs2 imm o f3 f7:Int} (hA:At58 op 82 o f3 f7) (hF:FldOK o f3 f7):execC (lookF FL) (sc47 op 82 o f3 f7) 1000 x47 (argTm 0 [i18 op rd rs1 rs2 imm]) [] 100 (valK [2,3])=vp (encR o f3 f7 rd rs1 rs2 imm):=by
 rw[p47R,d58_true hA]
 unfold encR encRegs noReg
 rw[show(imm != 0)=!(imm==0) from rfl]
 cases hbimm:(imm==0)with
 |false=>rfl
 |true =>
  cases g0:decide (rd<0)with
  |true=>rfl
  |false =>
   cases g1:decide (rd>31)with
   |true=>rfl
   |false =>
    cases g2:decide (rs1<0)with
    |true=>rfl
    |false =>
     cases g3:decide (rs1>31)with
     |true=>rfl
     |false =>
      cases g4:decide (rs2<0)with
      |true=>rfl
      |false =>
       cases g5:decide (rs2>31)with
       |true=>rfl
       |false =>
        have hi:imm=0:=by simpa using hbimm
        subst hi
        have g0':=of_decide_eq_false g0
        have g1':=of_decide_eq_false g1
        have g2':=of_decide_eq_false g2
        have g3':=of_decide_eq_false g3
        have g4':=of_decide_eq_false g4
        have g5':=of_decide_eq_false g5
        have hw:(IntKind.u32.wrap (IntKind.i64.wrap (IntKind.i64.wrap (IntKind.i64.wrap (IntKind.i64.wrap (IntKind.i64.wrap (o+IntKind.i64.wrap (128*rd))+IntKind.i64.wrap (4096*f3))+IntKind.i64.wrap (32768*rs1))+IntKind.i64.wrap (1048576*rs2))+IntKind.i64.wrap (33554432*f7))))=(wordB o f3 f7 rd rs1 rs2):=by
         obtain⟨ho,h3,h7⟩:=hF
         rw[wordB_sum ⟨ho,h3,h7⟩ ⟨by omega,by omega⟩ ⟨by omega,by omega⟩ ⟨by omega,by omega⟩]
         rw[wrap_i (n:=33554432*f7) (by omega) (by omega)]
         rw[wrap_i (n:=1048576*rs2) (by omega) (by omega)]
         rw[wrap_i (n:=32768*rs1) (by omega) (by omega)]
         rw[wrap_i (n:=4096*f3) (by omega) (by omega)]
         rw[wrap_i (n:=128*rd) (by omega) (by omega)]
         rw[wrap_i (n:=o+(128*rd)) (by omega) (by omega)]
         rw[wrap_i (n:=(o+(128*rd))+(4096*f3)) (by omega) (by omega)]
         rw[wrap_i (n:=((o+(128*rd))+(4096*f3))+(32768*rs1)) (by omega) (by omega)]
         rw[wrap_i (n:=(((o+(128*rd))+(4096*f3))+(32768*rs1))+(1048576*rs2)) (by omega) (by omega)]
         rw[wrap_i (n:=((((o+(128*rd))+(4096*f3))+(32768*rs1))+(1048576*rs2))+(33554432*f7)) (by omega) (by omega)]
         rw[u32_wrap]
         omega
        rw[hw]
        rfl
theorem v47I {op rd rs1 rs2 imm o f3:Int} (hA:At58 op 73 o f3 0) (hF:FldOK o f3 0):execC (lookF FL) (sc47 op 73 o f3 0) 1000 x47 (argTm 0 [i18 op rd rs1 rs2 imm]) [] 100 (valK [2,3])=vp (encI o f3 0 rd rs1 rs2 imm):=by
 rw[p47I,d58_true hA]
 unfold encI encRegs noReg
 rw[show(rs2 != 0)=!(rs2==0) from rfl]
 cases hbrs2:(rs2==0)with
 |false=>rfl
 |true =>
  cases g0:decide (rd<0)with
  |true=>rfl
  |false =>
   cases g1:decide (rd>31)with
   |true=>rfl
   |false =>
    cases g2:decide (rs1<0)with
    |true=>rfl
    |false =>
     cases g3:decide (rs1>31)with
     |true=>rfl
     |false =>
      cases g4:decide (rs2<0)with
      |true=>rfl
      |false =>
       cases g5:decide (rs2>31)with
       |true=>rfl
       |false =>
        cases g6:decide (imm < -2048)with
        |true=>rfl
        |false =>
         cases g7:decide (imm>2047)with
         |true=>rfl
         |false =>
          have g0':=of_decide_eq_false g0
          have g1':=of_decide_eq_false g1
          have g2':=of_decide_eq_false g2
          have g3':=of_decide_eq_false g3
          have g4':=of_decide_eq_false g4
          have g5':=of_decide_eq_false g5
          have g6':=of_decide_eq_false g6
          have g7':=of_decide_eq_false g7
          have zrs2:rs2=0:=by simpa using hbrs2
          subst zrs2
          rw[show rng60 imm 0 5=true by simp[rng60];omega]
          rw[show rng60 imm 5 7=true by simp[rng60];omega]
          have hw:(IntKind.u32.wrap (IntKind.i64.wrap (IntKind.i64.wrap (IntKind.i64.wrap (IntKind.i64.wrap (IntKind.i64.wrap (o+IntKind.i64.wrap (128*rd))+IntKind.i64.wrap (4096*f3))+IntKind.i64.wrap (32768*rs1))+IntKind.i64.wrap (1048576*bitR imm 0 5))+IntKind.i64.wrap (33554432*bitR imm 5 7))))=(orW (wordB o f3 0 rd rs1 0) (bitsAt imm 1 4095 1048576)):=by
           obtain⟨ho,h3,h7⟩:=hF
           rw[wordB_sum ⟨ho,h3,h7⟩ ⟨by omega,by omega⟩ ⟨by omega,by omega⟩ ⟨by omega,by omega⟩]
           rw[bitsAt_val (imm:=imm) (d:=1) (m:=4095) (s:=1048576) 12 (by omega) (by omega) rfl]
           rw[bitR_val (x:=imm) (f:=0) (n:=5) (by omega) (by omega)]
           rw[bitR_val (x:=imm) (f:=5) (n:=7) (by omega) (by omega)]
           rw[orW_add (a:=o+f3*4096+0*33554432+rd*128+rs1*32768+0*1048576) (b:=imm % 4294967296 / 1 % 2 ^ 12*1048576 % 4294967296) 20 12 ⟨by omega,by omega⟩ ⟨by omega,by omega⟩ (by omega) (by omega) (by omega)]
           rw[wrap_i (n:=33554432*(imm % 2097152 / 2 ^ 5 % 2 ^ 7)) (by omega) (by omega)]
           rw[wrap_i (n:=1048576*(imm % 2097152 / 2 ^ 0 % 2 ^ 5)) (by omega) (by omega)]
           rw[wrap_i (n:=32768*rs1) (by omega) (by omega)]
           rw[wrap_i (n:=4096*f3) (by omega) (by omega)]
           rw[wrap_i (n:=128*rd) (by omega) (by omega)]
           rw[wrap_i (n:=o+(128*rd)) (by omega) (by omega)]
           rw[wrap_i (n:=(o+(128*rd))+(4096*f3)) (by omega) (by omega)]
           rw[wrap_i (n:=((o+(128*rd))+(4096*f3))+(32768*rs1)) (by omega) (by omega)]
           rw[wrap_i (n:=(((o+(128*rd))+(4096*f3))+(32768*rs1))+(1048576*(imm % 2097152 / 2 ^ 0 % 2 ^ 5))) (by omega) (by omega)]
           rw[wrap_i (n:=((((o+(128*rd))+(4096*f3))+(32768*rs1))+(1048576*(imm % 2097152 / 2 ^ 0 % 2 ^ 5)))+(33554432*(imm % 2097152 / 2 ^ 5 % 2 ^ 7))) (by omega) (by omega)]
           rw[u32_wrap]
           omega
          rw[hw]
          rfl
theorem v47T {op rd rs1 rs2 imm o f3 f7:Int} (hA:At58 op 84 o f3 f7) (hF:FldOK o f3 f7) (h32:f7 % 2=0):execC (lookF FL) (sc47 op 84 o f3 f7) 1000 x47 (argTm 0 [i18 op rd rs1 rs2 imm]) [] 100 (valK [2,3])=vp (encT o f3 f7 rd rs1 rs2 imm):=by
 rw[p47T,d58_true hA]
 unfold encT encRegs noReg
 rw[show(rs2 != 0)=!(rs2==0) from rfl]
 cases hbrs2:(rs2==0)with
 |false=>rfl
 |true =>
  cases g0:decide (rd<0)with
  |true=>rfl
  |false =>
   cases g1:decide (rd>31)with
   |true=>rfl
   |false =>
    cases g2:decide (rs1<0)with
    |true=>rfl
    |false =>
     cases g3:decide (rs1>31)with
     |true=>rfl
     |false =>
      cases g4:decide (rs2<0)with
      |true=>rfl
      |false =>
       cases g5:decide (rs2>31)with
       |true=>rfl
       |false =>
        cases g6:decide (imm<0)with
        |true=>rfl
        |false =>
         cases g7:decide (imm>63)with
         |true=>rfl
         |false =>
          have g0':=of_decide_eq_false g0
          have g1':=of_decide_eq_false g1
          have g2':=of_decide_eq_false g2
          have g3':=of_decide_eq_false g3
          have g4':=of_decide_eq_false g4
          have g5':=of_decide_eq_false g5
          have g6':=of_decide_eq_false g6
          have g7':=of_decide_eq_false g7
          have zrs2:rs2=0:=by simpa using hbrs2
          subst zrs2
          have hw:(IntKind.u32.wrap (IntKind.i64.wrap (IntKind.i64.wrap (IntKind.i64.wrap (IntKind.i64.wrap (IntKind.i64.wrap (o+IntKind.i64.wrap (128*rd))+IntKind.i64.wrap (4096*f3))+IntKind.i64.wrap (32768*rs1))+IntKind.i64.wrap (1048576*imm.tmod 32))+IntKind.i64.wrap (33554432*IntKind.i64.wrap (f7+IntKind.i64.wrap (imm.tdiv 32))))))=(orW (wordB o f3 f7 rd rs1 0) (bitsAt imm 1 63 1048576)):=by
           obtain⟨ho,h3,h7⟩:=hF
           rw[wordB_sum ⟨ho,h3,h7⟩ ⟨by omega,by omega⟩ ⟨by omega,by omega⟩ ⟨by omega,by omega⟩]
           rw[bitsAt_val (imm:=imm) (d:=1) (m:=63) (s:=1048576) 6 (by omega) (by omega) rfl]
           rw[orW_add (a:=o+f3*4096+f7*33554432+rd*128+rs1*32768+0*1048576) (b:=imm % 4294967296 / 1 % 2 ^ 6*1048576 % 4294967296) 20 6 ⟨by omega,by omega⟩ ⟨by omega,by omega⟩ (by omega) (by omega) (by omega)]
           rw[Int.tmod_eq_emod_of_nonneg (a:=imm) (by omega),Int.tdiv_eq_ediv_of_nonneg (a:=imm) (by omega)]
           rw[wrap_i (n:=(imm / 32)) (by omega) (by omega)]
           rw[wrap_i (n:=f7+((imm / 32))) (by omega) (by omega)]
           rw[wrap_i (n:=33554432*(f7+((imm / 32)))) (by omega) (by omega)]
           rw[wrap_i (n:=1048576*(imm % 32)) (by omega) (by omega)]
           rw[wrap_i (n:=32768*rs1) (by omega) (by omega)]
           rw[wrap_i (n:=4096*f3) (by omega) (by omega)]
           rw[wrap_i (n:=128*rd) (by omega) (by omega)]
           rw[wrap_i (n:=o+(128*rd)) (by omega) (by omega)]
           rw[wrap_i (n:=(o+(128*rd))+(4096*f3)) (by omega) (by omega)]
           rw[wrap_i (n:=((o+(128*rd))+(4096*f3))+(32768*rs1)) (by omega) (by omega)]
           rw[wrap_i (n:=(((o+(128*rd))+(4096*f3))+(32768*rs1))+(1048576*(imm % 32))) (by omega) (by omega)]
           rw[wrap_i (n:=((((o+(128*rd))+(4096*f3))+(32768*rs1))+(1048576*(imm % 32)))+(33554432*(f7+((imm / 32))))) (by omega) (by omega)]
           rw[u32_wrap]
           omega
          rw[hw]
          rfl
theorem v47S {op rd rs1 rs2 imm o f3:Int} (hA:At58 op 83 o f3 0) (hF:FldOK o f3 0):execC (lookF FL) (sc47 op 83 o f3 0) 1000 x47 (argTm 0 [i18 op rd rs1 rs2 imm]) [] 100 (valK [2,3])=vp (encS o f3 0 rd rs1 rs2 imm):=by
 rw[p47S,d58_true hA]
 unfold encS encRegs noReg
 rw[show(rd != 0)=!(rd==0) from rfl]
 cases hbrd:(rd==0)with
 |false=>rfl
 |true =>
  cases g0:decide (rd<0)with
  |true=>rfl
  |false =>
   cases g1:decide (rd>31)with
   |true=>rfl
   |false =>
    cases g2:decide (rs1<0)with
    |true=>rfl
    |false =>
     cases g3:decide (rs1>31)with
     |true=>rfl
     |false =>
      cases g4:decide (rs2<0)with
      |true=>rfl
      |false =>
       cases g5:decide (rs2>31)with
       |true=>rfl
       |false =>
        cases g6:decide (imm < -2048)with
        |true=>rfl
        |false =>
         cases g7:decide (imm>2047)with
         |true=>rfl
         |false =>
          have g0':=of_decide_eq_false g0
          have g1':=of_decide_eq_false g1
          have g2':=of_decide_eq_false g2
          have g3':=of_decide_eq_false g3
          have g4':=of_decide_eq_false g4
          have g5':=of_decide_eq_false g5
          have g6':=of_decide_eq_false g6
          have g7':=of_decide_eq_false g7
          have zrd:rd=0:=by simpa using hbrd
          subst zrd
          rw[show rng60 imm 0 5=true by simp[rng60];omega]
          rw[show rng60 imm 5 7=true by simp[rng60];omega]
          have hw:(IntKind.u32.wrap (IntKind.i64.wrap (IntKind.i64.wrap (IntKind.i64.wrap (IntKind.i64.wrap (IntKind.i64.wrap (o+IntKind.i64.wrap (128*bitR imm 0 5))+IntKind.i64.wrap (4096*f3))+IntKind.i64.wrap (32768*rs1))+IntKind.i64.wrap (1048576*rs2))+IntKind.i64.wrap (33554432*bitR imm 5 7))))=(orW (orW (wordB o f3 0 0 rs1 rs2) (bitsAt imm 1 31 128)) (bitsAt imm 32 127 33554432)):=by
           obtain⟨ho,h3,h7⟩:=hF
           rw[wordB_sum ⟨ho,h3,h7⟩ ⟨by omega,by omega⟩ ⟨by omega,by omega⟩ ⟨by omega,by omega⟩]
           rw[bitsAt_val (imm:=imm) (d:=1) (m:=31) (s:=128) 5 (by omega) (by omega) rfl]
           rw[show imm % 4294967296 / 1 % 2 ^ 5*128 % 4294967296=(imm % 2097152 / 2 ^ 0 % 2 ^ 5)*128 by omega]
           rw[bitsAt_val (imm:=imm) (d:=32) (m:=127) (s:=33554432) 7 (by omega) (by omega) rfl]
           rw[show imm % 4294967296 / 32 % 2 ^ 7*33554432 % 4294967296=(imm % 2097152 / 2 ^ 5 % 2 ^ 7)*33554432 by omega]
           rw[bitR_val (x:=imm) (f:=0) (n:=5) (by omega) (by omega)]
           rw[bitR_val (x:=imm) (f:=5) (n:=7) (by omega) (by omega)]
           obtain⟨t0,e0⟩:∃ t,t=imm % 2097152 / 2 ^ 0 % 2 ^ 5:=⟨_,rfl⟩
           have b0:0<=t0/\t0<32:=by omega
           rw[<- e0]
           clear e0
           obtain⟨t5,e5⟩:∃ t,t=imm % 2097152 / 2 ^ 5 % 2 ^ 7:=⟨_,rfl⟩
           have b5:0<=t5/\t5<128:=by omega
           rw[<- e5]
           clear e5
           rw[orW_add (a:=o+f3*4096+0*33554432+0*128+rs1*32768+rs2*1048576) (b:=t0*128) 7 5 ⟨by omega,by omega⟩ ⟨by omega,by omega⟩ (by omega) (by omega) (by omega)]
           rw[orW_add (a:=o+f3*4096+0*33554432+0*128+rs1*32768+rs2*1048576+t0*128) (b:=t5*33554432) 25 7 ⟨by omega,by omega⟩ ⟨by omega,by omega⟩ (by omega) (by omega) (by omega)]
           rw[wrap_i (n:=33554432*t5) (by omega) (by omega)]
           rw[wrap_i (n:=1048576*rs2) (by omega) (by omega)]
           rw[wrap_i (n:=32768*rs1) (by omega) (by omega)]
           rw[wrap_i (n:=4096*f3) (by omega) (by omega)]
           rw[wrap_i (n:=128*t0) (by omega) (by omega)]
           rw[wrap_i (n:=o+(128*t0)) (by omega) (by omega)]
           rw[wrap_i (n:=(o+(128*t0))+(4096*f3)) (by omega) (by omega)]
           rw[wrap_i (n:=((o+(128*t0))+(4096*f3))+(32768*rs1)) (by omega) (by omega)]
           rw[wrap_i (n:=(((o+(128*t0))+(4096*f3))+(32768*rs1))+(1048576*rs2)) (by omega) (by omega)]
           rw[wrap_i (n:=((((o+(128*t0))+(4096*f3))+(32768*rs1))+(1048576*rs2))+(33554432*t5)) (by omega) (by omega)]
           rw[u32_wrap]
           omega
          rw[hw]
          rfl
theorem v47B {op rd rs1 rs2 imm o f3:Int} (hA:At58 op 66 o f3 0) (hF:FldOK o f3 0):execC (lookF FL) (sc47 op 66 o f3 0) 1000 x47 (argTm 0 [i18 op rd rs1 rs2 imm]) [] 100 (valK [2,3])=vp (encB o f3 0 rd rs1 rs2 imm):=by
 rw[p47B,d58_true hA]
 unfold encB encRegs noReg
 rw[show(rd != 0)=!(rd==0) from rfl]
 cases hbrd:(rd==0)with
 |false=>rfl
 |true =>
  cases g0:decide (rd<0)with
  |true=>rfl
  |false =>
   cases g1:decide (rd>31)with
   |true=>rfl
   |false =>
    cases g2:decide (rs1<0)with
    |true=>rfl
    |false =>
     cases g3:decide (rs1>31)with
     |true=>rfl
     |false =>
      cases g4:decide (rs2<0)with
      |true=>rfl
      |false =>
       cases g5:decide (rs2>31)with
       |true=>rfl
       |false =>
        cases g6:decide (imm < -4096)with
        |true=>rfl
        |false =>
         cases g7:decide (imm>4094)with
         |true=>rfl
         |false =>
          rw[and1,tmod2]
          cases gp:(imm % 2==1)with
          |true=>rfl
          |false =>
           have g0':=of_decide_eq_false g0
           have g1':=of_decide_eq_false g1
           have g2':=of_decide_eq_false g2
           have g3':=of_decide_eq_false g3
           have g4':=of_decide_eq_false g4
           have g5':=of_decide_eq_false g5
           have g6':=of_decide_eq_false g6
           have g7':=of_decide_eq_false g7
           have zrd:rd=0:=by simpa using hbrd
           subst zrd
           have gp':imm % 2=0:=by simp at gp;omega
           rw[show rng60 imm 1 4=true by simp[rng60];omega]
           rw[show rng60 imm 11 1=true by simp[rng60];omega]
           rw[show rng60 imm 12 1=true by simp[rng60];omega]
           rw[show rng60 imm 5 6=true by simp[rng60];omega]
           have hw:(IntKind.u32.wrap (IntKind.i64.wrap (IntKind.i64.wrap (IntKind.i64.wrap (IntKind.i64.wrap (IntKind.i64.wrap (o+IntKind.i64.wrap (128*IntKind.i64.wrap (bitR imm 11 1+IntKind.i64.wrap (2*bitR imm 1 4))))+IntKind.i64.wrap (4096*f3))+IntKind.i64.wrap (32768*rs1))+IntKind.i64.wrap (1048576*rs2))+IntKind.i64.wrap (33554432*IntKind.i64.wrap (bitR imm 5 6+IntKind.i64.wrap (64*bitR imm 12 1))))))=(orW (orW (orW (orW (wordB o f3 0 0 rs1 rs2) (bitsAt imm 2048 1 128)) (bitsAt imm 2 15 256)) (bitsAt imm 32 63 33554432)) (bitsAt imm 4096 1 2147483648)):=by
            obtain⟨ho,h3,h7⟩:=hF
            rw[wordB_sum ⟨ho,h3,h7⟩ ⟨by omega,by omega⟩ ⟨by omega,by omega⟩ ⟨by omega,by omega⟩]
            rw[bitsAt_val (imm:=imm) (d:=2048) (m:=1) (s:=128) 1 (by omega) (by omega) rfl]
            rw[show imm % 4294967296 / 2048 % 2 ^ 1*128 % 4294967296=(imm % 2097152 / 2 ^ 11 % 2 ^ 1)*128 by omega]
            rw[bitsAt_val (imm:=imm) (d:=2) (m:=15) (s:=256) 4 (by omega) (by omega) rfl]
            rw[show imm % 4294967296 / 2 % 2 ^ 4*256 % 4294967296=(imm % 2097152 / 2 ^ 1 % 2 ^ 4)*256 by omega]
            rw[bitsAt_val (imm:=imm) (d:=32) (m:=63) (s:=33554432) 6 (by omega) (by omega) rfl]
            rw[show imm % 4294967296 / 32 % 2 ^ 6*33554432 % 4294967296=(imm % 2097152 / 2 ^ 5 % 2 ^ 6)*33554432 by omega]
            rw[bitsAt_val (imm:=imm) (d:=4096) (m:=1) (s:=2147483648) 1 (by omega) (by omega) rfl]
            rw[show imm % 4294967296 / 4096 % 2 ^ 1*2147483648 % 4294967296=(imm % 2097152 / 2 ^ 12 % 2 ^ 1)*2147483648 by omega]
            rw[bitR_val (x:=imm) (f:=11) (n:=1) (by omega) (by omega)]
            rw[bitR_val (x:=imm) (f:=1) (n:=4) (by omega) (by omega)]
            rw[bitR_val (x:=imm) (f:=5) (n:=6) (by omega) (by omega)]
            rw[bitR_val (x:=imm) (f:=12) (n:=1) (by omega) (by omega)]
            obtain⟨t11,e11⟩:∃ t,t=imm % 2097152 / 2 ^ 11 % 2 ^ 1:=⟨_,rfl⟩
            have b11:0<=t11/\t11<2:=by omega
            rw[<- e11]
            clear e11
            obtain⟨t1,e1⟩:∃ t,t=imm % 2097152 / 2 ^ 1 % 2 ^ 4:=⟨_,rfl⟩
            have b1:0<=t1/\t1<16:=by omega
            rw[<- e1]
            clear e1
            obtain⟨t5,e5⟩:∃ t,t=imm % 2097152 / 2 ^ 5 % 2 ^ 6:=⟨_,rfl⟩
            have b5:0<=t5/\t5<64:=by omega
            rw[<- e5]
            clear e5
            obtain⟨t12,e12⟩:∃ t,t=imm % 2097152 / 2 ^ 12 % 2 ^ 1:=⟨_,rfl⟩
            have b12:0<=t12/\t12<2:=by omega
            rw[<- e12]
            clear e12
            rw[orW_add (a:=o+f3*4096+0*33554432+0*128+rs1*32768+rs2*1048576) (b:=t11*128) 7 1 ⟨by omega,by omega⟩ ⟨by omega,by omega⟩ (by omega) (by omega) (by omega)]
            rw[orW_add (a:=o+f3*4096+0*33554432+0*128+rs1*32768+rs2*1048576+t11*128) (b:=t1*256) 8 4 ⟨by omega,by omega⟩ ⟨by omega,by omega⟩ (by omega) (by omega) (by omega)]
            rw[orW_add (a:=o+f3*4096+0*33554432+0*128+rs1*32768+rs2*1048576+t11*128+t1*256) (b:=t5*33554432) 25 6 ⟨by omega,by omega⟩ ⟨by omega,by omega⟩ (by omega) (by omega) (by omega)]
            rw[orW_add (a:=o+f3*4096+0*33554432+0*128+rs1*32768+rs2*1048576+t11*128+t1*256+t5*33554432) (b:=t12*2147483648) 31 1 ⟨by omega,by omega⟩ ⟨by omega,by omega⟩ (by omega) (by omega) (by omega)]
            rw[wrap_i (n:=64*t12) (by omega) (by omega)]
            rw[wrap_i (n:=t5+(64*t12)) (by omega) (by omega)]
            rw[wrap_i (n:=33554432*(t5+(64*t12))) (by omega) (by omega)]
            rw[wrap_i (n:=1048576*rs2) (by omega) (by omega)]
            rw[wrap_i (n:=32768*rs1) (by omega) (by omega)]
            rw[wrap_i (n:=4096*f3) (by omega) (by omega)]
            rw[wrap_i (n:=2*t1) (by omega) (by omega)]
            rw[wrap_i (n:=t11+(2*t1)) (by omega) (by omega)]
            rw[wrap_i (n:=128*(t11+(2*t1))) (by omega) (by omega)]
            rw[wrap_i (n:=o+(128*(t11+(2*t1)))) (by omega) (by omega)]
            rw[wrap_i (n:=(o+(128*(t11+(2*t1))))+(4096*f3)) (by omega) (by omega)]
            rw[wrap_i (n:=((o+(128*(t11+(2*t1))))+(4096*f3))+(32768*rs1)) (by omega) (by omega)]
            rw[wrap_i (n:=(((o+(128*(t11+(2*t1))))+(4096*f3))+(32768*rs1))+(1048576*rs2)) (by omega) (by omega)]
            rw[wrap_i (n:=((((o+(128*(t11+(2*t1))))+(4096*f3))+(32768*rs1))+(1048576*rs2))+(33554432*(t5+(64*t12)))) (by omega) (by omega)]
            rw[u32_wrap]
            omega
           rw[hw]
           rfl
theorem v47U {op rd rs1 rs2 imm o:Int} (hA:At58 op 85 o 0 0) (hF:FldOK o 0 0):execC (lookF FL) (sc47 op 85 o 0 0) 1000 x47 (argTm 0 [i18 op rd rs1 rs2 imm]) [] 100 (valK [2,3])=vp (encU o 0 0 rd rs1 rs2 imm):=by
 rw[p47U,d58_true hA]
 unfold encU encRegs noReg
 rw[show(rs1 != 0)=!(rs1==0) from rfl]
 rw[show(rs2 != 0)=!(rs2==0) from rfl]
 cases hbrs1:(rs1==0)with
 |false=>rfl
 |true =>
  cases hbrs2:(rs2==0)with
  |false=>rfl
  |true =>
   cases g0:decide (rd<0)with
   |true=>rfl
   |false =>
    cases g1:decide (rd>31)with
    |true=>rfl
    |false =>
     cases g2:decide (rs1<0)with
     |true=>rfl
     |false =>
      cases g3:decide (rs1>31)with
      |true=>rfl
      |false =>
       cases g4:decide (rs2<0)with
       |true=>rfl
       |false =>
        cases g5:decide (rs2>31)with
        |true=>rfl
        |false =>
         cases g6:decide (imm < -524288)with
         |true=>rfl
         |false =>
          cases g7:decide (imm>524287)with
          |true=>rfl
          |false =>
           have g0':=of_decide_eq_false g0
           have g1':=of_decide_eq_false g1
           have g2':=of_decide_eq_false g2
           have g3':=of_decide_eq_false g3
           have g4':=of_decide_eq_false g4
           have g5':=of_decide_eq_false g5
           have g6':=of_decide_eq_false g6
           have g7':=of_decide_eq_false g7
           have zrs1:rs1=0:=by simpa using hbrs1
           have zrs2:rs2=0:=by simpa using hbrs2
           subst zrs1
           subst zrs2
           rw[show rng60 imm 0 20=true by simp[rng60];omega]
           have hw:(IntKind.u32.wrap (IntKind.i64.wrap (IntKind.i64.wrap (o+IntKind.i64.wrap (128*rd))+IntKind.i64.wrap (4096*bitR imm 0 20))))=(orW (wordB o 0 0 rd 0 0) (bitsAt imm 1 1048575 4096)):=by
            obtain⟨ho,h3,h7⟩:=hF
            rw[wordB_sum ⟨ho,h3,h7⟩ ⟨by omega,by omega⟩ ⟨by omega,by omega⟩ ⟨by omega,by omega⟩]
            rw[bitsAt_val (imm:=imm) (d:=1) (m:=1048575) (s:=4096) 20 (by omega) (by omega) rfl]
            rw[show imm % 4294967296 / 1 % 2 ^ 20*4096 % 4294967296=(imm % 2097152 / 2 ^ 0 % 2 ^ 20)*4096 by omega]
            rw[bitR_val (x:=imm) (f:=0) (n:=20) (by omega) (by omega)]
            obtain⟨t0,e0⟩:∃ t,t=imm % 2097152 / 2 ^ 0 % 2 ^ 20:=⟨_,rfl⟩
            have b0:0<=t0/\t0<1048576:=by omega
            rw[<- e0]
            clear e0
            rw[orW_add (a:=o+0*4096+0*33554432+rd*128+0*32768+0*1048576) (b:=t0*4096) 12 20 ⟨by omega,by omega⟩ ⟨by omega,by omega⟩ (by omega) (by omega) (by omega)]
            rw[wrap_i (n:=4096*t0) (by omega) (by omega)]
            rw[wrap_i (n:=128*rd) (by omega) (by omega)]
            rw[wrap_i (n:=o+(128*rd)) (by omega) (by omega)]
            rw[wrap_i (n:=(o+(128*rd))+(4096*t0)) (by omega) (by omega)]
            rw[u32_wrap]
            omega
           rw[hw]
           rfl
theorem v47J {op rd rs1 rs2 imm o:Int} (hA:At58 op 74 o 0 0) (hF:FldOK o 0 0):execC (lookF FL) (sc47 op 74 o 0 0) 1000 x47 (argTm 0 [i18 op rd rs1 rs2 imm]) [] 100 (valK [2,3])=vp (encJ o 0 0 rd rs1 rs2 imm):=by
 rw[p47J,d58_true hA]
 unfold encJ encRegs noReg
 rw[show(rs1 != 0)=!(rs1==0) from rfl]
 rw[show(rs2 != 0)=!(rs2==0) from rfl]
 cases hbrs1:(rs1==0)with
 |false=>rfl
 |true =>
  cases hbrs2:(rs2==0)with
  |false=>rfl
  |true =>
   cases g0:decide (rd<0)with
   |true=>rfl
   |false =>
    cases g1:decide (rd>31)with
    |true=>rfl
    |false =>
     cases g2:decide (rs1<0)with
     |true=>rfl
     |false =>
      cases g3:decide (rs1>31)with
      |true=>rfl
      |false =>
       cases g4:decide (rs2<0)with
       |true=>rfl
       |false =>
        cases g5:decide (rs2>31)with
        |true=>rfl
        |false =>
         cases g6:decide (imm < -1048576)with
         |true=>rfl
         |false =>
          cases g7:decide (imm>1048574)with
          |true=>rfl
          |false =>
           rw[and1,tmod2]
           cases gp:(imm % 2==1)with
           |true=>rfl
           |false =>
            have g0':=of_decide_eq_false g0
            have g1':=of_decide_eq_false g1
            have g2':=of_decide_eq_false g2
            have g3':=of_decide_eq_false g3
            have g4':=of_decide_eq_false g4
            have g5':=of_decide_eq_false g5
            have g6':=of_decide_eq_false g6
            have g7':=of_decide_eq_false g7
            have zrs1:rs1=0:=by simpa using hbrs1
            have zrs2:rs2=0:=by simpa using hbrs2
            subst zrs1
            subst zrs2
            have gp':imm % 2=0:=by simp at gp;omega
            rw[show rng60 imm 20 1=true by simp[rng60];omega]
            rw[show rng60 imm 1 10=true by simp[rng60];omega]
            rw[show rng60 imm 11 1=true by simp[rng60];omega]
            rw[show rng60 imm 12 8=true by simp[rng60];omega]
            have hw:(IntKind.u32.wrap (IntKind.i64.wrap (IntKind.i64.wrap (IntKind.i64.wrap (IntKind.i64.wrap (IntKind.i64.wrap (o+IntKind.i64.wrap (128*rd))+IntKind.i64.wrap (4096*bitR imm 12 8))+IntKind.i64.wrap (1048576*bitR imm 11 1))+IntKind.i64.wrap (2097152*bitR imm 1 10))+IntKind.i64.wrap (2147483648*bitR imm 20 1))))=(orW (orW (orW (orW (wordB o 0 0 rd 0 0) (bitsAt imm 4096 255 4096)) (bitsAt imm 2048 1 1048576)) (bitsAt imm 2 1023 2097152)) (bitsAt imm 1048576 1 2147483648)):=by
             obtain⟨ho,h3,h7⟩:=hF
             rw[wordB_sum ⟨ho,h3,h7⟩ ⟨by omega,by omega⟩ ⟨by omega,by omega⟩ ⟨by omega,by omega⟩]
             rw[bitsAt_val (imm:=imm) (d:=4096) (m:=255) (s:=4096) 8 (by omega) (by omega) rfl]
             rw[show imm % 4294967296 / 4096 % 2 ^ 8*4096 % 4294967296=(imm % 2097152 / 2 ^ 12 % 2 ^ 8)*4096 by omega]
             rw[bitsAt_val (imm:=imm) (d:=2048) (m:=1) (s:=1048576) 1 (by omega) (by omega) rfl]
             rw[show imm % 4294967296 / 2048 % 2 ^ 1*1048576 % 4294967296=(imm % 2097152 / 2 ^ 11 % 2 ^ 1)*1048576 by omega]
             rw[bitsAt_val (imm:=imm) (d:=2) (m:=1023) (s:=2097152) 10 (by omega) (by omega) rfl]
             rw[show imm % 4294967296 / 2 % 2 ^ 10*2097152 % 4294967296=(imm % 2097152 / 2 ^ 1 % 2 ^ 10)*2097152 by omega]
             rw[bitsAt_val (imm:=imm) (d:=1048576) (m:=1) (s:=2147483648) 1 (by omega) (by omega) rfl]
             rw[show imm % 4294967296 / 1048576 % 2 ^ 1*2147483648 % 4294967296=(imm % 2097152 / 2 ^ 20 % 2 ^ 1)*2147483648 by omega]
             rw[bitR_val (x:=imm) (f:=12) (n:=8) (by omega) (by omega)]
             rw[bitR_val (x:=imm) (f:=11) (n:=1) (by omega) (by omega)]
             rw[bitR_val (x:=imm) (f:=1) (n:=10) (by omega) (by omega)]
             rw[bitR_val (x:=imm) (f:=20) (n:=1) (by omega) (by omega)]
             obtain⟨t12,e12⟩:∃ t,t=imm % 2097152 / 2 ^ 12 % 2 ^ 8:=⟨_,rfl⟩
             have b12:0<=t12/\t12<256:=by omega
             rw[<- e12]
             clear e12
             obtain⟨t11,e11⟩:∃ t,t=imm % 2097152 / 2 ^ 11 % 2 ^ 1:=⟨_,rfl⟩
             have b11:0<=t11/\t11<2:=by omega
             rw[<- e11]
             clear e11
             obtain⟨t1,e1⟩:∃ t,t=imm % 2097152 / 2 ^ 1 % 2 ^ 10:=⟨_,rfl⟩
             have b1:0<=t1/\t1<1024:=by omega
             rw[<- e1]
             clear e1
             obtain⟨t20,e20⟩:∃ t,t=imm % 2097152 / 2 ^ 20 % 2 ^ 1:=⟨_,rfl⟩
             have b20:0<=t20/\t20<2:=by omega
             rw[<- e20]
             clear e20
             rw[orW_add (a:=o+0*4096+0*33554432+rd*128+0*32768+0*1048576) (b:=t12*4096) 12 8 ⟨by omega,by omega⟩ ⟨by omega,by omega⟩ (by omega) (by omega) (by omega)]
             rw[orW_add (a:=o+0*4096+0*33554432+rd*128+0*32768+0*1048576+t12*4096) (b:=t11*1048576) 20 1 ⟨by omega,by omega⟩ ⟨by omega,by omega⟩ (by omega) (by omega) (by omega)]
             rw[orW_add (a:=o+0*4096+0*33554432+rd*128+0*32768+0*1048576+t12*4096+t11*1048576) (b:=t1*2097152) 21 10 ⟨by omega,by omega⟩ ⟨by omega,by omega⟩ (by omega) (by omega) (by omega)]
             rw[orW_add (a:=o+0*4096+0*33554432+rd*128+0*32768+0*1048576+t12*4096+t11*1048576+t1*2097152) (b:=t20*2147483648) 31 1 ⟨by omega,by omega⟩ ⟨by omega,by omega⟩ (by omega) (by omega) (by omega)]
             rw[wrap_i (n:=2147483648*t20) (by omega) (by omega)]
             rw[wrap_i (n:=2097152*t1) (by omega) (by omega)]
             rw[wrap_i (n:=1048576*t11) (by omega) (by omega)]
             rw[wrap_i (n:=4096*t12) (by omega) (by omega)]
             rw[wrap_i (n:=128*rd) (by omega) (by omega)]
             rw[wrap_i (n:=o+(128*rd)) (by omega) (by omega)]
             rw[wrap_i (n:=(o+(128*rd))+(4096*t12)) (by omega) (by omega)]
             rw[wrap_i (n:=((o+(128*rd))+(4096*t12))+(1048576*t11)) (by omega) (by omega)]
             rw[wrap_i (n:=(((o+(128*rd))+(4096*t12))+(1048576*t11))+(2097152*t1)) (by omega) (by omega)]
             rw[wrap_i (n:=((((o+(128*rd))+(4096*t12))+(1048576*t11))+(2097152*t1))+(2147483648*t20)) (by omega) (by omega)]
             rw[u32_wrap]
             omega
            rw[hw]
            rfl
theorem v47N {op rd rs1 rs2 imm o f3 f7:Int} (hA:At58 op 78 o f3 f7) (hF:FldOK o f3 f7) (hz:f3=0/\f7=0):execC (lookF FL) (sc47 op 78 o f3 f7) 1000 x47 (argTm 0 [i18 op rd rs1 rs2 imm]) [] 100 (valK [2,3])=vp (encN o f3 f7 rd rs1 rs2 imm):=by
 rw[p47N,d58_true hA]
 unfold encN encRegs noReg
 rw[show(rd != 0)=!(rd==0) from rfl]
 rw[show(rs1 != 0)=!(rs1==0) from rfl]
 rw[show(rs2 != 0)=!(rs2==0) from rfl]
 rw[show(imm != 0)=!(imm==0) from rfl]
 cases hbrd:(rd==0)with
 |false=>rfl
 |true =>
  cases hbrs1:(rs1==0)with
  |false=>rfl
  |true =>
   cases hbrs2:(rs2==0)with
   |false=>rfl
   |true =>
    cases hbimm:(imm==0)with
    |false=>rfl
    |true =>
     cases g0:decide (rd<0)with
     |true=>rfl
     |false =>
      cases g1:decide (rd>31)with
      |true=>rfl
      |false =>
       cases g2:decide (rs1<0)with
       |true=>rfl
       |false =>
        cases g3:decide (rs1>31)with
        |true=>rfl
        |false =>
         cases g4:decide (rs2<0)with
         |true=>rfl
         |false =>
          cases g5:decide (rs2>31)with
          |true=>rfl
          |false =>
           have hi:imm=0:=by simpa using hbimm
           subst hi
           have g0':=of_decide_eq_false g0
           have g1':=of_decide_eq_false g1
           have g2':=of_decide_eq_false g2
           have g3':=of_decide_eq_false g3
           have g4':=of_decide_eq_false g4
           have g5':=of_decide_eq_false g5
           have zrd:rd=0:=by simpa using hbrd
           have zrs1:rs1=0:=by simpa using hbrs1
           have zrs2:rs2=0:=by simpa using hbrs2
           subst zrd
           subst zrs1
           subst zrs2
           have hw:(IntKind.u32.wrap (IntKind.i64.wrap (IntKind.i64.wrap (IntKind.i64.wrap (IntKind.i64.wrap (IntKind.i64.wrap (o+IntKind.i64.wrap (128*0))+IntKind.i64.wrap (4096*f3))+IntKind.i64.wrap (32768*0))+IntKind.i64.wrap (1048576*0))+IntKind.i64.wrap (33554432*f7))))=(wordB o f3 f7 0 0 0):=by
            obtain⟨ho,h3,h7⟩:=hF
            obtain⟨rfl,rfl⟩:=hz
            rw[wordB_sum ⟨ho,h3,h7⟩ ⟨by omega,by omega⟩ ⟨by omega,by omega⟩ ⟨by omega,by omega⟩]
            rw[wrap_i (n:=33554432*0) (by omega) (by omega)]
            rw[wrap_i (n:=1048576*0) (by omega) (by omega)]
            rw[wrap_i (n:=32768*0) (by omega) (by omega)]
            rw[wrap_i (n:=4096*0) (by omega) (by omega)]
            rw[wrap_i (n:=128*0) (by omega) (by omega)]
            rw[wrap_i (n:=o+(128*0)) (by omega) (by omega)]
            rw[wrap_i (n:=(o+(128*0))+(4096*0)) (by omega) (by omega)]
            rw[wrap_i (n:=((o+(128*0))+(4096*0))+(32768*0)) (by omega) (by omega)]
            rw[wrap_i (n:=(((o+(128*0))+(4096*0))+(32768*0))+(1048576*0)) (by omega) (by omega)]
            rw[wrap_i (n:=((((o+(128*0))+(4096*0))+(32768*0))+(1048576*0))+(33554432*0)) (by omega) (by omega)]
            rw[u32_wrap]
            omega
           rw[hw]
           rfl
end Go.X
