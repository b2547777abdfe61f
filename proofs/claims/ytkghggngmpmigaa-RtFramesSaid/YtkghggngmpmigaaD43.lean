import Derived.Test.YtkghggngmpmigaaD42
import Derived.Test.YtkghggngmpmigaaD41
set_option linter.all false
namespace Go.X
open Go Go.Proofs
theorem or_gap {k w a b:Nat} (hb:b<2 ^ (k+w)) (hm:b % 2 ^ k=0) (hg:a % 2 ^ (k+w)<2 ^ k):a ||| b=a+b:=by
 obtain⟨t,rfl⟩:∃ t,b=2 ^ k*t:=⟨b / 2 ^ k,by rw[Nat.mul_div_cancel' (Nat.dvd_of_mod_eq_zero hm)]⟩
 have e:a=2 ^ (k+w)*(a / 2 ^ (k+w))+a % 2 ^ (k+w):=(Nat.div_add_mod _ _).symm
 have hlt:a % 2 ^ (k+w)<2 ^ (k+w):=Nat.mod_lt _ (Nat.two_pow_pos _)
 generalize a / 2 ^ (k+w)=h at e
 generalize a % 2 ^ (k+w)=l at *
 subst e
 have h1:2 ^ k*t+l<2 ^ (k+w):=by
  have ht:t<2 ^ w:=by
   rw[Nat.pow_add]at hb
   exact Nat.lt_of_mul_lt_mul_left hb
  have h2:2 ^ k*(t+1)<=2 ^ k*2 ^ w:=Nat.mul_le_mul_left _ ht
  rw[Nat.pow_add]
  rw[Nat.mul_add,Nat.mul_one]at h2
  omega
 rw[Nat.two_pow_add_eq_or_of_lt hlt h,Nat.or_assoc,Nat.or_comm l,<- Nat.two_pow_add_eq_or_of_lt hg t,<- Nat.two_pow_add_eq_or_of_lt h1 h,<- Nat.two_pow_add_eq_or_of_lt hlt h]
 omega
theorem orW_add {a b:Int} (k w:Nat) (ha:isU a) (hb:isU b) (h1:b<2 ^ (k+w)) (h2:b % 2 ^ k=0) (h3:a % 2 ^ (k+w)<2 ^ k):orW a b=a+b:=by
 rw[or_nat ha hb]
 unfold isU at ha hb
 obtain⟨x,rfl⟩:∃ x:Nat,a=x:=⟨a.toNat,by omega⟩
 obtain⟨y,rfl⟩:∃ y:Nat,b=y:=⟨b.toNat,by omega⟩
 rw[Int.toNat_natCast,Int.toNat_natCast,or_gap (k:=k) (w:=w) (by exact_mod_cast h1) (by exact_mod_cast h2) (by exact_mod_cast h3)]
 omega
theorem and32 {x:Int} (w:Nat) (hw:w<=31) (h0:0<=x) (h1:x<4294967296){m:Int} (hm:m=2 ^ w-1):bits2 .and .u32 x m=x % 2 ^ w:=by
 obtain⟨x,rfl⟩:∃ k:Nat,x=k:=⟨x.toNat,by omega⟩
 have hp:2 ^ w<=2 ^ 31:=Nat.pow_le_pow_right (by decide) hw
 have hp0:0<2 ^ w:=Nat.two_pow_pos _
 have hc:((2 ^ w:Nat):Int)=(2:Int) ^ w:=by simp
 have hm':m=((2 ^ w-1:Nat):Int):=by rw[hm,<- hc];omega
 rw[hm']
 show IntKind.u32.wrap (BitVec.ofInt 32 (x:Int) &&& BitVec.ofInt 32 ((2 ^ w-1:Nat):Int)).toNat=_
 rw[BitVec.toNat_and,BitVec.toNat_ofInt,BitVec.toNat_ofInt,u32_wrap]
 rw[show(((x:Int) % ((2 ^ 32:Nat):Int)).toNat)=x by omega,show((((2 ^ w-1:Nat):Int) % ((2 ^ 32:Nat):Int)).toNat)=2 ^ w-1 by omega,Nat.and_two_pow_sub_one_eq_mod]
 have:x % 2 ^ w<=x:=Nat.mod_le _ _
 have e:((x % 2 ^ w:Nat):Int)=(x:Int) % 2 ^ w:=by simp
 omega
theorem bitsAt_val {imm d m s:Int} (w:Nat) (hw:w<=31) (hd:0<d) (hm:m=2 ^ w-1):bitsAt imm d m s=imm % 4294967296 / d % 2 ^ w*s % 4294967296:=by
 unfold bitsAt
 have h0:0<=imm % 4294967296:=by omega
 have h1:imm % 4294967296<4294967296:=by omega
 rw[u32_wrap imm,Int.fdiv_eq_ediv_of_nonneg _ (Int.le_of_lt hd),and32 w hw (Int.ediv_nonneg h0 (Int.le_of_lt hd)) (Int.lt_of_le_of_lt (Int.ediv_le_self _ h0) h1) hm,u32_wrap]
theorem and1 (x:Int):bits2 .and .i64 x 1=x % 2:=by
 show IntKind.i64.wrap (BitVec.ofInt 64 x &&& BitVec.ofInt 64 ((1:Nat):Int)).toNat=_
 rw[BitVec.toNat_and,BitVec.toNat_ofInt,BitVec.toNat_ofInt,show((((1:Nat):Int) % ((2 ^ 64:Nat):Int)).toNat)=2 ^ 1-1 by omega,Nat.and_two_pow_sub_one_eq_mod,wrap_i (by omega) (by omega)]
 omega
structure FldOK (o f3 f7:Int):Prop where
 o:0<=o/\o<128
 f3:0<=f3/\f3<8
 f7:0<=f7/\f7<128
theorem wordB_sum {o f3 f7 rd rs1 rs2:Int} (h:FldOK o f3 f7) (hd:regI rd) (h1:regI rs1) (h2:regI rs2) :
  wordB o f3 f7 rd rs1 rs2=o+f3*4096+f7*33554432+rd*128+rs1*32768+rs2*1048576:=by
 obtain⟨ho,h3,h7⟩:=h
 unfold regI at hd h1 h2
 show orW (orW (orW (orW (orW o _) _) _) _) _=_
 simp only[u32_wrap]
 rw[show rd % 4294967296*128 % 4294967296=rd*128 by omega,show rs1 % 4294967296*32768 % 4294967296=rs1*32768 by omega,show rs2 % 4294967296*1048576 % 4294967296=rs2*1048576 by omega,
  show f3*4096 % 4294967296=f3*4096 by omega,show f7*33554432 % 4294967296=f7*33554432 by omega]
 rw[orW_add (a:=o) 12 3 ⟨by omega,by omega⟩ ⟨by omega,by omega⟩ (by omega) (by omega) (by omega)]
 rw[orW_add (a:=o+f3*4096) 25 7 ⟨by omega,by omega⟩ ⟨by omega,by omega⟩ (by omega) (by omega) (by omega)]
 rw[orW_add (a:=o+f3*4096+f7*33554432) 7 5 ⟨by omega,by omega⟩ ⟨by omega,by omega⟩ (by omega) (by omega) (by omega)]
 rw[orW_add (a:=o+f3*4096+f7*33554432+rd*128) 15 5 ⟨by omega,by omega⟩ ⟨by omega,by omega⟩ (by omega) (by omega) (by omega)]
 rw[orW_add (a:=o+f3*4096+f7*33554432+rd*128+rs1*32768) 20 5 ⟨by omega,by omega⟩ ⟨by omega,by omega⟩ (by omega) (by omega) (by omega)]
theorem fld {o f3 f7:Int} (h:(decide (0<=o)&&(decide (o<128)&&(decide (0<=f3)&&(decide (f3<8)&&(decide (0<=f7)&&decide (f7<128))))))=true):FldOK o f3 f7:=by
 simp only[Bool.and_eq_true,decide_eq_true_eq]at h
 exact⟨⟨h.1,h.2.1⟩,⟨h.2.2.1,h.2.2.2.1⟩,⟨h.2.2.2.2.1,h.2.2.2.2.2⟩⟩
theorem encF_neg (m:Nat) (rd rs1 rs2 imm:Int):encF (.negSucc m) rd rs1 rs2 imm=(0,2):=rfl
theorem encF_big (m:Nat) (rd rs1 rs2 imm:Int):encF (.ofNat (m+56)) rd rs1 rs2 imm=(0,2):=rfl
theorem fW_val {w d m:Int} (k:Nat) (hk:k<=31) (h0:0<=w) (h1:w<4294967296) (hd:0<d) (hm:m=2 ^ k-1):fW w d m=w / d % 2 ^ k:=by
 unfold fW
 rw[Int.fdiv_eq_ediv_of_nonneg _ (Int.le_of_lt hd),and32 k hk (Int.ediv_nonneg h0 (Int.le_of_lt hd)) (Int.lt_of_le_of_lt (Int.ediv_le_self _ h0) h1) hm]
 have hp:(0:Int)<2 ^ k:=Int.pow_pos (by decide)
 have h2:=Int.emod_nonneg (w / d) (Int.ne_of_gt hp)
 have h3:=Int.emod_lt_of_pos (w / d) hp
 have h4:=p2le (n:=k) (by omega)
 exact wrap_i (by omega) (by omega)
theorem i64w_nat {x:Nat} (h:x<9223372036854775808):IntKind.i64.wrap (x:Int)=x:=wrap_i (by omega) (by omega)
theorem oW_add {a b:Int} (k w:Nat) (ha:0<=a/\a<4611686018427387904) (hb:0<=b/\b<4611686018427387904) (h1:b<2 ^ (k+w)) (h2:b % 2 ^ k=0) (h3:a % 2 ^ (k+w)<2 ^ k):oW a b=a+b:=by
 obtain⟨x,rfl⟩:∃ x:Nat,a=x:=⟨a.toNat,by omega⟩
 obtain⟨y,rfl⟩:∃ y:Nat,b=y:=⟨b.toNat,by omega⟩
 show IntKind.i64.wrap (BitVec.ofInt 64 (x:Int) ||| BitVec.ofInt 64 (y:Int)).toNat=_
 rw[BitVec.toNat_or,bv64 x (by omega),bv64 y (by omega),or_gap (k:=k) (w:=w) (by exact_mod_cast h1) (by exact_mod_cast h2) (by exact_mod_cast h3),i64w_nat (by omega)]
 omega
theorem encdecR {q rd rs1 rs2 imm w o f3 f7:Int} (hF:FldOK o f3 f7) (hq:rowOf (.int .i64 q)=(82,o,f3,f7)) (hE:∀ rd rs1 rs2 imm,encF q rd rs1 rs2 imm=encR o f3 f7 rd rs1 rs2 imm) (h:encF q rd rs1 rs2 imm=(w,0)):dec1 q w=some ⟨rd,rs1,rs2,imm⟩:=by
 have hh:=h
 rw[hE]at h
 unfold encR at h
 obtain⟨hb,hd,h1,h2,hr⟩:=encRegs_ok h
 have hr:=(Prod.mk.inj hr).1
 have hi:imm=0:=by simpa using hb
 subst hi
 have hF0:=hF
 obtain⟨ho,h3,h7⟩:=hF
 unfold regI at hd h1 h2
 rw[wordB_sum hF0 hd h1 h2]at hr
 have hw0:0<=w/\w<4294967296:=by omega
 have ho7:bits2 .and .u32 w 127=o:=by rw[and32 (m:=127) 7 (by omega) hw0.1 hw0.2 rfl];omega
 have F128_5:fW w 128 31=rd:=by rw[fW_val (m:=31) 5 (by omega) hw0.1 hw0.2 (by omega) rfl];omega
 have F32768_5:fW w 32768 31=rs1:=by rw[fW_val (m:=31) 5 (by omega) hw0.1 hw0.2 (by omega) rfl];omega
 have F1048576_5:fW w 1048576 31=rs2:=by rw[fW_val (m:=31) 5 (by omega) hw0.1 hw0.2 (by omega) rfl];omega
 have hcand:candF 82 w=⟨rd,rs1,rs2,0⟩:=by
  show(⟨fW w 128 31,fW w 32768 31,fW w 1048576 31,0⟩:Cand)=_
  rw[F128_5,F32768_5,F1048576_5]
 unfold dec1 restF
 rw[hq]
 simp only[]
 rw[ho7,show(o != o)=false by simp,cond_false,hcand,hh]
 simp
theorem encdecI {q rd rs1 rs2 imm w o f3:Int} (hF:FldOK o f3 0) (hq:rowOf (.int .i64 q)=(73,o,f3,0)) (hE:∀ rd rs1 rs2 imm,encF q rd rs1 rs2 imm=encI o f3 0 rd rs1 rs2 imm) (h:encF q rd rs1 rs2 imm=(w,0)):dec1 q w=some ⟨rd,rs1,rs2,imm⟩:=by
 have hh:=h
 rw[hE]at h
 unfold encI at h
 obtain⟨hb,hd,h1,h2,hr⟩:=encRegs_ok h
 obtain⟨hc,hr⟩:=rest_ok hr
 simp only[Bool.or_eq_false_iff,decide_eq_false_iff_not]at hc
 have z2:rs2=0:=by simpa using hb
 subst z2
 have gi:-2048<=imm/\imm<=2047:=by omega
 have hF0:=hF
 obtain⟨ho,h3,h7⟩:=hF
 unfold regI at hd h1 h2
 rw[wordB_sum hF0 hd h1 h2]at hr
 rw[bitsAt_val (imm:=imm) (d:=1) (m:=4095) (s:=1048576) 12 (by omega) (by omega) rfl]at hr
 rw[show imm % 4294967296 / 1 % 2 ^ 12*1048576 % 4294967296=(imm % 2097152 / 2 ^ 0 % 2 ^ 12)*1048576 by omega]at hr
 obtain⟨t0,e0⟩:∃ t,t=imm % 2097152 / 2 ^ 0 % 2 ^ 12:=⟨_,rfl⟩
 have b0:0<=t0/\t0<4096:=by omega
 rw[<- e0]at hr
 have gs:(bif decide (t0*1>2047)then IntKind.i64.wrap (t0*1+(-4096))else t0*1)=imm:=by
  by_cases hg:t0*1>2047
  ·rw[decide_eq_true hg,cond_true,wrap_i (by omega) (by omega)];omega
  ·rw[decide_eq_false hg,cond_false];omega
 clear e0
 have O0:oW 0 (t0*1)=t0*1:=by rw[oW_add 0 12 ⟨by omega,by omega⟩ ⟨by omega,by omega⟩ (by omega) (by omega) (by omega)];omega
 rw[orW_add (a:=o+f3*4096+0*33554432+rd*128+rs1*32768+0*1048576) (b:=t0*1048576) 20 12 ⟨by omega,by omega⟩ ⟨by omega,by omega⟩ (by omega) (by omega) (by omega)]at hr
 have hw0:0<=w/\w<4294967296:=by omega
 have ho7:bits2 .and .u32 w 127=o:=by rw[and32 (m:=127) 7 (by omega) hw0.1 hw0.2 rfl];omega
 have F128_5:fW w 128 31=rd:=by rw[fW_val (m:=31) 5 (by omega) hw0.1 hw0.2 (by omega) rfl];omega
 have F32768_5:fW w 32768 31=rs1:=by rw[fW_val (m:=31) 5 (by omega) hw0.1 hw0.2 (by omega) rfl];omega
 have G0:fW w 1048576 4095=t0:=by rw[fW_val (m:=4095) 12 (by omega) hw0.1 hw0.2 (by omega) rfl];omega
 have P0:pW w 1048576 4095 1=t0*1:=by unfold pW;rw[G0,wrap_i (by omega) (by omega)]
 have hcand:candF 73 w=⟨rd,rs1,0,imm⟩:=by
  show(⟨fW w 128 31,fW w 32768 31,0,fixW (oW 0 (pW w 1048576 4095 1)) 2047 (-4096)⟩:Cand)=_
  rw[F128_5,F32768_5,P0,O0]
  unfold fixW
  rw[gs]
 unfold dec1 restF
 rw[hq]
 simp only[]
 rw[ho7,show(o != o)=false by simp,cond_false,hcand,hh]
 simp
theorem encdecT {q rd rs1 rs2 imm w o f3 f7:Int} (hF:FldOK o f3 f7) (h32:f7 % 2=0) (hq:rowOf (.int .i64 q)=(84,o,f3,f7)) (hE:∀ rd rs1 rs2 imm,encF q rd rs1 rs2 imm=encT o f3 f7 rd rs1 rs2 imm) (h:encF q rd rs1 rs2 imm=(w,0)):dec1 q w=some ⟨rd,rs1,rs2,imm⟩:=by
 have hh:=h
 rw[hE]at h
 unfold encT at h
 obtain⟨hb,hd,h1,h2,hr⟩:=encRegs_ok h
 obtain⟨hc,hr⟩:=rest_ok hr
 simp only[Bool.or_eq_false_iff,decide_eq_false_iff_not]at hc
 have z2:rs2=0:=by simpa using hb
 subst z2
 have gi:0<=imm/\imm<=63:=by omega
 have hF0:=hF
 obtain⟨ho,h3,h7⟩:=hF
 unfold regI at hd h1 h2
 rw[wordB_sum hF0 hd h1 h2]at hr
 rw[bitsAt_val (imm:=imm) (d:=1) (m:=63) (s:=1048576) 6 (by omega) (by omega) rfl]at hr
 rw[show imm % 4294967296 / 1 % 2 ^ 6*1048576 % 4294967296=(imm % 2097152 / 2 ^ 0 % 2 ^ 6)*1048576 by omega]at hr
 obtain⟨t0,e0⟩:∃ t,t=imm % 2097152 / 2 ^ 0 % 2 ^ 6:=⟨_,rfl⟩
 have b0:0<=t0/\t0<64:=by omega
 rw[<- e0]at hr
 have gs:t0*1=imm:=by omega
 clear e0
 have O0:oW 0 (t0*1)=t0*1:=by rw[oW_add 0 6 ⟨by omega,by omega⟩ ⟨by omega,by omega⟩ (by omega) (by omega) (by omega)];omega
 rw[orW_add (a:=o+f3*4096+f7*33554432+rd*128+rs1*32768+0*1048576) (b:=t0*1048576) 20 6 ⟨by omega,by omega⟩ ⟨by omega,by omega⟩ (by omega) (by omega) (by omega)]at hr
 have hw0:0<=w/\w<4294967296:=by omega
 have ho7:bits2 .and .u32 w 127=o:=by rw[and32 (m:=127) 7 (by omega) hw0.1 hw0.2 rfl];omega
 have F128_5:fW w 128 31=rd:=by rw[fW_val (m:=31) 5 (by omega) hw0.1 hw0.2 (by omega) rfl];omega
 have F32768_5:fW w 32768 31=rs1:=by rw[fW_val (m:=31) 5 (by omega) hw0.1 hw0.2 (by omega) rfl];omega
 have G0:fW w 1048576 63=t0:=by rw[fW_val (m:=63) 6 (by omega) hw0.1 hw0.2 (by omega) rfl];omega
 have P0:pW w 1048576 63 1=t0*1:=by unfold pW;rw[G0,wrap_i (by omega) (by omega)]
 have hcand:candF 84 w=⟨rd,rs1,0,imm⟩:=by
  show(⟨fW w 128 31,fW w 32768 31,0,oW 0 (pW w 1048576 63 1)⟩:Cand)=_
  rw[F128_5,F32768_5,P0,O0]
  rw[gs]
 unfold dec1 restF
 rw[hq]
 simp only[]
 rw[ho7,show(o != o)=false by simp,cond_false,hcand,hh]
 simp
theorem encdecS {q rd rs1 rs2 imm w o f3:Int} (hF:FldOK o f3 0) (hq:rowOf (.int .i64 q)=(83,o,f3,0)) (hE:∀ rd rs1 rs2 imm,encF q rd rs1 rs2 imm=encS o f3 0 rd rs1 rs2 imm) (h:encF q rd rs1 rs2 imm=(w,0)):dec1 q w=some ⟨rd,rs1,rs2,imm⟩:=by
 have hh:=h
 rw[hE]at h
 unfold encS at h
 obtain⟨hb,hd,h1,h2,hr⟩:=encRegs_ok h
 obtain⟨hc,hr⟩:=rest_ok hr
 simp only[Bool.or_eq_false_iff,decide_eq_false_iff_not]at hc
 have z2:rd=0:=by simpa using hb
 subst z2
 have gi:-2048<=imm/\imm<=2047:=by omega
 have hF0:=hF
 obtain⟨ho,h3,h7⟩:=hF
 unfold regI at hd h1 h2
 rw[wordB_sum hF0 hd h1 h2]at hr
 rw[bitsAt_val (imm:=imm) (d:=1) (m:=31) (s:=128) 5 (by omega) (by omega) rfl]at hr
 rw[show imm % 4294967296 / 1 % 2 ^ 5*128 % 4294967296=(imm % 2097152 / 2 ^ 0 % 2 ^ 5)*128 by omega]at hr
 rw[bitsAt_val (imm:=imm) (d:=32) (m:=127) (s:=33554432) 7 (by omega) (by omega) rfl]at hr
 rw[show imm % 4294967296 / 32 % 2 ^ 7*33554432 % 4294967296=(imm % 2097152 / 2 ^ 5 % 2 ^ 7)*33554432 by omega]at hr
 obtain⟨t0,e0⟩:∃ t,t=imm % 2097152 / 2 ^ 0 % 2 ^ 5:=⟨_,rfl⟩
 have b0:0<=t0/\t0<32:=by omega
 rw[<- e0]at hr
 obtain⟨t5,e5⟩:∃ t,t=imm % 2097152 / 2 ^ 5 % 2 ^ 7:=⟨_,rfl⟩
 have b5:0<=t5/\t5<128:=by omega
 rw[<- e5]at hr
 have gs:(bif decide (t0*1+t5*32>2047)then IntKind.i64.wrap (t0*1+t5*32+(-4096))else t0*1+t5*32)=imm:=by
  by_cases hg:t0*1+t5*32>2047
  ·rw[decide_eq_true hg,cond_true,wrap_i (by omega) (by omega)];omega
  ·rw[decide_eq_false hg,cond_false];omega
 clear e0
 clear e5
 have O0:oW 0 (t0*1)=t0*1:=by rw[oW_add 0 5 ⟨by omega,by omega⟩ ⟨by omega,by omega⟩ (by omega) (by omega) (by omega)];omega
 have O1:oW (t0*1) (t5*32)=t0*1+t5*32:=oW_add 5 7 ⟨by omega,by omega⟩ ⟨by omega,by omega⟩ (by omega) (by omega) (by first|omega|(rw[Int.emod_eq_of_lt (by omega) (by omega)];omega))
 rw[orW_add (a:=o+f3*4096+0*33554432+0*128+rs1*32768+rs2*1048576) (b:=t0*128) 7 5 ⟨by omega,by omega⟩ ⟨by omega,by omega⟩ (by omega) (by omega) (by omega)]at hr
 rw[orW_add (a:=o+f3*4096+0*33554432+0*128+rs1*32768+rs2*1048576+t0*128) (b:=t5*33554432) 25 7 ⟨by omega,by omega⟩ ⟨by omega,by omega⟩ (by omega) (by omega) (by omega)]at hr
 have hw0:0<=w/\w<4294967296:=by omega
 have ho7:bits2 .and .u32 w 127=o:=by rw[and32 (m:=127) 7 (by omega) hw0.1 hw0.2 rfl];omega
 have F32768_5:fW w 32768 31=rs1:=by rw[fW_val (m:=31) 5 (by omega) hw0.1 hw0.2 (by omega) rfl];omega
 have F1048576_5:fW w 1048576 31=rs2:=by rw[fW_val (m:=31) 5 (by omega) hw0.1 hw0.2 (by omega) rfl];omega
 have G0:fW w 128 31=t0:=by rw[fW_val (m:=31) 5 (by omega) hw0.1 hw0.2 (by omega) rfl];omega
 have P0:pW w 128 31 1=t0*1:=by unfold pW;rw[G0,wrap_i (by omega) (by omega)]
 have G5:fW w 33554432 127=t5:=by rw[fW_val (m:=127) 7 (by omega) hw0.1 hw0.2 (by omega) rfl];omega
 have P5:pW w 33554432 127 32=t5*32:=by unfold pW;rw[G5,wrap_i (by omega) (by omega)]
 have hcand:candF 83 w=⟨0,rs1,rs2,imm⟩:=by
  show(⟨0,fW w 32768 31,fW w 1048576 31,fixW (oW (oW 0 (pW w 128 31 1)) (pW w 33554432 127 32)) 2047 (-4096)⟩:Cand)=_
  rw[F32768_5,F1048576_5,P0,P5,O0,O1]
  unfold fixW
  rw[gs]
 unfold dec1 restF
 rw[hq]
 simp only[]
 rw[ho7,show(o != o)=false by simp,cond_false,hcand,hh]
 simp
theorem encdecB {q rd rs1 rs2 imm w o f3:Int} (hF:FldOK o f3 0) (hq:rowOf (.int .i64 q)=(66,o,f3,0)) (hE:∀ rd rs1 rs2 imm,encF q rd rs1 rs2 imm=encB o f3 0 rd rs1 rs2 imm) (h:encF q rd rs1 rs2 imm=(w,0)):dec1 q w=some ⟨rd,rs1,rs2,imm⟩:=by
 have hh:=h
 rw[hE]at h
 unfold encB at h
 obtain⟨hb,hd,h1,h2,hr⟩:=encRegs_ok h
 obtain⟨hc,hr⟩:=rest_ok hr
 simp only[Bool.or_eq_false_iff,decide_eq_false_iff_not]at hc
 have z2:rd=0:=by simpa using hb
 subst z2
 rw[and1]at hc
 have gp:imm % 2=0:=by have:=hc.2;simp at this;omega
 have gi:-4096<=imm/\imm<=4094:=⟨by have:=hc.1.1;omega,by have:=hc.1.2;omega⟩
 have hF0:=hF
 obtain⟨ho,h3,h7⟩:=hF
 unfold regI at hd h1 h2
 rw[wordB_sum hF0 hd h1 h2]at hr
 rw[bitsAt_val (imm:=imm) (d:=2048) (m:=1) (s:=128) 1 (by omega) (by omega) rfl]at hr
 rw[show imm % 4294967296 / 2048 % 2 ^ 1*128 % 4294967296=(imm % 2097152 / 2 ^ 11 % 2 ^ 1)*128 by omega]at hr
 rw[bitsAt_val (imm:=imm) (d:=2) (m:=15) (s:=256) 4 (by omega) (by omega) rfl]at hr
 rw[show imm % 4294967296 / 2 % 2 ^ 4*256 % 4294967296=(imm % 2097152 / 2 ^ 1 % 2 ^ 4)*256 by omega]at hr
 rw[bitsAt_val (imm:=imm) (d:=32) (m:=63) (s:=33554432) 6 (by omega) (by omega) rfl]at hr
 rw[show imm % 4294967296 / 32 % 2 ^ 6*33554432 % 4294967296=(imm % 2097152 / 2 ^ 5 % 2 ^ 6)*33554432 by omega]at hr
 rw[bitsAt_val (imm:=imm) (d:=4096) (m:=1) (s:=2147483648) 1 (by omega) (by omega) rfl]at hr
 rw[show imm % 4294967296 / 4096 % 2 ^ 1*2147483648 % 4294967296=(imm % 2097152 / 2 ^ 12 % 2 ^ 1)*2147483648 by omega]at hr
 obtain⟨t11,e11⟩:∃ t,t=imm % 2097152 / 2 ^ 11 % 2 ^ 1:=⟨_,rfl⟩
 have b11:0<=t11/\t11<2:=by omega
 rw[<- e11]at hr
 obtain⟨t1,e1⟩:∃ t,t=imm % 2097152 / 2 ^ 1 % 2 ^ 4:=⟨_,rfl⟩
 have b1:0<=t1/\t1<16:=by omega
 rw[<- e1]at hr
 obtain⟨t5,e5⟩:∃ t,t=imm % 2097152 / 2 ^ 5 % 2 ^ 6:=⟨_,rfl⟩
 have b5:0<=t5/\t5<64:=by omega
 rw[<- e5]at hr
 obtain⟨t12,e12⟩:∃ t,t=imm % 2097152 / 2 ^ 12 % 2 ^ 1:=⟨_,rfl⟩
 have b12:0<=t12/\t12<2:=by omega
 rw[<- e12]at hr
 have gs:(bif decide (t11*2048+t1*2+t5*32+t12*4096>4094)then IntKind.i64.wrap (t11*2048+t1*2+t5*32+t12*4096+(-8192))else t11*2048+t1*2+t5*32+t12*4096)=imm:=by
  by_cases hg:t11*2048+t1*2+t5*32+t12*4096>4094
  ·rw[decide_eq_true hg,cond_true,wrap_i (by omega) (by omega)];omega
  ·rw[decide_eq_false hg,cond_false];omega
 clear e11
 clear e1
 clear e5
 clear e12
 have O0:oW 0 (t11*2048)=t11*2048:=by rw[oW_add 11 1 ⟨by omega,by omega⟩ ⟨by omega,by omega⟩ (by omega) (by omega) (by omega)];omega
 have O1:oW (t11*2048) (t1*2)=t11*2048+t1*2:=oW_add 1 4 ⟨by omega,by omega⟩ ⟨by omega,by omega⟩ (by omega) (by omega) (by first|omega|(rw[Int.emod_eq_of_lt (by omega) (by omega)];omega))
 have O2:oW (t11*2048+t1*2) (t5*32)=t11*2048+t1*2+t5*32:=oW_add 5 6 ⟨by omega,by omega⟩ ⟨by omega,by omega⟩ (by omega) (by omega) (by first|omega|(rw[Int.emod_eq_of_lt (by omega) (by omega)];omega))
 have O3:oW (t11*2048+t1*2+t5*32) (t12*4096)=t11*2048+t1*2+t5*32+t12*4096:=oW_add 12 1 ⟨by omega,by omega⟩ ⟨by omega,by omega⟩ (by omega) (by omega) (by first|omega|(rw[Int.emod_eq_of_lt (by omega) (by omega)];omega))
 rw[orW_add (a:=o+f3*4096+0*33554432+0*128+rs1*32768+rs2*1048576) (b:=t11*128) 7 1 ⟨by omega,by omega⟩ ⟨by omega,by omega⟩ (by omega) (by omega) (by omega)]at hr
 rw[orW_add (a:=o+f3*4096+0*33554432+0*128+rs1*32768+rs2*1048576+t11*128) (b:=t1*256) 8 4 ⟨by omega,by omega⟩ ⟨by omega,by omega⟩ (by omega) (by omega) (by omega)]at hr
 rw[orW_add (a:=o+f3*4096+0*33554432+0*128+rs1*32768+rs2*1048576+t11*128+t1*256) (b:=t5*33554432) 25 6 ⟨by omega,by omega⟩ ⟨by omega,by omega⟩ (by omega) (by omega) (by omega)]at hr
 rw[orW_add (a:=o+f3*4096+0*33554432+0*128+rs1*32768+rs2*1048576+t11*128+t1*256+t5*33554432) (b:=t12*2147483648) 31 1 ⟨by omega,by omega⟩ ⟨by omega,by omega⟩ (by omega) (by omega) (by omega)]at hr
 have hw0:0<=w/\w<4294967296:=by omega
 have ho7:bits2 .and .u32 w 127=o:=by rw[and32 (m:=127) 7 (by omega) hw0.1 hw0.2 rfl];omega
 have F32768_5:fW w 32768 31=rs1:=by rw[fW_val (m:=31) 5 (by omega) hw0.1 hw0.2 (by omega) rfl];omega
 have F1048576_5:fW w 1048576 31=rs2:=by rw[fW_val (m:=31) 5 (by omega) hw0.1 hw0.2 (by omega) rfl];omega
 have G11:fW w 128 1=t11:=by rw[fW_val (m:=1) 1 (by omega) hw0.1 hw0.2 (by omega) rfl];omega
 have P11:pW w 128 1 2048=t11*2048:=by unfold pW;rw[G11,wrap_i (by omega) (by omega)]
 have G1:fW w 256 15=t1:=by rw[fW_val (m:=15) 4 (by omega) hw0.1 hw0.2 (by omega) rfl];omega
 have P1:pW w 256 15 2=t1*2:=by unfold pW;rw[G1,wrap_i (by omega) (by omega)]
 have G5:fW w 33554432 63=t5:=by rw[fW_val (m:=63) 6 (by omega) hw0.1 hw0.2 (by omega) rfl];omega
 have P5:pW w 33554432 63 32=t5*32:=by unfold pW;rw[G5,wrap_i (by omega) (by omega)]
 have G12:fW w 2147483648 1=t12:=by rw[fW_val (m:=1) 1 (by omega) hw0.1 hw0.2 (by omega) rfl];omega
 have P12:pW w 2147483648 1 4096=t12*4096:=by unfold pW;rw[G12,wrap_i (by omega) (by omega)]
 have hcand:candF 66 w=⟨0,rs1,rs2,imm⟩:=by
  show(⟨0,fW w 32768 31,fW w 1048576 31,fixW (oW (oW (oW (oW 0 (pW w 128 1 2048)) (pW w 256 15 2)) (pW w 33554432 63 32)) (pW w 2147483648 1 4096)) 4094 (-8192)⟩:Cand)=_
  rw[F32768_5,F1048576_5,P11,P1,P5,P12,O0,O1,O2,O3]
  unfold fixW
  rw[gs]
 unfold dec1 restF
 rw[hq]
 simp only[]
 rw[ho7,show(o != o)=false by simp,cond_false,hcand,hh]
 simp
theorem encdecU {q rd rs1 rs2 imm w o:Int} (hF:FldOK o 0 0) (hq:rowOf (.int .i64 q)=(85,o,0,0)) (hE:∀ rd rs1 rs2 imm,encF q rd rs1 rs2 imm=encU o 0 0 rd rs1 rs2 imm) (h:encF q rd rs1 rs2 imm=(w,0)):dec1 q w=some ⟨rd,rs1,rs2,imm⟩:=by
 have hh:=h
 rw[hE]at h
 unfold encU at h
 obtain⟨hb,hd,h1,h2,hr⟩:=encRegs_ok h
 obtain⟨hc,hr⟩:=rest_ok hr
 simp only[Bool.or_eq_false_iff,decide_eq_false_iff_not]at hc
 have zz:rs1=0/\rs2=0:=by simpa using hb
 obtain⟨rfl,rfl⟩:=zz
 have gi:-524288<=imm/\imm<=524287:=by omega
 have hF0:=hF
 obtain⟨ho,h3,h7⟩:=hF
 unfold regI at hd h1 h2
 rw[wordB_sum hF0 hd h1 h2]at hr
 rw[bitsAt_val (imm:=imm) (d:=1) (m:=1048575) (s:=4096) 20 (by omega) (by omega) rfl]at hr
 rw[show imm % 4294967296 / 1 % 2 ^ 20*4096 % 4294967296=(imm % 2097152 / 2 ^ 0 % 2 ^ 20)*4096 by omega]at hr
 obtain⟨t0,e0⟩:∃ t,t=imm % 2097152 / 2 ^ 0 % 2 ^ 20:=⟨_,rfl⟩
 have b0:0<=t0/\t0<1048576:=by omega
 rw[<- e0]at hr
 have gs:(bif decide (t0*1>524287)then IntKind.i64.wrap (t0*1+(-1048576))else t0*1)=imm:=by
  by_cases hg:t0*1>524287
  ·rw[decide_eq_true hg,cond_true,wrap_i (by omega) (by omega)];omega
  ·rw[decide_eq_false hg,cond_false];omega
 clear e0
 have O0:oW 0 (t0*1)=t0*1:=by rw[oW_add 0 20 ⟨by omega,by omega⟩ ⟨by omega,by omega⟩ (by omega) (by omega) (by omega)];omega
 rw[orW_add (a:=o+0*4096+0*33554432+rd*128+0*32768+0*1048576) (b:=t0*4096) 12 20 ⟨by omega,by omega⟩ ⟨by omega,by omega⟩ (by omega) (by omega) (by omega)]at hr
 have hw0:0<=w/\w<4294967296:=by omega
 have ho7:bits2 .and .u32 w 127=o:=by rw[and32 (m:=127) 7 (by omega) hw0.1 hw0.2 rfl];omega
 have F128_5:fW w 128 31=rd:=by rw[fW_val (m:=31) 5 (by omega) hw0.1 hw0.2 (by omega) rfl];omega
 have G0:fW w 4096 1048575=t0:=by rw[fW_val (m:=1048575) 20 (by omega) hw0.1 hw0.2 (by omega) rfl];omega
 have P0:pW w 4096 1048575 1=t0*1:=by unfold pW;rw[G0,wrap_i (by omega) (by omega)]
 have hcand:candF 85 w=⟨rd,0,0,imm⟩:=by
  show(⟨fW w 128 31,0,0,fixW (oW 0 (pW w 4096 1048575 1)) 524287 (-1048576)⟩:Cand)=_
  rw[F128_5,P0,O0]
  unfold fixW
  rw[gs]
 unfold dec1 restF
 rw[hq]
 simp only[]
 rw[ho7,show(o != o)=false by simp,cond_false,hcand,hh]
 simp
theorem encdecJ {q rd rs1 rs2 imm w o:Int} (hF:FldOK o 0 0) (hq:rowOf (.int .i64 q)=(74,o,0,0)) (hE:∀ rd rs1 rs2 imm,encF q rd rs1 rs2 imm=encJ o 0 0 rd rs1 rs2 imm) (h:encF q rd rs1 rs2 imm=(w,0)):dec1 q w=some ⟨rd,rs1,rs2,imm⟩:=by
 have hh:=h
 rw[hE]at h
 unfold encJ at h
 obtain⟨hb,hd,h1,h2,hr⟩:=encRegs_ok h
 obtain⟨hc,hr⟩:=rest_ok hr
 simp only[Bool.or_eq_false_iff,decide_eq_false_iff_not]at hc
 have zz:rs1=0/\rs2=0:=by simpa using hb
 obtain⟨rfl,rfl⟩:=zz
 rw[and1]at hc
 have gp:imm % 2=0:=by have:=hc.2;simp at this;omega
 have gi:-1048576<=imm/\imm<=1048574:=⟨by have:=hc.1.1;omega,by have:=hc.1.2;omega⟩
 have hF0:=hF
 obtain⟨ho,h3,h7⟩:=hF
 unfold regI at hd h1 h2
 rw[wordB_sum hF0 hd h1 h2]at hr
 rw[bitsAt_val (imm:=imm) (d:=4096) (m:=255) (s:=4096) 8 (by omega) (by omega) rfl]at hr
 rw[show imm % 4294967296 / 4096 % 2 ^ 8*4096 % 4294967296=(imm % 2097152 / 2 ^ 12 % 2 ^ 8)*4096 by omega]at hr
 rw[bitsAt_val (imm:=imm) (d:=2048) (m:=1) (s:=1048576) 1 (by omega) (by omega) rfl]at hr
 rw[show imm % 4294967296 / 2048 % 2 ^ 1*1048576 % 4294967296=(imm % 2097152 / 2 ^ 11 % 2 ^ 1)*1048576 by omega]at hr
 rw[bitsAt_val (imm:=imm) (d:=2) (m:=1023) (s:=2097152) 10 (by omega) (by omega) rfl]at hr
 rw[show imm % 4294967296 / 2 % 2 ^ 10*2097152 % 4294967296=(imm % 2097152 / 2 ^ 1 % 2 ^ 10)*2097152 by omega]at hr
 rw[bitsAt_val (imm:=imm) (d:=1048576) (m:=1) (s:=2147483648) 1 (by omega) (by omega) rfl]at hr
 rw[show imm % 4294967296 / 1048576 % 2 ^ 1*2147483648 % 4294967296=(imm % 2097152 / 2 ^ 20 % 2 ^ 1)*2147483648 by omega]at hr
 obtain⟨t12,e12⟩:∃ t,t=imm % 2097152 / 2 ^ 12 % 2 ^ 8:=⟨_,rfl⟩
 have b12:0<=t12/\t12<256:=by omega
 rw[<- e12]at hr
 obtain⟨t11,e11⟩:∃ t,t=imm % 2097152 / 2 ^ 11 % 2 ^ 1:=⟨_,rfl⟩
 have b11:0<=t11/\t11<2:=by omega
 rw[<- e11]at hr
 obtain⟨t1,e1⟩:∃ t,t=imm % 2097152 / 2 ^ 1 % 2 ^ 10:=⟨_,rfl⟩
 have b1:0<=t1/\t1<1024:=by omega
 rw[<- e1]at hr
 obtain⟨t20,e20⟩:∃ t,t=imm % 2097152 / 2 ^ 20 % 2 ^ 1:=⟨_,rfl⟩
 have b20:0<=t20/\t20<2:=by omega
 rw[<- e20]at hr
 have gs:(bif decide (t12*4096+t11*2048+t1*2+t20*1048576>1048574)then IntKind.i64.wrap (t12*4096+t11*2048+t1*2+t20*1048576+(-2097152))else t12*4096+t11*2048+t1*2+t20*1048576)=imm:=by
  by_cases hg:t12*4096+t11*2048+t1*2+t20*1048576>1048574
  ·rw[decide_eq_true hg,cond_true,wrap_i (by omega) (by omega)];omega
  ·rw[decide_eq_false hg,cond_false];omega
 clear e12
 clear e11
 clear e1
 clear e20
 have O0:oW 0 (t12*4096)=t12*4096:=by rw[oW_add 12 8 ⟨by omega,by omega⟩ ⟨by omega,by omega⟩ (by omega) (by omega) (by omega)];omega
 have O1:oW (t12*4096) (t11*2048)=t12*4096+t11*2048:=oW_add 11 1 ⟨by omega,by omega⟩ ⟨by omega,by omega⟩ (by omega) (by omega) (by first|omega|(rw[Int.emod_eq_of_lt (by omega) (by omega)];omega))
 have O2:oW (t12*4096+t11*2048) (t1*2)=t12*4096+t11*2048+t1*2:=oW_add 1 10 ⟨by omega,by omega⟩ ⟨by omega,by omega⟩ (by omega) (by omega) (by first|omega|(rw[Int.emod_eq_of_lt (by omega) (by omega)];omega))
 have O3:oW (t12*4096+t11*2048+t1*2) (t20*1048576)=t12*4096+t11*2048+t1*2+t20*1048576:=oW_add 20 1 ⟨by omega,by omega⟩ ⟨by omega,by omega⟩ (by omega) (by omega) (by first|omega|(rw[Int.emod_eq_of_lt (by omega) (by omega)];omega))
 rw[orW_add (a:=o+0*4096+0*33554432+rd*128+0*32768+0*1048576) (b:=t12*4096) 12 8 ⟨by omega,by omega⟩ ⟨by omega,by omega⟩ (by omega) (by omega) (by omega)]at hr
 rw[orW_add (a:=o+0*4096+0*33554432+rd*128+0*32768+0*1048576+t12*4096) (b:=t11*1048576) 20 1 ⟨by omega,by omega⟩ ⟨by omega,by omega⟩ (by omega) (by omega) (by omega)]at hr
 rw[orW_add (a:=o+0*4096+0*33554432+rd*128+0*32768+0*1048576+t12*4096+t11*1048576) (b:=t1*2097152) 21 10 ⟨by omega,by omega⟩ ⟨by omega,by omega⟩ (by omega) (by omega) (by omega)]at hr
 rw[orW_add (a:=o+0*4096+0*33554432+rd*128+0*32768+0*1048576+t12*4096+t11*1048576+t1*2097152) (b:=t20*2147483648) 31 1 ⟨by omega,by omega⟩ ⟨by omega,by omega⟩ (by omega) (by omega) (by omega)]at hr
 have hw0:0<=w/\w<4294967296:=by omega
 have ho7:bits2 .and .u32 w 127=o:=by rw[and32 (m:=127) 7 (by omega) hw0.1 hw0.2 rfl];omega
 have F128_5:fW w 128 31=rd:=by rw[fW_val (m:=31) 5 (by omega) hw0.1 hw0.2 (by omega) rfl];omega
 have G12:fW w 4096 255=t12:=by rw[fW_val (m:=255) 8 (by omega) hw0.1 hw0.2 (by omega) rfl];omega
 have P12:pW w 4096 255 4096=t12*4096:=by unfold pW;rw[G12,wrap_i (by omega) (by omega)]
 have G11:fW w 1048576 1=t11:=by rw[fW_val (m:=1) 1 (by omega) hw0.1 hw0.2 (by omega) rfl];omega
 have P11:pW w 1048576 1 2048=t11*2048:=by unfold pW;rw[G11,wrap_i (by omega) (by omega)]
 have G1:fW w 2097152 1023=t1:=by rw[fW_val (m:=1023) 10 (by omega) hw0.1 hw0.2 (by omega) rfl];omega
 have P1:pW w 2097152 1023 2=t1*2:=by unfold pW;rw[G1,wrap_i (by omega) (by omega)]
 have G20:fW w 2147483648 1=t20:=by rw[fW_val (m:=1) 1 (by omega) hw0.1 hw0.2 (by omega) rfl];omega
 have P20:pW w 2147483648 1 1048576=t20*1048576:=by unfold pW;rw[G20,wrap_i (by omega) (by omega)]
 have hcand:candF 74 w=⟨rd,0,0,imm⟩:=by
  show(⟨fW w 128 31,0,0,fixW (oW (oW (oW (oW 0 (pW w 4096 255 4096)) (pW w 1048576 1 2048)) (pW w 2097152 1023 2)) (pW w 2147483648 1 1048576)) 1048574 (-2097152)⟩:Cand)=_
  rw[F128_5,P12,P11,P1,P20,O0,O1,O2,O3]
  unfold fixW
  rw[gs]
 unfold dec1 restF
 rw[hq]
 simp only[]
 rw[ho7,show(o != o)=false by simp,cond_false,hcand,hh]
 simp
theorem encdecN {q rd rs1 rs2 imm w o:Int} (hF:FldOK o 0 0) (hq:rowOf (.int .i64 q)=(78,o,0,0)) (hE:∀ rd rs1 rs2 imm,encF q rd rs1 rs2 imm=encN o 0 0 rd rs1 rs2 imm) (h:encF q rd rs1 rs2 imm=(w,0)):dec1 q w=some ⟨rd,rs1,rs2,imm⟩:=by
 have hh:=h
 rw[hE]at h
 unfold encN at h
 obtain⟨hb,hd,h1,h2,hr⟩:=encRegs_ok h
 have hr:=(Prod.mk.inj hr).1
 have zz:((rd=0/\rs1=0)/\rs2=0)/\imm=0:=by simpa using hb
 obtain⟨⟨⟨rfl,rfl⟩,rfl⟩,rfl⟩:=zz
 have hF0:=hF
 obtain⟨ho,h3,h7⟩:=hF
 unfold regI at hd h1 h2
 rw[wordB_sum hF0 hd h1 h2]at hr
 have hw0:0<=w/\w<4294967296:=by omega
 have ho7:bits2 .and .u32 w 127=o:=by rw[and32 (m:=127) 7 (by omega) hw0.1 hw0.2 rfl];omega
 have hcand:candF 78 w=⟨0,0,0,0⟩:=by
  show(⟨0,0,0,0⟩:Cand)=_
  rfl
 unfold dec1 restF
 rw[hq]
 simp only[]
 rw[ho7,show(o != o)=false by simp,cond_false,hcand,hh]
 simp
end Go.X
