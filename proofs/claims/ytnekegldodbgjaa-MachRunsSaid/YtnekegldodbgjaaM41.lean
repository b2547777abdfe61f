import Derived.Test.YtnekegldodbgjaaM40
import Derived.Test.YtnekegldodbgjaaM36
set_option linter.all false
namespace Go.X
open Go Go.Proofs
theorem encV_tree {op rd rs1 rs2 imm F o f3 f7:Int}{p:Int × Int} (h:execC (lookF FL) (sc47 op F o f3 f7) 1000 x47 (argTm 0 [i18 op rd rs1 rs2 imm]) [] 100 (valK [2,3])=vp p):EncV ⟨op,rd,rs1,rs2,imm⟩ p :=
 fun n=>adet_tree (fok FOK _) 1000 fx47 (by simp) [2,3] h rfl rfl rfl rfl n
theorem fld {o f3 f7:Int} (h:(decide (0<=o)&&(decide (o<128)&&(decide (0<=f3)&&(decide (f3<8)&&(decide (0<=f7)&&decide (f7<128))))))=true):FldOK o f3 f7:=by
 simp only[Bool.and_eq_true,decide_eq_true_eq]at h
 exact⟨⟨h.1,h.2.1⟩,⟨h.2.2.1,h.2.2.2.1⟩,⟨h.2.2.2.2.1,h.2.2.2.2.2⟩⟩
theorem encV_out {op:Int} (h:op<1\/55<op) (rd rs1 rs2 imm:Int):EncV ⟨op,rd,rs1,rs2,imm⟩ (0,2):=by
 refine encV_tree (F:=0) (o:=0) (f3:=0) (f7:=0) ?_
 rw[p470,d58_true (w58_out h)];rfl
theorem encF_neg (m:Nat) (rd rs1 rs2 imm:Int):encF (.negSucc m) rd rs1 rs2 imm=(0,2):=rfl
theorem encF_big (m:Nat) (rd rs1 rs2 imm:Int):encF (.ofNat (m+56)) rd rs1 rs2 imm=(0,2):=rfl
theorem encV_in (rd rs1 rs2 imm:Int):∀ k:Nat,EncV ⟨.ofNat k,rd,rs1,rs2,imm⟩ (encF (.ofNat k) rd rs1 rs2 imm)
 |0=>encV_out (.inl (by decide)) rd rs1 rs2 imm
 |1=>encV_tree (v47R w58_1 (fld rfl))
 |2=>encV_tree (v47R w58_2 (fld rfl))
 |3=>encV_tree (v47R w58_3 (fld rfl))
 |4=>encV_tree (v47R w58_4 (fld rfl))
 |5=>encV_tree (v47R w58_5 (fld rfl))
 |6=>encV_tree (v47R w58_6 (fld rfl))
 |7=>encV_tree (v47R w58_7 (fld rfl))
 |8=>encV_tree (v47R w58_8 (fld rfl))
 |9=>encV_tree (v47R w58_9 (fld rfl))
 |10=>encV_tree (v47R w58_10 (fld rfl))
 |11=>encV_tree (v47R w58_11 (fld rfl))
 |12=>encV_tree (v47R w58_12 (fld rfl))
 |13=>encV_tree (v47R w58_13 (fld rfl))
 |14=>encV_tree (v47R w58_14 (fld rfl))
 |15=>encV_tree (v47R w58_15 (fld rfl))
 |16=>encV_tree (v47R w58_16 (fld rfl))
 |17=>encV_tree (v47R w58_17 (fld rfl))
 |18=>encV_tree (v47R w58_18 (fld rfl))
 |19=>encV_tree (v47R w58_19 (fld rfl))
 |20=>encV_tree (v47R w58_20 (fld rfl))
 |21=>encV_tree (v47R w58_21 (fld rfl))
 |22=>encV_tree (v47R w58_22 (fld rfl))
 |23=>encV_tree (v47R w58_23 (fld rfl))
 |24=>encV_tree (v47R w58_24 (fld rfl))
 |25=>encV_tree (v47R w58_25 (fld rfl))
 |26=>encV_tree (v47R w58_26 (fld rfl))
 |27=>encV_tree (v47R w58_27 (fld rfl))
 |28=>encV_tree (v47I w58_28 (fld rfl))
 |29=>encV_tree (v47I w58_29 (fld rfl))
 |30=>encV_tree (v47I w58_30 (fld rfl))
 |31=>encV_tree (v47I w58_31 (fld rfl))
 |32=>encV_tree (v47I w58_32 (fld rfl))
 |33=>encV_tree (v47I w58_33 (fld rfl))
 |34=>encV_tree (v47T w58_34 (fld rfl) rfl)
 |35=>encV_tree (v47T w58_35 (fld rfl) rfl)
 |36=>encV_tree (v47T w58_36 (fld rfl) rfl)
 |37=>encV_tree (v47I w58_37 (fld rfl))
 |38=>encV_tree (v47I w58_38 (fld rfl))
 |39=>encV_tree (v47I w58_39 (fld rfl))
 |40=>encV_tree (v47I w58_40 (fld rfl))
 |41=>encV_tree (v47I w58_41 (fld rfl))
 |42=>encV_tree (v47S w58_42 (fld rfl))
 |43=>encV_tree (v47S w58_43 (fld rfl))
 |44=>encV_tree (v47S w58_44 (fld rfl))
 |45=>encV_tree (v47B w58_45 (fld rfl))
 |46=>encV_tree (v47B w58_46 (fld rfl))
 |47=>encV_tree (v47B w58_47 (fld rfl))
 |48=>encV_tree (v47B w58_48 (fld rfl))
 |49=>encV_tree (v47B w58_49 (fld rfl))
 |50=>encV_tree (v47B w58_50 (fld rfl))
 |51=>encV_tree (v47U w58_51 (fld rfl))
 |52=>encV_tree (v47U w58_52 (fld rfl))
 |53=>encV_tree (v47J w58_53 (fld rfl))
 |54=>encV_tree (v47I w58_54 (fld rfl))
 |55=>encV_tree (v47N w58_55 (fld rfl) ⟨rfl,rfl⟩)
 |k+56=>by rw[encF_big];exact encV_out (.inr (by simp only[Int.ofNat_eq_natCast];omega)) rd rs1 rs2 imm
theorem encV_all (i:Ins):EncV i (encF i.op i.rd i.rs1 i.rs2 i.imm):=by
 obtain⟨op,rd,rs1,rs2,imm⟩:=i
 cases op with
 |ofNat k=>exact encV_in rd rs1 rs2 imm k
 |negSucc m=>rw[encF_neg];exact encV_out (.inl (by omega)) rd rs1 rs2 imm
theorem fW_val {w d m:Int} (k:Nat) (hk:k<=31) (h0:0<=w) (h1:w<4294967296) (hd:0<d) (hm:m=2 ^ k-1):fW w d m=w / d % 2 ^ k:=by
 unfold fW
 rw[Int.fdiv_eq_ediv_of_nonneg _ (Int.le_of_lt hd),and32 k hk (Int.ediv_nonneg h0 (Int.le_of_lt hd)) (Int.lt_of_le_of_lt (Int.ediv_le_self _ h0) h1) hm]
 have hp:(0:Int)<2 ^ k:=Int.pow_pos (by decide)
 have h2:=Int.emod_nonneg (w / d) (Int.ne_of_gt hp)
 have h3:=Int.emod_lt_of_pos (w / d) hp
 have h4:=p2le (n:=k) (by omega)
 exact wrap_i (by omega) (by omega)
theorem i64w_nat {x:Nat} (h:x<9223372036854775808):IntKind.i64.wrap (x:Int)=x:=wrap_i (by omega) (by omega)
theorem oW_add {a b:Int} (k w:Nat) (ha:0<=a/\a<4611686018427387904) (hb:0<=b/\b<4611686018427387904) (h1:b<2 ^ (k+w)) (h2:b % 2 ^ k=0) (h3:a % 2 ^ (k+w)<2 ^ k):oW a b=a+b:=by
 obtain⟨x,rfl⟩:∃ x:Nat,a=x:=⟨a.toNat,by omega⟩
 obtain⟨y,rfl⟩:∃ y:Nat,b=y:=⟨b.toNat,by omega⟩
 show IntKind.i64.wrap (BitVec.ofInt 64 (x:Int) ||| BitVec.ofInt 64 (y:Int)).toNat=_
 rw[BitVec.toNat_or,bv64 x (by omega),bv64 y (by omega),or_gap (k:=k) (w:=w) (by exact_mod_cast h1) (by exact_mod_cast h2) (by exact_mod_cast h3),i64w_nat (by omega)]
 omega
theorem encdecR {q rd rs1 rs2 imm w o f3 f7:Int} (hF:FldOK o f3 f7) (hq:rowOf (.int .i64 q)=(82,o,f3,f7)) (hE:∀ rd rs1 rs2 imm,encF q rd rs1 rs2 imm=encR o f3 f7 rd rs1 rs2 imm) (h:encF q rd rs1 rs2 imm=(w,0)):dec1 q w=some ⟨rd,rs1,rs2,imm⟩:=by
 have hh:=h
 rw[hE]at h
 unfold encR at h
 obtain⟨hb,hd,h1,h2,hr⟩:=encRegs_ok h
 have hr:=(Prod.mk.inj hr).1
 have hi:imm=0:=by simpa using hb
 subst hi
 have hF0:=hF
 obtain⟨ho,h3,h7⟩:=hF
 unfold regI at hd h1 h2
 rw[wordB_sum hF0 hd h1 h2]at hr
 have hw0:0<=w/\w<4294967296:=by omega
 have ho7:bits2 .and .u32 w 127=o:=by rw[and32 (m:=127) 7 (by omega) hw0.1 hw0.2 rfl];omega
 have F128_5:fW w 128 31=rd:=by rw[fW_val (m:=31) 5 (by omega) hw0.1 hw0.2 (by omega) rfl];omega
 have F32768_5:fW w 32768 31=rs1:=by rw[fW_val (m:=31) 5 (by omega) hw0.1 hw0.2 (by omega) rfl];omega
 have F1048576_5:fW w 1048576 31=rs2:=by rw[fW_val (m:=31) 5 (by omega) hw0.1 hw0.2 (by omega) rfl];omega
 have hcand:candF 82 w=⟨rd,rs1,rs2,0⟩:=by
  show(⟨fW w 128 31,fW w 32768 31,fW w 1048576 31,0⟩:Cand)=_
  rw[F128_5,F32768_5,F1048576_5]
 unfold dec1 restF
 rw[hq]
 simp only[]
 rw[ho7,show(o != o)=false by simp,cond_false,hcand,hh]
 simp
theorem encdecI {q rd rs1 rs2 imm w o f3:Int} (hF:FldOK o f3 0) (hq:rowOf (.int .i64 q)=(73,o,f3,0)) (hE:∀ rd rs1 rs2 imm,encF q rd rs1 rs2 imm=encI o f3 0 rd rs1 rs2 imm) (h:encF q rd rs1 rs2 imm=(w,0)):dec1 q w=some ⟨rd,rs1,rs2,imm⟩:=by
 have hh:=h
 rw[hE]at h
 unfold encI at h
 obtain⟨hb,hd,h1,h2,hr⟩:=encRegs_ok h
 obtain⟨hc,hr⟩:=rest_ok hr
 simp only[Bool.or_eq_false_iff,decide_eq_false_iff_not]at hc
 have z2:rs2=0:=by simpa using hb
 subst z2
 have gi:-2048<=imm/\imm<=2047:=by omega
 have hF0:=hF
 obtain⟨ho,h3,h7⟩:=hF
 unfold regI at hd h1 h2
 rw[wordB_sum hF0 hd h1 h2]at hr
 rw[bitsAt_val (imm:=imm) (d:=1) (m:=4095) (s:=1048576) 12 (by omega) (by omega) rfl]at hr
 rw[show imm % 4294967296 / 1 % 2 ^ 12*1048576 % 4294967296=(imm % 2097152 / 2 ^ 0 % 2 ^ 12)*1048576 by omega]at hr
 obtain⟨t0,e0⟩:∃ t,t=imm % 2097152 / 2 ^ 0 % 2 ^ 12:=⟨_,rfl⟩
 have b0:0<=t0/\t0<4096:=by omega
 rw[<- e0]at hr
 have gs:(bif decide (t0*1>2047)then IntKind.i64.wrap (t0*1+(-4096))else t0*1)=imm:=by
  by_cases hg:t0*1>2047
  ·rw[decide_eq_true hg,cond_true,wrap_i (by omega) (by omega)];omega
  ·rw[decide_eq_false hg,cond_false];omega
 clear e0
 have O0:oW 0 (t0*1)=t0*1:=by rw[oW_add 0 12 ⟨by omega,by omega⟩ ⟨by omega,by omega⟩ (by omega) (by omega) (by omega)];omega
 rw[orW_add (a:=o+f3*4096+0*33554432+rd*128+rs1*32768+0*1048576) (b:=t0*1048576) 20 12 ⟨by omega,by omega⟩ ⟨by omega,by omega⟩ (by omega) (by omega) (by omega)]at hr
 have hw0:0<=w/\w<4294967296:=by omega
 have ho7:bits2 .and .u32 w 127=o:=by rw[and32 (m:=127) 7 (by omega) hw0.1 hw0.2 rfl];omega
 have F128_5:fW w 128 31=rd:=by rw[fW_val (m:=31) 5 (by omega) hw0.1 hw0.2 (by omega) rfl];omega
 have F32768_5:fW w 32768 31=rs1:=by rw[fW_val (m:=31) 5 (by omega) hw0.1 hw0.2 (by omega) rfl];omega
 have G0:fW w 1048576 4095=t0:=by rw[fW_val (m:=4095) 12 (by omega) hw0.1 hw0.2 (by omega) rfl];omega
 have P0:pW w 1048576 4095 1=t0*1:=by unfold pW;rw[G0,wrap_i (by omega) (by omega)]
 have hcand:candF 73 w=⟨rd,rs1,0,imm⟩:=by
  show(⟨fW w 128 31,fW w 32768 31,0,fixW (oW 0 (pW w 1048576 4095 1)) 2047 (-4096)⟩:Cand)=_
  rw[F128_5,F32768_5,P0,O0]
  unfold fixW
  rw[gs]
 unfold dec1 restF
 rw[hq]
 simp only[]
 rw[ho7,show(o != o)=false by simp,cond_false,hcand,hh]
 simp
theorem encdecT {q rd rs1 rs2 imm w o f3 f7:Int} (hF:FldOK o f3 f7) (h32:f7 % 2=0) (hq:rowOf (.int .i64 q)=(84,o,f3,f7)) (hE:∀ rd rs1 rs2 imm,encF q rd rs1 rs2 imm=encT o f3 f7 rd rs1 rs2 imm) (h:encF q rd rs1 rs2 imm=(w,0)):dec1 q w=some ⟨rd,rs1,rs2,imm⟩:=by
 have hh:=h
 rw[hE]at h
 unfold encT at h
 obtain⟨hb,hd,h1,h2,hr⟩:=encRegs_ok h
 obtain⟨hc,hr⟩:=rest_ok hr
 simp only[Bool.or_eq_false_iff,decide_eq_false_iff_not]at hc
 have z2:rs2=0:=by simpa using hb
 subst z2
 have gi:0<=imm/\imm<=63:=by omega
 have hF0:=hF
 obtain⟨ho,h3,h7⟩:=hF
 unfold regI at hd h1 h2
 rw[wordB_sum hF0 hd h1 h2]at hr
 rw[bitsAt_val (imm:=imm) (d:=1) (m:=63) (s:=1048576) 6 (by omega) (by omega) rfl]at hr
 rw[show imm % 4294967296 / 1 % 2 ^ 6*1048576 % 4294967296=(imm % 2097152 / 2 ^ 0 % 2 ^ 6)*1048576 by omega]at hr
 obtain⟨t0,e0⟩:∃ t,t=imm % 2097152 / 2 ^ 0 % 2 ^ 6:=⟨_,rfl⟩
 have b0:0<=t0/\t0<64:=by omega
 rw[<- e0]at hr
 have gs:t0*1=imm:=by omega
 clear e0
 have O0:oW 0 (t0*1)=t0*1:=by rw[oW_add 0 6 ⟨by omega,by omega⟩ ⟨by omega,by omega⟩ (by omega) (by omega) (by omega)];omega
 rw[orW_add (a:=o+f3*4096+f7*33554432+rd*128+rs1*32768+0*1048576) (b:=t0*1048576) 20 6 ⟨by omega,by omega⟩ ⟨by omega,by omega⟩ (by omega) (by omega) (by omega)]at hr
 have hw0:0<=w/\w<4294967296:=by omega
 have ho7:bits2 .and .u32 w 127=o:=by rw[and32 (m:=127) 7 (by omega) hw0.1 hw0.2 rfl];omega
 have F128_5:fW w 128 31=rd:=by rw[fW_val (m:=31) 5 (by omega) hw0.1 hw0.2 (by omega) rfl];omega
 have F32768_5:fW w 32768 31=rs1:=by rw[fW_val (m:=31) 5 (by omega) hw0.1 hw0.2 (by omega) rfl];omega
 have G0:fW w 1048576 63=t0:=by rw[fW_val (m:=63) 6 (by omega) hw0.1 hw0.2 (by omega) rfl];omega
 have P0:pW w 1048576 63 1=t0*1:=by unfold pW;rw[G0,wrap_i (by omega) (by omega)]
 have hcand:candF 84 w=⟨rd,rs1,0,imm⟩:=by
  show(⟨fW w 128 31,fW w 32768 31,0,oW 0 (pW w 1048576 63 1)⟩:Cand)=_
  rw[F128_5,F32768_5,P0,O0]
  rw[gs]
 unfold dec1 restF
 rw[hq]
 simp only[]
 rw[ho7,show(o != o)=false by simp,cond_false,hcand,hh]
 simp
theorem encdecS {q rd rs1 rs2 imm w o f3:Int} (hF:FldOK o f3 0) (hq:rowOf (.int .i64 q)=(83,o,f3,0)) (hE:∀ rd rs1 rs2 imm,encF q rd rs1 rs2 imm=encS o f3 0 rd rs1 rs2 imm) (h:encF q rd rs1 rs2 imm=(w,0)):dec1 q w=some ⟨rd,rs1,rs2,imm⟩:=by
 have hh:=h
 rw[hE]at h
 unfold encS at h
 obtain⟨hb,hd,h1,h2,hr⟩:=encRegs_ok h
 obtain⟨hc,hr⟩:=rest_ok hr
 simp only[Bool.or_eq_false_iff,decide_eq_false_iff_not]at hc
 have z2:rd=0:=by simpa using hb
 subst z2
 have gi:-2048<=imm/\imm<=2047:=by omega
 have hF0:=hF
 obtain⟨ho,h3,h7⟩:=hF
 unfold regI at hd h1 h2
 rw[wordB_sum hF0 hd h1 h2]at hr
 rw[bitsAt_val (imm:=imm) (d:=1) (m:=31) (s:=128) 5 (by omega) (by omega) rfl]at hr
 rw[show imm % 4294967296 / 1 % 2 ^ 5*128 % 4294967296=(imm % 2097152 / 2 ^ 0 % 2 ^ 5)*128 by omega]at hr
 rw[bitsAt_val (imm:=imm) (d:=32) (m:=127) (s:=33554432) 7 (by omega) (by omega) rfl]at hr
 rw[show imm % 4294967296 / 32 % 2 ^ 7*33554432 % 4294967296=(imm % 2097152 / 2 ^ 5 % 2 ^ 7)*33554432 by omega]at hr
 obtain⟨t0,e0⟩:∃ t,t=imm % 2097152 / 2 ^ 0 % 2 ^ 5:=⟨_,rfl⟩
 have b0:0<=t0/\t0<32:=by omega
 rw[<- e0]at hr
 obtain⟨t5,e5⟩:∃ t,t=imm % 2097152 / 2 ^ 5 % 2 ^ 7:=⟨_,rfl⟩
 have b5:0<=t5/\t5<128:=by omega
 rw[<- e5]at hr
 have gs:(bif decide (t0*1+t5*32>2047)then IntKind.i64.wrap (t0*1+t5*32+(-4096))else t0*1+t5*32)=imm:=by
  by_cases hg:t0*1+t5*32>2047
  ·rw[decide_eq_true hg,cond_true,wrap_i (by omega) (by omega)];omega
  ·rw[decide_eq_false hg,cond_false];omega
 clear e0
 clear e5
 have O0:oW 0 (t0*1)=t0*1:=by rw[oW_add 0 5 ⟨by omega,by omega⟩ ⟨by omega,by omega⟩ (by omega) (by omega) (by omega)];omega
 have O1:oW (t0*1) (t5*32)=t0*1+t5*32:=oW_add 5 7 ⟨by omega,by omega⟩ ⟨by omega,by omega⟩ (by omega) (by omega) (by first|omega|(rw[Int.emod_eq_of_lt (by omega) (by omega)];omega))
 rw[orW_add (a:=o+f3*4096+0*33554432+0*128+rs1*32768+rs2*1048576) (b:=t0*128) 7 5 ⟨by omega,by omega⟩ ⟨by omega,by omega⟩ (by omega) (by omega) (by omega)]at hr
 rw[orW_add (a:=o+f3*4096+0*33554432+0*128+rs1*32768+rs2*1048576+t0*128) (b:=t5*33554432) 25 7 ⟨by omega,by omega⟩ ⟨by omega,by omega⟩ (by omega) (by omega) (by omega)]at hr
 have hw0:0<=w/\w<4294967296:=by omega
 have ho7:bits2 .and .u32 w 127=o:=by rw[and32 (m:=127) 7 (by omega) hw0.1 hw0.2 rfl];omega
 have F32768_5:fW w 32768 31=rs1:=by rw[fW_val (m:=31) 5 (by omega) hw0.1 hw0.2 (by omega) rfl];omega
 have F1048576_5:fW w 1048576 31=rs2:=by rw[fW_val (m:=31) 5 (by omega) hw0.1 hw0.2 (by omega) rfl];omega
 have G0:fW w 128 31=t0:=by rw[fW_val (m:=31) 5 (by omega) hw0.1 hw0.2 (by omega) rfl];omega
 have P0:pW w 128 31 1=t0*1:=by unfold pW;rw[G0,wrap_i (by omega) (by omega)]
 have G5:fW w 33554432 127=t5:=by rw[fW_val (m:=127) 7 (by omega) hw0.1 hw0.2 (by omega) rfl];omega
 have P5:pW w 33554432 127 32=t5*32:=by unfold pW;rw[G5,wrap_i (by omega) (by omega)]
 have hcand:candF 83 w=⟨0,rs1,rs2,imm⟩:=by
  show(⟨0,fW w 32768 31,fW w 1048576 31,fixW (oW (oW 0 (pW w 128 31 1)) (pW w 33554432 127 32)) 2047 (-4096)⟩:Cand)=_
  rw[F32768_5,F1048576_5,P0,P5,O0,O1]
  unfold fixW
  rw[gs]
 unfold dec1 restF
 rw[hq]
 simp only[]
 rw[ho7,show(o != o)=false by simp,cond_false,hcand,hh]
 simp
theorem encdecB {q rd rs1 rs2 imm w o f3:Int} (hF:FldOK o f3 0) (hq:rowOf (.int .i64 q)=(66,o,f3,0)) (hE:∀ rd rs1 rs2 imm,encF q rd rs1 rs2 imm=encB o f3 0 rd rs1 rs2 imm) (h:encF q rd rs1 rs2 imm=(w,0)):dec1 q w=some ⟨rd,rs1,rs2,imm⟩:=by
 have hh:=h
 rw[hE]at h
 unfold encB at h
 obtain⟨hb,hd,h1,h2,hr⟩:=encRegs_ok h
 obtain⟨hc,hr⟩:=rest_ok hr
 simp only[Bool.or_eq_false_iff,decide_eq_false_iff_not]at hc
 have z2:rd=0:=by simpa using hb
 subst z2
 rw[and1]at hc
 have gp:imm % 2=0:=by have:=hc.2;simp at this;omega
 have gi:-4096<=imm/\imm<=4094:=⟨by have:=hc.1.1;omega,by have:=hc.1.2;omega⟩
 have hF0:=hF
 obtain⟨ho,h3,h7⟩:=hF
 unfold regI at hd h1 h2
 rw[wordB_sum hF0 hd h1 h2]at hr
 rw[bitsAt_val (imm:=imm) (d:=2048) (m:=1) (s:=128) 1 (by omega) (by omega) rfl]at hr
 rw[show imm % 4294967296 / 2048 % 2 ^ 1*128 % 4294967296=(imm % 2097152 / 2 ^ 11 % 2 ^ 1)*128 by omega]at hr
 rw[bitsAt_val (imm:=imm) (d:=2) (m:=15) (s:=256) 4 (by omega) (by omega) rfl]at hr
 rw[show imm % 4294967296 / 2 % 2 ^ 4*256 % 4294967296=(imm % 2097152 / 2 ^ 1 % 2 ^ 4)*256 by omega]at hr
 rw[bitsAt_val (imm:=imm) (d:=32) (m:=63) (s:=33554432) 6 (by omega) (by omega) rfl]at hr
 rw[show imm % 4294967296 / 32 % 2 ^ 6*33554432 % 4294967296=(imm % 2097152 / 2 ^ 5 % 2 ^ 6)*33554432 by omega]at hr
 rw[bitsAt_val (imm:=imm) (d:=4096) (m:=1) (s:=2147483648) 1 (by omega) (by omega) rfl]at hr
 rw[show imm % 4294967296 / 4096 % 2 ^ 1*2147483648 % 4294967296=(imm % 2097152 / 2 ^ 12 % 2 ^ 1)*2147483648 by omega]at hr
 obtain⟨t11,e11⟩:∃ t,t=imm % 2097152 / 2 ^ 11 % 2 ^ 1:=⟨_,rfl⟩
 have b11:0<=t11/\t11<2:=by omega
 rw[<- e11]at hr
 obtain⟨t1,e1⟩:∃ t,t=imm % 2097152 / 2 ^ 1 % 2 ^ 4:=⟨_,rfl⟩
 have b1:0<=t1/\t1<16:=by omega
 rw[<- e1]at hr
 obtain⟨t5,e5⟩:∃ t,t=imm % 2097152 / 2 ^ 5 % 2 ^ 6:=⟨_,rfl⟩
 have b5:0<=t5/\t5<64:=by omega
 rw[<- e5]at hr
 obtain⟨t12,e12⟩:∃ t,t=imm % 2097152 / 2 ^ 12 % 2 ^ 1:=⟨_,rfl⟩
 have b12:0<=t12/\t12<2:=by omega
 rw[<- e12]at hr
 have gs:(bif decide (t11*2048+t1*2+t5*32+t12*4096>4094)then IntKind.i64.wrap (t11*2048+t1*2+t5*32+t12*4096+(-8192))else t11*2048+t1*2+t5*32+t12*4096)=imm:=by
  by_cases hg:t11*2048+t1*2+t5*32+t12*4096>4094
  ·rw[decide_eq_true hg,cond_true,wrap_i (by omega) (by omega)];omega
  ·rw[decide_eq_false hg,cond_false];omega
 clear e11
 clear e1
 clear e5
 clear e12
 have O0:oW 0 (t11*2048)=t11*2048:=by rw[oW_add 11 1 ⟨by omega,by omega⟩ ⟨by omega,by omega⟩ (by omega) (by omega) (by omega)];omega
 have O1:oW (t11*2048) (t1*2)=t11*2048+t1*2:=oW_add 1 4 ⟨by omega,by omega⟩ ⟨by omega,by omega⟩ (by omega) (by omega) (by first|omega|(rw[Int.emod_eq_of_lt (by omega) (by omega)];omega))
 have O2:oW (t11*2048+t1*2) (t5*32)=t11*2048+t1*2+t5*32:=oW_add 5 6 ⟨by omega,by omega⟩ ⟨by omega,by omega⟩ (by omega) (by omega) (by first|omega|(rw[Int.emod_eq_of_lt (by omega) (by omega)];omega))
 have O3:oW (t11*2048+t1*2+t5*32) (t12*4096)=t11*2048+t1*2+t5*32+t12*4096:=oW_add 12 1 ⟨by omega,by omega⟩ ⟨by omega,by omega⟩ (by omega) (by omega) (by first|omega|(rw[Int.emod_eq_of_lt (by omega) (by omega)];omega))
 rw[orW_add (a:=o+f3*4096+0*33554432+0*128+rs1*32768+rs2*1048576) (b:=t11*128) 7 1 ⟨by omega,by omega⟩ ⟨by omega,by omega⟩ (by omega) (by omega) (by omega)]at hr
 rw[orW_add (a:=o+f3*4096+0*33554432+0*128+rs1*32768+rs2*1048576+t11*128) (b:=t1*256) 8 4 ⟨by omega,by omega⟩ ⟨by omega,by omega⟩ (by omega) (by omega) (by omega)]at hr
 rw[orW_add (a:=o+f3*4096+0*33554432+0*128+rs1*32768+rs2*1048576+t11*128+t1*256) (b:=t5*33554432) 25 6 ⟨by omega,by omega⟩ ⟨by omega,by omega⟩ (by omega) (by omega) (by omega)]at hr
 rw[orW_add (a:=o+f3*4096+0*33554432+0*128+rs1*32768+rs2*1048576+t11*128+t1*256+t5*33554432) (b:=t12*2147483648) 31 1 ⟨by omega,by omega⟩ ⟨by omega,by omega⟩ (by omega) (by omega) (by omega)]at hr
 have hw0:0<=w/\w<4294967296:=by omega
 have ho7:bits2 .and .u32 w 127=o:=by rw[and32 (m:=127) 7 (by omega) hw0.1 hw0.2 rfl];omega
 have F32768_5:fW w 32768 31=rs1:=by rw[fW_val (m:=31) 5 (by omega) hw0.1 hw0.2 (by omega) rfl];omega
 have F1048576_5:fW w 1048576 31=rs2:=by rw[fW_val (m:=31) 5 (by omega) hw0.1 hw0.2 (by omega) rfl];omega
 have G11:fW w 128 1=t11:=by rw[fW_val (m:=1) 1 (by omega) hw0.1 hw0.2 (by omega) rfl];omega
 have P11:pW w 128 1 2048=t11*2048:=by unfold pW;rw[G11,wrap_i (by omega) (by omega)]
 have G1:fW w 256 15=t1:=by rw[fW_val (m:=15) 4 (by omega) hw0.1 hw0.2 (by omega) rfl];omega
 have P1:pW w 256 15 2=t1*2:=by unfold pW;rw[G1,wrap_i (by omega) (by omega)]
 have G5:fW w 33554432 63=t5:=by rw[fW_val (m:=63) 6 (by omega) hw0.1 hw0.2 (by omega) rfl];omega
 have P5:pW w 33554432 63 32=t5*32:=by unfold pW;rw[G5,wrap_i (by omega) (by omega)]
 have G12:fW w 2147483648 1=t12:=by rw[fW_val (m:=1) 1 (by omega) hw0.1 hw0.2 (by omega) rfl];omega
 have P12:pW w 2147483648 1 4096=t12*4096:=by unfold pW;rw[G12,wrap_i (by omega) (by omega)]
 have hcand:candF 66 w=⟨0,rs1,rs2,imm⟩:=by
  show(⟨0,fW w 32768 31,fW w 1048576 31,fixW (oW (oW (oW (oW 0 (pW w 128 1 2048)) (pW w 256 15 2)) (pW w 33554432 63 32)) (pW w 2147483648 1 4096)) 4094 (-8192)⟩:Cand)=_
  rw[F32768_5,F1048576_5,P11,P1,P5,P12,O0,O1,O2,O3]
  unfold fixW
  rw[gs]
 unfold dec1 restF
 rw[hq]
 simp only[]
 rw[ho7,show(o != o)=false by simp,cond_false,hcand,hh]
 simp
theorem encdecU {q rd rs1 rs2 imm w o:Int} (hF:FldOK o 0 0) (hq:rowOf (.int .i64 q)=(85,o,0,0)) (hE:∀ rd rs1 rs2 imm,encF q rd rs1 rs2 imm=encU o 0 0 rd rs1 rs2 imm) (h:encF q rd rs1 rs2 imm=(w,0)):dec1 q w=some ⟨rd,rs1,rs2,imm⟩:=by
 have hh:=h
 rw[hE]at h
 unfold encU at h
 obtain⟨hb,hd,h1,h2,hr⟩:=encRegs_ok h
 obtain⟨hc,hr⟩:=rest_ok hr
 simp only[Bool.or_eq_false_iff,decide_eq_false_iff_not]at hc
 have zz:rs1=0/\rs2=0:=by simpa using hb
 obtain⟨rfl,rfl⟩:=zz
 have gi:-524288<=imm/\imm<=524287:=by omega
 have hF0:=hF
 obtain⟨ho,h3,h7⟩:=hF
 unfold regI at hd h1 h2
 rw[wordB_sum hF0 hd h1 h2]at hr
 rw[bitsAt_val (imm:=imm) (d:=1) (m:=1048575) (s:=4096) 20 (by omega) (by omega) rfl]at hr
 rw[show imm % 4294967296 / 1 % 2 ^ 20*4096 % 4294967296=(imm % 2097152 / 2 ^ 0 % 2 ^ 20)*4096 by omega]at hr
 obtain⟨t0,e0⟩:∃ t,t=imm % 2097152 / 2 ^ 0 % 2 ^ 20:=⟨_,rfl⟩
 have b0:0<=t0/\t0<1048576:=by omega
 rw[<- e0]at hr
 have gs:(bif decide (t0*1>524287)then IntKind.i64.wrap (t0*1+(-1048576))else t0*1)=imm:=by
  by_cases hg:t0*1>524287
  ·rw[decide_eq_true hg,cond_true,wrap_i (by omega) (by omega)];omega
  ·rw[decide_eq_false hg,cond_false];omega
 clear e0
 have O0:oW 0 (t0*1)=t0*1:=by rw[oW_add 0 20 ⟨by omega,by omega⟩ ⟨by omega,by omega⟩ (by omega) (by omega) (by omega)];omega
 rw[orW_add (a:=o+0*4096+0*33554432+rd*128+0*32768+0*1048576) (b:=t0*4096) 12 20 ⟨by omega,by omega⟩ ⟨by omega,by omega⟩ (by omega) (by omega) (by omega)]at hr
 have hw0:0<=w/\w<4294967296:=by omega
 have ho7:bits2 .and .u32 w 127=o:=by rw[and32 (m:=127) 7 (by omega) hw0.1 hw0.2 rfl];omega
 have F128_5:fW w 128 31=rd:=by rw[fW_val (m:=31) 5 (by omega) hw0.1 hw0.2 (by omega) rfl];omega
 have G0:fW w 4096 1048575=t0:=by rw[fW_val (m:=1048575) 20 (by omega) hw0.1 hw0.2 (by omega) rfl];omega
 have P0:pW w 4096 1048575 1=t0*1:=by unfold pW;rw[G0,wrap_i (by omega) (by omega)]
 have hcand:candF 85 w=⟨rd,0,0,imm⟩:=by
  show(⟨fW w 128 31,0,0,fixW (oW 0 (pW w 4096 1048575 1)) 524287 (-1048576)⟩:Cand)=_
  rw[F128_5,P0,O0]
  unfold fixW
  rw[gs]
 unfold dec1 restF
 rw[hq]
 simp only[]
 rw[ho7,show(o != o)=false by simp,cond_false,hcand,hh]
 simp
theorem encdecJ {q rd rs1 rs2 imm w o:Int} (hF:FldOK o 0 0) (hq:rowOf (.int .i64 q)=(74,o,0,0)) (hE:∀ rd rs1 rs2 imm,encF q rd rs1 rs2 imm=encJ o 0 0 rd rs1 rs2 imm) (h:encF q rd rs1 rs2 imm=(w,0)):dec1 q w=some ⟨rd,rs1,rs2,imm⟩:=by
 have hh:=h
 rw[hE]at h
 unfold encJ at h
 obtain⟨hb,hd,h1,h2,hr⟩:=encRegs_ok h
 obtain⟨hc,hr⟩:=rest_ok hr
 simp only[Bool.or_eq_false_iff,decide_eq_false_iff_not]at hc
 have zz:rs1=0/\rs2=0:=by simpa using hb
 obtain⟨rfl,rfl⟩:=zz
 rw[and1]at hc
 have gp:imm % 2=0:=by have:=hc.2;simp at this;omega
 have gi:-1048576<=imm/\imm<=1048574:=⟨by have:=hc.1.1;omega,by have:=hc.1.2;omega⟩
 have hF0:=hF
 obtain⟨ho,h3,h7⟩:=hF
 unfold regI at hd h1 h2
 rw[wordB_sum hF0 hd h1 h2]at hr
 rw[bitsAt_val (imm:=imm) (d:=4096) (m:=255) (s:=4096) 8 (by omega) (by omega) rfl]at hr
 rw[show imm % 4294967296 / 4096 % 2 ^ 8*4096 % 4294967296=(imm % 2097152 / 2 ^ 12 % 2 ^ 8)*4096 by omega]at hr
 rw[bitsAt_val (imm:=imm) (d:=2048) (m:=1) (s:=1048576) 1 (by omega) (by omega) rfl]at hr
 rw[show imm % 4294967296 / 2048 % 2 ^ 1*1048576 % 4294967296=(imm % 2097152 / 2 ^ 11 % 2 ^ 1)*1048576 by omega]at hr
 rw[bitsAt_val (imm:=imm) (d:=2) (m:=1023) (s:=2097152) 10 (by omega) (by omega) rfl]at hr
 rw[show imm % 4294967296 / 2 % 2 ^ 10*2097152 % 4294967296=(imm % 2097152 / 2 ^ 1 % 2 ^ 10)*2097152 by omega]at hr
 rw[bitsAt_val (imm:=imm) (d:=1048576) (m:=1) (s:=2147483648) 1 (by omega) (by omega) rfl]at hr
 rw[show imm % 4294967296 / 1048576 % 2 ^ 1*2147483648 % 4294967296=(imm % 2097152 / 2 ^ 20 % 2 ^ 1)*2147483648 by omega]at hr
 obtain⟨t12,e12⟩:∃ t,t=imm % 2097152 / 2 ^ 12 % 2 ^ 8:=⟨_,rfl⟩
 have b12:0<=t12/\t12<256:=by omega
 rw[<- e12]at hr
 obtain⟨t11,e11⟩:∃ t,t=imm % 2097152 / 2 ^ 11 % 2 ^ 1:=⟨_,rfl⟩
 have b11:0<=t11/\t11<2:=by omega
 rw[<- e11]at hr
 obtain⟨t1,e1⟩:∃ t,t=imm % 2097152 / 2 ^ 1 % 2 ^ 10:=⟨_,rfl⟩
 have b1:0<=t1/\t1<1024:=by omega
 rw[<- e1]at hr
 obtain⟨t20,e20⟩:∃ t,t=imm % 2097152 / 2 ^ 20 % 2 ^ 1:=⟨_,rfl⟩
 have b20:0<=t20/\t20<2:=by omega
 rw[<- e20]at hr
 have gs:(bif decide (t12*4096+t11*2048+t1*2+t20*1048576>1048574)then IntKind.i64.wrap (t12*4096+t11*2048+t1*2+t20*1048576+(-2097152))else t12*4096+t11*2048+t1*2+t20*1048576)=imm:=by
  by_cases hg:t12*4096+t11*2048+t1*2+t20*1048576>1048574
  ·rw[decide_eq_true hg,cond_true,wrap_i (by omega) (by omega)];omega
  ·rw[decide_eq_false hg,cond_false];omega
 clear e12
 clear e11
 clear e1
 clear e20
 have O0:oW 0 (t12*4096)=t12*4096:=by rw[oW_add 12 8 ⟨by omega,by omega⟩ ⟨by omega,by omega⟩ (by omega) (by omega) (by omega)];omega
 have O1:oW (t12*4096) (t11*2048)=t12*4096+t11*2048:=oW_add 11 1 ⟨by omega,by omega⟩ ⟨by omega,by omega⟩ (by omega) (by omega) (by first|omega|(rw[Int.emod_eq_of_lt (by omega) (by omega)];omega))
 have O2:oW (t12*4096+t11*2048) (t1*2)=t12*4096+t11*2048+t1*2:=oW_add 1 10 ⟨by omega,by omega⟩ ⟨by omega,by omega⟩ (by omega) (by omega) (by first|omega|(rw[Int.emod_eq_of_lt (by omega) (by omega)];omega))
 have O3:oW (t12*4096+t11*2048+t1*2) (t20*1048576)=t12*4096+t11*2048+t1*2+t20*1048576:=oW_add 20 1 ⟨by omega,by omega⟩ ⟨by omega,by omega⟩ (by omega) (by omega) (by first|omega|(rw[Int.emod_eq_of_lt (by omega) (by omega)];omega))
 rw[orW_add (a:=o+0*4096+0*33554432+rd*128+0*32768+0*1048576) (b:=t12*4096) 12 8 ⟨by omega,by omega⟩ ⟨by omega,by omega⟩ (by omega) (by omega) (by omega)]at hr
 rw[orW_add (a:=o+0*4096+0*33554432+rd*128+0*32768+0*1048576+t12*4096) (b:=t11*1048576) 20 1 ⟨by omega,by omega⟩ ⟨by omega,by omega⟩ (by omega) (by omega) (by omega)]at hr
 rw[orW_add (a:=o+0*4096+0*33554432+rd*128+0*32768+0*1048576+t12*4096+t11*1048576) (b:=t1*2097152) 21 10 ⟨by omega,by omega⟩ ⟨by omega,by omega⟩ (by omega) (by omega) (by omega)]at hr
 rw[orW_add (a:=o+0*4096+0*33554432+rd*128+0*32768+0*1048576+t12*4096+t11*1048576+t1*2097152) (b:=t20*2147483648) 31 1 ⟨by omega,by omega⟩ ⟨by omega,by omega⟩ (by omega) (by omega) (by omega)]at hr
 have hw0:0<=w/\w<4294967296:=by omega
 have ho7:bits2 .and .u32 w 127=o:=by rw[and32 (m:=127) 7 (by omega) hw0.1 hw0.2 rfl];omega
 have F128_5:fW w 128 31=rd:=by rw[fW_val (m:=31) 5 (by omega) hw0.1 hw0.2 (by omega) rfl];omega
 have G12:fW w 4096 255=t12:=by rw[fW_val (m:=255) 8 (by omega) hw0.1 hw0.2 (by omega) rfl];omega
 have P12:pW w 4096 255 4096=t12*4096:=by unfold pW;rw[G12,wrap_i (by omega) (by omega)]
 have G11:fW w 1048576 1=t11:=by rw[fW_val (m:=1) 1 (by omega) hw0.1 hw0.2 (by omega) rfl];omega
 have P11:pW w 1048576 1 2048=t11*2048:=by unfold pW;rw[G11,wrap_i (by omega) (by omega)]
 have G1:fW w 2097152 1023=t1:=by rw[fW_val (m:=1023) 10 (by omega) hw0.1 hw0.2 (by omega) rfl];omega
 have P1:pW w 2097152 1023 2=t1*2:=by unfold pW;rw[G1,wrap_i (by omega) (by omega)]
 have G20:fW w 2147483648 1=t20:=by rw[fW_val (m:=1) 1 (by omega) hw0.1 hw0.2 (by omega) rfl];omega
 have P20:pW w 2147483648 1 1048576=t20*1048576:=by unfold pW;rw[G20,wrap_i (by omega) (by omega)]
 have hcand:candF 74 w=⟨rd,0,0,imm⟩:=by
  show(⟨fW w 128 31,0,0,fixW (oW (oW (oW (oW 0 (pW w 4096 255 4096)) (pW w 1048576 1 2048)) (pW w 2097152 1023 2)) (pW w 2147483648 1 1048576)) 1048574 (-2097152)⟩:Cand)=_
  rw[F128_5,P12,P11,P1,P20,O0,O1,O2,O3]
  unfold fixW
  rw[gs]
 unfold dec1 restF
 rw[hq]
 simp only[]
 rw[ho7,show(o != o)=false by simp,cond_false,hcand,hh]
 simp
theorem encdecN {q rd rs1 rs2 imm w o:Int} (hF:FldOK o 0 0) (hq:rowOf (.int .i64 q)=(78,o,0,0)) (hE:∀ rd rs1 rs2 imm,encF q rd rs1 rs2 imm=encN o 0 0 rd rs1 rs2 imm) (h:encF q rd rs1 rs2 imm=(w,0)):dec1 q w=some ⟨rd,rs1,rs2,imm⟩:=by
 have hh:=h
 rw[hE]at h
 unfold encN at h
 obtain⟨hb,hd,h1,h2,hr⟩:=encRegs_ok h
 have hr:=(Prod.mk.inj hr).1
 have zz:((rd=0/\rs1=0)/\rs2=0)/\imm=0:=by simpa using hb
 obtain⟨⟨⟨rfl,rfl⟩,rfl⟩,rfl⟩:=zz
 have hF0:=hF
 obtain⟨ho,h3,h7⟩:=hF
 unfold regI at hd h1 h2
 rw[wordB_sum hF0 hd h1 h2]at hr
 have hw0:0<=w/\w<4294967296:=by omega
 have ho7:bits2 .and .u32 w 127=o:=by rw[and32 (m:=127) 7 (by omega) hw0.1 hw0.2 rfl];omega
 have hcand:candF 78 w=⟨0,0,0,0⟩:=by
  show(⟨0,0,0,0⟩:Cand)=_
  rfl
 unfold dec1 restF
 rw[hq]
 simp only[]
 rw[ho7,show(o != o)=false by simp,cond_false,hcand,hh]
 simp
end Go.X
