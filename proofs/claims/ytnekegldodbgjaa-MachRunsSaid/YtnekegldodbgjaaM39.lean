import Derived.Test.YtnekegldodbgjaaM38
import Derived.Test.YtnekegldodbgjaaM35
set_option linter.all false
namespace Go.X
open Go Go.Proofs
theorem or_gap {k w a b:Nat} (hb:b<2 ^ (k+w)) (hm:b % 2 ^ k=0) (hg:a % 2 ^ (k+w)<2 ^ k):a ||| b=a+b:=by
 obtain⟨t,rfl⟩:∃ t,b=2 ^ k*t:=⟨b / 2 ^ k,by rw[Nat.mul_div_cancel' (Nat.dvd_of_mod_eq_zero hm)]⟩
 have e:a=2 ^ (k+w)*(a / 2 ^ (k+w))+a % 2 ^ (k+w):=(Nat.div_add_mod _ _).symm
 have hlt:a % 2 ^ (k+w)<2 ^ (k+w):=Nat.mod_lt _ (Nat.two_pow_pos _)
 generalize a / 2 ^ (k+w)=h at e
 generalize a % 2 ^ (k+w)=l at *
 subst e
 have h1:2 ^ k*t+l<2 ^ (k+w):=by
  have ht:t<2 ^ w:=by
   rw[Nat.pow_add]at hb
   exact Nat.lt_of_mul_lt_mul_left hb
  have h2:2 ^ k*(t+1)<=2 ^ k*2 ^ w:=Nat.mul_le_mul_left _ ht
  rw[Nat.pow_add]
  rw[Nat.mul_add,Nat.mul_one]at h2
  omega
 rw[Nat.two_pow_add_eq_or_of_lt hlt h,Nat.or_assoc,Nat.or_comm l,<- Nat.two_pow_add_eq_or_of_lt hg t,<- Nat.two_pow_add_eq_or_of_lt h1 h,<- Nat.two_pow_add_eq_or_of_lt hlt h]
 omega
theorem orW_add {a b:Int} (k w:Nat) (ha:isU a) (hb:isU b) (h1:b<2 ^ (k+w)) (h2:b % 2 ^ k=0) (h3:a % 2 ^ (k+w)<2 ^ k):orW a b=a+b:=by
 rw[or_nat ha hb]
 unfold isU at ha hb
 obtain⟨x,rfl⟩:∃ x:Nat,a=x:=⟨a.toNat,by omega⟩
 obtain⟨y,rfl⟩:∃ y:Nat,b=y:=⟨b.toNat,by omega⟩
 rw[Int.toNat_natCast,Int.toNat_natCast,or_gap (k:=k) (w:=w) (by exact_mod_cast h1) (by exact_mod_cast h2) (by exact_mod_cast h3)]
 omega
theorem and32 {x:Int} (w:Nat) (hw:w<=31) (h0:0<=x) (h1:x<4294967296){m:Int} (hm:m=2 ^ w-1):bits2 .and .u32 x m=x % 2 ^ w:=by
 obtain⟨x,rfl⟩:∃ k:Nat,x=k:=⟨x.toNat,by omega⟩
 have hp:2 ^ w<=2 ^ 31:=Nat.pow_le_pow_right (by decide) hw
 have hp0:0<2 ^ w:=Nat.two_pow_pos _
 have hc:((2 ^ w:Nat):Int)=(2:Int) ^ w:=by simp
 have hm':m=((2 ^ w-1:Nat):Int):=by rw[hm,<- hc];omega
 rw[hm']
 show IntKind.u32.wrap (BitVec.ofInt 32 (x:Int) &&& BitVec.ofInt 32 ((2 ^ w-1:Nat):Int)).toNat=_
 rw[BitVec.toNat_and,BitVec.toNat_ofInt,BitVec.toNat_ofInt,u32_wrap]
 rw[show(((x:Int) % ((2 ^ 32:Nat):Int)).toNat)=x by omega,show((((2 ^ w-1:Nat):Int) % ((2 ^ 32:Nat):Int)).toNat)=2 ^ w-1 by omega,Nat.and_two_pow_sub_one_eq_mod]
 have:x % 2 ^ w<=x:=Nat.mod_le _ _
 have e:((x % 2 ^ w:Nat):Int)=(x:Int) % 2 ^ w:=by simp
 omega
theorem bitsAt_val {imm d m s:Int} (w:Nat) (hw:w<=31) (hd:0<d) (hm:m=2 ^ w-1):bitsAt imm d m s=imm % 4294967296 / d % 2 ^ w*s % 4294967296:=by
 unfold bitsAt
 have h0:0<=imm % 4294967296:=by omega
 have h1:imm % 4294967296<4294967296:=by omega
 rw[u32_wrap imm,Int.fdiv_eq_ediv_of_nonneg _ (Int.le_of_lt hd),and32 w hw (Int.ediv_nonneg h0 (Int.le_of_lt hd)) (Int.lt_of_le_of_lt (Int.ediv_le_self _ h0) h1) hm,u32_wrap]
theorem and1 (x:Int):bits2 .and .i64 x 1=x % 2:=by
 show IntKind.i64.wrap (BitVec.ofInt 64 x &&& BitVec.ofInt 64 ((1:Nat):Int)).toNat=_
 rw[BitVec.toNat_and,BitVec.toNat_ofInt,BitVec.toNat_ofInt,show((((1:Nat):Int) % ((2 ^ 64:Nat):Int)).toNat)=2 ^ 1-1 by omega,Nat.and_two_pow_sub_one_eq_mod,wrap_i (by omega) (by omega)]
 omega
structure FldOK (o f3 f7:Int):Prop where
 o:0<=o/\o<128
 f3:0<=f3/\f3<8
 f7:0<=f7/\f7<128
theorem wordB_sum {o f3 f7 rd rs1 rs2:Int} (h:FldOK o f3 f7) (hd:regI rd) (h1:regI rs1) (h2:regI rs2) :
  wordB o f3 f7 rd rs1 rs2=o+f3*4096+f7*33554432+rd*128+rs1*32768+rs2*1048576:=by
 obtain⟨ho,h3,h7⟩:=h
 unfold regI at hd h1 h2
 show orW (orW (orW (orW (orW o _) _) _) _) _=_
 simp only[u32_wrap]
 rw[show rd % 4294967296*128 % 4294967296=rd*128 by omega,show rs1 % 4294967296*32768 % 4294967296=rs1*32768 by omega,show rs2 % 4294967296*1048576 % 4294967296=rs2*1048576 by omega,
  show f3*4096 % 4294967296=f3*4096 by omega,show f7*33554432 % 4294967296=f7*33554432 by omega]
 rw[orW_add (a:=o) 12 3 ⟨by omega,by omega⟩ ⟨by omega,by omega⟩ (by omega) (by omega) (by omega)]
 rw[orW_add (a:=o+f3*4096) 25 7 ⟨by omega,by omega⟩ ⟨by omega,by omega⟩ (by omega) (by omega) (by omega)]
 rw[orW_add (a:=o+f3*4096+f7*33554432) 7 5 ⟨by omega,by omega⟩ ⟨by omega,by omega⟩ (by omega) (by omega) (by omega)]
 rw[orW_add (a:=o+f3*4096+f7*33554432+rd*128) 15 5 ⟨by omega,by omega⟩ ⟨by omega,by omega⟩ (by omega) (by omega) (by omega)]
 rw[orW_add (a:=o+f3*4096+f7*33554432+rd*128+rs1*32768) 20 5 ⟨by omega,by omega⟩ ⟨by omega,by omega⟩ (by omega) (by omega) (by omega)]
end Go.X
