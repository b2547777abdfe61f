import Derived.Test.YtkghggngmpmigaaD21
set_option linter.all false
namespace Go.X
open Go Go.Proofs
theorem enc_of {op rd rs1 rs2 imm F o f3 f7 w e:Int}{b:Bool} (h1:E18b op rd rs1 rs2 imm F o f3 f7 b)
  (h2:execC (lookF FL) sc43 1000 x18_74 (T18 b) (H18 op rd rs1 rs2 imm F o f3 f7) 103 (valK [2,3])=some [.int .u32 w,.int .i64 e]) (n:Nat) :
  ADet Try.prog 25 [i18 op rd rs1 rs2 imm] [] (.tuple ⟨[.int .u32 w,.int .i64 e]⟩) [] n 0:=by
 refine adet_of_body (vs0:=[i18 op rd rs1 rs2 imm]) (pre0:=[]) (v0:=.tuple ⟨[.int .u32 w,.int .i64 e]⟩) (upd0:=[]) (n0:=100) (news0:=0) ?_ [] [] rfl rfl trivial rfl rfl trivial rfl
 refine body_of mixed fx18 (by simp) fun ρ w' hd=>?_
 refine xwp_seq (xwp_exec FOK43 10 [] (e18a op rd rs1 rs2 imm) rfl ?_)
 refine xwp_seq (xwp_exec FOK43 10 [] h1 rfl ?_)
 refine XWP.wk (s':=⟨T18 b,H18 op rd rs1 rs2 imm F o f3 f7,103⟩) (weak [(100,100),(102,102)] rfl rfl ⟨⟨rfl,rfl⟩,⟨rfl,rfl⟩,⟨rfl,rfl⟩,⟨rfl,rfl⟩,⟨rfl,rfl⟩,trivial⟩ ⟨rfl,rfl,trivial⟩) ?_
 obtain⟨ee,t,h,n',hx,hk⟩:=execC_some 1000 h2
 unfold valK at hk
 split at hk
 ·rename_i hfin
  exact xwp_exec FOK43 1000 [] hx rfl ⟨finE_or hfin,_,weak [] rfl rfl (looks_ts hk rfl) trivial,rfl⟩
 ·cases hk
def noReg (r:Int):Bool:=decide (r<0)||decide (r>31)
def wordB (o f3 f7 rd rs1 rs2:Int):Int :=
 bits2 .or .u32 (bits2 .or .u32 (bits2 .or .u32 (bits2 .or .u32 (bits2 .or .u32 o (IntKind.u32.wrap (f3*4096))) (IntKind.u32.wrap (f7*33554432))) (IntKind.u32.wrap (IntKind.u32.wrap rd*128))) (IntKind.u32.wrap (IntKind.u32.wrap rs1*32768))) (IntKind.u32.wrap (IntKind.u32.wrap rs2*1048576))
def bitsAt (imm d m s:Int):Int:=IntKind.u32.wrap (bits2 .and .u32 ((IntKind.u32.wrap imm).fdiv d) m*s)
def orW (a b:Int):Int:=bits2 .or .u32 a b
def encRegs (bad:Bool) (rd rs1 rs2:Int) (rest:Int × Int):Int × Int :=
 bif bad then(0,2)else bif noReg rd then(0,1)else bif noReg rs1 then(0,1)else bif noReg rs2 then(0,1)else rest
def vp (p:Int × Int):Option (List Value):=some [.int .u32 p.1,.int .i64 p.2]
theorem vp_cond (c:Bool) (a b:Int × Int):vp (bif c then a else b)=bif c then vp a else vp b:=by cases c<;>rfl
def encR (o f3 f7 rd rs1 rs2 imm:Int):Int × Int:=encRegs (imm != 0) rd rs1 rs2 ((wordB o f3 f7 rd rs1 rs2,0))
theorem p18R (op rd rs1 rs2 imm o f3 f7:Int):execC (lookF FL) sc43 1000 x18_74 (T18 true) (H18 op rd rs1 rs2 imm 82 o f3 f7) 103 (valK [2,3])=vp (encR o f3 f7 rd rs1 rs2 imm):=by
 rw[t18R]
 simp only[Bool.or_not_self,Bool.not_or_self,Bool.and_true,Bool.true_and,Bool.or_false,Bool.false_or,Bool.or_true,Bool.true_or,Bool.and_false,Bool.false_and,Bool.not_not,Bool.not_true,Bool.not_false,cond_true,cond_false,Bool.and_self,Bool.or_self,Bool.cond_true_left,Bool.cond_false_right,Bool.cond_true_right,Bool.cond_false_left,encR,encRegs,vp_cond]
 rfl
def encI (o f3 f7 rd rs1 rs2 imm:Int):Int × Int:=encRegs (!rs2==0) rd rs1 rs2 (bif decide (imm<(-2048))||decide (imm>2047)then(0,1)else((orW (wordB o f3 f7 rd rs1 rs2) (bitsAt imm 1 4095 1048576)),0))
theorem p18I (op rd rs1 rs2 imm o f3 f7:Int):execC (lookF FL) sc43 1000 x18_74 (T18 true) (H18 op rd rs1 rs2 imm 73 o f3 f7) 103 (valK [2,3])=vp (encI o f3 f7 rd rs1 rs2 imm):=by
 rw[t18I]
 simp only[Bool.or_not_self,Bool.not_or_self,Bool.and_true,Bool.true_and,Bool.or_false,Bool.false_or,Bool.or_true,Bool.true_or,Bool.and_false,Bool.false_and,Bool.not_not,Bool.not_true,Bool.not_false,cond_true,cond_false,Bool.and_self,Bool.or_self,Bool.cond_true_left,Bool.cond_false_right,Bool.cond_true_right,Bool.cond_false_left,encI,encRegs,vp_cond]
 rfl
def encT (o f3 f7 rd rs1 rs2 imm:Int):Int × Int:=encRegs (!rs2==0) rd rs1 rs2 (bif decide (imm<0)||decide (imm>63)then(0,1)else((orW (wordB o f3 f7 rd rs1 rs2) (bitsAt imm 1 63 1048576)),0))
theorem p18T (op rd rs1 rs2 imm o f3 f7:Int):execC (lookF FL) sc43 1000 x18_74 (T18 true) (H18 op rd rs1 rs2 imm 84 o f3 f7) 103 (valK [2,3])=vp (encT o f3 f7 rd rs1 rs2 imm):=by
 rw[t18T]
 simp only[Bool.or_not_self,Bool.not_or_self,Bool.and_true,Bool.true_and,Bool.or_false,Bool.false_or,Bool.or_true,Bool.true_or,Bool.and_false,Bool.false_and,Bool.not_not,Bool.not_true,Bool.not_false,cond_true,cond_false,Bool.and_self,Bool.or_self,Bool.cond_true_left,Bool.cond_false_right,Bool.cond_true_right,Bool.cond_false_left,encT,encRegs,vp_cond]
 rfl
def encS (o f3 f7 rd rs1 rs2 imm:Int):Int × Int:=encRegs (!rd==0) rd rs1 rs2 (bif decide (imm<(-2048))||decide (imm>2047)then(0,1)else((orW (orW (wordB o f3 f7 rd rs1 rs2) (bitsAt imm 1 31 128)) (bitsAt imm 32 127 33554432)),0))
theorem p18S (op rd rs1 rs2 imm o f3 f7:Int):execC (lookF FL) sc43 1000 x18_74 (T18 true) (H18 op rd rs1 rs2 imm 83 o f3 f7) 103 (valK [2,3])=vp (encS o f3 f7 rd rs1 rs2 imm):=by
 rw[t18S]
 simp only[Bool.or_not_self,Bool.not_or_self,Bool.and_true,Bool.true_and,Bool.or_false,Bool.false_or,Bool.or_true,Bool.true_or,Bool.and_false,Bool.false_and,Bool.not_not,Bool.not_true,Bool.not_false,cond_true,cond_false,Bool.and_self,Bool.or_self,Bool.cond_true_left,Bool.cond_false_right,Bool.cond_true_right,Bool.cond_false_left,encS,encRegs,vp_cond]
 rfl
def encB (o f3 f7 rd rs1 rs2 imm:Int):Int × Int:=encRegs (!rd==0) rd rs1 rs2 (bif decide (imm<(-4096))||decide (imm>4094)||bits2 .and .i64 imm 1==1 then(0,1)else((orW (orW (orW (orW (wordB o f3 f7 rd rs1 rs2) (bitsAt imm 2048 1 128)) (bitsAt imm 2 15 256)) (bitsAt imm 32 63 33554432)) (bitsAt imm 4096 1 2147483648)),0))
theorem p18B (op rd rs1 rs2 imm o f3 f7:Int):execC (lookF FL) sc43 1000 x18_74 (T18 true) (H18 op rd rs1 rs2 imm 66 o f3 f7) 103 (valK [2,3])=vp (encB o f3 f7 rd rs1 rs2 imm):=by
 rw[t18B]
 simp only[Bool.or_not_self,Bool.not_or_self,Bool.and_true,Bool.true_and,Bool.or_false,Bool.false_or,Bool.or_true,Bool.true_or,Bool.and_false,Bool.false_and,Bool.not_not,Bool.not_true,Bool.not_false,cond_true,cond_false,Bool.and_self,Bool.or_self,Bool.cond_true_left,Bool.cond_false_right,Bool.cond_true_right,Bool.cond_false_left,encB,encRegs,vp_cond]
 rfl
def encU (o f3 f7 rd rs1 rs2 imm:Int):Int × Int:=encRegs (!(rs1==0&&rs2==0)) rd rs1 rs2 (bif decide (imm<(-524288))||decide (imm>524287)then(0,1)else((orW (wordB o f3 f7 rd rs1 rs2) (bitsAt imm 1 1048575 4096)),0))
theorem p18U (op rd rs1 rs2 imm o f3 f7:Int):execC (lookF FL) sc43 1000 x18_74 (T18 true) (H18 op rd rs1 rs2 imm 85 o f3 f7) 103 (valK [2,3])=vp (encU o f3 f7 rd rs1 rs2 imm):=by
 rw[t18U]
 simp only[Bool.or_not_self,Bool.not_or_self,Bool.and_true,Bool.true_and,Bool.or_false,Bool.false_or,Bool.or_true,Bool.true_or,Bool.and_false,Bool.false_and,Bool.not_not,Bool.not_true,Bool.not_false,cond_true,cond_false,Bool.and_self,Bool.or_self,Bool.cond_true_left,Bool.cond_false_right,Bool.cond_true_right,Bool.cond_false_left,encU,encRegs,vp_cond]
 rfl
def encJ (o f3 f7 rd rs1 rs2 imm:Int):Int × Int:=encRegs (!(rs1==0&&rs2==0)) rd rs1 rs2 (bif decide (imm<(-1048576))||decide (imm>1048574)||bits2 .and .i64 imm 1==1 then(0,1)else((orW (orW (orW (orW (wordB o f3 f7 rd rs1 rs2) (bitsAt imm 4096 255 4096)) (bitsAt imm 2048 1 1048576)) (bitsAt imm 2 1023 2097152)) (bitsAt imm 1048576 1 2147483648)),0))
theorem p18J (op rd rs1 rs2 imm o f3 f7:Int):execC (lookF FL) sc43 1000 x18_74 (T18 true) (H18 op rd rs1 rs2 imm 74 o f3 f7) 103 (valK [2,3])=vp (encJ o f3 f7 rd rs1 rs2 imm):=by
 rw[t18J]
 simp only[Bool.or_not_self,Bool.not_or_self,Bool.and_true,Bool.true_and,Bool.or_false,Bool.false_or,Bool.or_true,Bool.true_or,Bool.and_false,Bool.false_and,Bool.not_not,Bool.not_true,Bool.not_false,cond_true,cond_false,Bool.and_self,Bool.or_self,Bool.cond_true_left,Bool.cond_false_right,Bool.cond_true_right,Bool.cond_false_left,encJ,encRegs,vp_cond]
 rfl
def encN (o f3 f7 rd rs1 rs2 imm:Int):Int × Int:=encRegs (!(rd==0&&rs1==0&&rs2==0)||imm != 0) rd rs1 rs2 ((wordB o f3 f7 rd rs1 rs2,0))
theorem p18N (op rd rs1 rs2 imm o f3 f7:Int):execC (lookF FL) sc43 1000 x18_74 (T18 true) (H18 op rd rs1 rs2 imm 78 o f3 f7) 103 (valK [2,3])=vp (encN o f3 f7 rd rs1 rs2 imm):=by
 rw[t18N]
 simp only[Bool.or_not_self,Bool.not_or_self,Bool.and_true,Bool.true_and,Bool.or_false,Bool.false_or,Bool.or_true,Bool.true_or,Bool.and_false,Bool.false_and,Bool.not_not,Bool.not_true,Bool.not_false,cond_true,cond_false,Bool.and_self,Bool.or_self,Bool.cond_true_left,Bool.cond_false_right,Bool.cond_true_right,Bool.cond_false_left,encN,encRegs,vp_cond]
 rfl
theorem p18Z (op rd rs1 rs2 imm o f3 f7:Int):execC (lookF FL) sc43 1000 x18_74 (T18 false) (H18 op rd rs1 rs2 imm 0 o f3 f7) 103 (valK [2,3])=vp (0,2):=by
 rw[t18Z]
 rfl
theorem c18R (op rd rs1 rs2 imm o f3 f7:Int) (h1:E18b op rd rs1 rs2 imm 82 o f3 f7 true) (n:Nat):ADet Try.prog 25 [i18 op rd rs1 rs2 imm] [] (.tuple ⟨[.int .u32 (encR o f3 f7 rd rs1 rs2 imm).1,.int .i64 (encR o f3 f7 rd rs1 rs2 imm).2]⟩) [] n 0:=enc_of h1 (p18R op rd rs1 rs2 imm o f3 f7) n
theorem c18I (op rd rs1 rs2 imm o f3 f7:Int) (h1:E18b op rd rs1 rs2 imm 73 o f3 f7 true) (n:Nat):ADet Try.prog 25 [i18 op rd rs1 rs2 imm] [] (.tuple ⟨[.int .u32 (encI o f3 f7 rd rs1 rs2 imm).1,.int .i64 (encI o f3 f7 rd rs1 rs2 imm).2]⟩) [] n 0:=enc_of h1 (p18I op rd rs1 rs2 imm o f3 f7) n
theorem c18T (op rd rs1 rs2 imm o f3 f7:Int) (h1:E18b op rd rs1 rs2 imm 84 o f3 f7 true) (n:Nat):ADet Try.prog 25 [i18 op rd rs1 rs2 imm] [] (.tuple ⟨[.int .u32 (encT o f3 f7 rd rs1 rs2 imm).1,.int .i64 (encT o f3 f7 rd rs1 rs2 imm).2]⟩) [] n 0:=enc_of h1 (p18T op rd rs1 rs2 imm o f3 f7) n
theorem c18S (op rd rs1 rs2 imm o f3 f7:Int) (h1:E18b op rd rs1 rs2 imm 83 o f3 f7 true) (n:Nat):ADet Try.prog 25 [i18 op rd rs1 rs2 imm] [] (.tuple ⟨[.int .u32 (encS o f3 f7 rd rs1 rs2 imm).1,.int .i64 (encS o f3 f7 rd rs1 rs2 imm).2]⟩) [] n 0:=enc_of h1 (p18S op rd rs1 rs2 imm o f3 f7) n
theorem c18B (op rd rs1 rs2 imm o f3 f7:Int) (h1:E18b op rd rs1 rs2 imm 66 o f3 f7 true) (n:Nat):ADet Try.prog 25 [i18 op rd rs1 rs2 imm] [] (.tuple ⟨[.int .u32 (encB o f3 f7 rd rs1 rs2 imm).1,.int .i64 (encB o f3 f7 rd rs1 rs2 imm).2]⟩) [] n 0:=enc_of h1 (p18B op rd rs1 rs2 imm o f3 f7) n
theorem c18U (op rd rs1 rs2 imm o f3 f7:Int) (h1:E18b op rd rs1 rs2 imm 85 o f3 f7 true) (n:Nat):ADet Try.prog 25 [i18 op rd rs1 rs2 imm] [] (.tuple ⟨[.int .u32 (encU o f3 f7 rd rs1 rs2 imm).1,.int .i64 (encU o f3 f7 rd rs1 rs2 imm).2]⟩) [] n 0:=enc_of h1 (p18U op rd rs1 rs2 imm o f3 f7) n
theorem c18J (op rd rs1 rs2 imm o f3 f7:Int) (h1:E18b op rd rs1 rs2 imm 74 o f3 f7 true) (n:Nat):ADet Try.prog 25 [i18 op rd rs1 rs2 imm] [] (.tuple ⟨[.int .u32 (encJ o f3 f7 rd rs1 rs2 imm).1,.int .i64 (encJ o f3 f7 rd rs1 rs2 imm).2]⟩) [] n 0:=enc_of h1 (p18J op rd rs1 rs2 imm o f3 f7) n
theorem c18N (op rd rs1 rs2 imm o f3 f7:Int) (h1:E18b op rd rs1 rs2 imm 78 o f3 f7 true) (n:Nat):ADet Try.prog 25 [i18 op rd rs1 rs2 imm] [] (.tuple ⟨[.int .u32 (encN o f3 f7 rd rs1 rs2 imm).1,.int .i64 (encN o f3 f7 rd rs1 rs2 imm).2]⟩) [] n 0:=enc_of h1 (p18N op rd rs1 rs2 imm o f3 f7) n
theorem c18Z (op rd rs1 rs2 imm o f3 f7:Int) (h1:E18b op rd rs1 rs2 imm 0 o f3 f7 false) (n:Nat):ADet Try.prog 25 [i18 op rd rs1 rs2 imm] [] (.tuple ⟨[.int .u32 0,.int .i64 2]⟩) [] n 0:=enc_of h1 (p18Z op rd rs1 rs2 imm o f3 f7) n
theorem e18_neg (m:Nat) (rd rs1 rs2 imm:Int):E18b (Int.negSucc m) rd rs1 rs2 imm 0 0 0 0 false:=by unfold E18b;kernel_rfl
theorem e18_0 (rd rs1 rs2 imm:Int):E18b 0 rd rs1 rs2 imm 0 0 0 0 false:=by unfold E18b;kernel_rfl
theorem e18_big (m:Nat) (rd rs1 rs2 imm:Int):E18b (Int.ofNat (m+56)) rd rs1 rs2 imm 0 0 0 0 false:=by unfold E18b;kernel_rfl
theorem e18_1 (rd rs1 rs2 imm:Int):E18b 1 rd rs1 rs2 imm 82 51 0 0 true:=by unfold E18b;kernel_rfl
theorem e18_2 (rd rs1 rs2 imm:Int):E18b 2 rd rs1 rs2 imm 82 51 0 32 true:=by unfold E18b;kernel_rfl
theorem e18_3 (rd rs1 rs2 imm:Int):E18b 3 rd rs1 rs2 imm 82 51 1 0 true:=by unfold E18b;kernel_rfl
theorem e18_4 (rd rs1 rs2 imm:Int):E18b 4 rd rs1 rs2 imm 82 51 2 0 true:=by unfold E18b;kernel_rfl
theorem e18_5 (rd rs1 rs2 imm:Int):E18b 5 rd rs1 rs2 imm 82 51 3 0 true:=by unfold E18b;kernel_rfl
theorem e18_6 (rd rs1 rs2 imm:Int):E18b 6 rd rs1 rs2 imm 82 51 4 0 true:=by unfold E18b;kernel_rfl
theorem e18_7 (rd rs1 rs2 imm:Int):E18b 7 rd rs1 rs2 imm 82 51 5 0 true:=by unfold E18b;kernel_rfl
theorem e18_8 (rd rs1 rs2 imm:Int):E18b 8 rd rs1 rs2 imm 82 51 5 32 true:=by unfold E18b;kernel_rfl
theorem e18_9 (rd rs1 rs2 imm:Int):E18b 9 rd rs1 rs2 imm 82 51 6 0 true:=by unfold E18b;kernel_rfl
theorem e18_10 (rd rs1 rs2 imm:Int):E18b 10 rd rs1 rs2 imm 82 51 7 0 true:=by unfold E18b;kernel_rfl
theorem e18_11 (rd rs1 rs2 imm:Int):E18b 11 rd rs1 rs2 imm 82 51 0 1 true:=by unfold E18b;kernel_rfl
theorem e18_12 (rd rs1 rs2 imm:Int):E18b 12 rd rs1 rs2 imm 82 51 1 1 true:=by unfold E18b;kernel_rfl
theorem e18_13 (rd rs1 rs2 imm:Int):E18b 13 rd rs1 rs2 imm 82 51 3 1 true:=by unfold E18b;kernel_rfl
theorem e18_14 (rd rs1 rs2 imm:Int):E18b 14 rd rs1 rs2 imm 82 51 4 1 true:=by unfold E18b;kernel_rfl
theorem e18_15 (rd rs1 rs2 imm:Int):E18b 15 rd rs1 rs2 imm 82 51 5 1 true:=by unfold E18b;kernel_rfl
theorem e18_16 (rd rs1 rs2 imm:Int):E18b 16 rd rs1 rs2 imm 82 51 6 1 true:=by unfold E18b;kernel_rfl
theorem e18_17 (rd rs1 rs2 imm:Int):E18b 17 rd rs1 rs2 imm 82 51 7 1 true:=by unfold E18b;kernel_rfl
theorem e18_18 (rd rs1 rs2 imm:Int):E18b 18 rd rs1 rs2 imm 82 59 0 0 true:=by unfold E18b;kernel_rfl
theorem e18_19 (rd rs1 rs2 imm:Int):E18b 19 rd rs1 rs2 imm 82 59 0 32 true:=by unfold E18b;kernel_rfl
theorem e18_20 (rd rs1 rs2 imm:Int):E18b 20 rd rs1 rs2 imm 82 59 1 0 true:=by unfold E18b;kernel_rfl
theorem e18_21 (rd rs1 rs2 imm:Int):E18b 21 rd rs1 rs2 imm 82 59 5 0 true:=by unfold E18b;kernel_rfl
theorem e18_22 (rd rs1 rs2 imm:Int):E18b 22 rd rs1 rs2 imm 82 59 5 32 true:=by unfold E18b;kernel_rfl
theorem e18_23 (rd rs1 rs2 imm:Int):E18b 23 rd rs1 rs2 imm 82 59 0 1 true:=by unfold E18b;kernel_rfl
theorem e18_24 (rd rs1 rs2 imm:Int):E18b 24 rd rs1 rs2 imm 82 59 4 1 true:=by unfold E18b;kernel_rfl
theorem e18_25 (rd rs1 rs2 imm:Int):E18b 25 rd rs1 rs2 imm 82 59 5 1 true:=by unfold E18b;kernel_rfl
theorem e18_26 (rd rs1 rs2 imm:Int):E18b 26 rd rs1 rs2 imm 82 59 6 1 true:=by unfold E18b;kernel_rfl
theorem e18_27 (rd rs1 rs2 imm:Int):E18b 27 rd rs1 rs2 imm 82 59 7 1 true:=by unfold E18b;kernel_rfl
theorem e18_28 (rd rs1 rs2 imm:Int):E18b 28 rd rs1 rs2 imm 73 19 0 0 true:=by unfold E18b;kernel_rfl
theorem e18_29 (rd rs1 rs2 imm:Int):E18b 29 rd rs1 rs2 imm 73 19 2 0 true:=by unfold E18b;kernel_rfl
theorem e18_30 (rd rs1 rs2 imm:Int):E18b 30 rd rs1 rs2 imm 73 19 3 0 true:=by unfold E18b;kernel_rfl
theorem e18_31 (rd rs1 rs2 imm:Int):E18b 31 rd rs1 rs2 imm 73 19 4 0 true:=by unfold E18b;kernel_rfl
theorem e18_32 (rd rs1 rs2 imm:Int):E18b 32 rd rs1 rs2 imm 73 19 6 0 true:=by unfold E18b;kernel_rfl
theorem e18_33 (rd rs1 rs2 imm:Int):E18b 33 rd rs1 rs2 imm 73 19 7 0 true:=by unfold E18b;kernel_rfl
theorem e18_34 (rd rs1 rs2 imm:Int):E18b 34 rd rs1 rs2 imm 84 19 1 0 true:=by unfold E18b;kernel_rfl
theorem e18_35 (rd rs1 rs2 imm:Int):E18b 35 rd rs1 rs2 imm 84 19 5 0 true:=by unfold E18b;kernel_rfl
theorem e18_36 (rd rs1 rs2 imm:Int):E18b 36 rd rs1 rs2 imm 84 19 5 32 true:=by unfold E18b;kernel_rfl
theorem e18_37 (rd rs1 rs2 imm:Int):E18b 37 rd rs1 rs2 imm 73 27 0 0 true:=by unfold E18b;kernel_rfl
theorem e18_38 (rd rs1 rs2 imm:Int):E18b 38 rd rs1 rs2 imm 73 3 0 0 true:=by unfold E18b;kernel_rfl
theorem e18_39 (rd rs1 rs2 imm:Int):E18b 39 rd rs1 rs2 imm 73 3 4 0 true:=by unfold E18b;kernel_rfl
theorem e18_40 (rd rs1 rs2 imm:Int):E18b 40 rd rs1 rs2 imm 73 3 2 0 true:=by unfold E18b;kernel_rfl
theorem e18_41 (rd rs1 rs2 imm:Int):E18b 41 rd rs1 rs2 imm 73 3 3 0 true:=by unfold E18b;kernel_rfl
theorem e18_42 (rd rs1 rs2 imm:Int):E18b 42 rd rs1 rs2 imm 83 35 0 0 true:=by unfold E18b;kernel_rfl
theorem e18_43 (rd rs1 rs2 imm:Int):E18b 43 rd rs1 rs2 imm 83 35 2 0 true:=by unfold E18b;kernel_rfl
theorem e18_44 (rd rs1 rs2 imm:Int):E18b 44 rd rs1 rs2 imm 83 35 3 0 true:=by unfold E18b;kernel_rfl
theorem e18_45 (rd rs1 rs2 imm:Int):E18b 45 rd rs1 rs2 imm 66 99 0 0 true:=by unfold E18b;kernel_rfl
theorem e18_46 (rd rs1 rs2 imm:Int):E18b 46 rd rs1 rs2 imm 66 99 1 0 true:=by unfold E18b;kernel_rfl
theorem e18_47 (rd rs1 rs2 imm:Int):E18b 47 rd rs1 rs2 imm 66 99 4 0 true:=by unfold E18b;kernel_rfl
theorem e18_48 (rd rs1 rs2 imm:Int):E18b 48 rd rs1 rs2 imm 66 99 5 0 true:=by unfold E18b;kernel_rfl
theorem e18_49 (rd rs1 rs2 imm:Int):E18b 49 rd rs1 rs2 imm 66 99 6 0 true:=by unfold E18b;kernel_rfl
theorem e18_50 (rd rs1 rs2 imm:Int):E18b 50 rd rs1 rs2 imm 66 99 7 0 true:=by unfold E18b;kernel_rfl
theorem e18_51 (rd rs1 rs2 imm:Int):E18b 51 rd rs1 rs2 imm 85 55 0 0 true:=by unfold E18b;kernel_rfl
theorem e18_52 (rd rs1 rs2 imm:Int):E18b 52 rd rs1 rs2 imm 85 23 0 0 true:=by unfold E18b;kernel_rfl
theorem e18_53 (rd rs1 rs2 imm:Int):E18b 53 rd rs1 rs2 imm 74 111 0 0 true:=by unfold E18b;kernel_rfl
theorem e18_54 (rd rs1 rs2 imm:Int):E18b 54 rd rs1 rs2 imm 73 103 0 0 true:=by unfold E18b;kernel_rfl
theorem e18_55 (rd rs1 rs2 imm:Int):E18b 55 rd rs1 rs2 imm 78 115 0 0 true:=by unfold E18b;kernel_rfl
def encF (op rd rs1 rs2 imm:Int):Int × Int :=
 match op with
 |1=>encR 51 0 0 rd rs1 rs2 imm
 |2=>encR 51 0 32 rd rs1 rs2 imm
 |3=>encR 51 1 0 rd rs1 rs2 imm
 |4=>encR 51 2 0 rd rs1 rs2 imm
 |5=>encR 51 3 0 rd rs1 rs2 imm
 |6=>encR 51 4 0 rd rs1 rs2 imm
 |7=>encR 51 5 0 rd rs1 rs2 imm
 |8=>encR 51 5 32 rd rs1 rs2 imm
 |9=>encR 51 6 0 rd rs1 rs2 imm
 |10=>encR 51 7 0 rd rs1 rs2 imm
 |11=>encR 51 0 1 rd rs1 rs2 imm
 |12=>encR 51 1 1 rd rs1 rs2 imm
 |13=>encR 51 3 1 rd rs1 rs2 imm
 |14=>encR 51 4 1 rd rs1 rs2 imm
 |15=>encR 51 5 1 rd rs1 rs2 imm
 |16=>encR 51 6 1 rd rs1 rs2 imm
 |17=>encR 51 7 1 rd rs1 rs2 imm
 |18=>encR 59 0 0 rd rs1 rs2 imm
 |19=>encR 59 0 32 rd rs1 rs2 imm
 |20=>encR 59 1 0 rd rs1 rs2 imm
 |21=>encR 59 5 0 rd rs1 rs2 imm
 |22=>encR 59 5 32 rd rs1 rs2 imm
 |23=>encR 59 0 1 rd rs1 rs2 imm
 |24=>encR 59 4 1 rd rs1 rs2 imm
 |25=>encR 59 5 1 rd rs1 rs2 imm
 |26=>encR 59 6 1 rd rs1 rs2 imm
 |27=>encR 59 7 1 rd rs1 rs2 imm
 |28=>encI 19 0 0 rd rs1 rs2 imm
 |29=>encI 19 2 0 rd rs1 rs2 imm
 |30=>encI 19 3 0 rd rs1 rs2 imm
 |31=>encI 19 4 0 rd rs1 rs2 imm
 |32=>encI 19 6 0 rd rs1 rs2 imm
 |33=>encI 19 7 0 rd rs1 rs2 imm
 |34=>encT 19 1 0 rd rs1 rs2 imm
 |35=>encT 19 5 0 rd rs1 rs2 imm
 |36=>encT 19 5 32 rd rs1 rs2 imm
 |37=>encI 27 0 0 rd rs1 rs2 imm
 |38=>encI 3 0 0 rd rs1 rs2 imm
 |39=>encI 3 4 0 rd rs1 rs2 imm
 |40=>encI 3 2 0 rd rs1 rs2 imm
 |41=>encI 3 3 0 rd rs1 rs2 imm
 |42=>encS 35 0 0 rd rs1 rs2 imm
 |43=>encS 35 2 0 rd rs1 rs2 imm
 |44=>encS 35 3 0 rd rs1 rs2 imm
 |45=>encB 99 0 0 rd rs1 rs2 imm
 |46=>encB 99 1 0 rd rs1 rs2 imm
 |47=>encB 99 4 0 rd rs1 rs2 imm
 |48=>encB 99 5 0 rd rs1 rs2 imm
 |49=>encB 99 6 0 rd rs1 rs2 imm
 |50=>encB 99 7 0 rd rs1 rs2 imm
 |51=>encU 55 0 0 rd rs1 rs2 imm
 |52=>encU 23 0 0 rd rs1 rs2 imm
 |53=>encJ 111 0 0 rd rs1 rs2 imm
 |54=>encI 103 0 0 rd rs1 rs2 imm
 |55=>encN 115 0 0 rd rs1 rs2 imm
 |_=>(0,2)
theorem c18 (op rd rs1 rs2 imm:Int) (n:Nat):ADet Try.prog 25 [i18 op rd rs1 rs2 imm] [] (.tuple ⟨[.int .u32 (encF op rd rs1 rs2 imm).1,.int .i64 (encF op rd rs1 rs2 imm).2]⟩) [] n 0:=by
 by_cases hlo:op<0
 ·obtain⟨m,rfl⟩:∃ m,op=Int.negSucc m:=by
   cases op with
   |ofNat k=>exact absurd hlo (by simp)
   |negSucc m=>exact⟨m,rfl⟩
  exact c18Z _ _ _ _ _ _ _ _ (e18_neg m rd rs1 rs2 imm) n
 ·obtain⟨k,rfl⟩:∃ k:Nat,op=Int.ofNat k:=⟨op.toNat,by simp;omega⟩
  by_cases hhi:56<=k
  ·obtain⟨m,rfl⟩:∃ m,k=m+56:=⟨k-56,by omega⟩
   have:encF (Int.ofNat (m+56)) rd rs1 rs2 imm=(0,2):=by
    unfold encF
    split<;>first|rfl|(exfalso;simp only[Int.ofNat_eq_natCast]at *;omega)
   rw[this]
   exact c18Z _ _ _ _ _ _ _ _ (e18_big m rd rs1 rs2 imm) n
  ·match k,hhi with
   |0,_=>exact c18Z _ _ _ _ _ _ _ _ (e18_0 rd rs1 rs2 imm) n
   |1,_=>exact c18R _ _ _ _ _ _ _ _ (e18_1 rd rs1 rs2 imm) n
   |2,_=>exact c18R _ _ _ _ _ _ _ _ (e18_2 rd rs1 rs2 imm) n
   |3,_=>exact c18R _ _ _ _ _ _ _ _ (e18_3 rd rs1 rs2 imm) n
   |4,_=>exact c18R _ _ _ _ _ _ _ _ (e18_4 rd rs1 rs2 imm) n
   |5,_=>exact c18R _ _ _ _ _ _ _ _ (e18_5 rd rs1 rs2 imm) n
   |6,_=>exact c18R _ _ _ _ _ _ _ _ (e18_6 rd rs1 rs2 imm) n
   |7,_=>exact c18R _ _ _ _ _ _ _ _ (e18_7 rd rs1 rs2 imm) n
   |8,_=>exact c18R _ _ _ _ _ _ _ _ (e18_8 rd rs1 rs2 imm) n
   |9,_=>exact c18R _ _ _ _ _ _ _ _ (e18_9 rd rs1 rs2 imm) n
   |10,_=>exact c18R _ _ _ _ _ _ _ _ (e18_10 rd rs1 rs2 imm) n
   |11,_=>exact c18R _ _ _ _ _ _ _ _ (e18_11 rd rs1 rs2 imm) n
   |12,_=>exact c18R _ _ _ _ _ _ _ _ (e18_12 rd rs1 rs2 imm) n
   |13,_=>exact c18R _ _ _ _ _ _ _ _ (e18_13 rd rs1 rs2 imm) n
   |14,_=>exact c18R _ _ _ _ _ _ _ _ (e18_14 rd rs1 rs2 imm) n
   |15,_=>exact c18R _ _ _ _ _ _ _ _ (e18_15 rd rs1 rs2 imm) n
   |16,_=>exact c18R _ _ _ _ _ _ _ _ (e18_16 rd rs1 rs2 imm) n
   |17,_=>exact c18R _ _ _ _ _ _ _ _ (e18_17 rd rs1 rs2 imm) n
   |18,_=>exact c18R _ _ _ _ _ _ _ _ (e18_18 rd rs1 rs2 imm) n
   |19,_=>exact c18R _ _ _ _ _ _ _ _ (e18_19 rd rs1 rs2 imm) n
   |20,_=>exact c18R _ _ _ _ _ _ _ _ (e18_20 rd rs1 rs2 imm) n
   |21,_=>exact c18R _ _ _ _ _ _ _ _ (e18_21 rd rs1 rs2 imm) n
   |22,_=>exact c18R _ _ _ _ _ _ _ _ (e18_22 rd rs1 rs2 imm) n
   |23,_=>exact c18R _ _ _ _ _ _ _ _ (e18_23 rd rs1 rs2 imm) n
   |24,_=>exact c18R _ _ _ _ _ _ _ _ (e18_24 rd rs1 rs2 imm) n
   |25,_=>exact c18R _ _ _ _ _ _ _ _ (e18_25 rd rs1 rs2 imm) n
   |26,_=>exact c18R _ _ _ _ _ _ _ _ (e18_26 rd rs1 rs2 imm) n
   |27,_=>exact c18R _ _ _ _ _ _ _ _ (e18_27 rd rs1 rs2 imm) n
   |28,_=>exact c18I _ _ _ _ _ _ _ _ (e18_28 rd rs1 rs2 imm) n
   |29,_=>exact c18I _ _ _ _ _ _ _ _ (e18_29 rd rs1 rs2 imm) n
   |30,_=>exact c18I _ _ _ _ _ _ _ _ (e18_30 rd rs1 rs2 imm) n
   |31,_=>exact c18I _ _ _ _ _ _ _ _ (e18_31 rd rs1 rs2 imm) n
   |32,_=>exact c18I _ _ _ _ _ _ _ _ (e18_32 rd rs1 rs2 imm) n
   |33,_=>exact c18I _ _ _ _ _ _ _ _ (e18_33 rd rs1 rs2 imm) n
   |34,_=>exact c18T _ _ _ _ _ _ _ _ (e18_34 rd rs1 rs2 imm) n
   |35,_=>exact c18T _ _ _ _ _ _ _ _ (e18_35 rd rs1 rs2 imm) n
   |36,_=>exact c18T _ _ _ _ _ _ _ _ (e18_36 rd rs1 rs2 imm) n
   |37,_=>exact c18I _ _ _ _ _ _ _ _ (e18_37 rd rs1 rs2 imm) n
   |38,_=>exact c18I _ _ _ _ _ _ _ _ (e18_38 rd rs1 rs2 imm) n
   |39,_=>exact c18I _ _ _ _ _ _ _ _ (e18_39 rd rs1 rs2 imm) n
   |40,_=>exact c18I _ _ _ _ _ _ _ _ (e18_40 rd rs1 rs2 imm) n
   |41,_=>exact c18I _ _ _ _ _ _ _ _ (e18_41 rd rs1 rs2 imm) n
   |42,_=>exact c18S _ _ _ _ _ _ _ _ (e18_42 rd rs1 rs2 imm) n
   |43,_=>exact c18S _ _ _ _ _ _ _ _ (e18_43 rd rs1 rs2 imm) n
   |44,_=>exact c18S _ _ _ _ _ _ _ _ (e18_44 rd rs1 rs2 imm) n
   |45,_=>exact c18B _ _ _ _ _ _ _ _ (e18_45 rd rs1 rs2 imm) n
   |46,_=>exact c18B _ _ _ _ _ _ _ _ (e18_46 rd rs1 rs2 imm) n
   |47,_=>exact c18B _ _ _ _ _ _ _ _ (e18_47 rd rs1 rs2 imm) n
   |48,_=>exact c18B _ _ _ _ _ _ _ _ (e18_48 rd rs1 rs2 imm) n
   |49,_=>exact c18B _ _ _ _ _ _ _ _ (e18_49 rd rs1 rs2 imm) n
   |50,_=>exact c18B _ _ _ _ _ _ _ _ (e18_50 rd rs1 rs2 imm) n
   |51,_=>exact c18U _ _ _ _ _ _ _ _ (e18_51 rd rs1 rs2 imm) n
   |52,_=>exact c18U _ _ _ _ _ _ _ _ (e18_52 rd rs1 rs2 imm) n
   |53,_=>exact c18J _ _ _ _ _ _ _ _ (e18_53 rd rs1 rs2 imm) n
   |54,_=>exact c18I _ _ _ _ _ _ _ _ (e18_54 rd rs1 rs2 imm) n
   |55,_=>exact c18N _ _ _ _ _ _ _ _ (e18_55 rd rs1 rs2 imm) n
   |k+56,h=>exact absurd (by omega) h
def g18:List Value->Option Value
 |[.agg ⟨[.int .i64 op,.int .i64 rd,.int .i64 rs1,.int .i64 rs2,.int .i64 imm]⟩]=>some (.tuple ⟨[.int .u32 (encF op rd rs1 rs2 imm).1,.int .i64 (encF op rd rs1 rs2 imm).2]⟩)
 |_=>none
def con18:Con Try.prog:=pureC 25 g18 fun vs v n h=>by
 unfold g18 at h
 split at h
 ·cases h;exact c18 _ _ _ _ _ n
 ·cases h
theorem t44 (F:Int):execC (lookF FL) noSc 1000 x44 (argTm 0 [Value.int IntKind.u8 F]) [] 100 (valK [2,3])=bif F==73 then
 bif F==73 then some [Value.int IntKind.i64 (-2048),Value.int IntKind.i64 2047]
 else
  bif F==84 then some [Value.int IntKind.i64 0,Value.int IntKind.i64 63]
  else
   bif F==66 then some [Value.int IntKind.i64 (-4096),Value.int IntKind.i64 4094]
   else
    bif F==85 then some [Value.int IntKind.i64 (-524288),Value.int IntKind.i64 524287]
    else
     bif F==74 then some [Value.int IntKind.i64 (-1048576),Value.int IntKind.i64 1048574]
     else some [Value.int IntKind.i64 1,Value.int IntKind.i64 0]
else
 bif F==83 then some [Value.int IntKind.i64 (-2048),Value.int IntKind.i64 2047]
 else
  bif F==84 then some [Value.int IntKind.i64 0,Value.int IntKind.i64 63]
  else
   bif F==66 then some [Value.int IntKind.i64 (-4096),Value.int IntKind.i64 4094]
   else
    bif F==85 then some [Value.int IntKind.i64 (-524288),Value.int IntKind.i64 524287]
    else
     bif F==74 then some [Value.int IntKind.i64 (-1048576),Value.int IntKind.i64 1048574]
     else some [Value.int IntKind.i64 1,Value.int IntKind.i64 0]:=by kernel_rfl
def roomF (F:Int):Int × Int:=bif F==73 then(-2048,2047)
else
 bif F==83 then(-2048,2047)
 else
  bif F==84 then(0,63)
  else
   bif F==66 then(-4096,4094)
   else bif F==85 then(-524288,524287)else bif F==74 then(-1048576,1048574)else(1,0)
def mk44 (p:Int × Int):Option (List Value):=some [Value.int IntKind.i64 p.1,Value.int IntKind.i64 p.2]
theorem mk44_cond (c:Bool) (p q:Int × Int):mk44 (bif c then p else q)=bif c then mk44 p else mk44 q:=by cases c<;>rfl
theorem p44 (F:Int):execC (lookF FL) noSc 1000 x44 (argTm 0 [Value.int IntKind.u8 F]) [] 100 (valK [2,3])=mk44 (roomF F):=by
 rw[t44]
 try simp only[Bool.or_not_self,Bool.not_or_self,Bool.and_true,Bool.true_and,Bool.or_false,Bool.false_or,Bool.or_true,Bool.true_or,Bool.and_false,Bool.false_and,Bool.not_not,Bool.not_true,Bool.not_false,cond_true,cond_false,Bool.and_self,Bool.or_self,Bool.cond_true_left,Bool.cond_false_right,Bool.cond_true_right,Bool.cond_false_left,Bool.cond_self,cc_tt,cc_ff]
 unfold roomF
 try simp only[mk44_cond]
 rfl
theorem c44 (F:Int) (n:Nat):ADet Try.prog 42 [Value.int IntKind.u8 F] [] (Value.tuple ⟨[Value.int IntKind.i64 (roomF F).1,Value.int IntKind.i64 (roomF F).2]⟩) [] n 0:=adet_tree FOK 1000 fx44 (by simp) [2,3] (p44 F) rfl rfl rfl rfl n
def g44:List Value->Option Value
 |[.int .u8 F]=>some (Value.tuple ⟨[Value.int IntKind.i64 (roomF F).1,Value.int IntKind.i64 (roomF F).2]⟩)
 |_=>none
def con44:Con Try.prog:=pureC 42 g44 fun vs v n h=>by
 unfold g44 at h
 split at h
 ·cases h;exact c44 _ n
 ·cases h
theorem t52 (op:Int):execC (lookF FL) noSc 1000 x52 (argTm 0 [Value.int IntKind.i64 op]) [] 100 (valK [2])=bif
  ((decide (op>=45)||!decide (op>=45))&&true||false) &&
   ((decide (op>=45)&&true||!decide (op>=45))&&true)then
 some [Value.bool (bif decide (op>=45)then decide (op<=50)else false)]
else none:=by kernel_rfl
def branchF (op:Int):Bool:=decide (op>=45)&&decide (op<=50)
def mk52 (p:Bool):Option (List Value):=some [Value.bool p]
theorem mk52_cond (c:Bool) (p q:Bool):mk52 (bif c then p else q)=bif c then mk52 p else mk52 q:=by cases c<;>rfl
theorem p52 (op:Int):execC (lookF FL) noSc 1000 x52 (argTm 0 [Value.int IntKind.i64 op]) [] 100 (valK [2])=mk52 (branchF op):=by
 rw[t52]
 try simp only[Bool.or_not_self,Bool.not_or_self,Bool.and_true,Bool.true_and,Bool.or_false,Bool.false_or,Bool.or_true,Bool.true_or,Bool.and_false,Bool.false_and,Bool.not_not,Bool.not_true,Bool.not_false,cond_true,cond_false,Bool.and_self,Bool.or_self,Bool.cond_true_left,Bool.cond_false_right,Bool.cond_true_right,Bool.cond_false_left,Bool.cond_self,cc_tt,cc_ff]
 unfold branchF
 try simp only[mk52_cond]
 rfl
theorem c52 (op:Int) (n:Nat):ADet Try.prog 36 [Value.int IntKind.i64 op] [] (Value.bool (branchF op)) [] n 0:=adet_tree FOK 1000 fx52 (by simp) [2] (p52 op) rfl rfl rfl rfl n
def g52:List Value->Option Value
 |[.int .i64 op]=>some (Value.bool (branchF op))
 |_=>none
def con52:Con Try.prog:=pureC 36 g52 fun vs v n h=>by
 unfold g52 at h
 split at h
 ·cases h;exact c52 _ n
 ·cases h
theorem t54 (a:Int):execC (lookF FL) noSc 1000 x54 (argTm 0 [Value.int IntKind.i64 a]) [] 100 (valK [2])=some
 [Value.int IntKind.i64
   ((IntKind.i64.wrap
      (a-IntKind.i64.wrap (bits2 BinOp.xor IntKind.i64 (bits2 BinOp.and IntKind.i64 a 4095) 2048-2048))).fdiv
    4096)]:=by kernel_rfl
def upperF (a:Int):Int:=(IntKind.i64.wrap
   (a-IntKind.i64.wrap (bits2 BinOp.xor IntKind.i64 (bits2 BinOp.and IntKind.i64 a 4095) 2048-2048))).fdiv
 4096
def mk54 (p:Int):Option (List Value):=some [Value.int IntKind.i64 p]
theorem mk54_cond (c:Bool) (p q:Int):mk54 (bif c then p else q)=bif c then mk54 p else mk54 q:=by cases c<;>rfl
theorem p54 (a:Int):execC (lookF FL) noSc 1000 x54 (argTm 0 [Value.int IntKind.i64 a]) [] 100 (valK [2])=mk54 (upperF a):=by
 rw[t54]
 try simp only[Bool.or_not_self,Bool.not_or_self,Bool.and_true,Bool.true_and,Bool.or_false,Bool.false_or,Bool.or_true,Bool.true_or,Bool.and_false,Bool.false_and,Bool.not_not,Bool.not_true,Bool.not_false,cond_true,cond_false,Bool.and_self,Bool.or_self,Bool.cond_true_left,Bool.cond_false_right,Bool.cond_true_right,Bool.cond_false_left,Bool.cond_self,cc_tt,cc_ff]
 unfold upperF
 try simp only[mk54_cond]
 rfl
theorem c54 (a:Int) (n:Nat):ADet Try.prog 38 [Value.int IntKind.i64 a] [] (Value.int IntKind.i64 (upperF a)) [] n 0:=adet_tree FOK 1000 fx54 (by simp) [2] (p54 a) rfl rfl rfl rfl n
def g54:List Value->Option Value
 |[.int .i64 a]=>some (Value.int IntKind.i64 (upperF a))
 |_=>none
def con54:Con Try.prog:=pureC 38 g54 fun vs v n h=>by
 unfold g54 at h
 split at h
 ·cases h;exact c54 _ n
 ·cases h
theorem t55 (a:Int):execC (lookF FL) noSc 1000 x55 (argTm 0 [Value.int IntKind.i64 a]) [] 100 (valK [2])=some
 [Value.int IntKind.i64
   (IntKind.i64.wrap (bits2 BinOp.xor IntKind.i64 (bits2 BinOp.and IntKind.i64 a 4095) 2048-2048))]:=by kernel_rfl
def lowerF (a:Int):Int:=IntKind.i64.wrap (bits2 BinOp.xor IntKind.i64 (bits2 BinOp.and IntKind.i64 a 4095) 2048-2048)
def mk55 (p:Int):Option (List Value):=some [Value.int IntKind.i64 p]
theorem mk55_cond (c:Bool) (p q:Int):mk55 (bif c then p else q)=bif c then mk55 p else mk55 q:=by cases c<;>rfl
theorem p55 (a:Int):execC (lookF FL) noSc 1000 x55 (argTm 0 [Value.int IntKind.i64 a]) [] 100 (valK [2])=mk55 (lowerF a):=by
 rw[t55]
 try simp only[Bool.or_not_self,Bool.not_or_self,Bool.and_true,Bool.true_and,Bool.or_false,Bool.false_or,Bool.or_true,Bool.true_or,Bool.and_false,Bool.false_and,Bool.not_not,Bool.not_true,Bool.not_false,cond_true,cond_false,Bool.and_self,Bool.or_self,Bool.cond_true_left,Bool.cond_false_right,Bool.cond_true_right,Bool.cond_false_left,Bool.cond_self,cc_tt,cc_ff]
 unfold lowerF
 try simp only[mk55_cond]
 rfl
theorem c55 (a:Int) (n:Nat):ADet Try.prog 39 [Value.int IntKind.i64 a] [] (Value.int IntKind.i64 (lowerF a)) [] n 0:=adet_tree FOK 1000 fx55 (by simp) [2] (p55 a) rfl rfl rfl rfl n
def g55:List Value->Option Value
 |[.int .i64 a]=>some (Value.int IntKind.i64 (lowerF a))
 |_=>none
def con55:Con Try.prog:=pureC 39 g55 fun vs v n h=>by
 unfold g55 at h
 split at h
 ·cases h;exact c55 _ n
 ·cases h
theorem t56 (op:Int):execC (lookF FL) noSc 1000 x56 (argTm 0 [Value.int IntKind.i64 op]) [] 100 (valK [2])=some [Value.int IntKind.i64 (IntKind.i64.wrap (bits2 BinOp.xor IntKind.i64 (IntKind.i64.wrap (op-45)) 1+45))]:=by kernel_rfl
def oppF (op:Int):Int:=IntKind.i64.wrap (bits2 BinOp.xor IntKind.i64 (IntKind.i64.wrap (op-45)) 1+45)
def mk56 (p:Int):Option (List Value):=some [Value.int IntKind.i64 p]
theorem mk56_cond (c:Bool) (p q:Int):mk56 (bif c then p else q)=bif c then mk56 p else mk56 q:=by cases c<;>rfl
theorem p56 (op:Int):execC (lookF FL) noSc 1000 x56 (argTm 0 [Value.int IntKind.i64 op]) [] 100 (valK [2])=mk56 (oppF op):=by
 rw[t56]
 try simp only[Bool.or_not_self,Bool.not_or_self,Bool.and_true,Bool.true_and,Bool.or_false,Bool.false_or,Bool.or_true,Bool.true_or,Bool.and_false,Bool.false_and,Bool.not_not,Bool.not_true,Bool.not_false,cond_true,cond_false,Bool.and_self,Bool.or_self,Bool.cond_true_left,Bool.cond_false_right,Bool.cond_true_right,Bool.cond_false_left,Bool.cond_self,cc_tt,cc_ff]
 unfold oppF
 try simp only[mk56_cond]
 rfl
theorem c56 (op:Int) (n:Nat):ADet Try.prog 40 [Value.int IntKind.i64 op] [] (Value.int IntKind.i64 (oppF op)) [] n 0:=adet_tree FOK 1000 fx56 (by simp) [2] (p56 op) rfl rfl rfl rfl n
def g56:List Value->Option Value
 |[.int .i64 op]=>some (Value.int IntKind.i64 (oppF op))
 |_=>none
def con56:Con Try.prog:=pureC 40 g56 fun vs v n h=>by
 unfold g56 at h
 split at h
 ·cases h;exact c56 _ n
 ·cases h
abbrev scB:Short:=scOf [con43,con18,con44,con52,con54,con55,con56]
theorem FOKB:FnsOK Try.prog (lookF FL) scB:=fok FOK _
end Go.X
