import Derived.Test.YtkghggngmpmigaaD43
import Derived.Test.YtkghggngmpmigaaD29
import Derived.Test.YtkghggngmpmigaaD42
import Derived.Test.YtkghggngmpmigaaD18
import Derived.Test.YtkghggngmpmigaaD28
set_option linter.all false
namespace Go.X
open Go Go.Proofs
theorem decA_of {q w:Int}{c:Cand} (hq:tabHas shTab (.int .i64 q)=true) (h:dec1 q w=some c):decA w=⟨q,c,0⟩:=by
 unfold decA
 rw[decU_all w q c hq h]
theorem encdec_in {rd rs1 rs2 imm w:Int}:∀ k:Nat,encF (.ofNat k) rd rs1 rs2 imm=(w,0)->decA w=⟨.ofNat k,⟨rd,rs1,rs2,imm⟩,0⟩
 |0,h=>by have e:((0:Int),(2:Int))=(w,0):=h;cases e
 |1,h=>decA_of (by kernel_rfl) (encdecR (fld rfl) (by kernel_rfl) (fun _ _ _ _=>rfl) h)
 |2,h=>decA_of (by kernel_rfl) (encdecR (fld rfl) (by kernel_rfl) (fun _ _ _ _=>rfl) h)
 |3,h=>decA_of (by kernel_rfl) (encdecR (fld rfl) (by kernel_rfl) (fun _ _ _ _=>rfl) h)
 |4,h=>decA_of (by kernel_rfl) (encdecR (fld rfl) (by kernel_rfl) (fun _ _ _ _=>rfl) h)
 |5,h=>decA_of (by kernel_rfl) (encdecR (fld rfl) (by kernel_rfl) (fun _ _ _ _=>rfl) h)
 |6,h=>decA_of (by kernel_rfl) (encdecR (fld rfl) (by kernel_rfl) (fun _ _ _ _=>rfl) h)
 |7,h=>decA_of (by kernel_rfl) (encdecR (fld rfl) (by kernel_rfl) (fun _ _ _ _=>rfl) h)
 |8,h=>decA_of (by kernel_rfl) (encdecR (fld rfl) (by kernel_rfl) (fun _ _ _ _=>rfl) h)
 |9,h=>decA_of (by kernel_rfl) (encdecR (fld rfl) (by kernel_rfl) (fun _ _ _ _=>rfl) h)
 |10,h=>decA_of (by kernel_rfl) (encdecR (fld rfl) (by kernel_rfl) (fun _ _ _ _=>rfl) h)
 |11,h=>decA_of (by kernel_rfl) (encdecR (fld rfl) (by kernel_rfl) (fun _ _ _ _=>rfl) h)
 |12,h=>decA_of (by kernel_rfl) (encdecR (fld rfl) (by kernel_rfl) (fun _ _ _ _=>rfl) h)
 |13,h=>decA_of (by kernel_rfl) (encdecR (fld rfl) (by kernel_rfl) (fun _ _ _ _=>rfl) h)
 |14,h=>decA_of (by kernel_rfl) (encdecR (fld rfl) (by kernel_rfl) (fun _ _ _ _=>rfl) h)
 |15,h=>decA_of (by kernel_rfl) (encdecR (fld rfl) (by kernel_rfl) (fun _ _ _ _=>rfl) h)
 |16,h=>decA_of (by kernel_rfl) (encdecR (fld rfl) (by kernel_rfl) (fun _ _ _ _=>rfl) h)
 |17,h=>decA_of (by kernel_rfl) (encdecR (fld rfl) (by kernel_rfl) (fun _ _ _ _=>rfl) h)
 |18,h=>decA_of (by kernel_rfl) (encdecR (fld rfl) (by kernel_rfl) (fun _ _ _ _=>rfl) h)
 |19,h=>decA_of (by kernel_rfl) (encdecR (fld rfl) (by kernel_rfl) (fun _ _ _ _=>rfl) h)
 |20,h=>decA_of (by kernel_rfl) (encdecR (fld rfl) (by kernel_rfl) (fun _ _ _ _=>rfl) h)
 |21,h=>decA_of (by kernel_rfl) (encdecR (fld rfl) (by kernel_rfl) (fun _ _ _ _=>rfl) h)
 |22,h=>decA_of (by kernel_rfl) (encdecR (fld rfl) (by kernel_rfl) (fun _ _ _ _=>rfl) h)
 |23,h=>decA_of (by kernel_rfl) (encdecR (fld rfl) (by kernel_rfl) (fun _ _ _ _=>rfl) h)
 |24,h=>decA_of (by kernel_rfl) (encdecR (fld rfl) (by kernel_rfl) (fun _ _ _ _=>rfl) h)
 |25,h=>decA_of (by kernel_rfl) (encdecR (fld rfl) (by kernel_rfl) (fun _ _ _ _=>rfl) h)
 |26,h=>decA_of (by kernel_rfl) (encdecR (fld rfl) (by kernel_rfl) (fun _ _ _ _=>rfl) h)
 |27,h=>decA_of (by kernel_rfl) (encdecR (fld rfl) (by kernel_rfl) (fun _ _ _ _=>rfl) h)
 |28,h=>decA_of (by kernel_rfl) (encdecI (fld rfl) (by kernel_rfl) (fun _ _ _ _=>rfl) h)
 |29,h=>decA_of (by kernel_rfl) (encdecI (fld rfl) (by kernel_rfl) (fun _ _ _ _=>rfl) h)
 |30,h=>decA_of (by kernel_rfl) (encdecI (fld rfl) (by kernel_rfl) (fun _ _ _ _=>rfl) h)
 |31,h=>decA_of (by kernel_rfl) (encdecI (fld rfl) (by kernel_rfl) (fun _ _ _ _=>rfl) h)
 |32,h=>decA_of (by kernel_rfl) (encdecI (fld rfl) (by kernel_rfl) (fun _ _ _ _=>rfl) h)
 |33,h=>decA_of (by kernel_rfl) (encdecI (fld rfl) (by kernel_rfl) (fun _ _ _ _=>rfl) h)
 |34,h=>decA_of (by kernel_rfl) (encdecT (fld rfl) rfl (by kernel_rfl) (fun _ _ _ _=>rfl) h)
 |35,h=>decA_of (by kernel_rfl) (encdecT (fld rfl) rfl (by kernel_rfl) (fun _ _ _ _=>rfl) h)
 |36,h=>decA_of (by kernel_rfl) (encdecT (fld rfl) rfl (by kernel_rfl) (fun _ _ _ _=>rfl) h)
 |37,h=>decA_of (by kernel_rfl) (encdecI (fld rfl) (by kernel_rfl) (fun _ _ _ _=>rfl) h)
 |38,h=>decA_of (by kernel_rfl) (encdecI (fld rfl) (by kernel_rfl) (fun _ _ _ _=>rfl) h)
 |39,h=>decA_of (by kernel_rfl) (encdecI (fld rfl) (by kernel_rfl) (fun _ _ _ _=>rfl) h)
 |40,h=>decA_of (by kernel_rfl) (encdecI (fld rfl) (by kernel_rfl) (fun _ _ _ _=>rfl) h)
 |41,h=>decA_of (by kernel_rfl) (encdecI (fld rfl) (by kernel_rfl) (fun _ _ _ _=>rfl) h)
 |42,h=>decA_of (by kernel_rfl) (encdecS (fld rfl) (by kernel_rfl) (fun _ _ _ _=>rfl) h)
 |43,h=>decA_of (by kernel_rfl) (encdecS (fld rfl) (by kernel_rfl) (fun _ _ _ _=>rfl) h)
 |44,h=>decA_of (by kernel_rfl) (encdecS (fld rfl) (by kernel_rfl) (fun _ _ _ _=>rfl) h)
 |45,h=>decA_of (by kernel_rfl) (encdecB (fld rfl) (by kernel_rfl) (fun _ _ _ _=>rfl) h)
 |46,h=>decA_of (by kernel_rfl) (encdecB (fld rfl) (by kernel_rfl) (fun _ _ _ _=>rfl) h)
 |47,h=>decA_of (by kernel_rfl) (encdecB (fld rfl) (by kernel_rfl) (fun _ _ _ _=>rfl) h)
 |48,h=>decA_of (by kernel_rfl) (encdecB (fld rfl) (by kernel_rfl) (fun _ _ _ _=>rfl) h)
 |49,h=>decA_of (by kernel_rfl) (encdecB (fld rfl) (by kernel_rfl) (fun _ _ _ _=>rfl) h)
 |50,h=>decA_of (by kernel_rfl) (encdecB (fld rfl) (by kernel_rfl) (fun _ _ _ _=>rfl) h)
 |51,h=>decA_of (by kernel_rfl) (encdecU (fld rfl) (by kernel_rfl) (fun _ _ _ _=>rfl) h)
 |52,h=>decA_of (by kernel_rfl) (encdecU (fld rfl) (by kernel_rfl) (fun _ _ _ _=>rfl) h)
 |53,h=>decA_of (by kernel_rfl) (encdecJ (fld rfl) (by kernel_rfl) (fun _ _ _ _=>rfl) h)
 |54,h=>decA_of (by kernel_rfl) (encdecI (fld rfl) (by kernel_rfl) (fun _ _ _ _=>rfl) h)
 |55,h=>decA_of (by kernel_rfl) (encdecN (fld rfl) (by kernel_rfl) (fun _ _ _ _=>rfl) h)
 |k+56,h=>by rw[encF_big]at h;cases h
theorem encdec {op rd rs1 rs2 imm w:Int} (h:encF op rd rs1 rs2 imm=(w,0)):decA w=⟨op,⟨rd,rs1,rs2,imm⟩,0⟩:=by
 cases op with
 |ofNat k=>exact encdec_in k h
 |negSucc m=>rw[encF_neg]at h;cases h
def u32R (x:Int):Prop:=0<=x/\x<4294967296
theorem orW_rng (a b:Int):u32R (orW a b):=by
 have:∀ y:Nat,u32R (IntKind.u32.wrap y):=fun y=>by rw[u32_wrap];unfold u32R;omega
 exact this _
theorem regs_rng {bad:Bool}{rd rs1 rs2:Int}{rest:Int × Int} (h:u32R rest.1):u32R (encRegs bad rd rs1 rs2 rest).1:=by
 have z:u32R 0:=⟨by omega,by omega⟩
 unfold encRegs
 cases bad<;>cases noReg rd<;>cases noReg rs1<;>cases noReg rs2<;>first|exact z|exact h
theorem cond_rng {c:Bool}{w:Int} (h:u32R w):u32R (bif c then((0:Int),(1:Int))else(w,0)).1:=by
 cases c
 ·exact h
 ·exact⟨by show(0:Int)<=0;omega,by show(0:Int)<4294967296;omega⟩
section
variable (o f3 f7 rd rs1 rs2 imm:Int)
theorem rngR:u32R (encR o f3 f7 rd rs1 rs2 imm).1:=regs_rng (orW_rng _ _)
theorem rngI:u32R (encI o f3 f7 rd rs1 rs2 imm).1:=regs_rng (cond_rng (orW_rng _ _))
theorem rngT:u32R (encT o f3 f7 rd rs1 rs2 imm).1:=regs_rng (cond_rng (orW_rng _ _))
theorem rngS:u32R (encS o f3 f7 rd rs1 rs2 imm).1:=regs_rng (cond_rng (orW_rng _ _))
theorem rngB:u32R (encB o f3 f7 rd rs1 rs2 imm).1:=regs_rng (cond_rng (orW_rng _ _))
theorem rngU:u32R (encU o f3 f7 rd rs1 rs2 imm).1:=regs_rng (cond_rng (orW_rng _ _))
theorem rngJ:u32R (encJ o f3 f7 rd rs1 rs2 imm).1:=regs_rng (cond_rng (orW_rng _ _))
theorem rngN:u32R (encN o f3 f7 rd rs1 rs2 imm).1:=regs_rng (orW_rng _ _)
end
theorem rng_in {rd rs1 rs2 imm:Int}:∀ k:Nat,u32R (encF (.ofNat k) rd rs1 rs2 imm).1
 |0=>⟨by show(0:Int)<=0;omega,by show(0:Int)<4294967296;omega⟩
 |1=>rngR 51 0 0 rd rs1 rs2 imm
 |2=>rngR 51 0 32 rd rs1 rs2 imm
 |3=>rngR 51 1 0 rd rs1 rs2 imm
 |4=>rngR 51 2 0 rd rs1 rs2 imm
 |5=>rngR 51 3 0 rd rs1 rs2 imm
 |6=>rngR 51 4 0 rd rs1 rs2 imm
 |7=>rngR 51 5 0 rd rs1 rs2 imm
 |8=>rngR 51 5 32 rd rs1 rs2 imm
 |9=>rngR 51 6 0 rd rs1 rs2 imm
 |10=>rngR 51 7 0 rd rs1 rs2 imm
 |11=>rngR 51 0 1 rd rs1 rs2 imm
 |12=>rngR 51 1 1 rd rs1 rs2 imm
 |13=>rngR 51 3 1 rd rs1 rs2 imm
 |14=>rngR 51 4 1 rd rs1 rs2 imm
 |15=>rngR 51 5 1 rd rs1 rs2 imm
 |16=>rngR 51 6 1 rd rs1 rs2 imm
 |17=>rngR 51 7 1 rd rs1 rs2 imm
 |18=>rngR 59 0 0 rd rs1 rs2 imm
 |19=>rngR 59 0 32 rd rs1 rs2 imm
 |20=>rngR 59 1 0 rd rs1 rs2 imm
 |21=>rngR 59 5 0 rd rs1 rs2 imm
 |22=>rngR 59 5 32 rd rs1 rs2 imm
 |23=>rngR 59 0 1 rd rs1 rs2 imm
 |24=>rngR 59 4 1 rd rs1 rs2 imm
 |25=>rngR 59 5 1 rd rs1 rs2 imm
 |26=>rngR 59 6 1 rd rs1 rs2 imm
 |27=>rngR 59 7 1 rd rs1 rs2 imm
 |28=>rngI 19 0 0 rd rs1 rs2 imm
 |29=>rngI 19 2 0 rd rs1 rs2 imm
 |30=>rngI 19 3 0 rd rs1 rs2 imm
 |31=>rngI 19 4 0 rd rs1 rs2 imm
 |32=>rngI 19 6 0 rd rs1 rs2 imm
 |33=>rngI 19 7 0 rd rs1 rs2 imm
 |34=>rngT 19 1 0 rd rs1 rs2 imm
 |35=>rngT 19 5 0 rd rs1 rs2 imm
 |36=>rngT 19 5 32 rd rs1 rs2 imm
 |37=>rngI 27 0 0 rd rs1 rs2 imm
 |38=>rngI 3 0 0 rd rs1 rs2 imm
 |39=>rngI 3 4 0 rd rs1 rs2 imm
 |40=>rngI 3 2 0 rd rs1 rs2 imm
 |41=>rngI 3 3 0 rd rs1 rs2 imm
 |42=>rngS 35 0 0 rd rs1 rs2 imm
 |43=>rngS 35 2 0 rd rs1 rs2 imm
 |44=>rngS 35 3 0 rd rs1 rs2 imm
 |45=>rngB 99 0 0 rd rs1 rs2 imm
 |46=>rngB 99 1 0 rd rs1 rs2 imm
 |47=>rngB 99 4 0 rd rs1 rs2 imm
 |48=>rngB 99 5 0 rd rs1 rs2 imm
 |49=>rngB 99 6 0 rd rs1 rs2 imm
 |50=>rngB 99 7 0 rd rs1 rs2 imm
 |51=>rngU 55 0 0 rd rs1 rs2 imm
 |52=>rngU 23 0 0 rd rs1 rs2 imm
 |53=>rngJ 111 0 0 rd rs1 rs2 imm
 |54=>rngI 103 0 0 rd rs1 rs2 imm
 |55=>rngN 115 0 0 rd rs1 rs2 imm
 |k+56=>by rw[encF_big];exact⟨by show(0:Int)<=0;omega,by show(0:Int)<4294967296;omega⟩
theorem encF_rng (op rd rs1 rs2 imm:Int):u32R (encF op rd rs1 rs2 imm).1:=by
 cases op with
 |ofNat k=>exact rng_in k
 |negSucc m=>rw[encF_neg];exact⟨by show(0:Int)<=0;omega,by show(0:Int)<4294967296;omega⟩
section
variable (a b i:Nat) (o:Int)
end
attribute [local congr] cond_ctx
section
variable {w:Int} (h:0<=w/\w<4294967296)
include h
end
def docC (id:Nat) (m:MS):List Value:=[.slice (some ⟨id,0,none⟩) m.sz m.sz]++regs m.x++[.int .u64 m.pl,.int .i64 m.st,.int .u8 m.cd]
def docB (id:Nat) (m:MS):Blk:=.var (docC id m)
def sl1 (l:Nat) (n:Nat):Value:=.slice (some ⟨n,0,none⟩) l l
theorem p50_0 (m:MS) (i C:Nat):walk (lookF FL) noSc 1000 x50 (argTm 0 [.slice (some ⟨90,i,none⟩) 0 C]) (mkH [(90,m.memB)]) 100 j0_ ⟨[2],[.tmp 2],[],[90]⟩ j0_ =
  bif (i+0).ble m.sz&&true&&true&&true&&true then some ⟨⟨[some (true,.slice (some ⟨100,0,none⟩) 0 0)],[(100,some (.rows 0 1 (rowPut (fun j=>slab [] (j*1) 1) 0 0 fun j=>[.int .u8 (m.mem (i+j))]) false false))],.ret,101⟩,none⟩else none:=by kernel_rfl
theorem p50_1 (m:MS) (i C k:Nat):walk (lookF FL) noSc 1000 x50 (argTm 0 [.slice (some ⟨90,i,none⟩) (k+1) C]) (mkH [(90,m.memB)]) 100 j0_ ⟨[2],[.tmp 2],[],[90]⟩ j0_ =
  bif (i+(k+1)).ble m.sz&&true&&decide ((0+(k+1))*3<=1099511627776)&&true&&true then some ⟨⟨[some (true,.slice (some ⟨101,0,none⟩) (0+(k+1)) (0+(k+1)))],[(101,some (.rows (0+(k+1)) 1 (rowCat (fun j=>slab [] (j*1) 1) 0 0 fun j=>[.int .u8 (m.mem (i+j))]) true false))],.ret,102⟩,none⟩else none:=by kernel_rfl
theorem b50 {m:MS}{i l C:Nat} (hs:szB m.sz=true) (h:i+l<=m.sz):Body Try.prog 20 [.slice (some ⟨90,i,none⟩) l C] (mkH [(90,m.memB)]) (sl1 l 100) (mkH [(100,outB l fun j=>m.mem (i+j))]) 100 1:=by
 have hs':m.sz<=4194304:=by simpa [szB]using hs
 cases l with
 |zero =>
  have e:=p50_0 m i C
  rw[show(i+0).ble m.sz=true by rw[ble_dec];exact decide_eq_true h]at e
  have hb:∀ {σ:Nm},BIs Try.prog σ (outB 0 fun j=>m.mem (i+j)) (.rows 0 1 (rowPut (fun j=>slab [] (j*1) 1) 0 0 fun j=>[.int .u8 (m.mem (i+j))]) false false):=⟨rfl,rfl,fun j hj=>absurd hj (Nat.not_lt_zero _),.inl rfl,.inr rfl⟩
  exact body_walk FOK fx50 (by simp) e rfl ⟨mkT [2] [sl1 0 100],mkH [(100,outB 0 fun j=>m.mem (i+j)),(90,m.memB)],101⟩ (fun ρ w hd=>⟨_,_,_,rfl,rfl,⟨rfl,trivial⟩,hb,bis_mem,trivial⟩) ⟨rfl,rfl,trivial⟩ rfl rfl
 |succ k =>
  have e:=p50_1 m i C k
  rw[show(i+(k+1)).ble m.sz=true by rw[ble_dec];exact decide_eq_true h,decide_eq_true (show(0+(k+1))*3<=1099511627776 by omega)]at e
  simp only[Nat.zero_add]at e
  have hb:∀ {σ:Nm},BIs Try.prog σ (outB (k+1) fun j=>m.mem (i+j)) (.rows (k+1) 1 (rowCat (fun j=>slab [] (j*1) 1) 0 0 fun j=>[.int .u8 (m.mem (i+j))]) true false):=⟨rfl,rfl,fun j hj=>by
   show[Value.int .u8 (m.mem (i+j))]=(bif Nat.blt j 0 then _ else[Value.int .u8 (m.mem (i+(j-0)))])
   rw[blt_ff (Nat.not_lt_zero _),cond_false,Nat.sub_zero],.inl rfl,.inr rfl⟩
  exact body_walk FOK fx50 (by simp) e rfl ⟨mkT [2] [sl1 (k+1) 100],mkH [(100,outB (k+1) fun j=>m.mem (i+j)),(90,m.memB)],101⟩ (fun ρ w hd=>⟨_,_,_,rfl,rfl,⟨rfl,trivial⟩,hb,bis_mem,trivial⟩) ⟨rfl,rfl,trivial⟩ rfl rfl
theorem at50 {m:MS}{i l C:Nat} (hs:szB m.sz=true) (h:i+l<=m.sz):AtN 20 [.slice (some ⟨90,i,none⟩) l C] [(90,m.memB)] (sl1 l 100) (mkH [(100,outB l fun j=>m.mem (i+j))]) 100 1 :=
 ⟨rfl,adet_of_body (b50 (C:=C) hs h) [(90,90)] [(100,100)] rfl rfl ⟨bis_mem,trivial⟩ rfl rfl ⟨bis_outB,bis_mem,trivial⟩ rfl⟩
noncomputable abbrev sc37 (m:MS) (i l C:Nat):Short:=scOf [conAt 20 [.slice (some ⟨90,i,none⟩) l C] [(90,m.memB)] (sl1 l 100) (mkH [(100,outB l fun j=>m.mem (i+j))]) 100 1]
theorem p37_0 (m:MS) (at_ n:Int):walk (lookF FL) noSc 1000 (.region x37_0) (argTm 0 [pM,.int .i64 at_,.int .i64 n]) (mkH m.H) 100 ⟨[],[],[0,1,2],[90,91,92]⟩ j0_ j0_=some ⟨⟨[],[],.normal,100⟩,none⟩:=by kernel_rfl
def q37 (q0 n0 s0:Bool):Bool :=
 let q1:=bif q0 then true else n0
 let q2:=bif q1 then true else s0
 let q3:=!q2&&(!q2&&true)||!(!q2);let q4:=!q2&&true||!(!q2);let q5:=!q1&&true||!(!q1)
 ((!q2||q2)&&true||false)&&(q3&&(q3&&(q4&&(q4&&(q4&&(q4&&(((!q1||q1)&&true||false)&&((!q1&&(!q1&&true)||!(!q1))&&(q5&&(q5&&(q5&&(q5&&(((!q0||q0)&&true||false)&&((!q0&&true||!(!q0))&&true))))))))))))))
theorem q37_true (a b c:Bool):q37 a b c=true:=by cases a<;>cases b<;>cases c<;>rfl
def v37 (a b c d:Bool):Bool:=bif bif bif a then true else b then true else c then true else d
theorem p37_a (m:MS) (at_ n:Int):walk (lookF FL) noSc 1000 x37_5 (mkT [0,1,2] [pM,.int .i64 at_,.int .i64 n]) (mkH m.H) 100 ⟨[],[],[0,1,2],[90,91,92]⟩ ⟨[6,7],[],[],[90,91,92]⟩ j0_ =
  bif q37 (decide (at_<0)) (decide (n<0)) (decide (at_>(m.sz:Int)))then bif v37 (decide (at_<0)) (decide (n<0)) (decide (at_>(m.sz:Int))) (decide (n>IntKind.i64.wrap ((m.sz:Int)-at_)))then some ⟨⟨[some (true,.slice none 0 0),some (true,.int .i64 1)],[],.ret,100⟩,none⟩else some ⟨⟨[],[],.normal,100⟩,none⟩else none:=by kernel_rfl
theorem p37_b (m:MS) (at_ n:Int) (i l C:Nat):walk (lookF FL) (sc37 m i l C) 1000 x37_7 (mkT [0,1,2] [pM,.int .i64 at_,.int .i64 n]) (mkH m.H) 100 j0_ ⟨[6,7],[.id 100],[],[90,91,92]⟩ j0_ =
  bif decP ([Value.slice (some ⟨90,0+at_.toNat*1,none⟩) (IntKind.i64.wrap (at_+n)-at_).toNat (m.sz-at_.toNat)]=[Value.slice (some ⟨90,i,none⟩) l C]/\Has (mkH m.H) [(90,m.memB)]/\AtN 20 [.slice (some ⟨90,i,none⟩) l C] [(90,m.memB)] (sl1 l 100) (mkH [(100,outB l fun j=>m.mem (i+j))]) 100 1)&&true&&((decide (0<=at_)&&decide (at_<=IntKind.i64.wrap (at_+n))&&decide (IntKind.i64.wrap (at_+n)<=(m.sz:Int))&&true||false)&&true)then
   some ⟨⟨[some (true,sl1 l 100),some (true,.int .i64 0)],[(100,some (outB l fun j=>m.mem (i+j)))],.ret,101⟩,none⟩else none:=by kernel_rfl
theorem b37 {m:MS}{i l:Nat} (hs:szB m.sz=true) (h:i+l<=m.sz):Body Try.prog 11 [pM,.int .i64 (i:Int),.int .i64 (l:Int)] (mkH m.H) (.tuple ⟨[sl1 l 100,.int .i64 0]⟩) (mkH [(100,outB l fun j=>m.mem (i+j))]) 100 1:=by
 have hs':m.sz<=4194304:=by simpa [szB]using hs
 refine body_of' mixed fx37 (by simp) fun E Q hP hn hcl hfin=>?_
 have hF:FnsOK E.P (lookF FL) noSc:=hP▸FOK
 have lf:∀ {e:Exit}{k:Nat},LeafTo E ([]++[0,1,2]) ⟨[some (true,pM),some (true,.int .i64 (i:Int)),some (true,.int .i64 (l:Int))],[(90,some m.memB),(91,some m.kn.blk),(92,some m.mB)],e,k⟩ ⟨mkT [0,1,2] [pM,.int .i64 (i:Int),.int .i64 (l:Int)],mkH m.H,100⟩:=⟨_,m.H,100,rfl,by rw[hn];rfl,by rw[hn];exact⟨rfl,rfl,rfl,trivial⟩,by rw[hn,hP];exact⟨bis_mem,bis_kn,bis_mBg rfl rfl,trivial⟩⟩
 refine xwp_seqW (s:=⟨_,_,_⟩) hcl hF 1000 (p37_0 m (i:Int) (l:Int)) rfl ⟨mkT [0,1,2] [pM,.int .i64 (i:Int),.int .i64 (l:Int)],mkH m.H,100⟩ lf ?_
 have e:=p37_a m (i:Int) (l:Int)
 rw[q37_true,cond_true,decide_eq_false (show ¬ (i:Int)<0 by omega),decide_eq_false (show ¬ (l:Int)<0 by omega),decide_eq_false (show ¬ (i:Int)>m.sz by omega),wrap_i (n:=(m.sz:Int)-i) (by omega) (by omega),decide_eq_false (show ¬ (l:Int)>(m.sz:Int)-i by omega)]at e
 show XWP E.toEnv (.seq x37_5 x37_7) Q _
 refine xwp_seqW (s:=⟨_,_,_⟩) hcl hF 1000 e rfl ⟨mkT [0,1,2] [pM,.int .i64 (i:Int),.int .i64 (l:Int)],mkH m.H,100⟩ lf ?_
 have e2:=p37_b m (i:Int) (l:Int) i l (m.sz-i)
 rw[wrap_i (n:=(i:Int)+l) (by omega) (by omega)]at e2
 rw[decP_true ⟨by rw[show((i:Int)+l-i).toNat=l by omega,Int.toNat_natCast,Nat.zero_add,Nat.mul_one],⟨rfl,trivial⟩,at50 hs h⟩,decide_eq_true (show 0<=(i:Int) by omega),decide_eq_true (show(i:Int)<=i+l by omega),decide_eq_true (show(i:Int)+l<=m.sz by omega)]at e2
 refine xwp_toEnd (s:=⟨_,_,_⟩) hcl (fokE hP _) 1000 e2 ⟨mkT [6,7] [sl1 l 100,.int .i64 0],mkH ((100,outB l fun j=>m.mem (i+j)) :: m.H),101⟩ ⟨_,(100,outB l fun j=>m.mem (i+j)) :: m.H,101,rfl,by rw[hn];rfl,by rw[hn];exact⟨rfl,rfl,trivial⟩,by rw[hn,hP];exact⟨bis_outB,bis_mem,bis_kn,bis_mBg rfl rfl,trivial⟩⟩ (hfin _ _ (fin_of rfl ⟨rfl,rfl,rfl,rfl,trivial⟩ (by rw[hn]) rfl))
section
variable (m d:MS)
end
def mb32 (sz:Nat) (mem:Nat->Int):Blk:=.rows sz 1 (fun j=>[.int .u8 (mem j)]) false false
section
variable (bi:Bool) (L C i sz:Nat) (s:Int) (inp mem:Nat->Int) (hb:bi=false->L=0)
include hb
end
def h10 (m d:MS):List (Nat × Blk):=[(93,mb32 d.sz d.mem),(94,docB 93 d)]++m.HA 90 91 92
section
variable (bi:Bool) (L C sz:Nat) (s:Int) (inp:Nat->Int) (m d:MS) (hb:bi=false->L=0)
include hb
end
section
variable (sz:Nat) (s:Int) (m d:MS)
end
section
variable {bi:Bool}{L C sz:Nat}{s:Int}{inp:Nat->Int} (hb:bi=false->L=0)
include hb
end
def ByOK (f:Nat->Int):Prop:=∀ j,0<=f j/\f j<256
section
variable (m:MS) (bo bs:Bool) (k L C T oN sN d:Nat) (mk:Int) (inp of:Nat->Int)
end
section
variable (m:MS) (c:Cand) (bo bs:Bool) (k L C oN sN:Nat) (mk v64:Int) (sf:Nat->List Value) (op:Int)
end
section
variable (m:MS) (f:Nat->Int) (j x n a:Int)
end
section
variable {m:MS}{c:Cand}{bo:Bool}{k L C oN sN:Nat}{mk:Int}{sf:Nat->List Value}{op:Int} (hs:szB m.sz=true) (hc:CandOK c)
include hs hc
end
section
variable (m:MS) (c:Cand) (pi po ps:Option Addr) (li ci lo co ls cs:Nat) (mk:Int)
end
section
variable {m:MS}{q:Int}{c:Cand} (pi po ps:Option Addr) (li ci lo co ls cs:Nat) (mk:Int)
end
section
variable {m m2:MS}{bo bs:Bool}{k L C oN sN:Nat}{mk mk2:Int}{ret:Bool}{i:Ans}{pl:Bool}{v:Int}{n:Nat}
end
section
variable (m m2:MS) (c:Cand) (bo bo2 bs bs2 ret:Bool) (k L C T oN sN k2 L2 C2 oN2 sN2:Nat) (mk:Int) (inp of of2:Nat->Int) (sf sf2:Nat->List Value) (q:Int)
end
section
variable {m m2 m3:MS}{c:Cand}{bo bo2 bs bs2 ret:Bool}{k L C T oN sN k2 L2 C2 oN2 sN2:Nat}{mk:Int}{inp of of2:Nat->Int}{sf sf2:Nat->List Value}{q:Int}
end
structure DocOK (e:REnv) (s:RSt):Prop where
 bi:e.bi=true
 wt:e.wt=true
 by_:ByOK s.m.mem
 x0:s.m.x 0=0
section
variable {e:REnv}{n:Nat} {s s':RSt}{ret:Bool} (hb:BaseOK e n s) (hn:(n:Int)<1000000000) (hsn:s.sN<=n) (hd:DocOK e s)
include hb hn hsn hd
end
section
variable (m m2:MS) (bo bs bo2 bs2 ret:Bool) (k L C k2 L2 C2 k3 L3 C3 T oN sN oN2 sN2:Nat) (n fuel mk mk2:Int) (inp of of2:Nat->Int) (sf sf2:Nat->List Value) (pre:List (Nat × Blk))
end
section
variable {E:FEnv} (hP:E.P=Try.prog) (hE:E.B.n=100)
include hP hE
end
structure MOK (m:MS):Prop where
 sz:szB m.sz=true
 pl:uB m.pl=true
 x:∀ j,uB (m.x j)=true
 kn:m.kn.OK
 by_:ByOK m.mem
 x0:m.x 0=0
section
variable (m:MS) (br:Bool) (j R RC:Nat) (rg:Nat->Int)
end
section
variable {T:Nat}{inp:Nat->Int}{f:Nat->List Value} (hf:∀ j,j<T->f j=[.int .u8 (inp j)]){m:MS} (hm:MOK m){fuel:Int} (hfu:fuel<=1000000000){s:RSt}{n:Nat}
include hf hm hfu
end
def wB (T:Nat) (W:Nat->Int):Blk:=.rows T 1 (fun j=>[.int .u32 (W j)]) false true
section
variable (N C T i oN:Nat) (W of:Nat->Int)
theorem p38_a:walk (lookF FL) noSc 1000 x316 (argTm 0 [L41 N C]) (mkH [(41,wB T W)]) 100 j0_ j0_ ⟨[8,3,7,6],[],[],[41]⟩ =
  some ⟨⟨[some (true,.int .i64 0),some (true,.slice none 0 0),some (true,.int .i64 (N:Int)),some (true,L41 N C)],[],.normal,100⟩,some (x316_12,[.bl 0,.sq x316_17])⟩:=by kernel_rfl
theorem p38_n:walk (lookF FL) noSc 1000 x316_12 (mkT [8,3,7,6] [.int .i64 (i:Int),.slice none 0 0,.int .i64 (N:Int),L41 N C]) (mkH [(41,wB T W)]) 102 ⟨[8,3],[.tmp 3],[7,6],[41]⟩ j0_ j0_ =
  bif decide ((i:Int)<(N:Int))then bif ((0+i).blt T&&true||false)&&((intRange (i:Int) N&&true||false)&&true)then
   some ⟨⟨[some (true,.int .i64 (IntKind.i64.wrap ((i:Int)+1))),some (true,newS 103 4)],[(103,some (.rows 4 1 (rowCat (fun _=>[]) 0 0 (w4 (W (0+i)))) true false))],.normal,104⟩,none⟩else none else none:=by kernel_rfl
theorem p38_b:walk (lookF FL) noSc 1000 x316_12 (mkT [8,3,7,6] [.int .i64 (i:Int),newS 101 oN,.int .i64 (N:Int),L41 N C]) (mkH [(101,outB oN of),(41,wB T W)]) 102 ⟨[8,3],[.tmp 3],[7,6],[41]⟩ j0_ j0_ =
  bif decide ((i:Int)<(N:Int))then bif ((0+i).blt T&&true||false)&&((intRange (i:Int) N&&true||false)&&true)then bif !(oN+4).ble oN&&true&&(oN.ble oN&&(0+oN).ble oN)&&true&&decide ((oN+4)*3<=1099511627776)&&true&&true then
   some ⟨⟨[some (true,.int .i64 (IntKind.i64.wrap ((i:Int)+1))),some (true,newS 103 (oN+4))],[(103,some (.rows (oN+4) 1 (rowCat (fun j=>[.int .u8 (of j)]) 0 oN (w4 (W (0+i)))) true false))],.normal,104⟩,none⟩else none else none
  else some ⟨⟨[some (true,.int .i64 (i:Int)),some (true,newS 101 oN)],[(101,some (outB oN of))],.exit 0,102⟩,none⟩:=by kernel_rfl
theorem p38_e:walk (lookF FL) noSc 1000 x316_17 (mkT [8,3,7,6] [.int .i64 (i:Int),newS 101 oN,.int .i64 (N:Int),L41 N C]) (mkH [(101,outB oN of),(41,wB T W)]) 102 j0_ ⟨[2],[.tmp 3],[],[]⟩ j0_ =
  some ⟨⟨[some (true,newS 101 oN)],[(101,some (outB oN of))],.ret,102⟩,none⟩:=by kernel_rfl
end
def bw (W:Nat->Int):Nat->Nat->Int
 |0=>fun _=>0
 |i+1=>add4 (bw W i) (4*i) (W i)
def S38 (N C T:Nat) (W:Nat->Int):Nat->St
 |0=>⟨mkT [8,3,7,6] [.int .i64 ((0:Nat):Int),.slice none 0 0,.int .i64 (N:Int),L41 N C],mkH [(41,wB T W)],102⟩
 |i+1=>⟨mkT [8,3,7,6] [.int .i64 ((i+1:Nat):Int),newS 101 (4*(i+1)),.int .i64 (N:Int),L41 N C],mkH [(101,outB (4*(i+1)) (bw W (i+1))),(41,wB T W)],102⟩
theorem bis_wB {P:Program}{σ:Nm}{T:Nat}{W:Nat->Int}:BIs P σ (wB T W) (wB T W):=bis_rw fun _ _=>rfl
theorem bw_at (W:Nat->Int):∀ N j,j<4*N->bw W N j=byteOf (W (j / 4)) (j % 4)
 |0,j,h=>by omega
 |N+1,j,h=>by
  show(bif Nat.blt j (4*N)then bw W N j else byteOf (W N) (j-4*N))=_
  by_cases h1:j<4*N
  ·rw[lt_blt h1,cond_true,bw_at W N j h1]
  ·rw[blt_ff h1,cond_false,show j / 4=N by omega,show j-4*N=j % 4 by omega]
theorem b38 {N C T:Nat}{W:Nat->Int} (h0:0<N) (hT:N<=T) (hN:N<=10000000000) :
  Body Try.prog 16 [L41 N C] (mkH [(41,wB T W)]) (newS 100 (4*N)) (mkH [(100,outB (4*N) (bw W N))]) 100 1:=by
 refine body_of_ro [] mixed fx316 (by simp) ?_ fun E Q hP hn hcl hfin=>?_
 ·intro id blk h hro
  simp only[mkH,hget]at h
  revert h
  cases Nat.beq 41 id<;>intro h
  ·cases h
  ·cases h;cases hro
 have hF:FnsOK E.P (lookF FL) noSc:=hP▸FOK
 refine xwp_toLoop (s:=⟨_,_,_⟩) hF 1000 (p38_a N C T W) (S38 N C T W 0) ⟨_,[(41,wB T W)],102,rfl,by rw[hn];rfl,by rw[hn];exact⟨rfl,rfl,rfl,rfl,trivial⟩,by rw[hn,hP];exact⟨bis_wB,trivial⟩⟩ ?_
 refine xwp_loopR (ι:=Nat) (S38 N C T W) (fun i=>i<=N) (fun i=>N-i) 0 (Nat.zero_le _) fun i hi=>?_
 have hcr:=cl_round (S:=S38 N C T W) (I:=fun i=>i<=N) (μ:=fun i=>N-i) (i:=i) (cl_ctx hcl [.bl 0,.sq x316_17])
 match i,hi with
 |0,_ =>
  have e:=p38_n N C T 0 W
  have i2:intRange ((0:Nat):Int) N=true:=by rw[ir_nat];exact decide_eq_true h0
  rw[decide_eq_true (show((0:Nat):Int)<N by omega),i2,Nat.zero_add,lt_blt (show 0<T by omega)]at e
  simp only[Bool.and_self,Bool.or_false,cond_true]at e
  have hb:∀ {σ:Nm},BIs Try.prog σ (outB (4*(0+1)) (bw W (0+1))) (.rows 4 1 (rowCat (fun _=>[]) 0 0 (w4 (W 0))) true false):=fun {σ}=>bis_add (n:=0) (of:=bw W 0) (w:=W 0) (fun j hj=>absurd hj (Nat.not_lt_zero _))
  exact xwp_toEnd (s:=S38 N C T W 0) hcr hF 1000 e (S38 N C T W 1) ⟨_,[(101,outB (4*(0+1)) (bw W (0+1))),(41,wB T W)],102,rfl,by rw[hn];rfl,by rw[hn];exact⟨rfl,rfl,rfl,rfl,trivial⟩,by rw[hn,hP];exact⟨hb,bis_wB,trivial⟩⟩ ⟨1,by omega,by simp only;omega,Wk.refl _ _⟩
 |k+1,hk =>
  have e:=p38_b N C T (k+1) (4*(k+1)) W (bw W (k+1))
  by_cases hlt:k+1<N
  ·have i2:intRange ((k+1:Nat):Int) N=true:=by rw[ir_nat];exact decide_eq_true hlt
   rw[decide_eq_true (show((k+1:Nat):Int)<N by omega),i2,Nat.zero_add,lt_blt (show k+1<T by omega),wrap_i (n:=((k+1:Nat):Int)+1) (by omega) (by omega),
    show(4*(k+1)+4).ble (4*(k+1))=false by rw[ble_dec];simp,show(4*(k+1)).ble (4*(k+1))=true by rw[ble_dec];simp,Nat.zero_add,show(4*(k+1)).ble (4*(k+1))=true by rw[ble_dec];simp,decide_eq_true (show(4*(k+1)+4)*3<=1099511627776 by omega)]at e
   simp only[Bool.and_self,Bool.or_false,Bool.not_false,cond_true]at e
   have hb:∀ {σ:Nm},BIs Try.prog σ (outB (4*(k+1+1)) (bw W (k+1+1))) (.rows (4*(k+1)+4) 1 (rowCat (fun j=>[.int .u8 (bw W (k+1) j)]) 0 (4*(k+1)) (w4 (W (k+1)))) true false):=fun {σ}=>bis_add (n:=4*(k+1)) (of:=bw W (k+1)) (w:=W (k+1)) (fun j hj=>rfl)
   exact xwp_toEnd (s:=S38 N C T W (k+1)) hcr hF 1000 e (S38 N C T W (k+1+1)) ⟨_,[(101,outB (4*(k+1+1)) (bw W (k+1+1))),(41,wB T W)],102,rfl,by rw[hn];rfl,by rw[hn];exact⟨rfl,rfl,rfl,rfl,trivial⟩,by rw[hn,hP];exact⟨hb,bis_wB,trivial⟩⟩ ⟨k+1+1,by omega,by simp only;omega,Wk.refl _ _⟩
  ·have:k+1=N:=by omega
   subst this
   rw[decide_eq_false (show ¬ ((k+1:Nat):Int)<(k+1:Nat) by omega),cond_false]at e
   refine xwp_toEnd (s:=S38 (k+1) C T W (k+1)) hcr hF 1000 e (S38 (k+1) C T W (k+1)) ⟨_,[(101,outB (4*(k+1)) (bw W (k+1))),(41,wB T W)],102,rfl,by rw[hn];rfl,by rw[hn];exact⟨rfl,rfl,rfl,rfl,trivial⟩,by rw[hn,hP];exact⟨bis_outB,bis_wB,trivial⟩⟩ ?_
   show XWP E.toEnv x316_17 Q (S38 (k+1) C T W (k+1))
   exact xwp_toEnd (s:=S38 (k+1) C T W (k+1)) hcl hF 1000 (p38_e (k+1) C T (k+1) (4*(k+1)) W (bw W (k+1))) ⟨mkT [2] [newS 100 (4*(k+1))],mkH [(100,outB (4*(k+1)) (bw W (k+1)))],101⟩ ⟨_,[(100,outB (4*(k+1)) (bw W (k+1)))],101,rfl,by rw[hn];rfl,by rw[hn];exact⟨rfl,trivial⟩,by rw[hn,hP];exact⟨bis_outB,trivial⟩⟩ (hfin _ _ (fin_of rfl (by exact⟨rfl,trivial⟩) (by rw[hn]) rfl))
section
variable (I:Its)
variable (N:Nat)
variable {I N}
end
section
variable {I:Its}{N:Nat}
end
section
variable (n:Nat)
end
section
variable (n:Nat)
variable {x:Int} (hx:∃ t,x=4*t/\0<=t/\t<1000000) (hn:n<1500)
include hx hn
end
theorem stB_mem (m:MS) (i:Nat) (v:Int) (j:Nat):∀ k,(stB m i v k).mem j=bif Nat.ble i j&&Nat.blt j (i+k)then byteX v (j-i)else m.mem j
 |0=>by rw[show(Nat.ble i j&&Nat.blt j (i+0))=false by rw[ble_dec,blt_dec,Nat.add_zero];simp];rfl
 |k+1=>by
  show(bif Nat.beq j (i+k)then byteX v k else(stB m i v k).mem j)=_
  rw[stB_mem m i v j k,beq_dec,ble_dec,blt_dec,blt_dec]
  by_cases h1:j=i+k
  ·subst h1;simp
  ·rw[decide_eq_false h1,cond_false]
   by_cases h2:i<=j
   ·by_cases h3:j<i+k
    ·rw[decide_eq_true h2,decide_eq_true h3,decide_eq_true (show j<i+(k+1) by omega)]
    ·rw[decide_eq_true h2,decide_eq_false h3,decide_eq_false (show ¬ j<i+(k+1) by omega)]
   ·rw[decide_eq_false h2];rfl
theorem num4_congr {f g:Nat->Int}{i:Nat} (h:∀ j,j<4->f (i+j)=g (i+j)):num4 f i=num4 g i:=by
 unfold num4
 rw[h 0 (by omega),h 1 (by omega),h 2 (by omega),h 3 (by omega)]
section
variable {t n:Nat} (ht:t<1000) (hn:n<1500)
include ht hn
end
def mW (W:Nat->Int) (k sz:Nat):MS:=newM 0 (4*k) (bw W k) sz
theorem byteOf_X (w:Int):∀ j,j<4->byteOf w j=byteX w j
 |0,_=>by rw[show byteX w 0=IntKind.u8.wrap (w.fdiv 1) from rfl,Int.fdiv_one];rfl
 |1,_=>rfl
 |2,_=>rfl
 |3,_=>rfl
 |j+4,h=>by omega
theorem okI_dec {i:Ins} (h:okI i=true):decA (encW i)=⟨i.op,⟨i.rd,i.rs1,i.rs2,i.imm⟩,0⟩:=by
 refine encdec (Prod.ext rfl ?_)
 simpa [okI]using h
theorem stepP1 {w:Bool}{s:RSt}{q:Int}{c:Cand} (hp:plB s.m.sz s.m.pl 4=true) (hd:decA (w32 s.m)=⟨q,c,0⟩) (h1:plainB q=true) :
  stepF (e0 w) s=(true,{ s with m:=stepM s.m s.m.kn' q c,mark:=markF q c s.mark }):=by
 unfold stepF stepG
 rw[hp,hd]
 simp only[cond_true,show((0:Int)==0)=true from rfl,h1]
end Go.X
