import Derived.Test.YtnekegldodbgjaaM43
import Derived.Test.YtnekegldodbgjaaM37
import Derived.Test.YtnekegldodbgjaaM36
set_option linter.all false
namespace Go.X
open Go Go.Proofs
def candR (F n rd rs1 rs2:Int):Cand:=match F with
 |82=>⟨rd,rs1,rs2,0⟩
 |73=>⟨rd,rs1,0,sgnF (IntKind.i64.wrap (n.tdiv 1048576)) 4096⟩
 |84=>⟨rd,rs1,0,(IntKind.i64.wrap (n.tdiv 1048576)).tmod 64⟩
 |83=>⟨0,rs1,rs2,sgnF (IntKind.i64.wrap (rd+IntKind.i64.wrap (32*IntKind.i64.wrap (n.tdiv 33554432)))) 4096⟩
 |66=>⟨0,rs1,rs2,sgnF (IntKind.i64.wrap (IntKind.i64.wrap (IntKind.i64.wrap (IntKind.i64.wrap (IntKind.i64.wrap (rd.tdiv 2)*2)+IntKind.i64.wrap (32*(IntKind.i64.wrap (n.tdiv 33554432)).tmod 64))+IntKind.i64.wrap (2048*rd.tmod 2))+IntKind.i64.wrap (4096*IntKind.i64.wrap (n.tdiv 2147483648)))) 8192⟩
 |85=>⟨rd,0,0,sgnF (IntKind.i64.wrap (n.tdiv 4096)) 1048576⟩
 |74=>⟨rd,0,0,sgnF (IntKind.i64.wrap (IntKind.i64.wrap (IntKind.i64.wrap (IntKind.i64.wrap (2*(IntKind.i64.wrap (n.tdiv 2097152)).tmod 1024)+IntKind.i64.wrap (2048*(IntKind.i64.wrap (n.tdiv 1048576)).tmod 2))+IntKind.i64.wrap (4096*(IntKind.i64.wrap (n.tdiv 4096)).tmod 256))+IntKind.i64.wrap (1048576*IntKind.i64.wrap (n.tdiv 2147483648)))) 2097152⟩
 |_=>⟨0,0,0,0⟩
theorem pW_val {w d m:Int} (k:Nat) (hk:k<=20) (j:Int) (hj:0<=j/\j<=1048576) (h0:0<=w) (h1:w<4294967296) (hd:0<d) (hm:m=2 ^ k-1):pW w d m j=w / d % 2 ^ k*j:=by
 unfold pW
 rw[fW_val k (by omega) h0 h1 hd hm]
 have hp:(0:Int)<2 ^ k:=Int.pow_pos (by decide)
 have h2:=Int.emod_nonneg (w / d) (Int.ne_of_gt hp)
 have h3:=Int.emod_lt_of_pos (w / d) hp
 have h4:(2:Nat) ^ k<=2 ^ 20:=Nat.pow_le_pow_right (by decide) hk
 have h5:((2 ^ k:Nat):Int)<=1048576:=Int.ofNat_le.2 h4
 have h6:((2 ^ k:Nat):Int)=2 ^ k:=by rw[Int.natCast_pow];rfl
 have h7:w / d % 2 ^ k*j<=1048576*1048576:=Int.mul_le_mul (by omega) hj.2 hj.1 (by omega)
 have h8:=Int.mul_nonneg h2 hj.1
 exact wrap_i (by omega) (by omega)
theorem o0_val {b:Int} (hb:0<=b/\b<2305843009213693952):oW 0 b=b:=by
 rw[oW_add 0 61 ⟨by omega,by omega⟩ ⟨by omega,by omega⟩ (by omega) (by omega) (by omega)];omega
theorem oB_val {a b c d:Int} (ha:0<=a/\a<2) (hb:0<=b/\b<16) (hc:0<=c/\c<64) (hd:0<=d/\d<2):oW (oW (oW (a*2048) (b*2)) (c*32)) (d*4096)=a*2048+b*2+c*32+d*4096:=by
 rw[oW_add (a:=a*2048) 1 4 ⟨by omega,by omega⟩ ⟨by omega,by omega⟩ (by omega) (by omega) (by omega),oW_add (a:=a*2048+b*2) 5 6 ⟨by omega,by omega⟩ ⟨by omega,by omega⟩ (by omega) (by omega) (by omega),oW_add (a:=a*2048+b*2+c*32) 12 1 ⟨by omega,by omega⟩ ⟨by omega,by omega⟩ (by omega) (by omega) (by rw[Int.emod_eq_of_lt (by omega) (by omega)];omega)]
theorem oJ_val {a b c d:Int} (ha:0<=a/\a<256) (hb:0<=b/\b<2) (hc:0<=c/\c<1024) (hd:0<=d/\d<2):oW (oW (oW (a*4096) (b*2048)) (c*2)) (d*1048576)=a*4096+b*2048+c*2+d*1048576:=by
 rw[oW_add (a:=a*4096) 11 1 ⟨by omega,by omega⟩ ⟨by omega,by omega⟩ (by omega) (by omega) (by omega),oW_add (a:=a*4096+b*2048) 1 10 ⟨by omega,by omega⟩ ⟨by omega,by omega⟩ (by omega) (by omega) (by omega),oW_add (a:=a*4096+b*2048+c*2) 20 1 ⟨by omega,by omega⟩ ⟨by omega,by omega⟩ (by omega) (by omega) (by rw[Int.emod_eq_of_lt (by omega) (by omega)];omega)]
theorem candC {w:Int} (h:0<=w/\w<4294967296):(fW w 128 31=w / 128 % 32/\fW w 32768 31=w / 32768 % 32/\fW w 1048576 31=w / 1048576 % 32)/\oW 0 (pW w 1048576 4095 1)=w / 1048576 % 4096/\oW 0 (pW w 1048576 63 1)=w / 1048576 % 64 /\
  oW (oW 0 (pW w 128 31 1)) (pW w 33554432 127 32)=w / 128 % 32+w / 33554432 % 128*32 /\
  oW (oW (oW (oW 0 (pW w 128 1 2048)) (pW w 256 15 2)) (pW w 33554432 63 32)) (pW w 2147483648 1 4096)=w / 128 % 2*2048+w / 256 % 16*2+w / 33554432 % 64*32+w / 2147483648 % 2*4096 /\
  oW 0 (pW w 4096 1048575 1)=w / 4096 % 1048576 /\
  oW (oW (oW (oW 0 (pW w 4096 255 4096)) (pW w 1048576 1 2048)) (pW w 2097152 1023 2)) (pW w 2147483648 1 1048576)=w / 4096 % 256*4096+w / 1048576 % 2*2048+w / 2097152 % 1024*2+w / 2147483648 % 2*1048576:=by
 obtain⟨h0,h1⟩:=h
 refine⟨⟨fW_val (m:=31) 5 (by omega) h0 h1 (by omega) rfl,fW_val (m:=31) 5 (by omega) h0 h1 (by omega) rfl,fW_val (m:=31) 5 (by omega) h0 h1 (by omega) rfl⟩,?_,?_,?_,?_,?_,?_⟩
 ·rw[pW_val (m:=4095) 12 (by omega) 1 (by omega) h0 h1 (by omega) rfl,o0_val (by omega)];omega
 ·rw[pW_val (m:=63) 6 (by omega) 1 (by omega) h0 h1 (by omega) rfl,o0_val (by omega)];omega
 ·rw[pW_val (m:=31) 5 (by omega) 1 (by omega) h0 h1 (by omega) rfl,pW_val (m:=127) 7 (by omega) 32 (by omega) h0 h1 (by omega) rfl,o0_val (by omega),oW_add 5 7 ⟨by omega,by omega⟩ ⟨by omega,by omega⟩ (by omega) (by omega) (by omega)];omega
 ·rw[pW_val (m:=1) 1 (by omega) 2048 (by omega) h0 h1 (by omega) rfl,pW_val (m:=15) 4 (by omega) 2 (by omega) h0 h1 (by omega) rfl,pW_val (m:=63) 6 (by omega) 32 (by omega) h0 h1 (by omega) rfl,pW_val (m:=1) 1 (by omega) 4096 (by omega) h0 h1 (by omega) rfl,o0_val (by omega),oB_val ⟨by omega,by omega⟩ ⟨by omega,by omega⟩ ⟨by omega,by omega⟩ ⟨by omega,by omega⟩];rfl
 ·rw[pW_val (m:=1048575) 20 (by omega) 1 (by omega) h0 h1 (by omega) rfl,o0_val (by omega)];omega
 ·rw[pW_val (m:=255) 8 (by omega) 4096 (by omega) h0 h1 (by omega) rfl,pW_val (m:=1) 1 (by omega) 2048 (by omega) h0 h1 (by omega) rfl,pW_val (m:=1023) 10 (by omega) 2 (by omega) h0 h1 (by omega) rfl,pW_val (m:=1) 1 (by omega) 1048576 (by omega) h0 h1 (by omega) rfl,o0_val (by omega),oJ_val ⟨by omega,by omega⟩ ⟨by omega,by omega⟩ ⟨by omega,by omega⟩ ⟨by omega,by omega⟩];rfl
theorem sgn_fix {x m h:Int} (hx:0<=x/\x<m) (hm:m=2*(h+1)/\m<=2097152):sgnF x m=fixW x h (-m):=by
 unfold sgnF fixW
 have h1:IntKind.i64.wrap (m.tdiv 2)=h+1:=by rw[Int.tdiv_eq_ediv_of_nonneg (by omega),wrap_i (by omega) (by omega)];omega
 rw[h1]
 by_cases g:x>h
 ·rw[decide_eq_true g,decide_eq_true (show x>=h+1 by omega)];rfl
 ·rw[decide_eq_false g,decide_eq_false (show ¬ x>=h+1 by omega)];rfl
theorem fix_even {x h m:Int} (g:x % 2=0) (hh:h % 2=1):fixW x h m=fixW x (h-1) m:=by
 unfold fixW
 rw[show decide (x>h)=decide (x>h-1) from decide_eq_decide.2 (by omega)]
section
variable {w:Int} (h:0<=w/\w<4294967296)
include h
theorem wi32 {x:Int} (hx:0<=x/\x<4294967296):IntKind.i64.wrap x=x:=wrap_i (by omega) (by omega)
theorem td32 (d:Int):w.tdiv d=w / d:=Int.tdiv_eq_ediv_of_nonneg h.1
theorem lawI:sgnF (IntKind.i64.wrap (w.tdiv 1048576)) 4096=fixW (w / 1048576 % 4096) 2047 (-4096):=by
 rw[td32 h,wi32 h (by omega),sgn_fix (x:=w / 1048576) (m:=4096) (h:=2047) (by omega) (by omega),Int.emod_eq_of_lt (by omega) (by omega)]
theorem lawT:(IntKind.i64.wrap (w.tdiv 1048576)).tmod 64=w / 1048576 % 64:=by
 rw[td32 h,wi32 h (by omega),Int.tmod_eq_emod_of_nonneg (by omega)]
theorem lawS:sgnF (IntKind.i64.wrap (w / 128 % 32+IntKind.i64.wrap (32*IntKind.i64.wrap (w.tdiv 33554432)))) 4096=fixW (w / 128 % 32+w / 33554432 % 128*32) 2047 (-4096):=by
 rw[td32 h,wi32 h (x:=w / 33554432) (by omega),wi32 h (x:=32*(w / 33554432)) (by omega),wi32 h (by omega),sgn_fix (x:=w / 128 % 32+32*(w / 33554432)) (m:=4096) (h:=2047) (by omega) (by omega)]
 congr 1;omega
theorem lawB:sgnF (IntKind.i64.wrap (IntKind.i64.wrap (IntKind.i64.wrap (IntKind.i64.wrap (IntKind.i64.wrap ((w / 128 % 32).tdiv 2)*2)+IntKind.i64.wrap (32*(IntKind.i64.wrap (w.tdiv 33554432)).tmod 64))+IntKind.i64.wrap (2048*(w / 128 % 32).tmod 2))+IntKind.i64.wrap (4096*IntKind.i64.wrap (w.tdiv 2147483648)))) 8192=fixW (w / 128 % 2*2048+w / 256 % 16*2+w / 33554432 % 64*32+w / 2147483648 % 2*4096) 4094 (-8192):=by
 have e:IntKind.i64.wrap (IntKind.i64.wrap (IntKind.i64.wrap (IntKind.i64.wrap (IntKind.i64.wrap ((w / 128 % 32).tdiv 2)*2)+IntKind.i64.wrap (32*(IntKind.i64.wrap (w.tdiv 33554432)).tmod 64))+IntKind.i64.wrap (2048*(w / 128 % 32).tmod 2))+IntKind.i64.wrap (4096*IntKind.i64.wrap (w.tdiv 2147483648)))=w / 128 % 2*2048+w / 256 % 16*2+w / 33554432 % 64*32+w / 2147483648 % 2*4096:=by
  rw[td32 h,td32 h,wi32 h (x:=w / 33554432) (by omega),wi32 h (x:=w / 2147483648) (by omega),Int.tdiv_eq_ediv_of_nonneg (a:=w / 128 % 32) (by omega),Int.tmod_eq_emod_of_nonneg (a:=w / 33554432) (by omega),Int.tmod_eq_emod_of_nonneg (a:=w / 128 % 32) (by omega)]
  rw[wi32 h (x:=w / 128 % 32 / 2) (by omega),wi32 h (x:=w / 128 % 32 / 2*2) (by omega),wi32 h (x:=32*(w / 33554432 % 64)) (by omega),wi32 h (x:=2048*(w / 128 % 32 % 2)) (by omega),wi32 h (x:=4096*(w / 2147483648)) (by omega),wi32 h (x:=w / 128 % 32 / 2*2+32*(w / 33554432 % 64)) (by omega),wi32 h (x:=w / 128 % 32 / 2*2+32*(w / 33554432 % 64)+2048*(w / 128 % 32 % 2)) (by omega),wi32 h (by omega)]
  omega
 rw[e,sgn_fix (x:=w / 128 % 2*2048+w / 256 % 16*2+w / 33554432 % 64*32+w / 2147483648 % 2*4096) (m:=8192) (h:=4095) (by omega) (by omega)]
 exact fix_even (by omega) (by omega)
theorem lawU:sgnF (IntKind.i64.wrap (w.tdiv 4096)) 1048576=fixW (w / 4096 % 1048576) 524287 (-1048576):=by
 rw[td32 h,wi32 h (by omega),sgn_fix (x:=w / 4096) (m:=1048576) (h:=524287) (by omega) (by omega),Int.emod_eq_of_lt (by omega) (by omega)]
theorem lawJ:sgnF (IntKind.i64.wrap (IntKind.i64.wrap (IntKind.i64.wrap (IntKind.i64.wrap (2*(IntKind.i64.wrap (w.tdiv 2097152)).tmod 1024)+IntKind.i64.wrap (2048*(IntKind.i64.wrap (w.tdiv 1048576)).tmod 2))+IntKind.i64.wrap (4096*(IntKind.i64.wrap (w.tdiv 4096)).tmod 256))+IntKind.i64.wrap (1048576*IntKind.i64.wrap (w.tdiv 2147483648)))) 2097152=fixW (w / 4096 % 256*4096+w / 1048576 % 2*2048+w / 2097152 % 1024*2+w / 2147483648 % 2*1048576) 1048574 (-2097152):=by
 have e:IntKind.i64.wrap (IntKind.i64.wrap (IntKind.i64.wrap (IntKind.i64.wrap (2*(IntKind.i64.wrap (w.tdiv 2097152)).tmod 1024)+IntKind.i64.wrap (2048*(IntKind.i64.wrap (w.tdiv 1048576)).tmod 2))+IntKind.i64.wrap (4096*(IntKind.i64.wrap (w.tdiv 4096)).tmod 256))+IntKind.i64.wrap (1048576*IntKind.i64.wrap (w.tdiv 2147483648)))=w / 4096 % 256*4096+w / 1048576 % 2*2048+w / 2097152 % 1024*2+w / 2147483648 % 2*1048576:=by
  rw[td32 h,td32 h,td32 h,td32 h,wi32 h (x:=w / 2097152) (by omega),wi32 h (x:=w / 1048576) (by omega),wi32 h (x:=w / 4096) (by omega),wi32 h (x:=w / 2147483648) (by omega),Int.tmod_eq_emod_of_nonneg (a:=w / 2097152) (by omega),Int.tmod_eq_emod_of_nonneg (a:=w / 1048576) (by omega),Int.tmod_eq_emod_of_nonneg (a:=w / 4096) (by omega)]
  rw[wi32 h (x:=2*(w / 2097152 % 1024)) (by omega),wi32 h (x:=2048*(w / 1048576 % 2)) (by omega),wi32 h (x:=4096*(w / 4096 % 256)) (by omega),wi32 h (x:=1048576*(w / 2147483648)) (by omega),wi32 h (x:=2*(w / 2097152 % 1024)+2048*(w / 1048576 % 2)) (by omega),wi32 h (x:=2*(w / 2097152 % 1024)+2048*(w / 1048576 % 2)+4096*(w / 4096 % 256)) (by omega),wi32 h (by omega)]
  omega
 rw[e,sgn_fix (x:=w / 4096 % 256*4096+w / 1048576 % 2*2048+w / 2097152 % 1024*2+w / 2147483648 % 2*1048576) (m:=2097152) (h:=1048575) (by omega) (by omega)]
 exact fix_even (by omega) (by omega)
end
theorem candR_law {F w:Int} (hF:isForm F=true) (h:0<=w/\w<4294967296):candR F w (w / 128 % 32) (w / 32768 % 32) (w / 1048576 % 32)=candF F w:=by
 obtain⟨⟨f1,f2,f3⟩,cI,cT,cS,cB,cU,cJ⟩:=candC h
 simp only[isForm,Bool.or_eq_true,beq_iff_eq]at hF
 rcases hF with rfl|rfl|rfl|rfl|rfl|rfl|rfl|rfl
 ·show _=(⟨fW w 128 31,fW w 32768 31,fW w 1048576 31,0⟩:Cand)
  rw[f1,f2,f3];rfl
 ·show _=(⟨fW w 128 31,fW w 32768 31,0,fixW (oW 0 (pW w 1048576 4095 1)) 2047 (-4096)⟩:Cand)
  rw[f1,f2,cI,<- lawI h];rfl
 ·show _=(⟨fW w 128 31,fW w 32768 31,0,oW 0 (pW w 1048576 63 1)⟩:Cand)
  rw[f1,f2,cT,<- lawT h];rfl
 ·show _=(⟨0,fW w 32768 31,fW w 1048576 31,fixW (oW (oW 0 (pW w 128 31 1)) (pW w 33554432 127 32)) 2047 (-4096)⟩:Cand)
  rw[f2,f3,cS,<- lawS h];rfl
 ·show _=(⟨0,fW w 32768 31,fW w 1048576 31,fixW (oW (oW (oW (oW 0 (pW w 128 1 2048)) (pW w 256 15 2)) (pW w 33554432 63 32)) (pW w 2147483648 1 4096)) 4094 (-8192)⟩:Cand)
  rw[f2,f3,cB,<- lawB h];rfl
 ·show _=(⟨fW w 128 31,0,0,fixW (oW 0 (pW w 4096 1048575 1)) 524287 (-1048576)⟩:Cand)
  rw[f1,cU,<- lawU h];rfl
 ·show _=(⟨fW w 128 31,0,0,fixW (oW (oW (oW (oW 0 (pW w 4096 255 4096)) (pW w 1048576 1 2048)) (pW w 2097152 1023 2)) (pW w 2147483648 1 1048576)) 1048574 (-2097152)⟩:Cand)
  rw[f1,cJ,<- lawJ h];rfl
 ·rfl
noncomputable abbrev sc63 (k F o f3 f7:Int):Short:=scOf [con58 k F o f3 f7,con47 (fun i=>encF i.op i.rd i.rs1 i.rs2 i.imm),con79]
abbrev q100:Value:=.pointer (some ⟨100,0,some 0⟩)
abbrev T63 (w k:Int):Tm:=mkT [8,2,3,4,5,6,7,0] [.int .i64 k,q100,.bool false,.int .i64 w,.int .i64 (w / 128 % 32),.int .i64 (w / 32768 % 32),.int .i64 (w / 1048576 % 32),.int .u32 w]
abbrev H63:Hp:=mkH [(100,var0)]
theorem p63_0 (w:Int):walk (lookF FL) noSc 1000 x63 (argTm 0 [.int .u32 w]) [] 100 j0_ j0_ ⟨[8,2,3,4,5,6,7],[.tmp 2],[0],[]⟩ =
  some ⟨⟨[some (true,.int .i64 1),some (true,q100),some (true,.bool false),some (true,.int .i64 (IntKind.i64.wrap w)),some (true,.int .i64 ((IntKind.i64.wrap ((IntKind.i64.wrap w).tdiv 128)).tmod 32)),some (true,.int .i64 ((IntKind.i64.wrap ((IntKind.i64.wrap w).tdiv 32768)).tmod 32)),some (true,.int .i64 ((IntKind.i64.wrap ((IntKind.i64.wrap w).tdiv 1048576)).tmod 32))],[(100,some var0)],.normal,101⟩,some (x63_54,[.bl 0,.sq x63_59])⟩:=by kernel_rfl
def g63 (b:Bool):Bool:=((b||!b)&&true||false)&&((b&&(b&&true)||!b)&&true)
noncomputable def t63 (k w F o f3 f7:Int) (c:Cand):Option Stop :=
 bif decide (k<=55)then bif decP ([Value.int .i64 k]=[Value.int .i64 k]/\At58 k F o f3 f7)&&true then bif (decP (EncV ⟨k,c.rd,c.rs1,c.rs2,c.imm⟩ (encF k c.rd c.rs1 c.rs2 c.imm))||false)&&true then
  bif g63 ((encF k c.rd c.rs1 c.rs2 c.imm).2==0)then bif bif (encF k c.rd c.rs1 c.rs2 c.imm).2==0 then(encF k c.rd c.rs1 c.rs2 c.imm).1==w else false then some ⟨⟨[some (true,q100),some (true,.bool true)],[(100,some (iB k c.rd c.rs1 c.rs2 c.imm))],.ret,104⟩,none⟩
  else some ⟨⟨[some (true,.int .i64 (IntKind.i64.wrap (k+1)))],[],.normal,104⟩,none⟩else none else none else none
 else some ⟨⟨[some (true,.int .i64 k)],[],.exit 0,101⟩,none⟩
theorem p63 {F:Int} (hF:isForm F=true) (k w n rd rs1 rs2 o f3 f7:Int) :
  walk (lookF FL) (sc63 k F o f3 f7) 1000 x63_54 (mkT [8,2,3,4,5,6,7,0] [.int .i64 k,q100,.bool false,.int .i64 n,.int .i64 rd,.int .i64 rs1,.int .i64 rs2,.int .u32 w]) H63 101 ⟨[8],[],[2,3,4,5,6,7,0],[100]⟩ ⟨[2,3],[.id 100],[],[]⟩ j0_=t63 k w F o f3 f7 (candR F n rd rs1 rs2):=by
 simp only[isForm,Bool.or_eq_true,beq_iff_eq]at hF
 rcases hF with rfl|rfl|rfl|rfl|rfl|rfl|rfl|rfl<;>kernel_rfl
theorem p63_z (w k:Int):walk (lookF FL) noSc 1000 x63_59 (T63 w k) H63 101 j0_ ⟨[2,3],[.id 100],[],[]⟩ j0_ =
  some ⟨⟨[some (true,q100),some (true,.bool false)],[(100,some var0)],.ret,101⟩,none⟩:=by kernel_rfl
def At58R (q:Int):Prop:=At58 q (rowOf (.int .i64 q)).1 (rowOf (.int .i64 q)).2.1 (rowOf (.int .i64 q)).2.2.1 (rowOf (.int .i64 q)).2.2.2
theorem at58_row {q F o f3 f7:Int} (e:rowOf (.int .i64 q)=(F,o,f3,f7)) (h:At58 q F o f3 f7):At58R q:=by unfold At58R;rw[e];exact h
theorem at58_all:∀ k:Nat,1<=k->k<=55->At58R (k:Int)
 |1,_,_=>at58_row (by kernel_rfl) w58_1
 |2,_,_=>at58_row (by kernel_rfl) w58_2
 |3,_,_=>at58_row (by kernel_rfl) w58_3
 |4,_,_=>at58_row (by kernel_rfl) w58_4
 |5,_,_=>at58_row (by kernel_rfl) w58_5
 |6,_,_=>at58_row (by kernel_rfl) w58_6
 |7,_,_=>at58_row (by kernel_rfl) w58_7
 |8,_,_=>at58_row (by kernel_rfl) w58_8
 |9,_,_=>at58_row (by kernel_rfl) w58_9
 |10,_,_=>at58_row (by kernel_rfl) w58_10
 |11,_,_=>at58_row (by kernel_rfl) w58_11
 |12,_,_=>at58_row (by kernel_rfl) w58_12
 |13,_,_=>at58_row (by kernel_rfl) w58_13
 |14,_,_=>at58_row (by kernel_rfl) w58_14
 |15,_,_=>at58_row (by kernel_rfl) w58_15
 |16,_,_=>at58_row (by kernel_rfl) w58_16
 |17,_,_=>at58_row (by kernel_rfl) w58_17
 |18,_,_=>at58_row (by kernel_rfl) w58_18
 |19,_,_=>at58_row (by kernel_rfl) w58_19
 |20,_,_=>at58_row (by kernel_rfl) w58_20
 |21,_,_=>at58_row (by kernel_rfl) w58_21
 |22,_,_=>at58_row (by kernel_rfl) w58_22
 |23,_,_=>at58_row (by kernel_rfl) w58_23
 |24,_,_=>at58_row (by kernel_rfl) w58_24
 |25,_,_=>at58_row (by kernel_rfl) w58_25
 |26,_,_=>at58_row (by kernel_rfl) w58_26
 |27,_,_=>at58_row (by kernel_rfl) w58_27
 |28,_,_=>at58_row (by kernel_rfl) w58_28
 |29,_,_=>at58_row (by kernel_rfl) w58_29
 |30,_,_=>at58_row (by kernel_rfl) w58_30
 |31,_,_=>at58_row (by kernel_rfl) w58_31
 |32,_,_=>at58_row (by kernel_rfl) w58_32
 |33,_,_=>at58_row (by kernel_rfl) w58_33
 |34,_,_=>at58_row (by kernel_rfl) w58_34
 |35,_,_=>at58_row (by kernel_rfl) w58_35
 |36,_,_=>at58_row (by kernel_rfl) w58_36
 |37,_,_=>at58_row (by kernel_rfl) w58_37
 |38,_,_=>at58_row (by kernel_rfl) w58_38
 |39,_,_=>at58_row (by kernel_rfl) w58_39
 |40,_,_=>at58_row (by kernel_rfl) w58_40
 |41,_,_=>at58_row (by kernel_rfl) w58_41
 |42,_,_=>at58_row (by kernel_rfl) w58_42
 |43,_,_=>at58_row (by kernel_rfl) w58_43
 |44,_,_=>at58_row (by kernel_rfl) w58_44
 |45,_,_=>at58_row (by kernel_rfl) w58_45
 |46,_,_=>at58_row (by kernel_rfl) w58_46
 |47,_,_=>at58_row (by kernel_rfl) w58_47
 |48,_,_=>at58_row (by kernel_rfl) w58_48
 |49,_,_=>at58_row (by kernel_rfl) w58_49
 |50,_,_=>at58_row (by kernel_rfl) w58_50
 |51,_,_=>at58_row (by kernel_rfl) w58_51
 |52,_,_=>at58_row (by kernel_rfl) w58_52
 |53,_,_=>at58_row (by kernel_rfl) w58_53
 |54,_,_=>at58_row (by kernel_rfl) w58_54
 |55,_,_=>at58_row (by kernel_rfl) w58_55
 |k+56,_,h=>absurd h (by omega)
theorem sh_in:((List.range 55).all fun k=>tabHas shTab (.int .i64 ((k+1:Nat):Int)))=true:=by kernel_rfl
theorem sh_out:(shTab.all fun p=>decide (1<=p.1)&&decide (p.1<=55))=true:=by kernel_rfl
theorem sh_has {k:Nat} (h1:1<=k) (h2:k<=55):tabHas shTab (.int .i64 (k:Int))=true:=by
 have:=List.all_eq_true.1 sh_in (k-1) (List.mem_range.2 (by omega))
 rwa [Nat.sub_add_cancel h1]at this
def cq (q w:Int):Cand:=candF (rowOf (.int .i64 q)).1 w
def hit (q w:Int):Bool:=bif (encF q (cq q w).rd (cq q w).rs1 (cq q w).rs2 (cq q w).imm).2==0 then(encF q (cq q w).rd (cq q w).rs1 (cq q w).rs2 (cq q w).imm).1==w else false
theorem hit_dec {q w:Int} (h:hit q w=true):decA w=⟨q,cq q w,0⟩:=by
 unfold hit at h
 cases h2:((encF q (cq q w).rd (cq q w).rs1 (cq q w).rs2 (cq q w).imm).2==0)with
 |false=>rw[h2]at h;cases h
 |true =>
  rw[h2,cond_true]at h
  refine encdec (Prod.ext ?_ ?_)
  ·exact eq_of_beq h
  ·exact eq_of_beq h2
theorem dec_hit {q w:Int}{c:Cand} (h:dec1 q w=some c):hit q w=true:=by
 unfold dec1 restF at h
 cases h0:((rowOf (.int .i64 q)).2.1 != bits2 .and .u32 w 127)with
 |true=>rw[h0]at h;cases h
 |false =>
  rw[h0,cond_false]at h
  change (bif (encF q (cq q w).rd (cq q w).rs1 (cq q w).rs2 (cq q w).imm).2==0&&(encF q (cq q w).rd (cq q w).rs1 (cq q w).rs2 (cq q w).imm).1==w then some (cq q w)else none)=some c at h
  unfold hit
  cases h1:((encF q (cq q w).rd (cq q w).rs1 (cq q w).rs2 (cq q w).imm).2==0)<;>cases h2:((encF q (cq q w).rd (cq q w).rs1 (cq q w).rs2 (cq q w).imm).1==w)<;>rw[h1,h2]at h<;>first|rfl|cases h
theorem no_hit {w:Int} (h:∀ k:Nat,1<=k->k<=55->hit k w=false):decA w=⟨0,⟨0,0,0,0⟩,2⟩:=by
 unfold decA decF
 rw[firstD_none fun p hp=>?_]
 have hr:=List.all_eq_true.1 sh_out p hp
 simp only[Bool.and_eq_true,decide_eq_true_eq]at hr
 cases hd:dec1 p.1 w with
 |none=>rfl
 |some c =>
  have:=h p.1.toNat (by omega) (by omega)
  rw[Int.toNat_of_nonneg (by omega),dec_hit hd]at this
  cases this
def Ans.vr (x:Ans):Value:=.tuple ⟨[i18 x.q x.c.rd x.c.rs1 x.c.rs2 x.c.imm,.bool (x.err==0)]⟩
theorem b63 {w:Int} (h:0<=w/\w<4294967296):Body Try.prog 63 [.int .u32 w] [] (decA w).vr (mkH [(100,(decA w).b)]) 100 1:=by
 refine body_of' mixed fx63 (by simp) fun E Q hP hE hcl hfin=>?_
 have hF:FnsOK E.P (lookF FL) noSc:=hP▸FOK
 have iw:∀ {x:Int},0<=x/\x<4294967296->IntKind.i64.wrap x=x:=fun hx=>wrap_i (by omega) (by omega)
 let S:Nat->St:=fun k=>⟨T63 w (k:Int),H63,101⟩
 have lf:∀ {b:Blk}{ex:Exit}{q:Nat}{ks:List Nat}{vs:List Value}{ts:List (Option (Bool × Value))},BIs Try.prog (stayOr 100 [(100,100)]) b b->tsOK (stayOr 100 [(100,100)]) ts vs->LeafTo E ks ⟨ts,[(100,some b)],ex,q⟩ ⟨mkT ks vs,mkH [(100,b)],101⟩:=fun hb ht=>⟨_,[(100,_)],101,rfl,by rw[hE];rfl,by rw[hE];exact ht,by rw[hE,hP];exact⟨hb,trivial⟩⟩
 have e0:=p63_0 w
 rw[iw h,Int.tdiv_eq_ediv_of_nonneg h.1,Int.tdiv_eq_ediv_of_nonneg h.1,Int.tdiv_eq_ediv_of_nonneg h.1,iw (x:=w / 128) (by omega),iw (x:=w / 32768) (by omega),iw (x:=w / 1048576) (by omega),Int.tmod_eq_emod_of_nonneg (by omega),Int.tmod_eq_emod_of_nonneg (by omega),Int.tmod_eq_emod_of_nonneg (by omega)]at e0
 refine xwp_toLoop (s:=⟨_,_,_⟩) hF 1000 e0 (S 1) (lf rfl ⟨rfl,rfl,rfl,rfl,rfl,rfl,rfl,rfl,trivial⟩) ?_
 refine xwp_loopR (ι:=Nat) S (fun k=>(1<=k/\k<=56)/\∀ j:Nat,1<=j->j<k->hit j w=false) (fun k=>56-k) 1 ⟨by omega,fun j h1 h2=>by omega⟩ fun k hk=>?_
 obtain⟨hk,hno⟩:=hk
 have hcr:=cl_round (S:=S) (I:=fun k=>(1<=k/\k<=56)/\∀ j:Nat,1<=j->j<k->hit j w=false) (μ:=fun k=>56-k) (i:=k) (cl_ctx hcl [.bl 0,.sq x63_59])
 by_cases hlt:k<=55
 ·have hF63:FnsOK E.P (lookF FL) (sc63 (k:Int) (rowOf (.int .i64 (k:Int))).1 (rowOf (.int .i64 (k:Int))).2.1 (rowOf (.int .i64 (k:Int))).2.2.1 (rowOf (.int .i64 (k:Int))).2.2.2):=fokE hP _
  have hform:=form_of (sh_has hk.1 hlt)
  have e:=p63 hform (k:Int) w w (w / 128 % 32) (w / 32768 % 32) (w / 1048576 % 32) (rowOf (.int .i64 (k:Int))).2.1 (rowOf (.int .i64 (k:Int))).2.2.1 (rowOf (.int .i64 (k:Int))).2.2.2
  rw[candR_law hform h]at e
  unfold t63 at e
  rw[decide_eq_true (show(k:Int)<=55 by omega),decP_true ⟨rfl,at58_all k hk.1 hlt⟩,decP_true (encV_all _)]at e
  simp only[cond_true,Bool.and_self,Bool.or_false]at e
  rw[show ∀ b,g63 b=true from fun b=>by cases b<;>rfl,cond_true]at e
  change _=bif hit (k:Int) w then(some ⟨⟨[some (true,q100),some (true,.bool true)],[(100,some (iB (k:Int) (cq k w).rd (cq k w).rs1 (cq k w).rs2 (cq k w).imm))],.ret,104⟩,none⟩:Option Stop)else _ at e
  cases hh:hit (k:Int) w with
  |true =>
   rw[hh,cond_true]at e
   refine xwp_toEnd (s:=S k) hcr hF63 1000 e ⟨mkT [2,3] [q100,.bool true],mkH [(100,(decA w).b)],101⟩ ?_ ?_
   ·rw[hit_dec hh]
    exact lf (b:=iB (k:Int) (cq k w).rd (cq k w).rs1 (cq k w).rs2 (cq k w).imm) rfl (ts:=[some (true,q100),some (true,.bool true)]) ⟨rfl,rfl,trivial⟩
   ·refine hfin _ _ (fin_of rfl (by exact⟨rfl,trivial⟩) (by rw[hE]) ?_)
    rw[hit_dec hh];rfl
  |false =>
   rw[hh,cond_false,wrap_i (n:=(k:Int)+1) (by omega) (by omega)]at e
   refine xwp_toEnd (s:=S k) hcr hF63 1000 e (S (k+1)) (lf rfl ⟨rfl,rfl,rfl,rfl,rfl,rfl,rfl,rfl,trivial⟩) ⟨k+1,⟨by omega,fun j h1 h2=>?_⟩,by simp only;omega,Wk.refl _ _⟩
   by_cases hj:j=k
   ·subst hj;exact hh
   ·exact hno j h1 (by omega)
 ·have:k=56:=by omega
  subst this
  have hF63:FnsOK E.P (lookF FL) (sc63 ((56:Nat):Int) 82 0 0 0):=fokE hP _
  have e:=p63 (F:=82) rfl ((56:Nat):Int) w w (w / 128 % 32) (w / 32768 % 32) (w / 1048576 % 32) 0 0 0
  unfold t63 at e
  rw[decide_eq_false (show ¬ ((56:Nat):Int)<=55 by omega),cond_false]at e
  refine xwp_toEnd (s:=S 56) hcr hF63 1000 e (S 56) (lf (b:=var0) rfl ⟨rfl,rfl,rfl,rfl,rfl,rfl,rfl,rfl,trivial⟩) ?_
  refine xwp_toEnd (s:=S 56) hcl hF 1000 (p63_z w ((56:Nat):Int)) ⟨mkT [2,3] [q100,.bool false],mkH [(100,(decA w).b)],101⟩ ?_ (hfin _ _ (fin_of rfl (by exact⟨rfl,trivial⟩) (by rw[hE]) ?_))
  ·rw[no_hit fun j h1 h2=>hno j h1 (by omega)]
   exact lf (b:=var0) rfl (ts:=[some (true,q100),some (true,.bool false)]) ⟨rfl,rfl,trivial⟩
  ·rw[no_hit fun j h1 h2=>hno j h1 (by omega)];rfl
theorem c63 {w:Int} (h:0<=w/\w<4294967296) (n:Nat):ADet Try.prog 63 [.int .u32 w] [] (decA w).vr (mkH [(n,(decA w).b)]) n 1:=by
 refine adet_of_body (b63 h) [] [(n,100)] ?_ rfl trivial rfl rfl ?_ ?_
 ·show(true&&(Nat.ble n n&&Nat.blt n (n+1)&&true)&&(!(Ans.b (decA w)).ro&&true)&&true)=true
  simp[lt_blt,Ans.b,iB,Blk.ro]
 ·simp only[mkH,List.append_nil,HsOK,natMem,asc,flip,Nat.beq_refl,cond_true,and_true,hget,List.nil_append,List.cons_append]
  exact rfl
 ·simp[mkH,namesOf,natMem,asc,flip,nodupB]
def docC (id:Nat) (m:MS):List Value:=[.slice (some ⟨id,0,none⟩) m.sz m.sz]++regs m.x++[.int .u64 m.pl,.int .i64 m.st,.int .u8 m.cd]
def docV (id:Nat) (m:MS):Value:=.agg ⟨docC id m⟩
def docB (id:Nat) (m:MS):Blk:=.var (docC id m)
def sl1 (l:Nat) (n:Nat):Value:=.slice (some ⟨n,0,none⟩) l l
end Go.X
