import Derived.Test.YtnekegldodbgjaaM41
import Derived.Test.YtnekegldodbgjaaM24
set_option linter.all false
namespace Go.X
open Go Go.Proofs
theorem decA_of {q w:Int}{c:Cand} (hq:tabHas shTab (.int .i64 q)=true) (h:dec1 q w=some c):decA w=⟨q,c,0⟩:=by
 unfold decA
 rw[decU_all w q c hq h]
theorem encdec_in {rd rs1 rs2 imm w:Int}:∀ k:Nat,encF (.ofNat k) rd rs1 rs2 imm=(w,0)->decA w=⟨.ofNat k,⟨rd,rs1,rs2,imm⟩,0⟩
 |0,h=>by have e:((0:Int),(2:Int))=(w,0):=h;cases e
 |1,h=>decA_of (by kernel_rfl) (encdecR (fld rfl) (by kernel_rfl) (fun _ _ _ _=>rfl) h)
 |2,h=>decA_of (by kernel_rfl) (encdecR (fld rfl) (by kernel_rfl) (fun _ _ _ _=>rfl) h)
 |3,h=>decA_of (by kernel_rfl) (encdecR (fld rfl) (by kernel_rfl) (fun _ _ _ _=>rfl) h)
 |4,h=>decA_of (by kernel_rfl) (encdecR (fld rfl) (by kernel_rfl) (fun _ _ _ _=>rfl) h)
 |5,h=>decA_of (by kernel_rfl) (encdecR (fld rfl) (by kernel_rfl) (fun _ _ _ _=>rfl) h)
 |6,h=>decA_of (by kernel_rfl) (encdecR (fld rfl) (by kernel_rfl) (fun _ _ _ _=>rfl) h)
 |7,h=>decA_of (by kernel_rfl) (encdecR (fld rfl) (by kernel_rfl) (fun _ _ _ _=>rfl) h)
 |8,h=>decA_of (by kernel_rfl) (encdecR (fld rfl) (by kernel_rfl) (fun _ _ _ _=>rfl) h)
 |9,h=>decA_of (by kernel_rfl) (encdecR (fld rfl) (by kernel_rfl) (fun _ _ _ _=>rfl) h)
 |10,h=>decA_of (by kernel_rfl) (encdecR (fld rfl) (by kernel_rfl) (fun _ _ _ _=>rfl) h)
 |11,h=>decA_of (by kernel_rfl) (encdecR (fld rfl) (by kernel_rfl) (fun _ _ _ _=>rfl) h)
 |12,h=>decA_of (by kernel_rfl) (encdecR (fld rfl) (by kernel_rfl) (fun _ _ _ _=>rfl) h)
 |13,h=>decA_of (by kernel_rfl) (encdecR (fld rfl) (by kernel_rfl) (fun _ _ _ _=>rfl) h)
 |14,h=>decA_of (by kernel_rfl) (encdecR (fld rfl) (by kernel_rfl) (fun _ _ _ _=>rfl) h)
 |15,h=>decA_of (by kernel_rfl) (encdecR (fld rfl) (by kernel_rfl) (fun _ _ _ _=>rfl) h)
 |16,h=>decA_of (by kernel_rfl) (encdecR (fld rfl) (by kernel_rfl) (fun _ _ _ _=>rfl) h)
 |17,h=>decA_of (by kernel_rfl) (encdecR (fld rfl) (by kernel_rfl) (fun _ _ _ _=>rfl) h)
 |18,h=>decA_of (by kernel_rfl) (encdecR (fld rfl) (by kernel_rfl) (fun _ _ _ _=>rfl) h)
 |19,h=>decA_of (by kernel_rfl) (encdecR (fld rfl) (by kernel_rfl) (fun _ _ _ _=>rfl) h)
 |20,h=>decA_of (by kernel_rfl) (encdecR (fld rfl) (by kernel_rfl) (fun _ _ _ _=>rfl) h)
 |21,h=>decA_of (by kernel_rfl) (encdecR (fld rfl) (by kernel_rfl) (fun _ _ _ _=>rfl) h)
 |22,h=>decA_of (by kernel_rfl) (encdecR (fld rfl) (by kernel_rfl) (fun _ _ _ _=>rfl) h)
 |23,h=>decA_of (by kernel_rfl) (encdecR (fld rfl) (by kernel_rfl) (fun _ _ _ _=>rfl) h)
 |24,h=>decA_of (by kernel_rfl) (encdecR (fld rfl) (by kernel_rfl) (fun _ _ _ _=>rfl) h)
 |25,h=>decA_of (by kernel_rfl) (encdecR (fld rfl) (by kernel_rfl) (fun _ _ _ _=>rfl) h)
 |26,h=>decA_of (by kernel_rfl) (encdecR (fld rfl) (by kernel_rfl) (fun _ _ _ _=>rfl) h)
 |27,h=>decA_of (by kernel_rfl) (encdecR (fld rfl) (by kernel_rfl) (fun _ _ _ _=>rfl) h)
 |28,h=>decA_of (by kernel_rfl) (encdecI (fld rfl) (by kernel_rfl) (fun _ _ _ _=>rfl) h)
 |29,h=>decA_of (by kernel_rfl) (encdecI (fld rfl) (by kernel_rfl) (fun _ _ _ _=>rfl) h)
 |30,h=>decA_of (by kernel_rfl) (encdecI (fld rfl) (by kernel_rfl) (fun _ _ _ _=>rfl) h)
 |31,h=>decA_of (by kernel_rfl) (encdecI (fld rfl) (by kernel_rfl) (fun _ _ _ _=>rfl) h)
 |32,h=>decA_of (by kernel_rfl) (encdecI (fld rfl) (by kernel_rfl) (fun _ _ _ _=>rfl) h)
 |33,h=>decA_of (by kernel_rfl) (encdecI (fld rfl) (by kernel_rfl) (fun _ _ _ _=>rfl) h)
 |34,h=>decA_of (by kernel_rfl) (encdecT (fld rfl) rfl (by kernel_rfl) (fun _ _ _ _=>rfl) h)
 |35,h=>decA_of (by kernel_rfl) (encdecT (fld rfl) rfl (by kernel_rfl) (fun _ _ _ _=>rfl) h)
 |36,h=>decA_of (by kernel_rfl) (encdecT (fld rfl) rfl (by kernel_rfl) (fun _ _ _ _=>rfl) h)
 |37,h=>decA_of (by kernel_rfl) (encdecI (fld rfl) (by kernel_rfl) (fun _ _ _ _=>rfl) h)
 |38,h=>decA_of (by kernel_rfl) (encdecI (fld rfl) (by kernel_rfl) (fun _ _ _ _=>rfl) h)
 |39,h=>decA_of (by kernel_rfl) (encdecI (fld rfl) (by kernel_rfl) (fun _ _ _ _=>rfl) h)
 |40,h=>decA_of (by kernel_rfl) (encdecI (fld rfl) (by kernel_rfl) (fun _ _ _ _=>rfl) h)
 |41,h=>decA_of (by kernel_rfl) (encdecI (fld rfl) (by kernel_rfl) (fun _ _ _ _=>rfl) h)
 |42,h=>decA_of (by kernel_rfl) (encdecS (fld rfl) (by kernel_rfl) (fun _ _ _ _=>rfl) h)
 |43,h=>decA_of (by kernel_rfl) (encdecS (fld rfl) (by kernel_rfl) (fun _ _ _ _=>rfl) h)
 |44,h=>decA_of (by kernel_rfl) (encdecS (fld rfl) (by kernel_rfl) (fun _ _ _ _=>rfl) h)
 |45,h=>decA_of (by kernel_rfl) (encdecB (fld rfl) (by kernel_rfl) (fun _ _ _ _=>rfl) h)
 |46,h=>decA_of (by kernel_rfl) (encdecB (fld rfl) (by kernel_rfl) (fun _ _ _ _=>rfl) h)
 |47,h=>decA_of (by kernel_rfl) (encdecB (fld rfl) (by kernel_rfl) (fun _ _ _ _=>rfl) h)
 |48,h=>decA_of (by kernel_rfl) (encdecB (fld rfl) (by kernel_rfl) (fun _ _ _ _=>rfl) h)
 |49,h=>decA_of (by kernel_rfl) (encdecB (fld rfl) (by kernel_rfl) (fun _ _ _ _=>rfl) h)
 |50,h=>decA_of (by kernel_rfl) (encdecB (fld rfl) (by kernel_rfl) (fun _ _ _ _=>rfl) h)
 |51,h=>decA_of (by kernel_rfl) (encdecU (fld rfl) (by kernel_rfl) (fun _ _ _ _=>rfl) h)
 |52,h=>decA_of (by kernel_rfl) (encdecU (fld rfl) (by kernel_rfl) (fun _ _ _ _=>rfl) h)
 |53,h=>decA_of (by kernel_rfl) (encdecJ (fld rfl) (by kernel_rfl) (fun _ _ _ _=>rfl) h)
 |54,h=>decA_of (by kernel_rfl) (encdecI (fld rfl) (by kernel_rfl) (fun _ _ _ _=>rfl) h)
 |55,h=>decA_of (by kernel_rfl) (encdecN (fld rfl) (by kernel_rfl) (fun _ _ _ _=>rfl) h)
 |k+56,h=>by rw[encF_big]at h;cases h
theorem encdec {op rd rs1 rs2 imm w:Int} (h:encF op rd rs1 rs2 imm=(w,0)):decA w=⟨op,⟨rd,rs1,rs2,imm⟩,0⟩:=by
 cases op with
 |ofNat k=>exact encdec_in k h
 |negSucc m=>rw[encF_neg]at h;cases h
section
variable (o f3 f7 rd rs1 rs2 imm:Int)
end
theorem p100_a (a i:Int):walk (lookF FL) noSc 1000 x100 (argTm 0 [.int .u64 a,.int .i64 i]) [] 100 j0_ j0_ ⟨[],[],[1,0],[]⟩ =
  some ⟨⟨[],[],.normal,100⟩,some (x100_8,[.bl 0,.sq x100_12])⟩:=by kernel_rfl
theorem p100_b (a i:Int):walk (lookF FL) noSc 1000 x100_8 (mkT [1,0] [.int .i64 i,.int .u64 a]) [] 100 ⟨[1,0],[],[],[]⟩ j0_ j0_ =
  bif decide (i>0)then some ⟨⟨[some (true,.int .i64 (IntKind.i64.wrap (i-1))),some (true,.int .u64 (IntKind.u64.wrap (a.tdiv 2)))],[],.normal,100⟩,none⟩else some ⟨⟨[some (true,.int .i64 i),some (true,.int .u64 a)],[],.exit 0,100⟩,none⟩:=by kernel_rfl
theorem p100_c (a i:Int):walk (lookF FL) noSc 1000 x100_12 (mkT [1,0] [.int .i64 i,.int .u64 a]) [] 100 j0_ ⟨[4],[],[],[]⟩ j0_ =
  some ⟨⟨[some (true,.int .u64 (a.tmod 2))],[],.ret,100⟩,none⟩:=by kernel_rfl
theorem p97_a (n:Int):walk (lookF FL) noSc 1000 x97 (argTm 0 [.int .i64 n]) [] 100 j0_ j0_ ⟨[3],[],[0],[]⟩ =
  some ⟨⟨[some (true,.int .u64 1)],[],.normal,100⟩,some (x97_9,[.bl 0,.sq x97_13])⟩:=by kernel_rfl
theorem p97_b (p n:Int):walk (lookF FL) noSc 1000 x97_9 (mkT [3,0] [.int .u64 p,.int .i64 n]) [] 100 ⟨[3,0],[],[],[]⟩ j0_ j0_ =
  bif decide (n>0)then some ⟨⟨[some (true,.int .u64 (IntKind.u64.wrap (p*2))),some (true,.int .i64 (IntKind.i64.wrap (n-1)))],[],.normal,100⟩,none⟩else some ⟨⟨[some (true,.int .u64 p),some (true,.int .i64 n)],[],.exit 0,100⟩,none⟩:=by kernel_rfl
theorem p97_c (p n:Int):walk (lookF FL) noSc 1000 x97_13 (mkT [3,0] [.int .u64 p,.int .i64 n]) [] 100 j0_ ⟨[2],[],[],[]⟩ j0_ =
  some ⟨⟨[some (true,.int .u64 p)],[],.ret,100⟩,none⟩:=by kernel_rfl
def rbit (a i:Nat):Nat:=(a.testBit i).toNat
theorem b100 {a i:Nat} (ha:a<18446744073709551616) (hi:i<=64):Body Try.prog 100 [.int .u64 (a:Int),.int .i64 (i:Int)] [] (.int .u64 (rbit a i:Int)) [] 100 0:=by
 refine body_of' mixed fx100 (by simp) fun E Q hP hE hcl hfin=>?_
 have hF:FnsOK E.P (lookF FL) noSc:=hP▸FOK
 let S:Nat->St:=fun j=>⟨mkT [1,0] [.int .i64 ((i-j:Nat):Int),.int .u64 ((a / 2 ^ j:Nat):Int)],mkH [],100⟩
 have lf:∀ {ex:Exit}{q:Nat}{ks:List Nat}{vs:List Value}{ts:List (Option (Bool × Value))},tsOK (stayOr 100 []) ts vs->LeafTo E ks ⟨ts,[],ex,q⟩ ⟨mkT ks vs,mkH [],100⟩:=fun ht=>⟨_,[],100,rfl,by rw[hE];rfl,by rw[hE];exact ht,trivial⟩
 refine xwp_toLoop (s:=⟨_,_,_⟩) hF 1000 (p100_a a i) (S 0) (lf ⟨rfl,by rw[Nat.pow_zero,Nat.div_one];rfl,trivial⟩) ?_
 refine xwp_loopR (ι:=Nat) S (fun j=>j<=i) (fun j=>i-j) 0 (Nat.zero_le _) fun j hj=>?_
 have hcr:=cl_round (S:=S) (I:=fun j=>j<=i) (μ:=fun j=>i-j) (i:=j) (cl_ctx hcl [.bl 0,.sq x100_12])
 have e:=p100_b ((a / 2 ^ j:Nat):Int) ((i-j:Nat):Int)
 have hd:a / 2 ^ j<=a:=Nat.div_le_self _ _
 by_cases hlt:j<i
 ·rw[decide_eq_true (show((i-j:Nat):Int)>0 by omega),cond_true,wrap_i (n:=((i-j:Nat):Int)-1) (by omega) (by omega),Int.tdiv_eq_ediv_of_nonneg (Int.natCast_nonneg _),u64_wrap]at e
  refine xwp_toEnd (s:=S j) hcr hF 1000 e (S (j+1)) (lf ⟨?_,?_,trivial⟩) ⟨j+1,hlt,by simp only;omega,Wk.refl _ _⟩
  ·show some (true,Value.int .i64 _)=some (true,Value.int .i64 ((i-(j+1):Nat):Int));congr 3;omega
  ·show some (true,Value.int .u64 _)=some (true,Value.int .u64 ((a / 2 ^ (j+1):Nat):Int));congr 3
   rw[Nat.pow_succ,<- Nat.div_div_eq_div_mul]
   generalize a / 2 ^ j=y at hd ⊢
   omega
 ·have:j=i:=by omega
  subst this
  rw[decide_eq_false (show ¬ ((j-j:Nat):Int)>0 by omega),cond_false]at e
  refine xwp_toEnd (s:=S j) hcr hF 1000 e (S j) (lf ⟨rfl,rfl,trivial⟩) ?_
  refine xwp_toEnd (s:=S j) hcl hF 1000 (p100_c ((a / 2 ^ j:Nat):Int) ((j-j:Nat):Int)) ⟨mkT [4] [.int .u64 (rbit a j:Int)],mkH [],100⟩ (lf ⟨?_,trivial⟩) (hfin _ _ (fin_of rfl trivial (by rw[hE]) rfl))
  show some (true,Value.int .u64 _)=some (true,Value.int .u64 ((a.testBit j).toNat:Int));congr 3
  rw[Nat.toNat_testBit]
  generalize a / 2 ^ j=y
  rw[Int.tmod_eq_emod_of_nonneg (by omega)];omega
theorem c100 {a i:Nat} (ha:a<18446744073709551616) (hi:i<=64) (n:Nat):ADet Try.prog 100 [.int .u64 (a:Int),.int .i64 (i:Int)] [] (.int .u64 (rbit a i:Int)) [] n 0 :=
 adet_of_body (b100 ha hi) [] [] rfl rfl trivial rfl rfl trivial rfl
def con100:Con Try.prog where
 f:=100
 run:=fun vs h n=>match vs with
  |[.int .u64 (.ofNat a),.int .i64 (.ofNat i)]=>some ([],.int .u64 (rbit a i:Int),[],0,Nat.blt a 18446744073709551616&&Nat.ble i 64)
  |_=>none
 ok:=fun vs h n pre v upd news hx=>by
  split at hx
  ·simp only[Option.some.injEq,Prod.mk.injEq,Bool.and_eq_true]at hx
   obtain⟨rfl,rfl,rfl,rfl,hA,hB⟩:=hx
   exact⟨fun id hid=>by simp[fstL]at hid,c100 (blt_lt hA) (Nat.le_of_ble_eq_true hB) n⟩
  ·cases hx
def pw (n:Nat):Int:=IntKind.u64.wrap (2 ^ n)
theorem pw_lt {n:Nat} (h:n<64):pw n=2 ^ n:=by
 have:(2:Nat) ^ n<=2 ^ 63:=Nat.pow_le_pow_right (by decide) (by omega)
 have h1:((2 ^ n:Nat):Int)<=9223372036854775808:=Int.ofNat_le.2 this
 have h2:((2 ^ n:Nat):Int)=2 ^ n:=by rw[Int.natCast_pow];rfl
 have h3:(0:Int)<2 ^ n:=Int.pow_pos (by decide)
 unfold pw;rw[u64_wrap];omega
theorem b97 {n:Nat} (hn:n<=64):Body Try.prog 97 [.int .i64 (n:Int)] [] (.int .u64 (pw n)) [] 100 0:=by
 refine body_of' mixed fx97 (by simp) fun E Q hP hE hcl hfin=>?_
 have hF:FnsOK E.P (lookF FL) noSc:=hP▸FOK
 let S:Nat->St:=fun j=>⟨mkT [3,0] [.int .u64 (pw j),.int .i64 ((n-j:Nat):Int)],mkH [],100⟩
 have lf:∀ {ex:Exit}{q:Nat}{ks:List Nat}{vs:List Value}{ts:List (Option (Bool × Value))},tsOK (stayOr 100 []) ts vs->LeafTo E ks ⟨ts,[],ex,q⟩ ⟨mkT ks vs,mkH [],100⟩:=fun ht=>⟨_,[],100,rfl,by rw[hE];rfl,by rw[hE];exact ht,trivial⟩
 refine xwp_toLoop (s:=⟨_,_,_⟩) hF 1000 (p97_a n) (S 0) (lf ⟨rfl,rfl,trivial⟩) ?_
 refine xwp_loopR (ι:=Nat) S (fun j=>j<=n) (fun j=>n-j) 0 (Nat.zero_le _) fun j hj=>?_
 have hcr:=cl_round (S:=S) (I:=fun j=>j<=n) (μ:=fun j=>n-j) (i:=j) (cl_ctx hcl [.bl 0,.sq x97_13])
 have e:=p97_b (pw j) ((n-j:Nat):Int)
 by_cases hlt:j<n
 ·rw[decide_eq_true (show((n-j:Nat):Int)>0 by omega),cond_true,wrap_i (n:=((n-j:Nat):Int)-1) (by omega) (by omega)]at e
  refine xwp_toEnd (s:=S j) hcr hF 1000 e (S (j+1)) (lf ⟨?_,?_,trivial⟩) ⟨j+1,hlt,by simp only;omega,Wk.refl _ _⟩
  ·show some (true,Value.int .u64 _)=some (true,Value.int .u64 (pw (j+1)));congr 3
   unfold pw;rw[u64_wrap,u64_wrap,u64_wrap,Int.pow_succ]
   generalize (2:Int) ^ j=y
   omega
  ·show some (true,Value.int .i64 _)=some (true,Value.int .i64 ((n-(j+1):Nat):Int));congr 3;omega
 ·have:j=n:=by omega
  subst this
  rw[decide_eq_false (show ¬ ((j-j:Nat):Int)>0 by omega),cond_false]at e
  refine xwp_toEnd (s:=S j) hcr hF 1000 e (S j) (lf ⟨rfl,rfl,trivial⟩) ?_
  exact xwp_toEnd (s:=S j) hcl hF 1000 (p97_c (pw j) ((j-j:Nat):Int)) ⟨mkT [2] [.int .u64 (pw j)],mkH [],100⟩ (lf ⟨rfl,trivial⟩) (hfin _ _ (fin_of rfl trivial (by rw[hE]) rfl))
theorem c97 {i:Nat} (hi:i<=64) (n:Nat):ADet Try.prog 97 [.int .i64 (i:Int)] [] (.int .u64 (pw i)) [] n 0 :=
 adet_of_body (b97 hi) [] [] rfl rfl trivial rfl rfl trivial rfl
def con97:Con Try.prog where
 f:=97
 run:=fun vs h n=>match vs with
  |[.int .i64 (.ofNat i)]=>some ([],.int .u64 (pw i),[],0,Nat.ble i 64)
  |_=>none
 ok:=fun vs h n pre v upd news hx=>by
  split at hx
  ·simp only[Option.some.injEq,Prod.mk.injEq]at hx
   obtain⟨rfl,rfl,rfl,rfl,hB⟩:=hx
   exact⟨fun id hid=>by simp[fstL]at hid,c97 (Nat.le_of_ble_eq_true hB) n⟩
  ·cases hx
def w91 (c:Bool):Bool:=(((!bif c then true else false)||bif c then true else false)&&true||false)&&(((((!bif c then true else false)&&false||true)&&!bif c then true else false)||!!bif c then true else false)&&(((!bif c then true else false)&&false&&true||!((!bif c then true else false)&&false))&&(((!bif c then true else false)&&true||!!bif c then true else false)&&(((!bif c then true else false)&&true||!!bif c then true else false)&&(((!c||c)&&true||false)&&(((!c&&false||true)&&!c||!!c)&&((!c&&false&&true||!(!c&&false))&&((!c&&true||!!c)&&((!c&&true||!!c)&&true)))))))))
def v91 (c:Bool):Bool:=((!c||c)&&true||false)&&(((!c&&false||true)&&!c||!!c)&&((!c&&false&&true||!(!c&&false))&&((!c&&true||!!c)&&((!c&&true||!!c)&&true))))
theorem w91_true (c:Bool):w91 c=true:=by cases c<;>rfl
theorem v91_true (c:Bool):v91 c=true:=by cases c<;>rfl
abbrev sc91:Short:=scOf [con97,con100]
def z91 (i:Nat) (o:Int):Option Stop:=some ⟨⟨[some (true,.int .i64 (i:Int)),some (true,.int .u64 o)],[],.exit 0,100⟩,none⟩
def y91 (i:Nat) (o:Int):Option Stop:=some ⟨⟨[some (true,.int .i64 (IntKind.i64.wrap ((i:Int)+1))),some (true,.int .u64 o)],[],.normal,100⟩,none⟩
def x91o (i:Nat) (o:Int) (c:Bool):Option Stop:=bif c then bif (i.ble 64||false)&&true then y91 i (IntKind.u64.wrap (o+pw i))else none else y91 i o
def t91 (a b i:Nat) (o:Int) (w c:Bool):Option Stop:=bif decide ((i:Int)<64)then bif (b.blt 18446744073709551616&&i.ble 64||false)&&((a.blt 18446744073709551616&&i.ble 64||false)&&true)then bif w then x91o i o c else none else none else z91 i o
def s91 (a b i:Nat):Int:=IntKind.u64.wrap ((rbit a i:Int)+(rbit b i:Int))
theorem p91_a (h a b:Int):walk (lookF FL) noSc 1000 x91 (argTm 0 [.int .i64 h,.int .u64 a,.int .u64 b]) [] 100 j0_ j0_ ⟨[8,7],[],[0,1,2],[]⟩ =
  some ⟨⟨[some (true,.int .i64 0),some (true,.int .u64 0)],[],.normal,100⟩,some (x91_15,[.bl 0,.sq x91_20])⟩:=by kernel_rfl
theorem p91_c (h a b i o:Int):walk (lookF FL) noSc 1000 x91_20 (mkT [8,7,0,1,2] [.int .i64 i,.int .u64 o,.int .i64 h,.int .u64 a,.int .u64 b]) [] 100 j0_ ⟨[6],[],[],[]⟩ j0_ =
  some ⟨⟨[some (true,.int .u64 o)],[],.ret,100⟩,none⟩:=by kernel_rfl
section
variable (a b i:Nat) (o:Int)
theorem p91_1:walk (lookF FL) sc91 1000 x91_15 (mkT [8,7,0,1,2] [.int .i64 (i:Int),.int .u64 o,.int .i64 1,.int .u64 (a:Int),.int .u64 (b:Int)]) [] 100 ⟨[8,7],[],[0,1,2],[]⟩ j0_ j0_ =
  t91 a b i o (w91 (s91 a b i==1)) (bif bif s91 a b i==1 then true else false then true else false):=by kernel_rfl
theorem p91_2:walk (lookF FL) sc91 1000 x91_15 (mkT [8,7,0,1,2] [.int .i64 (i:Int),.int .u64 o,.int .i64 2,.int .u64 (a:Int),.int .u64 (b:Int)]) [] 100 ⟨[8,7],[],[0,1,2],[]⟩ j0_ j0_ =
  t91 a b i o (v91 (decide (s91 a b i>0))) (bif decide (s91 a b i>0)then true else false):=by kernel_rfl
theorem p91_3:walk (lookF FL) sc91 1000 x91_15 (mkT [8,7,0,1,2] [.int .i64 (i:Int),.int .u64 o,.int .i64 3,.int .u64 (a:Int),.int .u64 (b:Int)]) [] 100 ⟨[8,7],[],[0,1,2],[]⟩ j0_ j0_ =
  t91 a b i o true (s91 a b i==2):=by kernel_rfl
end
def lgN (h a b:Nat):Nat:=match h with
 |1=>a ^^^ b
 |2=>a ||| b
 |_=>a &&& b
theorem lg_step (h:Nat) (h1:1<=h) (h3:h<=3) (a b i:Nat) (o:Int):walk (lookF FL) sc91 1000 x91_15 (mkT [8,7,0,1,2] [.int .i64 (i:Int),.int .u64 o,.int .i64 (h:Int),.int .u64 (a:Int),.int .u64 (b:Int)]) [] 100 ⟨[8,7],[],[0,1,2],[]⟩ j0_ j0_ =
  t91 a b i o true ((lgN h a b).testBit i):=by
 have hs:s91 a b i=(rbit a i:Int)+(rbit b i:Int):=by
  unfold s91 rbit
  rw[u64_wrap]
  cases a.testBit i<;>cases b.testBit i<;>rfl
 match h,h1,h3 with
 |1,_,_ =>
  refine(p91_1 a b i o).trans ?_
  rw[w91_true,hs,show lgN 1 a b=a ^^^ b from rfl,Nat.testBit_xor]
  unfold rbit
  cases a.testBit i<;>cases b.testBit i<;>rfl
 |2,_,_ =>
  refine(p91_2 a b i o).trans ?_
  rw[v91_true,hs,show lgN 2 a b=a ||| b from rfl,Nat.testBit_or]
  unfold rbit
  cases a.testBit i<;>cases b.testBit i<;>rfl
 |3,_,_ =>
  refine(p91_3 a b i o).trans ?_
  rw[hs,show lgN 3 a b=a &&& b from rfl,Nat.testBit_and]
  unfold rbit
  cases a.testBit i<;>cases b.testBit i<;>rfl
theorem lg_lt (h:Nat){a b:Nat} (ha:a<18446744073709551616) (hb:b<18446744073709551616):lgN h a b<18446744073709551616:=by
 unfold lgN
 split
 ·exact Nat.xor_lt_two_pow (n:=64) ha hb
 ·exact Nat.or_lt_two_pow (n:=64) ha hb
 ·exact Nat.and_lt_two_pow (n:=64) _ hb
theorem b91 {h a b:Nat} (h1:1<=h) (h3:h<=3) (ha:a<18446744073709551616) (hb:b<18446744073709551616) :
  Body Try.prog 91 [.int .i64 (h:Int),.int .u64 (a:Int),.int .u64 (b:Int)] [] (.int .u64 (lgN h a b:Int)) [] 100 0:=by
 refine body_of' mixed fx91 (by simp) fun E Q hP hE hcl hfin=>?_
 have hF:FnsOK E.P (lookF FL) noSc:=hP▸FOK
 have hF2:FnsOK E.P (lookF FL) sc91:=fokE hP _
 let X:=lgN h a b
 have hX:X<18446744073709551616:=lg_lt h ha hb
 let S:Nat->St:=fun j=>⟨mkT [8,7,0,1,2] [.int .i64 (j:Int),.int .u64 ((X % 2 ^ j:Nat):Int),.int .i64 (h:Int),.int .u64 (a:Int),.int .u64 (b:Int)],mkH [],100⟩
 have lf:∀ {ex:Exit}{q:Nat}{ks:List Nat}{vs:List Value}{ts:List (Option (Bool × Value))},tsOK (stayOr 100 []) ts vs->LeafTo E ks ⟨ts,[],ex,q⟩ ⟨mkT ks vs,mkH [],100⟩:=fun ht=>⟨_,[],100,rfl,by rw[hE];rfl,by rw[hE];exact ht,trivial⟩
 refine xwp_toLoop (s:=⟨_,_,_⟩) hF 1000 (p91_a h a b) (S 0) (lf ⟨rfl,by rw[Nat.pow_zero,Nat.mod_one];rfl,rfl,rfl,rfl,trivial⟩) ?_
 refine xwp_loopR (ι:=Nat) S (fun j=>j<=64) (fun j=>64-j) 0 (Nat.zero_le _) fun j hj=>?_
 have hcr:=cl_round (S:=S) (I:=fun j=>j<=64) (μ:=fun j=>64-j) (i:=j) (cl_ctx hcl [.bl 0,.sq x91_20])
 have e:=lg_step h h1 h3 a b j ((X % 2 ^ j:Nat):Int)
 unfold t91 at e
 by_cases hlt:j<64
 ·have hble:Nat.ble j 64=true:=Nat.ble_eq_true_of_le (by omega)
  rw[decide_eq_true (show(j:Int)<64 by omega),cond_true,lt_blt ha,lt_blt hb,hble]at e
  simp only[Bool.and_self,Bool.or_false,Bool.and_true,cond_true]at e
  have hstep:X % 2 ^ (j+1)=X % 2 ^ j+2 ^ j*(X.testBit j).toNat:=by rw[Nat.toNat_testBit];exact Nat.mod_pow_succ
  have hm:X % 2 ^ (j+1)<=X:=Nat.mod_le _ _
  have e':walk (lookF FL) sc91 1000 x91_15 (S j).t (S j).h (S j).n ⟨[8,7],[],[0,1,2],[]⟩ j0_ j0_=y91 j ((X % 2 ^ (j+1):Nat):Int):=by
   refine e.trans ?_
   unfold x91o
   rw[hble]
   change (bif X.testBit j then _ else _)=_
   cases hx:X.testBit j with
   |true =>
    rw[hx]at hstep
    have h2:((2 ^ j:Nat):Int)=2 ^ j:=by rw[Int.natCast_pow];rfl
    have:IntKind.u64.wrap (((X % 2 ^ j:Nat):Int)+pw j)=((X % 2 ^ (j+1):Nat):Int):=by
     rw[pw_lt hlt,<- h2,u64_wrap]
     simp only[Bool.toNat_true,Nat.mul_one]at hstep
     generalize X % 2 ^ (j+1)=y1 at *
     generalize X % 2 ^ j=y0 at *
     generalize 2 ^ j=p at *
     omega
    rw[this];rfl
   |false =>
    rw[hx]at hstep
    simp only[Bool.toNat_false,Nat.mul_zero,Nat.add_zero]at hstep
    rw[hstep];rfl
  unfold y91 at e'
  rw[wrap_i (n:=(j:Int)+1) (by omega) (by omega)]at e'
  exact xwp_toEnd (s:=S j) hcr hF2 1000 e' (S (j+1)) (lf ⟨rfl,rfl,rfl,rfl,rfl,trivial⟩) ⟨j+1,hlt,by simp only;omega,Wk.refl _ _⟩
 ·have:j=64:=by omega
  subst this
  rw[decide_eq_false (by omega),cond_false]at e
  unfold z91 at e
  refine xwp_toEnd (s:=S 64) hcr hF2 1000 e (S 64) (lf ⟨rfl,rfl,rfl,rfl,rfl,trivial⟩) ?_
  refine xwp_toEnd (s:=S 64) hcl hF 1000 (p91_c h a b ((64:Nat):Int) ((X % 2 ^ 64:Nat):Int)) ⟨mkT [6] [.int .u64 (X:Int)],mkH [],100⟩ (lf ⟨?_,trivial⟩) (hfin _ _ (fin_of rfl trivial (by rw[hE]) rfl))
  rw[Nat.mod_eq_of_lt (show X<2 ^ 64 from hX)];rfl
def lgI (h a b:Int):Int:=match h with
 |1=>bits2 .xor .u64 a b
 |2=>bits2 .or .u64 a b
 |_=>bits2 .and .u64 a b
theorem b91' {h a b:Int} (h1:1<=h) (h3:h<=3) (ha:uB a=true) (hb:uB b=true):Body Try.prog 91 [.int .i64 h,.int .u64 a,.int .u64 b] [] (.int .u64 (lgI h a b)) [] 100 0:=by
 rw[uB_iff]at ha hb
 obtain⟨k,rfl⟩:∃ k:Nat,h=k:=⟨h.toNat,by omega⟩
 obtain⟨x,rfl⟩:∃ k:Nat,a=k:=⟨a.toNat,by omega⟩
 obtain⟨y,rfl⟩:∃ k:Nat,b=k:=⟨b.toNat,by omega⟩
 have hx:x<18446744073709551616:=by omega
 have hy:y<18446744073709551616:=by omega
 have hr:=b91 (h:=k) (by omega) (by omega) hx hy
 have wn:∀ n:Nat,n<18446744073709551616->IntKind.u64.wrap (n:Int)=n:=fun n hn=>by rw[u64_wrap];omega
 have:(lgN k x y:Int)=lgI k x y:=by
  have hl:=lg_lt k hx hy
  match k,(show 1<=k/\k<=3 by omega)with
  |1,_=>show _=IntKind.u64.wrap (BitVec.ofInt 64 (x:Int) ^^^ BitVec.ofInt 64 (y:Int)).toNat;rw[BitVec.toNat_xor,bv64 x hx,bv64 y hy];exact(wn _ hl).symm
  |2,_=>show _=IntKind.u64.wrap (BitVec.ofInt 64 (x:Int) ||| BitVec.ofInt 64 (y:Int)).toNat;rw[BitVec.toNat_or,bv64 x hx,bv64 y hy];exact(wn _ hl).symm
  |3,_=>show _=IntKind.u64.wrap (BitVec.ofInt 64 (x:Int) &&& BitVec.ofInt 64 (y:Int)).toNat;rw[BitVec.toNat_and,bv64 x hx,bv64 y hy];exact(wn _ hl).symm
 rw[<- this];exact hr
def con91:Con Try.prog where
 f:=91
 run:=fun vs h n=>match vs with
  |[.int .i64 h,.int .u64 a,.int .u64 b]=>some ([],.int .u64 (lgI h a b),[],0,(decide (1<=h)&&decide (h<=3))&&(uB a&&uB b))
  |_=>none
 ok:=fun vs h n pre v upd news hx=>by
  split at hx
  ·simp only[Option.some.injEq,Prod.mk.injEq,Bool.and_eq_true,decide_eq_true_eq]at hx
   obtain⟨rfl,rfl,rfl,rfl,⟨h1,h3⟩,hA,hB⟩:=hx
   exact⟨fun id hid=>by simp[fstL]at hid,adet_of_body (b91' h1 h3 hA hB) [] [] rfl rfl trivial rfl rfl trivial rfl⟩
  ·cases hx
abbrev sc89:Short:=scOf [con94,con97]
theorem t89_0 (a:Int) (n:Nat):execC (lookF FL) sc89 1000 x89 (argTm 0 [.int .i64 0,.int .u64 a,.int .i64 (n:Int)]) [] 100 (valK [6])=bif (n.ble 64||false)&&true then some [.int .u64 (IntKind.u64.wrap (a*pw n))]else none:=by kernel_rfl
theorem t89_1 (a:Int) (n:Nat):execC (lookF FL) sc89 1000 x89 (argTm 0 [.int .i64 1,.int .u64 a,.int .i64 (n:Int)]) [] 100 (valK [6])=bif (n:Int)==0 then some [.int .u64 a]else bif (!decide (pw n=0)&&true||false)&&((n.ble 64||false)&&true)then some [.int .u64 (IntKind.u64.wrap (a.tdiv (pw n)))]else none:=by kernel_rfl
theorem t89_2 (a:Int) (n:Nat):execC (lookF FL) sc89 1000 x89 (argTm 0 [.int .i64 2,.int .u64 a,.int .i64 (n:Int)]) [] 100 (valK [6])=bif rnegF a then bif (!decide (pw n=0)&&true||false)&&((n.ble 64||false)&&((n.ble 64||false)&&true))then some [.int .u64 (IntKind.u64.wrap (0-IntKind.u64.wrap ((IntKind.u64.wrap (IntKind.u64.wrap (IntKind.u64.wrap (0-a)+pw n)-1)).tdiv (pw n))))]else none
  else bif (n:Int)==0 then some [.int .u64 a]else bif (!decide (pw n=0)&&true||false)&&((n.ble 64||false)&&true)then some [.int .u64 (IntKind.u64.wrap (a.tdiv (pw n)))]else none:=by kernel_rfl
def movF (how a:Int) (n:Nat):Int:=match how with
 |0=>IntKind.u64.wrap (a*2 ^ n)
 |1=>a.fdiv (2 ^ n)
 |_=>IntKind.u64.wrap ((IntKind.i64.wrap a).fdiv (2 ^ n))
theorem neg_ediv {c p:Int} (hp:0<p):(-c) / p=-((c+p-1) / p):=by
 have h1:=Int.mul_ediv_add_emod (c+p-1) p
 have h2:=Int.emod_nonneg (c+p-1) (Int.ne_of_gt hp)
 have h3:=Int.emod_lt_of_pos (c+p-1) hp
 generalize (c+p-1) / p=q at *
 generalize (c+p-1) % p=r at *
 have e:-c=(p-1-r)+p*(-q):=by rw[Int.mul_neg];omega
 rw[e,Int.add_mul_ediv_left _ _ (Int.ne_of_gt hp),Int.ediv_eq_zero_of_lt (by omega) (by omega)];omega
theorem t89_all {how a:Int}{n:Nat} (h0:0<=how) (h2:how<=2) (ha:uB a=true) (hn:n<64):execC (lookF FL) sc89 1000 x89 (argTm 0 [.int .i64 how,.int .u64 a,.int .i64 (n:Int)]) [] 100 (valK [6])=some [.int .u64 (movF how a n)]:=by
 rw[uB_iff]at ha
 have hble:Nat.ble n 64=true:=Nat.ble_eq_true_of_le (by omega)
 have hp0:(0:Int)<2 ^ n:=Int.pow_pos (by decide)
 have hp1:(2:Int) ^ n<=9223372036854775808:=by
  have:(2:Nat) ^ n<=2 ^ 63:=Nat.pow_le_pow_right (by decide) (by omega)
  have h1:((2 ^ n:Nat):Int)<=9223372036854775808:=Int.ofNat_le.2 this
  have h2:((2 ^ n:Nat):Int)=2 ^ n:=by rw[Int.natCast_pow];rfl
  omega
 have hz:decide ((2:Int) ^ n=0)=false:=decide_eq_false (by omega)
 have hq0:0<=a / 2 ^ n:=Int.ediv_nonneg ha.1 (Int.le_of_lt hp0)
 have hq1:a / 2 ^ n<=a:=Int.ediv_le_self _ ha.1
 have hR:(bif (n:Int)==0 then some [Value.int .u64 a]else bif (!decide (pw n=0)&&true||false)&&((n.ble 64||false)&&true)then some [.int .u64 (IntKind.u64.wrap (a.tdiv (pw n)))]else none)=some [.int .u64 (a / 2 ^ n)]:=by
  rw[pw_lt hn,hz,hble,Int.tdiv_eq_ediv_of_nonneg ha.1]
  by_cases h:n=0
  ·subst h;rw[Int.pow_zero,Int.ediv_one];rfl
  ·rw[show((n:Int)==0)=false by simpa using h,u64_wrap,Int.emod_eq_of_lt hq0 (by omega)];rfl
 obtain⟨k,rfl⟩:∃ k:Nat,how=k:=⟨how.toNat,by omega⟩
 match k,(show k<=2 by omega)with
 |0,_ =>
  refine(t89_0 a n).trans ?_
  rw[hble,pw_lt hn];rfl
 |1,_ =>
  refine(t89_1 a n).trans ?_
  rw[hR];show _=some [Value.int .u64 (a.fdiv (2 ^ n))]
  rw[Int.fdiv_eq_ediv_of_nonneg _ (Int.le_of_lt hp0)]
 |2,_ =>
  refine(t89_2 a n).trans ?_
  rw[hR];show _=some [Value.int .u64 (IntKind.u64.wrap ((IntKind.i64.wrap a).fdiv (2 ^ n)))]
  rw[Int.fdiv_eq_ediv_of_nonneg _ (Int.le_of_lt hp0)]
  by_cases h:a>=9223372036854775808
  ·have hi:IntKind.i64.wrap a=-(18446744073709551616-a):=by rw[IntKind.wrap_i64];omega
   rw[show rnegF a=true from decide_eq_true h,cond_true,pw_lt hn,hz,hble,hi,neg_ediv hp0]
   generalize (2:Int) ^ n=p at *
   have e1:IntKind.u64.wrap (IntKind.u64.wrap (IntKind.u64.wrap (0-a)+p)-1)=18446744073709551616-a+p-1:=by
    rw[u64_wrap,u64_wrap,u64_wrap];omega
   rw[e1,Int.tdiv_eq_ediv_of_nonneg (by omega)]
   have g0:0<=(18446744073709551616-a+p-1) / p:=Int.ediv_nonneg (by omega) (Int.le_of_lt hp0)
   have g1:(18446744073709551616-a+p-1) / p<=18446744073709551616-a+p-1:=Int.ediv_le_self _ (by omega)
   generalize (18446744073709551616-a+p-1) / p=q at *
   have e2:IntKind.u64.wrap q=q:=by rw[u64_wrap];omega
   rw[e2,Int.zero_sub];rfl
  ·have hi:IntKind.i64.wrap a=a:=by rw[IntKind.wrap_i64];omega
   rw[show rnegF a=false from decide_eq_false h,cond_false,hi,u64_wrap,Int.emod_eq_of_lt hq0 (by omega)]
def con89:Con Try.prog where
 f:=89
 run:=fun vs h n=>match vs with
  |[.int .i64 how,.int .u64 a,.int .i64 i]=>some ([],.int .u64 (movF how a i.toNat),[],0,(decide (0<=how)&&decide (how<=2))&&(uB a&&(decide (0<=i)&&decide (i<64))))
  |_=>none
 ok:=fun vs h n pre v upd news hx=>by
  split at hx
  ·simp only[Option.some.injEq,Prod.mk.injEq,Bool.and_eq_true,decide_eq_true_eq]at hx
   obtain⟨rfl,rfl,rfl,rfl,⟨h1,h3⟩,hA,hB,hC⟩:=hx
   rename_i how a i
   obtain⟨i,rfl⟩:∃ k:Nat,i=k:=⟨i.toNat,by omega⟩
   exact⟨fun id hid=>by simp[fstL]at hid,adet_tree (fok FOK _) 1000 fx89 (by simp) [6] (t89_all h1 h3 hA (by omega)) rfl rfl rfl rfl n⟩
  ·cases hx
abbrev sc81:Short:=scOf [con97]
theorem t81_8 (a:Int) (s:Bool):execC (lookF FL) sc81 1000 x81 (argTm 0 [.int .u64 a,.int .i64 8,.bool s]) [] 100 (valK [6,7])=bif ((s||!s)&&true||false)&&((s&&(s&&true)||!s)&&((s&&true&&true||!s)&&((s&&true||!s)&&true)))then bif bif s then decide (a.tmod 256>=128)else false then some [.int .u64 (IntKind.u64.wrap (a.tmod 256-256)),.bool true]else some [.int .u64 (a.tmod 256),.bool true]else none:=by kernel_rfl
theorem t81_32 (a:Int) (s:Bool):execC (lookF FL) sc81 1000 x81 (argTm 0 [.int .u64 a,.int .i64 32,.bool s]) [] 100 (valK [6,7])=bif ((s||!s)&&true||false)&&((s&&(s&&true)||!s)&&((s&&true&&true||!s)&&((s&&true||!s)&&true)))then bif bif s then decide (a.tmod 4294967296>=2147483648)else false then some [.int .u64 (IntKind.u64.wrap (a.tmod 4294967296-4294967296)),.bool true]else some [.int .u64 (a.tmod 4294967296),.bool true]else none:=by kernel_rfl
theorem t81_64 (a:Int) (s:Bool):execC (lookF FL) sc81 1000 x81 (argTm 0 [.int .u64 a,.int .i64 64,.bool s]) [] 100 (valK [6,7])=some [.int .u64 a,.bool true]:=by kernel_rfl
theorem nar_wrap {s:Bool}{a m h d:Int} (ha:0<=a/\a<18446744073709551616) (hm:(m=256/\h=128/\d=72057594037927936)\/(m=4294967296/\h=2147483648/\d=4294967296)) :
  (bif ((s||!s)&&true||false)&&((s&&(s&&true)||!s)&&((s&&true&&true||!s)&&((s&&true||!s)&&true)))then bif bif s then decide (a.tmod m>=h)else false then some [.int .u64 (IntKind.u64.wrap (a.tmod m-m)),.bool true]else some [.int .u64 (a.tmod m),.bool true]else none) =
   some [Value.int .u64 (bif s then IntKind.u64.wrap ((IntKind.i64.wrap (IntKind.u64.wrap (a*d))).fdiv d)else(IntKind.u64.wrap (a*d)).fdiv d),.bool true]:=by
 rw[Int.tmod_eq_emod_of_nonneg ha.1]
 cases s
 ·simp only[Bool.not_false,Bool.or_true,Bool.and_self,Bool.or_false,Bool.false_and,Bool.false_or,cond_true,cond_false,Bool.and_true]
  rw[u64_wrap]
  rcases hm with⟨rfl,rfl,rfl⟩|⟨rfl,rfl,rfl⟩<;>(rw[Int.fdiv_eq_ediv_of_nonneg _ (by omega)];congr 3;omega)
 ·simp only[Bool.not_true,Bool.or_false,Bool.and_self,Bool.true_or,cond_true]
  rw[u64_wrap,u64_wrap,u64_wrap,IntKind.wrap_i64]
  rcases hm with⟨rfl,rfl,rfl⟩|⟨rfl,rfl,rfl⟩<;>rw[Int.fdiv_eq_ediv_of_nonneg _ (by omega)]
  ·by_cases h:a % 256>=128
   ·rw[decide_eq_true h,cond_true];congr 3;omega
   ·rw[decide_eq_false h,cond_false];congr 3;omega
  ·by_cases h:a % 4294967296>=2147483648
   ·rw[decide_eq_true h,cond_true];congr 3;omega
   ·rw[decide_eq_false h,cond_false];congr 3;omega
theorem t81_all {a k:Int}{s:Bool} (ha:uB a=true) (hk:k=8\/k=32\/k=64):execC (lookF FL) sc81 1000 x81 (argTm 0 [.int .u64 a,.int .i64 k,.bool s]) [] 100 (valK [6,7])=some [.int .u64 (narF k s a),.bool true]:=by
 rw[uB_iff]at ha
 rcases hk with rfl|rfl|rfl
 ·exact(t81_8 a s).trans (nar_wrap ha (.inl ⟨rfl,rfl,rfl⟩))
 ·exact(t81_32 a s).trans (nar_wrap ha (.inr ⟨rfl,rfl,rfl⟩))
 ·refine(t81_64 a s).trans ?_
  show _=some [Value.int .u64 (bif s then IntKind.u64.wrap ((IntKind.i64.wrap (IntKind.u64.wrap (a*1))).fdiv 1)else(IntKind.u64.wrap (a*1)).fdiv 1),.bool true]
  rw[Int.mul_one,u64_wrap a,Int.emod_eq_of_lt ha.1 ha.2,Int.fdiv_eq_ediv_of_nonneg _ (by omega),Int.fdiv_eq_ediv_of_nonneg _ (by omega),Int.ediv_one,Int.ediv_one,u64_wrap,IntKind.wrap_i64]
  cases s
  ·rfl
  ·rw[cond_true];congr 3;omega
def okNar (k:Int):Bool:=k==8||(k==32||k==64)
def con81:Con Try.prog where
 f:=81
 run:=fun vs h n=>match vs with
  |[.int .u64 a,.int .i64 k,.bool s]=>some ([],.tuple ⟨[.int .u64 (narF k s a),.bool true]⟩,[],0,uB a&&okNar k)
  |_=>none
 ok:=fun vs h n pre v upd news hx=>by
  split at hx
  ·simp only[Option.some.injEq,Prod.mk.injEq,Bool.and_eq_true,okNar,Bool.or_eq_true,beq_iff_eq]at hx
   obtain⟨rfl,rfl,rfl,rfl,hA,hB⟩:=hx
   exact⟨fun id hid=>by simp[fstL]at hid,adet_tree (fok FOK _) 1000 fx81 (by simp) [6,7] (t81_all hA hB) rfl rfl rfl rfl n⟩
  ·cases hx
end Go.X
