import Derived.Test.YtnekegldodbgjaaM42
set_option linter.all false
namespace Go.X
open Go Go.Proofs
theorem and64 {x:Int} (w:Nat) (hw:w<=32) (h0:0<=x) (h1:x<18446744073709551616){m:Int} (hm:m=((2 ^ w-1:Nat):Int)):bits2 .and .u64 x m=x % 2 ^ w:=by
 obtain⟨x,rfl⟩:∃ k:Nat,x=k:=⟨x.toNat,by omega⟩
 have hp:2 ^ w<=2 ^ 32:=Nat.pow_le_pow_right (by decide) hw
 have hp0:0<2 ^ w:=Nat.two_pow_pos _
 have e:((x % 2 ^ w:Nat):Int)=(x:Int) % 2 ^ w:=by rw[Int.natCast_emod,Int.natCast_pow];rfl
 rw[hm,<- e]
 show IntKind.u64.wrap (BitVec.ofInt 64 (x:Int) &&& BitVec.ofInt 64 ((2 ^ w-1:Nat):Int)).toNat=_
 rw[BitVec.toNat_and,bv64 x (by omega),bv64 _ (by omega),u64_wrap,Nat.and_two_pow_sub_one_eq_mod]
 have:x % 2 ^ w<=x:=Nat.mod_le _ _
 omega
theorem less_law {a b:Int} (ha:uB a=true) (hb:uB b=true):rlessF a b=decide (IntKind.i64.wrap a<IntKind.i64.wrap b):=by
 rw[uB_iff]at ha hb
 unfold rlessF
 rw[IntKind.wrap_i64,IntKind.wrap_i64]
 by_cases h1:a>=9223372036854775808<;>by_cases h2:b>=9223372036854775808
 ·rw[decide_eq_true h1,decide_eq_true h2];simp only[beq_self_eq_true,Bool.not_true,cond_false];apply decide_eq_decide.2;omega
 ·rw[decide_eq_true h1,decide_eq_false h2];exact(decide_eq_true (by omega)).symm
 ·rw[decide_eq_false h1,decide_eq_true h2];exact(decide_eq_false (by omega)).symm
 ·rw[decide_eq_false h1,decide_eq_false h2];simp only[beq_self_eq_true,Bool.not_true,cond_false];apply decide_eq_decide.2;omega
theorem mul_lt {x y:Int} (hx:0<=x/\x<4294967296) (hy:0<=y/\y<4294967296):0<=x*y/\x*y<=18446744065119617025 :=
 ⟨Int.mul_nonneg hx.1 hy.1,Int.le_trans (Int.mul_le_mul (show x<=4294967295 by omega) (show y<=4294967295 by omega) hy.1 (by omega)) (by decide)⟩
theorem mul_split (x y z w:Int):(4294967296*x+y)*(4294967296*z+w)=18446744073709551616*(x*z)+4294967296*(x*w)+4294967296*(y*z)+y*w:=by
 rw[Int.add_mul,Int.mul_add,Int.mul_add,Int.mul_assoc,Int.mul_left_comm x,Int.mul_assoc,Int.mul_left_comm y]
 omega
theorem hi_law {T P R Q:Int} (hT:0<=T/\T<=18446744065119617025) (hP:0<=P/\P<=18446744065119617025) (hR:0<=R/\R<=18446744065119617025) (hQ:0<=Q/\Q<=18446744065119617025) :
  T+(P+Q / 4294967296) / 4294967296+((P+Q / 4294967296) % 4294967296+R) / 4294967296=(18446744073709551616*T+4294967296*P+4294967296*R+Q) / 18446744073709551616:=by omega
theorem u64s {x:Int} (h:0<=x/\x<18446744073709551616):IntKind.u64.wrap x=x:=by rw[u64_wrap];omega
theorem high_law {a b:Int} (ha:uB a=true) (hb:uB b=true):rhighF a b=a*b / 18446744073709551616:=by
 rw[uB_iff]at ha hb
 have hA:=Int.mul_ediv_add_emod a 4294967296
 have hB:=Int.mul_ediv_add_emod b 4294967296
 unfold rhighF
 rw[Int.tdiv_eq_ediv_of_nonneg ha.1,Int.tdiv_eq_ediv_of_nonneg hb.1,Int.tmod_eq_emod_of_nonneg ha.1,Int.tmod_eq_emod_of_nonneg hb.1]
 conv=>rhs;rw[<- hA,<- hB]
 have hx:0<=a / 4294967296/\a / 4294967296<4294967296:=by omega
 have hy:0<=a % 4294967296/\a % 4294967296<4294967296:=by omega
 have hz:0<=b / 4294967296/\b / 4294967296<4294967296:=by omega
 have hw:0<=b % 4294967296/\b % 4294967296<4294967296:=by omega
 generalize a / 4294967296=x at *
 generalize a % 4294967296=y at *
 generalize b / 4294967296=z at *
 generalize b % 4294967296=w at *
 rw[mul_split,u64s (x:=x) (by omega),u64s (x:=z) (by omega)]
 have hT:=mul_lt hx hz
 have hP:=mul_lt hx hw
 have hR:=mul_lt hy hz
 have hQ:=mul_lt hy hw
 generalize x*z=T at *
 generalize x*w=P at *
 generalize y*z=R at *
 generalize y*w=Q at *
 rw[<- hi_law hT hP hR hQ,u64s (x:=T) (by omega),u64s (x:=P) (by omega),u64s (x:=Q) (by omega),u64s (x:=R) (by omega),Int.tdiv_eq_ediv_of_nonneg (a:=Q) (by omega)]
 have h0:0<=Q / 4294967296/\Q / 4294967296<4294967296:=by omega
 rw[u64s (x:=Q / 4294967296) (by omega),u64s (x:=P+Q / 4294967296) (by omega),Int.tdiv_eq_ediv_of_nonneg (a:=P+Q / 4294967296) (by omega),Int.tmod_eq_emod_of_nonneg (by omega)]
 have hM:0<=P+Q / 4294967296/\P+Q / 4294967296<=18446744069414584320:=by omega
 generalize P+Q / 4294967296=M at *
 rw[u64s (x:=M / 4294967296) (by omega),u64s (x:=T+M / 4294967296) (by omega),u64s (x:=R+M % 4294967296) (by omega),Int.tdiv_eq_ediv_of_nonneg (a:=R+M % 4294967296) (by omega),u64s (x:=(R+M % 4294967296) / 4294967296) (by omega),u64s (by omega)]
 omega
theorem phi_law {a b:Int} (ha:uB a=true) (hb:uB b=true):doF 13 a b=a*b / 18446744073709551616:=by
 rw[uB_iff]at ha hb
 have hA:=Int.mul_ediv_add_emod a 4294967296
 have hB:=Int.mul_ediv_add_emod b 4294967296
 unfold doF
 simp only
 rw[Int.fdiv_eq_ediv_of_nonneg a (by omega),Int.fdiv_eq_ediv_of_nonneg b (by omega),and64 (m:=4294967295) 32 (by omega) ha.1 ha.2 rfl,and64 (m:=4294967295) 32 (by omega) hb.1 hb.2 rfl]
 conv=>rhs;rw[<- hA,<- hB]
 have hx:0<=a / 4294967296/\a / 4294967296<4294967296:=by omega
 have hy:0<=a % 2 ^ 32/\a % 2 ^ 32<4294967296:=by omega
 have hz:0<=b / 4294967296/\b / 4294967296<4294967296:=by omega
 have hw:0<=b % 2 ^ 32/\b % 2 ^ 32<4294967296:=by omega
 rw[show a % 4294967296=a % 2 ^ 32 from rfl,show b % 4294967296=b % 2 ^ 32 from rfl]at *
 generalize a / 4294967296=x at *
 generalize a % 2 ^ 32=y at *
 generalize b / 4294967296=z at *
 generalize b % 2 ^ 32=w at *
 rw[mul_split]
 have hT:=mul_lt hx hz
 have hP:=mul_lt hx hw
 have hR:=mul_lt hy hz
 have hQ:=mul_lt hy hw
 generalize x*z=T at *
 generalize x*w=P at *
 generalize y*z=R at *
 generalize y*w=Q at *
 rw[<- hi_law hT hP hR hQ,u64s (x:=T) (by omega),u64s (x:=P) (by omega),u64s (x:=Q) (by omega),u64s (x:=R) (by omega),Int.fdiv_eq_ediv_of_nonneg Q (by omega)]
 have h0:0<=Q / 4294967296/\Q / 4294967296<4294967296:=by omega
 have hM:0<=P+Q / 4294967296/\P+Q / 4294967296<=18446744069414584320:=by omega
 rw[u64s (x:=P+Q / 4294967296) (by omega)]
 generalize P+Q / 4294967296=M at *
 rw[and64 (m:=4294967295) 32 (by omega) (by omega) (by omega) rfl,Int.fdiv_eq_ediv_of_nonneg M (by omega),u64s (x:=T+M / 4294967296) (by omega),u64s (x:=M % 2 ^ 32+R) (by omega),Int.fdiv_eq_ediv_of_nonneg _ (by omega),u64s (by omega)]
 rfl
theorem do12 (a b:Int):doF 12 a b=IntKind.u64.wrap (IntKind.u64.wrap (doF 13 a b-IntKind.u64.wrap (b*bitF (decide (IntKind.i64.wrap a<0))))-IntKind.u64.wrap (a*bitF (decide (IntKind.i64.wrap b<0)))):=rfl
theorem size_law {a:Int} (ha:uB a=true):(a<9223372036854775808/\rnegF a=false/\rsizeF a=a/\IntKind.i64.wrap a=a)\/(9223372036854775808<=a/\rnegF a=true/\rsizeF a=18446744073709551616-a/\IntKind.i64.wrap a=-(18446744073709551616-a)):=by
 rw[uB_iff]at ha
 unfold rnegF rsizeF
 by_cases h:a>=9223372036854775808
 ·refine .inr ⟨h,decide_eq_true h,?_,by rw[IntKind.wrap_i64];omega⟩
  rw[decide_eq_true h,cond_true,u64_wrap];omega
 ·refine .inl ⟨by omega,decide_eq_false h,?_,by rw[IntKind.wrap_i64];omega⟩
  rw[decide_eq_false h,cond_false]
def rm12 (a b:Int):Int:=bif bif !rnegF a==rnegF b then IntKind.u64.wrap (rsizeF a*rsizeF b) != 0 else false then IntKind.u64.wrap (IntKind.u64.wrap (0-rhighF (rsizeF a) (rsizeF b))-1)else rsignF (rhighF (rsizeF a) (rsizeF b)) !rnegF a==rnegF b
theorem mulh_neg {P c H:Int} (h1:H=(18446744073709551616*c-P) / 18446744073709551616) :
  IntKind.u64.wrap (IntKind.u64.wrap (H-IntKind.u64.wrap (c*1))-IntKind.u64.wrap 0)=bif IntKind.u64.wrap P != 0 then IntKind.u64.wrap (IntKind.u64.wrap (0-P / 18446744073709551616)-1)else IntKind.u64.wrap (0-P / 18446744073709551616):=by
 subst h1
 simp only[u64_wrap,bne]
 by_cases h:P % 18446744073709551616=0
 ·rw[show(P % 18446744073709551616==0)=true by simpa using h];simp only[Bool.not_true,cond_false];omega
 ·rw[show(P % 18446744073709551616==0)=false by simpa using h];simp only[Bool.not_false,cond_true];omega
theorem mulh_law {a b:Int} (ha:uB a=true) (hb:uB b=true):rm12 a b=doF 12 a b:=by
 rw[do12,phi_law ha hb]
 have ha':=uB_iff.1 ha
 have hb':=uB_iff.1 hb
 have sB:∀ {x:Int},0<=x->x<=9223372036854775808->uB x=true:=fun h1 h2=>uB_iff.2 ⟨h1,by omega⟩
 unfold rm12
 rcases size_law ha with⟨h1,n1,s1,i1⟩|⟨h1,n1,s1,i1⟩<;>rcases size_law hb with⟨h2,n2,s2,i2⟩|⟨h2,n2,s2,i2⟩<;>rw[n1,n2,s1,s2,i1,i2]
 ·rw[high_law ha hb,decide_eq_false (by omega),decide_eq_false (by omega)]
  simp only[beq_self_eq_true,Bool.not_true,cond_false,rsignF,bitF,Int.mul_zero]
  have:=Int.mul_nonneg ha'.1 hb'.1
  have h5:a*b / 18446744073709551616<18446744073709551616:=by
   have:=Int.mul_le_mul (show a<=9223372036854775808 by omega) (show b<=9223372036854775808 by omega) hb'.1 (by omega)
   omega
  simp only[u64_wrap];omega
 ·rw[high_law ha (sB (by omega) (by omega)),decide_eq_false (by omega),decide_eq_true (by omega)]
  have e:a*b=18446744073709551616*a-a*(18446744073709551616-b):=by rw[Int.mul_sub];omega
  have hh:=mulh_neg (P:=a*(18446744073709551616-b)) (c:=a) (H:=a*b / 18446744073709551616) (by rw[<- e])
  have e2:IntKind.u64.wrap (IntKind.u64.wrap (a*b / 18446744073709551616-IntKind.u64.wrap (b*bitF false))-IntKind.u64.wrap (a*bitF true))=IntKind.u64.wrap (IntKind.u64.wrap (a*b / 18446744073709551616-IntKind.u64.wrap (a*1))-IntKind.u64.wrap 0):=by
   simp only[bitF,cond_true,cond_false,Int.mul_zero,Int.mul_one,u64_wrap];omega
  rw[e2,hh];rfl
 ·rw[high_law (sB (by omega) (by omega)) hb,decide_eq_true (by omega),decide_eq_false (by omega)]
  have e:a*b=18446744073709551616*b-(18446744073709551616-a)*b:=by rw[Int.sub_mul];omega
  have hh:=mulh_neg (P:=(18446744073709551616-a)*b) (c:=b) (H:=a*b / 18446744073709551616) (by rw[<- e])
  have e2:IntKind.u64.wrap (IntKind.u64.wrap (a*b / 18446744073709551616-IntKind.u64.wrap (b*bitF true))-IntKind.u64.wrap (a*bitF false))=IntKind.u64.wrap (IntKind.u64.wrap (a*b / 18446744073709551616-IntKind.u64.wrap (b*1))-IntKind.u64.wrap 0):=by
   simp only[bitF,cond_true,cond_false,Int.mul_zero,Int.mul_one,u64_wrap]
  rw[e2,hh];rfl
 ·rw[high_law (sB (by omega) (by omega)) (sB (by omega) (by omega)),decide_eq_true (by omega),decide_eq_true (by omega)]
  simp only[beq_self_eq_true,Bool.not_true,cond_false,rsignF,bitF,cond_true,Int.mul_one]
  have e:(18446744073709551616-a)*(18446744073709551616-b)=18446744073709551616*(18446744073709551616-a-b)+a*b:=by
   rw[Int.sub_mul,Int.mul_sub,Int.mul_sub];omega
  rw[e,Int.add_ediv_of_dvd_left ⟨_,rfl⟩,Int.mul_ediv_cancel_left _ (by omega)]
  have h5:0<=18446744073709551616-a-b+a*b / 18446744073709551616/\18446744073709551616-a-b+a*b / 18446744073709551616<18446744073709551616:=by
   have h6:=Int.mul_nonneg (show 0<=18446744073709551616-a by omega) (show 0<=18446744073709551616-b by omega)
   have h7:=Int.mul_le_mul (show 18446744073709551616-a<=9223372036854775808 by omega) (show 18446744073709551616-b<=9223372036854775808 by omega) (by omega) (by omega)
   rw[e]at h6 h7
   omega
  simp only[u64_wrap];omega
abbrev sc80:Short:=scOf [con82,con89,con90,con91,con92,con93,con94,con95]
theorem t96_14 (a b:Int):execC (lookF FL) sc80 1000 x96 (argTm 0 [.int .i64 14,.int .u64 a,.int .u64 b]) [] 100 (valK [6,7])=bif b==0 then some [.int .u64 (IntKind.u64.wrap (b-1)),.bool true]else bif (!decide (rsizeF b=0)&&true||false)&&true then some [.int .u64 (rsignF (IntKind.u64.wrap ((rsizeF a).tdiv (rsizeF b))) !rnegF a==rnegF b),.bool true]else none:=by kernel_rfl
theorem t96_15 (a b:Int):execC (lookF FL) sc80 1000 x96 (argTm 0 [.int .i64 15,.int .u64 a,.int .u64 b]) [] 100 (valK [6,7])=bif b==0 then some [.int .u64 (IntKind.u64.wrap (b-1)),.bool true]else bif (!decide (b=0)&&true||false)&&true then some [.int .u64 (IntKind.u64.wrap (a.tdiv b)),.bool true]else none:=by kernel_rfl
theorem t96_16 (a b:Int):execC (lookF FL) sc80 1000 x96 (argTm 0 [.int .i64 16,.int .u64 a,.int .u64 b]) [] 100 (valK [6,7])=bif b==0 then some [.int .u64 a,.bool true]else bif (!decide (rsizeF b=0)&&true||false)&&true then some [.int .u64 (rsignF ((rsizeF a).tmod (rsizeF b)) (rnegF a)),.bool true]else none:=by kernel_rfl
theorem t96_17 (a b:Int):execC (lookF FL) sc80 1000 x96 (argTm 0 [.int .i64 17,.int .u64 a,.int .u64 b]) [] 100 (valK [6,7])=bif b==0 then some [.int .u64 a,.bool true]else bif (!decide (b=0)&&true||false)&&true then some [.int .u64 (a.tmod b),.bool true]else none:=by kernel_rfl
theorem quo_law {a b:Int} (ha:uB a=true) (hb:uB b=true) (h0:b≠0):rsizeF b≠0/\rsignF (IntKind.u64.wrap ((rsizeF a).tdiv (rsizeF b))) (!rnegF a==rnegF b)=IntKind.u64.wrap (IntKind.i64.wrap ((IntKind.i64.wrap a).tdiv (IntKind.i64.wrap b))) /\
  rsignF ((rsizeF a).tmod (rsizeF b)) (rnegF a)=IntKind.u64.wrap ((IntKind.i64.wrap a).tmod (IntKind.i64.wrap b)):=by
 have key:∀ A B:Int,0<=A->A<=9223372036854775808->0<B->(0<=A.tdiv B/\A.tdiv B<=9223372036854775808)/\0<=A.tmod B/\A.tmod B<=9223372036854775808:=fun A B h1 h2 h3=>by
  rw[Int.tdiv_eq_ediv_of_nonneg h1,Int.tmod_eq_emod_of_nonneg h1]
  have:=Int.ediv_le_self B h1
  have h4:=Int.ediv_nonneg h1 (Int.le_of_lt h3)
  have h5:=Int.emod_nonneg A (Int.ne_of_gt h3)
  have h6:=Int.mul_nonneg (Int.le_of_lt h3) h4
  have h7:=Int.mul_ediv_add_emod A B
  omega
 have ha':=uB_iff.1 ha
 have hb':=uB_iff.1 hb
 rcases size_law ha with⟨h1,n1,s1,i1⟩|⟨h1,n1,s1,i1⟩<;>rcases size_law hb with⟨h2,n2,s2,i2⟩|⟨h2,n2,s2,i2⟩<;>rw[n1,n2,s1,s2,i1,i2]<;>refine⟨by omega,?_⟩
 ·obtain⟨⟨k1,k2⟩,k3,k4⟩:=key a b (by omega) (by omega) (by omega)
  simp only[beq_self_eq_true,Bool.not_true,rsignF,cond_false,u64_wrap,IntKind.wrap_i64];omega
 ·obtain⟨⟨k1,k2⟩,k3,k4⟩:=key a (18446744073709551616-b) (by omega) (by omega) (by omega)
  rw[Int.tdiv_neg,Int.tmod_neg]
  simp only[show(!(false==true))=true from rfl,rsignF,cond_true,cond_false,u64_wrap,IntKind.wrap_i64];omega
 ·obtain⟨⟨k1,k2⟩,k3,k4⟩:=key (18446744073709551616-a) b (by omega) (by omega) (by omega)
  rw[Int.neg_tdiv,Int.neg_tmod]
  simp only[show(!(true==false))=true from rfl,rsignF,cond_true,cond_false,u64_wrap,IntKind.wrap_i64];omega
 ·obtain⟨⟨k1,k2⟩,k3,k4⟩:=key (18446744073709551616-a) (18446744073709551616-b) (by omega) (by omega) (by omega)
  rw[Int.neg_tdiv,Int.tdiv_neg,Int.neg_neg,Int.neg_tmod,Int.tmod_neg]
  simp only[beq_self_eq_true,Bool.not_true,rsignF,cond_true,cond_false,u64_wrap,IntKind.wrap_i64];omega
theorem quo_all {a b:Int} (ha:uB a=true) (hb:uB b=true) (k:Nat) (h1:14<=k) (h2:k<=17):execC (lookF FL) sc80 1000 x96 (argTm 0 [.int .i64 (k:Int),.int .u64 a,.int .u64 b]) [] 100 (valK [6,7])=some [.int .u64 (doF (k:Int) a b),.bool true]:=by
 by_cases h0:b=0
 ·subst h0
  obtain rfl|rfl|rfl|rfl:k=14\/k=15\/k=16\/k=17:=by omega
  ·exact t96_14 a 0
  ·exact t96_15 a 0
  ·exact t96_16 a 0
  ·exact t96_17 a 0
 ·obtain⟨q1,q2,q3⟩:=quo_law ha hb h0
  have hz:(b==0)=false:=by simpa using h0
  obtain rfl|rfl|rfl|rfl:k=14\/k=15\/k=16\/k=17:=by omega
  ·refine(t96_14 a b).trans ?_
   show _=some [Value.int .u64 (bif b==0 then 18446744073709551615 else IntKind.u64.wrap (IntKind.i64.wrap ((IntKind.i64.wrap a).tdiv (IntKind.i64.wrap b)))),.bool true]
   rw[hz,decide_eq_false q1,q2];rfl
  ·refine(t96_15 a b).trans ?_
   show _=some [Value.int .u64 (bif b==0 then 18446744073709551615 else IntKind.u64.wrap (a.tdiv b)),.bool true]
   rw[hz,decide_eq_false h0];rfl
  ·refine(t96_16 a b).trans ?_
   show _=some [Value.int .u64 (bif b==0 then a else IntKind.u64.wrap ((IntKind.i64.wrap a).tmod (IntKind.i64.wrap b))),.bool true]
   rw[hz,decide_eq_false q1,q3];rfl
  ·refine(t96_17 a b).trans ?_
   show _=some [Value.int .u64 (bif b==0 then a else a.tmod b),.bool true]
   rw[hz,decide_eq_false h0];rfl
def vdo (op a b:Int):Value:=.tuple ⟨[.int .u64 (doF op a b),.bool true]⟩
def con96q:Con Try.prog where
 f:=96
 run:=fun vs h n=>match vs with
  |[.int .i64 op,.int .u64 a,.int .u64 b]=>some ([],vdo op a b,[],0,(decide (14<=op)&&decide (op<=17))&&(uB a&&uB b))
  |_=>none
 ok:=fun vs h n pre v upd news hx=>by
  split at hx
  ·simp only[Option.some.injEq,Prod.mk.injEq,Bool.and_eq_true,decide_eq_true_eq]at hx
   obtain⟨rfl,rfl,rfl,rfl,⟨h1,h3⟩,hA,hB⟩:=hx
   rename_i op a b
   obtain⟨k,rfl⟩:∃ k:Nat,op=k:=⟨op.toNat,by omega⟩
   exact⟨fun id hid=>by simp[fstL]at hid,adet_tree (fok FOK _) 1000 fx96 (by simp) [6,7] (quo_all hA hB k (by omega) (by omega)) rfl rfl rfl rfl n⟩
  ·cases hx
abbrev sc80a:Short:=scOf [con82,con89,con90,con91,con92,con93,con94,con95,con96q]
theorem t80_m (k:Nat) (hk:k=0\/k=1\/k=2) (a b:Int):execC (lookF FL) sc80a 1000 x80 (argTm 0 [.int .i64 ([3,7,8].getD k 0:Nat),.int .u64 a,.int .u64 b]) [] 100 (valK [6,7]) =
  bif (uB a&&(decide (0<=IntKind.i64.wrap (b.tmod 64))&&decide (IntKind.i64.wrap (b.tmod 64)<64))||false)&&true then some [.int .u64 (movF (k:Int) a (IntKind.i64.wrap (b.tmod 64)).toNat),.bool true]else none:=by
 rcases hk with rfl|rfl|rfl<;>kernel_rfl
theorem t80_l (k:Nat) (hk:k=0\/k=1\/k=2) (a b:Int):execC (lookF FL) sc80a 1000 x80 (argTm 0 [.int .i64 ([6,9,10].getD k 0:Nat),.int .u64 a,.int .u64 b]) [] 100 (valK [6,7]) =
  bif (uB a&&uB b||false)&&true then some [.int .u64 (doF ([6,9,10].getD k 0:Nat) a b),.bool true]else none:=by
 rcases hk with rfl|rfl|rfl<;>kernel_rfl
theorem t80_p (k:Nat) (hk:k=1\/k=2\/k=5\/k=11) (a b:Int):execC (lookF FL) sc80a 1000 x80 (argTm 0 [.int .i64 (k:Int),.int .u64 a,.int .u64 b]) [] 100 (valK [6,7])=some [.int .u64 (doF (k:Int) a b),.bool true]:=by
 rcases hk with rfl|rfl|rfl|rfl<;>kernel_rfl
theorem t80_q (k:Nat) (hk:k=14\/k=15\/k=16\/k=17) (a b:Int):execC (lookF FL) sc80a 1000 x80 (argTm 0 [.int .i64 (k:Int),.int .u64 a,.int .u64 b]) [] 100 (valK [6,7]) =
  bif (uB a&&uB b||false)&&true then some [.int .u64 (doF (k:Int) a b),.bool true]else none:=by
 rcases hk with rfl|rfl|rfl|rfl<;>kernel_rfl
theorem t80_4 (a b:Int):execC (lookF FL) sc80a 1000 x80 (argTm 0 [.int .i64 4,.int .u64 a,.int .u64 b]) [] 100 (valK [6,7])=some [.int .u64 (rflagF (rlessF a b)),.bool true]:=by kernel_rfl
theorem t80_12 (a b:Int):execC (lookF FL) sc80a 1000 x80 (argTm 0 [.int .i64 12,.int .u64 a,.int .u64 b]) [] 100 (valK [6,7]) =
  bif ((!rnegF a==rnegF b||!!rnegF a==rnegF b)&&true||false)&&((!rnegF a==rnegF b&&true||!!rnegF a==rnegF b)&&((!rnegF a==rnegF b&&(!rnegF a==rnegF b&&true)||!!rnegF a==rnegF b)&&true))then bif bif !rnegF a==rnegF b then IntKind.u64.wrap (rsizeF a*rsizeF b) != 0 else false then some [.int .u64 (IntKind.u64.wrap (IntKind.u64.wrap (0-rhighF (rsizeF a) (rsizeF b))-1)),.bool true]else some [.int .u64 (rsignF (rhighF (rsizeF a) (rsizeF b)) !rnegF a==rnegF b),.bool true]else none:=by kernel_rfl
theorem t80_13 (a b:Int):execC (lookF FL) sc80a 1000 x80 (argTm 0 [.int .i64 13,.int .u64 a,.int .u64 b]) [] 100 (valK [6,7])=some [.int .u64 (rhighF a b),.bool true]:=by kernel_rfl
theorem mask_law {a b:Int} (hb:uB b=true) (k:Nat) (hk:k=0\/k=1\/k=2):(decide (0<=IntKind.i64.wrap (b.tmod 64))&&decide (IntKind.i64.wrap (b.tmod 64)<64))=true/\movF (k:Int) a (IntKind.i64.wrap (b.tmod 64)).toNat=doF ([3,7,8].getD k 0:Nat) a b:=by
 rw[uB_iff]at hb
 have e1:bits2 .and .u64 b 63=b % 64:=and64 (m:=63) 6 (by omega) hb.1 hb.2 rfl
 rw[Int.tmod_eq_emod_of_nonneg hb.1,wrap_i (by omega) (by omega)]
 have e2:min (bits2 .and .u64 b 63).toNat 64=(b % 64).toNat:=by rw[e1];omega
 refine⟨by rw[decide_eq_true (show 0<=b % 64 by omega),decide_eq_true (show b % 64<64 by omega)];rfl,?_⟩
 rcases hk with rfl|rfl|rfl
 ·show _=IntKind.u64.wrap (a*2 ^ min (bits2 .and .u64 b 63).toNat 64);rw[e2];rfl
 ·show _=a.fdiv (2 ^ min (bits2 .and .u64 b 63).toNat 64);rw[e2];rfl
 ·show _=IntKind.u64.wrap ((IntKind.i64.wrap a).fdiv (2 ^ min (bits2 .and .u64 b 63).toNat 64));rw[e2];rfl
theorem do_low {a b:Int} (ha:uB a=true) (hb:uB b=true) (k:Nat) (h1:1<=k) (h2:k<=17):execC (lookF FL) sc80a 1000 x80 (argTm 0 [.int .i64 (k:Int),.int .u64 a,.int .u64 b]) [] 100 (valK [6,7])=some [.int .u64 (doF (k:Int) a b),.bool true]:=by
 have mm:∀ j:Nat,j=0\/j=1\/j=2->execC (lookF FL) sc80a 1000 x80 (argTm 0 [.int .i64 ([3,7,8].getD j 0:Nat),.int .u64 a,.int .u64 b]) [] 100 (valK [6,7])=some [.int .u64 (doF ([3,7,8].getD j 0:Nat) a b),.bool true]:=fun j hj=>by
  obtain⟨m1,m2⟩:=mask_law (a:=a) hb j hj
  rw[t80_m j hj,m1,m2,ha];rfl
 have ml:∀ j:Nat,j=0\/j=1\/j=2->execC (lookF FL) sc80a 1000 x80 (argTm 0 [.int .i64 ([6,9,10].getD j 0:Nat),.int .u64 a,.int .u64 b]) [] 100 (valK [6,7])=some [.int .u64 (doF ([6,9,10].getD j 0:Nat) a b),.bool true]:=fun j hj=>by
  rw[t80_l j hj,ha,hb];rfl
 have mq:k=14\/k=15\/k=16\/k=17->execC (lookF FL) sc80a 1000 x80 (argTm 0 [.int .i64 (k:Int),.int .u64 a,.int .u64 b]) [] 100 (valK [6,7])=some [.int .u64 (doF (k:Int) a b),.bool true]:=fun hj=>by
  rw[t80_q k hj,ha,hb];rfl
 by_cases hp:k=1\/k=2\/k=5\/k=11
 ·exact t80_p k hp a b
 by_cases hq:k=14\/k=15\/k=16\/k=17
 ·exact mq hq
 obtain rfl|rfl|rfl|rfl|rfl|rfl|rfl|rfl|rfl:k=3\/k=4\/k=6\/k=7\/k=8\/k=9\/k=10\/k=12\/k=13:=by omega
 ·exact mm 0 (.inl rfl)
 ·refine(t80_4 a b).trans ?_;rw[less_law ha hb];rfl
 ·exact ml 0 (.inl rfl)
 ·exact mm 1 (.inr (.inl rfl))
 ·exact mm 2 (.inr (.inr rfl))
 ·exact ml 1 (.inr (.inl rfl))
 ·exact ml 2 (.inr (.inr rfl))
 ·refine(t80_12 a b).trans ?_
  show _=some [Value.int .u64 (doF 12 a b),.bool true]
  rw[<- mulh_law ha hb]
  unfold rm12
  cases rnegF a<;>cases rnegF b<;>cases (IntKind.u64.wrap (rsizeF a*rsizeF b) != 0)<;>rfl
 ·refine(t80_13 a b).trans ?_
  show _=some [Value.int .u64 (doF 13 a b),.bool true]
  rw[high_law ha hb,phi_law ha hb]
def con80a:Con Try.prog where
 f:=80
 run:=fun vs h n=>match vs with
  |[.int .i64 op,.int .u64 a,.int .u64 b]=>some ([],vdo op a b,[],0,(decide (1<=op)&&decide (op<=17))&&(uB a&&uB b))
  |_=>none
 ok:=fun vs h n pre v upd news hx=>by
  split at hx
  ·simp only[Option.some.injEq,Prod.mk.injEq,Bool.and_eq_true,decide_eq_true_eq]at hx
   obtain⟨rfl,rfl,rfl,rfl,⟨h1,h3⟩,hA,hB⟩:=hx
   rename_i op a b
   obtain⟨k,rfl⟩:∃ k:Nat,op=k:=⟨op.toNat,by omega⟩
   exact⟨fun id hid=>by simp[fstL]at hid,adet_tree (fok FOK _) 1000 fx80 (by simp) [6,7] (do_low hA hB k (by omega) (by omega)) rfl rfl rfl rfl n⟩
  ·cases hx
abbrev sc96:Short:=scOf [con81,con80a]
def wOf (k:Nat):Int:=([1,2,3,7,8,11,14,15,16,17].getD k 0:Nat)
def t96w (k:Nat) (s:Bool) (y a b:Int):Option (List Value):=bif (uB a&&true||false)&&true then bif (uB b&&true||false)&&true then bif (uB (narF 32 s a)&&uB y||false)&&true then bif (uB (doF (wOf k) (narF 32 s a) y)&&true||false)&&true then some [.int .u64 (narF 32 true (doF (wOf k) (narF 32 s a) y)),.bool true]else none else none else none else none
theorem t96_t (k:Nat) (hk:k=0\/k=1\/k=5\/k=6\/k=8) (a b:Int):execC (lookF FL) sc96 1000 x96 (argTm 0 [.int .i64 ((18+k:Nat):Int),.int .u64 a,.int .u64 b]) [] 100 (valK [6,7])=t96w k true (narF 32 true b) a b:=by
 rcases hk with rfl|rfl|rfl|rfl|rfl<;>kernel_rfl
theorem t96_f (k:Nat) (hk:k=7\/k=9) (a b:Int):execC (lookF FL) sc96 1000 x96 (argTm 0 [.int .i64 ((18+k:Nat):Int),.int .u64 a,.int .u64 b]) [] 100 (valK [6,7])=t96w k false (narF 32 false b) a b:=by
 rcases hk with rfl|rfl<;>kernel_rfl
theorem t96_s (k:Nat) (hk:k=2\/k=3\/k=4) (a b:Int):execC (lookF FL) sc96 1000 x96 (argTm 0 [.int .i64 ((18+k:Nat):Int),.int .u64 a,.int .u64 b]) [] 100 (valK [6,7])=t96w k (!Nat.beq k 3) (b.tmod 32) a b:=by
 rcases hk with rfl|rfl|rfl<;>kernel_rfl
theorem t96w_of {k:Nat}{s:Bool}{y a b:Int} (ha:uB a=true) (hb:uB b=true) (hy:uB y=true) (hk:1<=wOf k/\wOf k<=17):t96w k s y a b=some [.int .u64 (narF 32 true (doF (wOf k) (narF 32 s a) y)),.bool true]:=by
 unfold t96w
 rw[ha,hb,hy,uB_nar,uB_do hk.1 (by omega) (uB_nar _ _) hy];rfl
theorem sh_law {b:Int} (hb:uB b=true) (s:Bool):bits2 .and .u64 (narF 32 s b) 31=b.tmod 32:=by
 have hn:=uB_iff.1 (uB_nar s b)
 have hb:=uB_iff.1 hb
 rw[and64 (m:=31) 5 (by omega) hn.1 hn.2 rfl,Int.tmod_eq_emod_of_nonneg hb.1]
 cases s
 ·show(IntKind.u64.wrap (b*4294967296)).fdiv 4294967296 % 2 ^ 5=_
  rw[Int.fdiv_eq_ediv_of_nonneg _ (by omega),u64_wrap];omega
 ·show IntKind.u64.wrap ((IntKind.i64.wrap (IntKind.u64.wrap (b*4294967296))).fdiv 4294967296) % 2 ^ 5=_
  rw[Int.fdiv_eq_ediv_of_nonneg _ (by omega),u64_wrap,u64_wrap,IntKind.wrap_i64];omega
theorem do_w {a b:Int} (ha:uB a=true) (hb:uB b=true) (k:Nat) (h:k<=9):execC (lookF FL) sc96 1000 x96 (argTm 0 [.int .i64 ((18+k:Nat):Int),.int .u64 a,.int .u64 b]) [] 100 (valK [6,7])=some [.int .u64 (doF ((18+k:Nat):Int) a b),.bool true]:=by
 have hw:∀ k:Nat,k<=9->1<=wOf k/\wOf k<=17:=by decide
 have hm:uB (b.tmod 32)=true:=by
  have hb:=uB_iff.1 hb
  rw[Int.tmod_eq_emod_of_nonneg hb.1];exact uB_iff.2 (by omega)
 by_cases h1:k=0\/k=1\/k=5\/k=6\/k=8
 ·rw[t96_t k h1,t96w_of ha hb (uB_nar _ _) (hw k h)]
  rcases h1 with rfl|rfl|rfl|rfl|rfl<;>rfl
 by_cases h2:k=7\/k=9
 ·rw[t96_f k h2,t96w_of ha hb (uB_nar _ _) (hw k h)]
  rcases h2 with rfl|rfl<;>rfl
 have h3:k=2\/k=3\/k=4:=by omega
 rw[t96_s k h3,t96w_of ha hb hm (hw k h)]
 rcases h3 with rfl|rfl|rfl
 ·rw[<- sh_law hb true];rfl
 ·rw[<- sh_law hb false];rfl
 ·rw[<- sh_law hb true];rfl
def con96w:Con Try.prog where
 f:=96
 run:=fun vs h n=>match vs with
  |[.int .i64 op,.int .u64 a,.int .u64 b]=>some ([],vdo op a b,[],0,(decide (18<=op)&&decide (op<=27))&&(uB a&&uB b))
  |_=>none
 ok:=fun vs h n pre v upd news hx=>by
  split at hx
  ·simp only[Option.some.injEq,Prod.mk.injEq,Bool.and_eq_true,decide_eq_true_eq]at hx
   obtain⟨rfl,rfl,rfl,rfl,⟨h1,h3⟩,hA,hB⟩:=hx
   rename_i op a b
   obtain⟨k,rfl⟩:∃ k:Nat,op=((18+k:Nat):Int):=⟨(op-18).toNat,by omega⟩
   exact⟨fun id hid=>by simp[fstL]at hid,adet_tree (fok FOK _) 1000 fx96 (by simp) [6,7] (do_w hA hB k (by omega)) rfl rfl rfl rfl n⟩
  ·cases hx
abbrev sc80w:Short:=scOf [con96w]
theorem t80_w (k:Nat) (h:k<=9) (a b:Int):execC (lookF FL) sc80w 1000 x80 (argTm 0 [.int .i64 ((18+k:Nat):Int),.int .u64 a,.int .u64 b]) [] 100 (valK [6,7]) =
  bif (uB a&&uB b||false)&&true then some [.int .u64 (doF ((18+k:Nat):Int) a b),.bool true]else none:=by
 obtain rfl|rfl|rfl|rfl|rfl|rfl|rfl|rfl|rfl|rfl:k=0\/k=1\/k=2\/k=3\/k=4\/k=5\/k=6\/k=7\/k=8\/k=9:=by omega
 all_goals kernel_rfl
theorem c80 {op a b:Int} (h1:1<=op) (h2:op<=27) (ha:uB a=true) (hb:uB b=true) (n:Nat):ADet Try.prog 80 [.int .i64 op,.int .u64 a,.int .u64 b] [] (vdo op a b) [] n 0:=by
 by_cases h:op<=17
 ·obtain⟨k,rfl⟩:∃ k:Nat,op=k:=⟨op.toNat,by omega⟩
  exact adet_tree (fok FOK _) 1000 fx80 (by simp) [6,7] (do_low ha hb k (by omega) (by omega)) rfl rfl rfl rfl n
 ·obtain⟨k,rfl⟩:∃ k:Nat,op=((18+k:Nat):Int):=⟨(op-18).toNat,by omega⟩
  have e:execC (lookF FL) sc80w 1000 x80 (argTm 0 [.int .i64 ((18+k:Nat):Int),.int .u64 a,.int .u64 b]) [] 100 (valK [6,7])=some [.int .u64 (doF ((18+k:Nat):Int) a b),.bool true]:=by
   rw[t80_w k (by omega),ha,hb];rfl
  exact adet_tree (fok FOK _) 1000 fx80 (by simp) [6,7] e rfl rfl rfl rfl n
def con80:Con Try.prog where
 f:=80
 run:=fun vs h n=>match vs with
  |[.int .i64 op,.int .u64 a,.int .u64 b]=>some ([],vdo op a b,[],0,(decide (1<=op)&&decide (op<=27))&&(uB a&&uB b))
  |_=>none
 ok:=fun vs h n pre v upd news hx=>by
  split at hx
  ·simp only[Option.some.injEq,Prod.mk.injEq,Bool.and_eq_true,decide_eq_true_eq]at hx
   obtain⟨rfl,rfl,rfl,rfl,⟨h1,h3⟩,hA,hB⟩:=hx
   exact⟨fun id hid=>by simp[fstL]at hid,c80 h1 h3 hA hB n⟩
  ·cases hx
attribute [local congr] cond_ctx
theorem t79 (x:Int) (m:Int):execC (lookF FL) noSc 1000 x79 (argTm 0 [Value.int IntKind.i64 x,Value.int IntKind.i64 m]) [] 100 (valK [4])=bif decide (x>=IntKind.i64.wrap (m.tdiv 2))then some [Value.int IntKind.i64 (IntKind.i64.wrap (x-m))]else some [Value.int IntKind.i64 x]:=by kernel_rfl
def sgnF (x:Int) (m:Int):Int:=bif decide (x>=IntKind.i64.wrap (m.tdiv 2))then IntKind.i64.wrap (x-m)else x
def mk79 (p:Int):Option (List Value):=some [Value.int IntKind.i64 p]
theorem mk79_cond (c:Bool) (p q:Int):mk79 (bif c then p else q)=bif c then mk79 p else mk79 q:=by cases c<;>rfl
theorem p79 (x:Int) (m:Int):execC (lookF FL) noSc 1000 x79 (argTm 0 [Value.int IntKind.i64 x,Value.int IntKind.i64 m]) [] 100 (valK [4])=mk79 (sgnF x m):=by
 rw[t79]
 try simp(contextual:=true) only[bn,bc]
 unfold sgnF
 try simp only[mk79_cond]
 rfl
theorem c79 (x:Int) (m:Int) (n:Nat):ADet Try.prog 79 [Value.int IntKind.i64 x,Value.int IntKind.i64 m] [] (Value.int IntKind.i64 (sgnF x m)) [] n 0:=adet_tree FOK 1000 fx79 (by simp) [4] (p79 x m) rfl rfl rfl rfl n
def g79:List Value->Option Value
 |[.int .i64 x,.int .i64 m]=>some (Value.int IntKind.i64 (sgnF x m))
 |_=>none
def con79:Con Try.prog:=pureC 79 g79 fun vs v n h=>by
 unfold g79 at h
 split at h
 ·cases h;exact c79 _ _ n
 ·cases h
end Go.X
