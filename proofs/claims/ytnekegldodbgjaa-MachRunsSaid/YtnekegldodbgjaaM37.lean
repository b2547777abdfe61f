import Derived.Test.YtnekegldodbgjaaM36
import Derived.Test.YtnekegldodbgjaaM18
set_option linter.all false
namespace Go.X
open Go Go.Proofs
def resA (st cd:Int) (v:Value) (n mk:Int):Value:=.agg ⟨[.int .i64 st,.int .u8 cd,.int .i64 0,v,.int .i64 n,.int .i64 mk]⟩
def exO (a:Nat) (bo:Bool) (b:Blk):List (Nat × Blk):=bif bo then[(a,b)]else[]
def strO (oN:Nat) (of:Nat->Int):List UInt8:=(ByteArray.mk (List.map (fun j=>u8Of [Value.int IntKind.u8 (of (0+j))]) (List.range oN)).toArray).toList
def okO (oN:Nat) (of:Nat->Int):Bool:=(0+oN).ble oN&&true&&(List.range oN).all fun j=>isU8 [Value.int IntKind.u8 (of (0+j))]
theorem okO_true (oN:Nat) (of:Nat->Int):okO oN of=true:=by
 unfold okO
 rw[Nat.zero_add,show oN.ble oN=true by simp,show((List.range oN).all fun j=>isU8 [Value.int IntKind.u8 (of (0+j))])=true from List.all_eq_true.2 fun _ _=>rfl];rfl
theorem strO_congr {oN:Nat}{of of2:Nat->Int} (h:∀ j,j<oN->of j=of2 j):strO oN of=strO oN of2:=by
 unfold strO
 have:List.map (fun j=>u8Of [Value.int IntKind.u8 (of (0+j))]) (List.range oN)=List.map (fun j=>u8Of [Value.int IntKind.u8 (of2 (0+j))]) (List.range oN):=List.map_congr_left fun j hj=>by rw[Nat.zero_add,h j (List.mem_range.1 hj)]
 rw[this]
def c28t (a b c d e u w:Bool):Bool:=(((bif bif bif bif a then b else false then true else false then c else false then d else false)||!bif bif bif bif a then b else false then true else false then c else false then d else false)&&true||false)&&(((bif bif bif bif a then b else false then true else false then c else false then d else false)&&((bif bif bif bif a then b else false then true else false then c else false then d else false)&&true)||!bif bif bif bif a then b else false then true else false then c else false then d else false)&&(((bif bif bif bif a then b else false then true else false then c else false then d else false)&&true||!bif bif bif bif a then b else false then true else false then c else false then d else false)&&(((bif bif bif bif a then b else false then true else false then c else false then d else false)&&true||!bif bif bif bif a then b else false then true else false then c else false then d else false)&&((((bif bif bif a then b else false then true else false then c else false)||!bif bif bif a then b else false then true else false then c else false)&&true||false)&&(((bif bif bif a then b else false then true else false then c else false)&&((bif bif bif a then b else false then true else false then c else false)&&true)||!bif bif bif a then b else false then true else false then c else false)&&(((bif bif bif a then b else false then true else false then c else false)&&true||!bif bif bif a then b else false then true else false then c else false)&&(((bif bif bif a then b else false then true else false then c else false)&&true||!bif bif bif a then b else false then true else false then c else false)&&((((bif bif a then b else false then true else false)||!bif bif a then b else false then true else false)&&true||false)&&(((bif bif a then b else false then true else false)&&((bif bif a then b else false then true else false)&&true)||!bif bif a then b else false then true else false)&&((w&&((bif bif a then b else false then true else false)&&true)||!bif bif a then b else false then true else false)&&(((bif bif a then b else false then true else false)&&true||!bif bif a then b else false then true else false)&&((u&&((bif bif a then b else false then true else false)&&true)||!bif bif a then b else false then true else false)&&(((bif bif a then b else false then true else false)&&true||!bif bif a then b else false then true else false)&&((((bif a then b else false)||!bif a then b else false)&&true||false)&&(((bif a then b else false)&&((bif a then b else false)&&true)||!bif a then b else false)&&(((bif a then b else false)&&true||!bif a then b else false)&&(((bif a then b else false)&&true||!bif a then b else false)&&(((a||!a)&&true||false)&&((a&&(a&&true)||!a)&&((a&&true||!a)&&((a&&true||!a)&&true)))))))))))))))))))))
def v28t (a b c d e:Bool):Bool:=(bif bif bif bif bif a then b else false then true else false then c else false then d else false then e else false)
def c28f (a b d e:Bool):Bool:=(((bif bif bif bif a then b else false then true else false then true else false then d else false)||!bif bif bif bif a then b else false then true else false then true else false then d else false)&&true||false)&&(((bif bif bif bif a then b else false then true else false then true else false then d else false)&&((bif bif bif bif a then b else false then true else false then true else false then d else false)&&true)||!bif bif bif bif a then b else false then true else false then true else false then d else false)&&(((bif bif bif bif a then b else false then true else false then true else false then d else false)&&true||!bif bif bif bif a then b else false then true else false then true else false then d else false)&&(((bif bif bif bif a then b else false then true else false then true else false then d else false)&&true||!bif bif bif bif a then b else false then true else false then true else false then d else false)&&((((bif bif bif a then b else false then true else false then true else false)||!bif bif bif a then b else false then true else false then true else false)&&true||false)&&(((bif bif bif a then b else false then true else false then true else false)&&((bif bif bif a then b else false then true else false then true else false)&&true)||!bif bif bif a then b else false then true else false then true else false)&&(((bif bif bif a then b else false then true else false then true else false)&&true||!bif bif bif a then b else false then true else false then true else false)&&(((bif bif bif a then b else false then true else false then true else false)&&true||!bif bif bif a then b else false then true else false then true else false)&&((((bif bif a then b else false then true else false)||!bif bif a then b else false then true else false)&&true||false)&&(((bif bif a then b else false then true else false)&&((bif bif a then b else false then true else false)&&true)||!bif bif a then b else false then true else false)&&(((bif bif a then b else false then true else false)&&true||!bif bif a then b else false then true else false)&&(((bif bif a then b else false then true else false)&&true||!bif bif a then b else false then true else false)&&(((bif bif a then b else false then true else false)&&true||!bif bif a then b else false then true else false)&&(((bif bif a then b else false then true else false)&&true||!bif bif a then b else false then true else false)&&((((bif a then b else false)||!bif a then b else false)&&true||false)&&(((bif a then b else false)&&((bif a then b else false)&&true)||!bif a then b else false)&&(((bif a then b else false)&&true||!bif a then b else false)&&(((bif a then b else false)&&true||!bif a then b else false)&&(((a||!a)&&true||false)&&((a&&(a&&true)||!a)&&((a&&true||!a)&&((a&&true||!a)&&true)))))))))))))))))))))
def v28f (a b d e:Bool):Bool:=(bif bif bif bif bif a then b else false then true else false then true else false then d else false then e else false)
section
variable (st cd n mk:Int) (oN oN2:Nat) (of of2:Nat->Int)
theorem p28t:walk (lookF FL) noSc 1000 x28 (argTm 0 [resA st cd (vOa 40 true oN) n mk,resA st cd (vOa 41 true oN2) n mk]) (mkH (exO 40 true (outB oN of)++exO 41 true (outB oN2 of2))) 100 j0_ ⟨[4],[],[],[40,41]⟩ j0_ =
  bif c28t (st==st) (cd==cd) (strO oN of==strO oN2 of2) (n==n) (mk==mk) (okO oN of) (okO oN2 of2)then some ⟨⟨[some (true,.bool (v28t (st==st) (cd==cd) (strO oN of==strO oN2 of2) (n==n) (mk==mk)))],[],.ret,102⟩,none⟩else none:=by kernel_rfl
theorem p28f:walk (lookF FL) noSc 1000 x28 (argTm 0 [resA st cd (vOa 40 false oN) n mk,resA st cd (vOa 41 false oN2) n mk]) (mkH []) 100 j0_ ⟨[4],[],[],[]⟩ j0_ =
  bif c28f (st==st) (cd==cd) (n==n) (mk==mk)then some ⟨⟨[some (true,.bool (v28f (st==st) (cd==cd) (n==n) (mk==mk)))],[],.ret,102⟩,none⟩else none:=by kernel_rfl
end
theorem b28 {bo:Bool}{st cd n mk:Int}{oN:Nat}{of of2:Nat->Int} (h:∀ j,j<oN->of j=of2 j):Body Try.prog 28 [resA st cd (vOa 40 bo oN) n mk,resA st cd (vOa 41 bo oN) n mk] (mkH (exO 40 bo (outB oN of)++exO 41 bo (outB oN of2))) (.bool true) [] 100 0:=by
 have e1:(st==st)=true:=by simp
 have e2:(cd==cd)=true:=by simp
 have e3:(n==n)=true:=by simp
 have e4:(mk==mk)=true:=by simp
 have e5:(strO oN of==strO oN of2)=true:=by rw[strO_congr h];simp
 cases bo with
 |true =>
  have e:=p28t st cd n mk oN oN of of2
  rw[e1,e2,e3,e4,e5,okO_true,okO_true]at e
  exact body_walk FOK fx28 (by simp) e rfl ⟨mkT [4] [.bool true],mkH [(40,outB oN of),(41,outB oN of2)],100⟩ (fun ρ w hd=>⟨_,_,_,rfl,rfl,⟨rfl,trivial⟩,bis_outB,bis_outB,trivial⟩) ⟨rfl,rfl,trivial⟩ rfl rfl
 |false =>
  have e:=p28f st cd n mk oN oN
  rw[e1,e2,e3,e4]at e
  exact body_walk FOK fx28 (by simp) e rfl ⟨mkT [4] [.bool true],mkH [],100⟩ (fun ρ w hd=>⟨_,_,_,rfl,rfl,⟨rfl,trivial⟩,trivial⟩) trivial rfl rfl
section
variable (l k:Nat) (f g:Nat->List Value)
end
def AtA (f:FuncId) (vs:List Value) (pre:List (Nat × Blk)) (v:Value):Prop:=nodupB (pre.map (·.1))=true/\∀ n,ADet Try.prog f vs (mkH pre) v [] n 0
noncomputable def conAny (f:FuncId) (vs0:List Value) (pre:List (Nat × Blk)) (v:Value):Con Try.prog where
 f:=f
 run:=fun vs h n=>some (mkH pre,v,[],0,decP (vs=vs0/\Has h pre/\AtA f vs0 pre v))
 ok:=fun vs h n pre' v' upd' news' hx=>by
  simp only[Option.some.injEq,Prod.mk.injEq]at hx
  obtain⟨rfl,rfl,rfl,rfl,hA⟩:=hx
  obtain⟨rfl,hh,hnd,hd⟩:=of_decP hA
  exact⟨has_pre hh hnd,hd n⟩
section
variable {E:FEnv}{Q:Post} (hP:E.P=Try.prog) (hn:E.B.n=50) (hcl:Cl E.toEnv Q){p q:Int}{m:MS}{al x y z:RSt}{na nx ny nz:Nat}{b0 b1 b2 s1 s2:Bool}{fu:Int}{yy:XCode}
 (hs1:∀ {σ:Nm},BIs Try.prog σ (seB x.sN x.sf) (seB x.sN x.sf)) (hs2:∀ {σ:Nm},BIs Try.prog σ (seB y.sN y.sf) (seB y.sN y.sf)) (hs3:∀ {σ:Nm},BIs Try.prog σ (seB z.sN z.sf) (seB z.sN z.sf))
include hP hn hcl hs1 hs2 hs3
end
theorem setM_ok {m:MS} (h:OKM m){k v:Int} (hv:uB v=true):OKM (setM m k v):=by
 unfold setM
 cases inK k with
 |false=>exact h
 |true=>exact⟨h.sz,h.pl,fun j=>by show uB (bif Nat.beq (j+1) (1+k.toNat*1)then v else m.x j)=true;cases Nat.beq (j+1) (1+k.toNat*1);exact h.x j;exact hv,h.kn⟩
theorem setsM_ok {m:MS} (h:OKM m){rg:Nat->Int}:∀ {R:Nat},(∀ j,j<R->uB (rg j)=true)->OKM (setsM m rg R)
 |0,_=>h
 |R+1,hr=>setM_ok (setsM_ok h fun j hj=>hr j (by omega)) (hr R (by omega))
theorem newM_ok {k L sz:Nat}{inp:Nat->Int} (h:szB sz=true):OKM (newM k L inp sz):=⟨h,rfl,fun _=>rfl,fun w h=>by cases h⟩
def jumpM (m:MS) (v:Int):MS:={ m with pl:=v }
section
variable (m:MS) (kk a b o:Int) (tk:Bool)
end
section
variable (x o sk lk n:Int) (m:MS) (oN:Nat) (of:Nat->Int) (s:RSt) (sf:Nat->List Value) (v6 v7 st cd mk:Int) (i:Nat) (g:Nat->Int)
def t12 (b:Bool):Bool:=((!b||b)&&true||false)&&((!b&&(!b&&true)||!!b)&&((!b&&(!b&&true)||!!b)&&((!b&&true||!!b)&&true)))
end
theorem u64w (a:Int):IntKind.u64.wrap a=a % 18446744073709551616:=by simp[IntKind.wrap,IntKind.bits,IntKind.signed]
theorem u8w (a:Int):IntKind.u8.wrap a=a % 256:=by simp[IntKind.wrap,IntKind.bits,IntKind.signed]
theorem bv64 (x:Nat) (h:x<18446744073709551616):(BitVec.ofInt 64 (x:Int)).toNat=x:=by
 rw[BitVec.toNat_ofInt];omega
theorem or_add {a b:Int} (n:Nat) (ha0:0<=a) (ha:a<2 ^ n) (hb0:0<=b) (hb:b<18446744073709551616) (hm:b % 2 ^ n=0) (han:a<18446744073709551616) (hs:a+b<18446744073709551616):bits2 .or .u64 a b=a+b:=by
 obtain⟨a,rfl⟩:∃ k:Nat,a=k:=⟨a.toNat,by omega⟩
 obtain⟨b,rfl⟩:∃ k:Nat,b=k:=⟨b.toNat,by omega⟩
 show IntKind.u64.wrap (BitVec.ofInt 64 (a:Int) ||| BitVec.ofInt 64 (b:Int)).toNat=_
 rw[BitVec.toNat_or,bv64 a (by omega),bv64 b (by omega),u64w]
 have ha':a<2 ^ n:=by exact_mod_cast ha
 have hm':b % 2 ^ n=0:=by exact_mod_cast hm
 obtain⟨q,rfl⟩:∃ q,b=2 ^ n*q:=⟨b / 2 ^ n,by rw[Nat.mul_div_cancel' (Nat.dvd_of_mod_eq_zero hm')]⟩
 rw[Nat.or_comm,<- Nat.two_pow_add_eq_or_of_lt ha' q]
 omega
theorem pow2_64 (k:Nat) (h:k<8):(2:Int) ^ min (IntKind.i64.wrap (8*(k:Int))).toNat 64=2 ^ (8*k):=by
 rw[wrap_i (by omega) (by omega),show min (8*(k:Int)).toNat 64=8*k by omega]
theorem byteX_val {x:Int} (h0:0<=x) (k:Nat) (h:k<8):byteX x k=x / 2 ^ (8*k) % 256:=by
 unfold byteX
 rw[pow2_64 k h,u8w,Int.fdiv_eq_ediv_of_nonneg _ (Int.le_of_lt (Int.pow_pos (by decide)))]
theorem num1_val {x:Int} (h0:0<=x){f:Nat->Int}{i:Nat} (h:f (i+0)=byteX x 0):num1 f i=x % 256:=by
 unfold num1
 rw[h,byteX_val h0 0 (by omega),u64w,u64w]
 rw[or_add 0 (by omega) (by decide) (by omega) (by omega) (by omega) (by omega) (by omega)]
 omega
theorem num4_val {x:Int} (h0:0<=x) (h1:x<18446744073709551616){f:Nat->Int}{i:Nat} (h:∀ j,j<4->f (i+j)=byteX x j):num4 f i=x % 4294967296:=by
 unfold num4
 rw[h 0 (by omega),h 1 (by omega),h 2 (by omega),h 3 (by omega),byteX_val h0 0 (by omega),byteX_val h0 1 (by omega),byteX_val h0 2 (by omega),byteX_val h0 3 (by omega)]
 simp only[u64w,Nat.mul_zero,Nat.mul_one,Int.reducePow,Nat.reduceMul]
 rw[show bits2 .or .u64 0 (x / 1 % 256 % 18446744073709551616*1 % 18446744073709551616)=(x % 256) by rw[or_add 0 (by omega) (by omega) (by omega) (by omega) (by omega) (by omega) (by omega)];omega]
 rw[show bits2 .or .u64 (x % 256) (x / 256 % 256 % 18446744073709551616*256 % 18446744073709551616)=(x % 65536) by rw[or_add 8 (by omega) (by omega) (by omega) (by omega) (by omega) (by omega) (by omega)];omega]
 rw[show bits2 .or .u64 (x % 65536) (x / 65536 % 256 % 18446744073709551616*65536 % 18446744073709551616)=(x % 16777216) by rw[or_add 16 (by omega) (by omega) (by omega) (by omega) (by omega) (by omega) (by omega)];omega]
 rw[show bits2 .or .u64 (x % 16777216) (x / 16777216 % 256 % 18446744073709551616*16777216 % 18446744073709551616)=(x % 4294967296) by rw[or_add 24 (by omega) (by omega) (by omega) (by omega) (by omega) (by omega) (by omega)];omega]
theorem num8_val {x:Int} (h0:0<=x) (h1:x<18446744073709551616){f:Nat->Int}{i:Nat} (h:∀ j,j<8->f (i+j)=byteX x j):num8 f i=x:=by
 unfold num8
 rw[num4_val h0 h1 fun j hj=>h j (by omega),h 4 (by omega),h 5 (by omega),h 6 (by omega),h 7 (by omega),byteX_val h0 4 (by omega),byteX_val h0 5 (by omega),byteX_val h0 6 (by omega),byteX_val h0 7 (by omega)]
 simp only[u64w,Int.reducePow,Nat.reduceMul]
 rw[show bits2 .or .u64 (x % 4294967296) (x / 4294967296 % 256 % 18446744073709551616*4294967296 % 18446744073709551616)=(x % 1099511627776) by rw[or_add 32 (by omega) (by omega) (by omega) (by omega) (by omega) (by omega) (by omega)];omega]
 rw[show bits2 .or .u64 (x % 1099511627776) (x / 1099511627776 % 256 % 18446744073709551616*1099511627776 % 18446744073709551616)=(x % 281474976710656) by rw[or_add 40 (by omega) (by omega) (by omega) (by omega) (by omega) (by omega) (by omega)];omega]
 rw[show bits2 .or .u64 (x % 281474976710656) (x / 281474976710656 % 256 % 18446744073709551616*281474976710656 % 18446744073709551616)=(x % 72057594037927936) by rw[or_add 48 (by omega) (by omega) (by omega) (by omega) (by omega) (by omega) (by omega)];omega]
 rw[show bits2 .or .u64 (x % 72057594037927936) (x / 72057594037927936 % 256 % 18446744073709551616*72057594037927936 % 18446744073709551616)=x by rw[or_add 56 (by omega) (by omega) (by omega) (by omega) (by omega) (by omega) (by omega)];omega]
theorem p60_a (x f n:Int):walk (lookF FL) noSc 1000 x60 (argTm 0 [.int .i64 x,.int .i64 f,.int .i64 n]) [] 100 j0_ j0_ ⟨[7,0],[],[1,2],[]⟩ =
  bif decide (x<0)then some ⟨⟨[some (true,.int .i64 0),some (true,.int .i64 (IntKind.i64.wrap (x+2097152)))],[],.normal,100⟩,some (x60_13,[.bl 0,.sq x60_33])⟩else some ⟨⟨[some (true,.int .i64 0),some (true,.int .i64 x)],[],.normal,100⟩,some (x60_13,[.bl 0,.sq x60_33])⟩:=by kernel_rfl
theorem p60_b (y f n i:Int):walk (lookF FL) noSc 1000 x60_13 (mkT [7,0,1,2] [.int .i64 i,.int .i64 y,.int .i64 f,.int .i64 n]) [] 100 ⟨[7,0],[],[1,2],[]⟩ j0_ j0_ =
  bif decide (i<f)then some ⟨⟨[some (true,.int .i64 (IntKind.i64.wrap (i+1))),some (true,.int .i64 (IntKind.i64.wrap (y.tdiv 2)))],[],.normal,100⟩,none⟩else some ⟨⟨[some (true,.int .i64 i),some (true,.int .i64 y)],[],.exit 0,100⟩,none⟩:=by kernel_rfl
theorem p60_c (y n f i:Int):walk (lookF FL) noSc 1000 x60_33 (mkT [7,0,1,2] [.int .i64 i,.int .i64 y,.int .i64 f,.int .i64 n]) [] 100 j0_ j0_ ⟨[9,8],[],[0,2],[]⟩ =
  some ⟨⟨[some (true,.int .i64 0),some (true,.int .i64 1)],[],.normal,100⟩,some (x60_26,[.bl 2,.sq x60_31])⟩:=by kernel_rfl
theorem p60_d (y n p i:Int):walk (lookF FL) noSc 1000 x60_26 (mkT [9,8,0,2] [.int .i64 i,.int .i64 p,.int .i64 y,.int .i64 n]) [] 100 ⟨[9,8],[],[0,2],[]⟩ j0_ j0_ =
  bif decide (i<n)then some ⟨⟨[some (true,.int .i64 (IntKind.i64.wrap (i+1))),some (true,.int .i64 (IntKind.i64.wrap (p*2)))],[],.normal,100⟩,none⟩else some ⟨⟨[some (true,.int .i64 i),some (true,.int .i64 p)],[],.exit 2,100⟩,none⟩:=by kernel_rfl
theorem p60_e (y n p i:Int):walk (lookF FL) noSc 1000 x60_31 (mkT [9,8,0,2] [.int .i64 i,.int .i64 p,.int .i64 y,.int .i64 n]) [] 100 j0_ ⟨[6],[],[],[]⟩ j0_ =
  bif (!decide (p=0)&&true||false)&&true then some ⟨⟨[some (true,.int .i64 (y.tmod p))],[],.ret,100⟩,none⟩else none:=by kernel_rfl
def bitR (x:Int) (f n:Nat):Int:=(bif decide (x<0)then x+2097152 else x) / 2 ^ f % 2 ^ n
def rng60 (x:Int) (f n:Nat):Bool:=decide (-2097152<=x)&&(decide (x<4611686018427387904)&&(decide (f<=60)&&decide (n<=60)))
theorem p2le {n:Nat} (h:n<=61):(2:Int) ^ n<=2305843009213693952:=by
 have:(2:Nat) ^ n<=2 ^ 61:=Nat.pow_le_pow_right (by decide) h
 have:((2 ^ n:Nat):Int)<=((2 ^ 61:Nat):Int):=by exact_mod_cast this
 simpa using this
theorem b60 {x:Int}{f n:Nat} (h:rng60 x f n=true):Body Try.prog 60 [.int .i64 x,.int .i64 (f:Int),.int .i64 (n:Int)] [] (.int .i64 (bitR x f n)) [] 100 0:=by
 simp only[rng60,Bool.and_eq_true,decide_eq_true_eq]at h
 obtain⟨hx0,hx1,hf,hn⟩:=h
 obtain⟨y,hy⟩:∃ y,y=(bif decide (x<0)then x+2097152 else x):=⟨_,rfl⟩
 have hy0:0<=y/\y<4611686018427387904:=by
  rw[hy]
  by_cases h:x<0
  ·rw[decide_eq_true h,cond_true];omega
  ·rw[decide_eq_false h,cond_false];omega
 refine body_of' mixed fx60 (by simp) fun E Q hP hE hcl hfin=>?_
 have hF:FnsOK E.P (lookF FL) noSc:=hP▸FOK
 have ea:=p60_a x (f:Int) (n:Int)
 have ea':walk (lookF FL) noSc 1000 x60 (argTm 0 [.int .i64 x,.int .i64 (f:Int),.int .i64 (n:Int)]) [] 100 j0_ j0_ ⟨[7,0],[],[1,2],[]⟩=some ⟨⟨[some (true,.int .i64 0),some (true,.int .i64 y)],[],.normal,100⟩,some (x60_13,[.bl 0,.sq x60_33])⟩:=by
  rw[ea,hy]
  by_cases h:x<0
  ·rw[decide_eq_true h,cond_true,cond_true,wrap_i (by omega) (by omega)]
  ·rw[decide_eq_false h];rfl
 let S:Nat->St:=fun i=>⟨mkT [7,0,1,2] [.int .i64 (i:Int),.int .i64 (y / 2 ^ i),.int .i64 (f:Int),.int .i64 (n:Int)],mkH [],100⟩
 refine xwp_toLoop (s:=⟨_,_,_⟩) hF 1000 ea' (S 0) ⟨_,_,_,rfl,by rw[hE];rfl,by rw[hE];exact⟨rfl,by rw[Int.pow_zero,Int.ediv_one];rfl,rfl,rfl,trivial⟩,trivial⟩ ?_
 refine xwp_loopR (ι:=Nat) S (fun i=>i<=f) (fun i=>f-i) 0 (Nat.zero_le _) fun i hi=>?_
 have hcr:=cl_round (S:=S) (I:=fun i=>i<=f) (μ:=fun i=>f-i) (i:=i) (cl_ctx hcl [.bl 0,.sq x60_33])
 have e:=p60_b (y / 2 ^ i) (f:Int) (n:Int) (i:Int)
 have hd:0<=y / 2 ^ i/\y / 2 ^ i<=y:=⟨Int.ediv_nonneg hy0.1 (Int.le_of_lt (Int.pow_pos (by decide))),Int.ediv_le_self _ hy0.1⟩
 by_cases hlt:i<f
 ·rw[decide_eq_true (show(i:Int)<f by omega),cond_true,wrap_i (n:=(i:Int)+1) (by omega) (by omega),Int.tdiv_eq_ediv_of_nonneg hd.1,wrap_i (n:=y / 2 ^ i / 2) (by omega) (by omega)]at e
  exact xwp_toEnd (s:=S i) hcr hF 1000 e (S (i+1)) ⟨_,_,_,rfl,by rw[hE];rfl,by rw[hE];exact⟨rfl,by rw[Int.ediv_ediv_of_nonneg (by exact Int.le_of_lt (Int.pow_pos (by decide))),<- Int.pow_succ];rfl,rfl,rfl,trivial⟩,trivial⟩ ⟨i+1,hlt,by simp only;omega,Wk.refl _ _⟩
 ·have:i=f:=by omega
  subst this
  rw[decide_eq_false (show ¬ (i:Int)<i by omega),cond_false]at e
  refine xwp_toEnd (s:=S i) hcr hF 1000 e (S i) ⟨_,_,_,rfl,by rw[hE];rfl,by rw[hE];exact⟨rfl,rfl,rfl,rfl,trivial⟩,trivial⟩ ?_
  show XWP E.toEnv x60_33 Q (S i)
  let T:Nat->St:=fun j=>⟨mkT [9,8,0,2] [.int .i64 (j:Int),.int .i64 (2 ^ j),.int .i64 (y / 2 ^ i),.int .i64 (n:Int)],mkH [],100⟩
  refine xwp_toLoop (s:=S i) hF 1000 (p60_c (y / 2 ^ i) (n:Int) (i:Int) (i:Int)) (T 0) ⟨_,_,_,rfl,by rw[hE];rfl,by rw[hE];exact⟨rfl,rfl,rfl,rfl,trivial⟩,trivial⟩ ?_
  refine xwp_loopR (ι:=Nat) T (fun j=>j<=n) (fun j=>n-j) 0 (Nat.zero_le _) fun j hj=>?_
  have hcr:=cl_round (S:=T) (I:=fun j=>j<=n) (μ:=fun j=>n-j) (i:=j) (cl_ctx hcl [.bl 2,.sq x60_31])
  have e:=p60_d (y / 2 ^ i) (n:Int) (2 ^ j) (j:Int)
  have hp:(0:Int)<2 ^ j:=Int.pow_pos (by decide)
  by_cases hlt:j<n
  ·have l1:=p2le (n:=j+1) (by omega)
   rw[decide_eq_true (show(j:Int)<n by omega),cond_true,wrap_i (n:=(j:Int)+1) (by omega) (by omega),<- Int.pow_succ,wrap_i (n:=(2:Int) ^ (j+1)) (by have:(0:Int)<2 ^ (j+1):=Int.pow_pos (by decide);omega) (by omega)]at e
   exact xwp_toEnd (s:=T j) hcr hF 1000 e (T (j+1)) ⟨_,_,_,rfl,by rw[hE];rfl,by rw[hE];exact⟨rfl,rfl,rfl,rfl,trivial⟩,trivial⟩ ⟨j+1,hlt,by simp only;omega,Wk.refl _ _⟩
  ·have:j=n:=by omega
   subst this
   rw[decide_eq_false (show ¬ (j:Int)<j by omega),cond_false]at e
   refine xwp_toEnd (s:=T j) hcr hF 1000 e (T j) ⟨_,_,_,rfl,by rw[hE];rfl,by rw[hE];exact⟨rfl,rfl,rfl,rfl,trivial⟩,trivial⟩ ?_
   show XWP E.toEnv x60_31 Q (T j)
   have e2:=p60_e (y / 2 ^ i) (j:Int) (2 ^ j) (j:Int)
   rw[decide_eq_false (show ¬ (2:Int) ^ j=0 by omega),Int.tmod_eq_emod_of_nonneg hd.1]at e2
   refine xwp_toEnd (s:=T j) hcl hF 1000 e2 ⟨mkT [6] [.int .i64 (bitR x i j)],mkH [],100⟩ ⟨_,_,_,rfl,by rw[hE];rfl,by rw[hE];exact⟨by unfold bitR;rw[<- hy];rfl,trivial⟩,trivial⟩ (hfin _ _ (fin_of rfl trivial (by rw[hE]) rfl))
theorem c60 {x:Int}{f n:Nat} (h:rng60 x f n=true) (k:Nat):ADet Try.prog 60 [.int .i64 x,.int .i64 (f:Int),.int .i64 (n:Int)] [] (.int .i64 (bitR x f n)) [] k 0 :=
 adet_of_body (b60 h) [] [] rfl rfl trivial rfl rfl trivial rfl
def con60:Con Try.prog where
 f:=60
 run:=fun vs h n=>match vs with
  |[.int .i64 x,.int .i64 (.ofNat f),.int .i64 (.ofNat k)]=>some ([],.int .i64 (bitR x f k),[],0,rng60 x f k)
  |_=>none
 ok:=fun vs h n pre v upd news hx=>by
  split at hx
  ·simp only[Option.some.injEq,Prod.mk.injEq]at hx
   obtain⟨rfl,rfl,rfl,rfl,hA⟩:=hx
   exact⟨fun id hid=>by simp[fstL]at hid,c60 hA n⟩
  ·cases hx
def rowR (F o f3 f7:Int):Value:=.agg ⟨[.int .u8 F,.int .i64 o,.int .i64 f3,.int .i64 f7]⟩
def rowRB (F o f3 f7:Int):Blk:=.var [.int .u8 F,.int .i64 o,.int .i64 f3,.int .i64 f7]
def At58 (op F o f3 f7:Int):Prop:=∀ n,ADet Try.prog 58 [.int .i64 op] [] (rowR F o f3 f7) (mkH [(n,rowRB F o f3 f7)]) n 1
noncomputable def con58 (op F o f3 f7:Int):Con Try.prog where
 f:=58
 run:=fun vs h n=>some ([],rowR F o f3 f7,mkH [(n,rowRB F o f3 f7)],1,decP (vs=[.int .i64 op]/\At58 op F o f3 f7))
 ok:=fun vs h n pre v upd news hx=>by
  simp only[Option.some.injEq,Prod.mk.injEq]at hx
  obtain⟨h1,h2,h3,h4,hA⟩:=hx
  subst h1;subst h2;subst h3;subst h4
  have hB:=of_decP hA
  refine⟨fun id hid=>by simp[fstL]at hid,?_⟩
  rw[hB.1];exact hB.2 n
noncomputable abbrev sc47 (op F o f3 f7:Int):Short:=scOf [con58 op F o f3 f7,con60]
def W58 (k:Nat) (op F o f3 f7:Int):Prop:=walk (lookF FL) noSc 1000 x58 (argTm 0 [.int .i64 op]) (mkH []) 100 j0_ ⟨[2],[.tmp 2],[],[]⟩ j0_=some ⟨⟨[some (true,.pointer (some ⟨100,0,some 0⟩))],[(100,some (rowRB F o f3 f7))],.ret,k⟩,none⟩
theorem at58 {op F o f3 f7:Int}{k:Nat} (h:W58 k op F o f3 f7):At58 op F o f3 f7:=by
 have hb:Body Try.prog 58 [.int .i64 op] (mkH []) (rowR F o f3 f7) (mkH [(100,rowRB F o f3 f7)]) 100 1 :=
  body_walk FOK fx58 (by simp) h rfl ⟨mkT [2] [.pointer (some ⟨100,0,some 0⟩)],mkH [(100,rowRB F o f3 f7)],101⟩ (fun ρ w hd=>⟨_,_,_,rfl,rfl,⟨rfl,trivial⟩,rfl,trivial⟩) ⟨rfl,trivial⟩ rfl rfl
 intro n
 have bn:=beq_tt n
 refine adet_of_body hb [] [(n,100)] ?_ rfl trivial rfl rfl ?_ ?_
 ·show((true&&((Nat.ble n n&&Nat.blt n (n+1))&&true))&&true&&true)=true
  simp[lt_blt]
 ·simp only[mkH,List.cons_append,List.nil_append,HsOK,natMem,asc,bn,cond_true]
  exact⟨rfl,trivial⟩
 ·simp only[mkH,List.cons_append,List.nil_append,namesOf,natMem,asc,bn,cond_true];rfl
end Go.X
