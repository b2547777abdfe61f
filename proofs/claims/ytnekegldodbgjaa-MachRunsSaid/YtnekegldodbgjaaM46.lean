import Derived.Test.YtnekegldodbgjaaM45
import Derived.Test.YtnekegldodbgjaaM37
import Derived.Test.YtnekegldodbgjaaM44
set_option linter.all false
namespace Go.X
open Go Go.Proofs
abbrev p102:Value:=.pointer (some ⟨102,0,some 0⟩)
def q32 (b:Bool):Bool:=((!b||b)&&true||false)&&((!b&&true||!!b)&&true)
theorem q32_true (b:Bool):q32 b=true:=by cases b<;>rfl
def mb32 (sz:Nat) (mem:Nat->Int):Blk:=.rows sz 1 (fun j=>[.int .u8 (mem j)]) false false
def h32 (sz:Nat) (mem:Nat->Int) (bi:Bool) (L:Nat) (inp:Nat->Int):List (Nat × Blk):=[(101,mb32 sz mem),(102,docB 101 (dm32 sz mem)),(100,docN)]++exI bi (inB L inp)
section
variable (bi:Bool) (L C i sz:Nat) (s:Int) (inp mem:Nat->Int) (hb:bi=false->L=0)
include hb
theorem p32_0:walk (lookF FL) noSc 1000 (.region x32_0) (argTm 0 [vI bi 0 L C,.int .i64 s]) (mkH (exI bi (inB L inp))) 100 ⟨[4,5],[.tmp 4],[0,1],exJ' bi⟩ j0_ j0_ =
  some ⟨⟨[some (true,pB),some (true,.bool false)],[(100,some docN)],.normal,101⟩,none⟩:=by
 cases bi<;>first|(obtain rfl:=hb rfl;kernel_rfl)|kernel_rfl
theorem p32_a:walk (lookF FL) noSc 1000 x32_5 (mkT [4,5,0,1] [pB,.bool false,vI bi 0 L C,.int .i64 s]) (mkH ([(100,docN)]++exI bi (inB L inp))) 101 ⟨[4,5],[],[0,1],[100]++exJ' bi⟩ ⟨[4,5],[.id 100],[],[]⟩ j0_ =
  bif q32 (decide (s<(L:Int)))then bif bif decide (s<(L:Int))then true else decide (s>4194304)then some ⟨⟨[some (true,pB),some (true,.bool false)],[(100,some docN)],.ret,101⟩,none⟩else some ⟨⟨[some (true,pB),some (true,.bool false)],[],.normal,101⟩,none⟩else none:=by
 cases bi<;>first|(obtain rfl:=hb rfl;kernel_rfl)|kernel_rfl
theorem p32_b:walk (lookF FL) noSc 1000 x32_24 (mkT [4,5,0,1] [pB,.bool false,vI bi 0 L C,.int .i64 (sz:Int)]) (mkH ([(100,docN)]++exI bi (inB L inp))) 101 j0_ j0_ ⟨[22,21,6],[.id 101,.tmp 6,.tmp 4],[4,0],exJ' bi⟩ =
  bif decide (0<=(sz:Int))&&decide ((sz:Int)<=(sz:Int))&&decide ((sz:Int)*3<=1099511627776)&&true&&true then some ⟨⟨[some (true,.int .i64 ((0:Nat):Int)),some (true,.int .i64 (L:Int)),some (true,p102)],[(101,some (.rows (sz:Int).toNat 1 (fun _=>[.int .u8 0]) false false)),(102,some (docB 101 (dm32 (sz:Int).toNat fun _=>0))),(100,some docN)],.normal,103⟩,some (x32_17,[.bl 0,.sq x32_22])⟩else none:=by
 cases bi<;>first|(obtain rfl:=hb rfl;kernel_rfl)|kernel_rfl
theorem p32_d:walk (lookF FL) noSc 1000 x32_22 (mkT [22,21,6,4,0] [.int .i64 (i:Int),.int .i64 (L:Int),p102,pB,vI bi 0 L C]) (mkH (h32 sz mem bi L inp)) 103 j0_ ⟨[4,5],[.id 101,.tmp 4],[],[]⟩ j0_ =
  some ⟨⟨[some (true,pB),some (true,.bool true)],[(101,some (mb32 sz mem)),(100,some (docB 101 (dm32 sz mem)))],.ret,103⟩,none⟩:=by
 cases bi<;>first|(obtain rfl:=hb rfl;kernel_rfl)|kernel_rfl
end
theorem p32_c (L C i sz:Nat) (inp mem:Nat->Int):walk (lookF FL) noSc 1000 x32_17 (mkT [22,21,6,4,0] [.int .i64 (i:Int),.int .i64 (L:Int),p102,pB,vI true 0 L C]) (mkH (h32 sz mem true L inp)) 103 ⟨[22],[.id 101],[21,6,4,0],[102,100]++exJ' true⟩ j0_ j0_ =
  bif decide ((i:Int)<(L:Int))then bif (0+i).blt sz&&true&&((intRange (i:Int) sz&&true||false)&&(((0+i).blt L&&true||false)&&((intRange (i:Int) L&&true||false)&&true)))then some ⟨⟨[some (true,.int .i64 (IntKind.i64.wrap ((i:Int)+1)))],[(101,some (.rows sz 1 (rowSet (fun j=>[.int .u8 (mem j)]) (0+i) [.int .u8 (inp (0+i))]) false false))],.normal,103⟩,none⟩else none
  else some ⟨⟨[some (true,.int .i64 (i:Int))],[(101,some (mb32 sz mem))],.exit 0,103⟩,none⟩:=by kernel_rfl
theorem p32_n (C sz:Nat) (inp mem:Nat->Int):walk (lookF FL) noSc 1000 x32_17 (mkT [22,21,6,4,0] [.int .i64 ((0:Nat):Int),.int .i64 ((0:Nat):Int),p102,pB,vI false 0 0 C]) (mkH (h32 sz mem false 0 inp)) 103 ⟨[22],[.id 101],[21,6,4,0],[102,100]++exJ' false⟩ j0_ j0_ =
  some ⟨⟨[some (true,.int .i64 ((0:Nat):Int))],[(101,some (mb32 sz mem))],.exit 0,103⟩,none⟩:=by kernel_rfl
def memI (inp:Nat->Int) (i:Nat):Nat->Int:=fun j=>bif Nat.blt j i then inp j else 0
theorem bis_mb {P:Program}{σ:Nm}{sz:Nat}{mem:Nat->Int}{f:Nat->List Value} (h:∀ j,j<sz->f j=[.int .u8 (mem j)]):BIs P σ (mb32 sz mem) (.rows sz 1 f false false):=⟨rfl,rfl,fun j hj=>by rw[h j hj];rfl,.inr (.inl rfl),.inr rfl⟩
theorem bis_docN {P:Program}{σ:Nm}:BIs P σ docN docN:=rfl
def d32 (L sz:Nat) (inp:Nat->Int):MS:=dm32 sz (memI inp L)
theorem ro_exI {bi:Bool}{L:Nat}{inp:Nat->Int}:∀ id blk,hget (mkH (exI bi (inB L inp))) id=some blk->blk.ro=false->hget ([]:Hp) id=some blk:=by
 intro id blk h hro
 cases bi
 ·cases h
 ·simp only[exI,mkH,cond_true,hget]at h
  revert h
  cases Nat.beq 40 id<;>intro h
  ·cases h
  ·cases h;cases hro
theorem b32 {bi:Bool}{L C sz:Nat}{inp:Nat->Int} (hb:bi=false->L=0) (h1:L<=sz) (h2:sz<=4194304) :
  Body Try.prog 32 [vI bi 0 L C,.int .i64 (sz:Int)] (mkH (exI bi (inB L inp))) (.tuple ⟨[docV 100 (d32 L sz inp),.bool true]⟩) (mkH [(100,mb32 sz (memI inp L)),(101,docB 100 (d32 L sz inp))]) 100 2:=by
 refine body_of_ro [] mixed fx32 (by simp) ro_exI fun E Q hP hn hcl hfin=>?_
 have hF:FnsOK E.P (lookF FL) noSc:=hP▸FOK
 have ea:=p32_a bi L C (sz:Int) inp hb
 rw[q32_true,cond_true,decide_eq_false (show ¬ (sz:Int)<L by omega),cond_false,decide_eq_false (show ¬ (sz:Int)>4194304 by omega),cond_false]at ea
 have lf0:∀ {ex:Exit}{q:Nat}{ks:List Nat}{vs:List Value}{ts:List (Option (Bool × Value))},(∀ x,tsOK (stayOr 100 ((100,100) :: x)) ts vs)->LeafTo E ks ⟨ts,[(100,some docN)]++(exJ' bi).map (fun i=>(i,hget (mkH (exI bi (inB L inp))) i)),ex,q⟩ ⟨mkT ks vs,mkH ([(100,docN)]++exI bi (inB L inp)),101⟩:=fun {ex q ks vs ts} ht =>
  ⟨_,[(100,docN)]++exI bi (inB L inp),101,rfl,by rw[hn];cases bi<;>rfl,by rw[hn];cases bi<;>exact ht _,by
   rw[hn,hP]
   cases bi
   ·exact⟨bis_docN,trivial⟩
   ·exact⟨bis_docN,bis_inB,trivial⟩⟩
 refine xwp_seqW (s:=⟨_,_,_⟩) hcl hF 1000 (p32_0 bi L C (sz:Int) inp hb) rfl ⟨mkT [4,5,0,1] [pB,.bool false,vI bi 0 L C,.int .i64 (sz:Int)],mkH ([(100,docN)]++exI bi (inB L inp)),101⟩
  (by cases bi<;>exact lf0 fun x=>⟨rfl,rfl,rfl,rfl,trivial⟩) ?_
 show XWP E.toEnv (.seq x32_5 x32_24) Q _
 refine xwp_seqW (s:=⟨_,_,_⟩) hcl hF 1000 ea rfl ⟨mkT [4,5,0,1] [pB,.bool false,vI bi 0 L C,.int .i64 (sz:Int)],mkH ([(100,docN)]++exI bi (inB L inp)),101⟩
  (by cases bi<;>exact lf0 fun x=>⟨rfl,rfl,rfl,rfl,trivial⟩) ?_
 have eb:=p32_b bi L C sz inp hb
 rw[decide_eq_true (show 0<=(sz:Int) by omega),decide_eq_true (Int.le_refl _),decide_eq_true (show(sz:Int)*3<=1099511627776 by omega)]at eb
 simp only[Bool.and_self,cond_true,Int.toNat_natCast]at eb
 let S:Nat->St:=fun i=>⟨mkT [22,21,6,4,0] [.int .i64 (i:Int),.int .i64 (L:Int),p102,pB,vI bi 0 L C],mkH (h32 sz (memI inp i) bi L inp),103⟩
 have hd:∀ {σ:Nm}{f:Nat->Int},σ 101=some 101->BIs Try.prog σ (docB 101 (dm32 sz f)) (docB 101 (dm32 sz f)):=bis_doc
 refine xwp_toLoop (s:=⟨_,_,_⟩) hF 1000 eb (S 0) ⟨_,h32 sz (memI inp 0) bi L inp,103,rfl,?_,?_,?_⟩ ?_
 ·rw[hn];cases bi<;>rfl
 ·rw[hn];cases bi<;>exact⟨rfl,rfl,rfl,rfl,rfl,trivial⟩
 ·rw[hn,hP]
  have hz:∀ {σ:Nm},BIs Try.prog σ (mb32 sz (memI inp 0)) (.rows sz 1 (fun _=>[.int .u8 0]) false false):=bis_mb fun j hj=>by unfold memI;rw[blt_ff (Nat.not_lt_zero _)];rfl
  cases bi
  ·exact⟨hz,hd rfl,bis_docN,trivial⟩
  ·exact⟨hz,hd rfl,bis_docN,bis_inB,trivial⟩
 refine xwp_loopR (ι:=Nat) S (fun i=>i<=L) (fun i=>L-i) 0 (Nat.zero_le _) fun i hi=>?_
 have hcr:=cl_round (S:=S) (I:=fun i=>i<=L) (μ:=fun i=>L-i) (i:=i) (cl_ctx hcl [.bl 0,.sq x32_22])
 have hfinal:XWP E.toEnv x32_22 Q (S L):=by
  have ed:=p32_d bi L C L sz inp (memI inp L) hb
  have hd':∀ {σ:Nm},σ 100=some 101->BIs Try.prog σ (docB 100 (d32 L sz inp)) (docB 101 (dm32 sz (memI inp L))):=bis_doc
  refine xwp_toEnd (s:=S L) hcl hF 1000 ed ⟨mkT [4,5] [.pointer (some ⟨101,0,some 0⟩),.bool true],mkH [(100,mb32 sz (memI inp L)),(101,docB 100 (d32 L sz inp))],102⟩ ?_ (hfin _ _ (fin_of rfl (by exact⟨rfl,rfl,trivial⟩) (by rw[hn]) rfl))
  have hlf:LeafTo E ([4,5]++[]) ⟨[some (true,pB),some (true,.bool true)],[(101,some (mb32 sz (memI inp L))),(100,some (docB 101 (dm32 sz (memI inp L))))],.ret,103⟩ ⟨mkT [4,5] [.pointer (some ⟨101,0,some 0⟩),.bool true],mkH [(100,mb32 sz (memI inp L)),(101,docB 100 (d32 L sz inp))],102⟩ :=
   ⟨_,[(100,mb32 sz (memI inp L)),(101,docB 100 (d32 L sz inp))],102,rfl,by rw[hn];rfl,by rw[hn];exact⟨rfl,rfl,trivial⟩,by rw[hn,hP];exact⟨bis_mb fun j hj=>rfl,hd' rfl,trivial⟩⟩
  exact hlf
 cases hbi:bi with
 |false =>
  subst hbi
  have h0:=hb rfl
  subst h0
  have hi0:i=0:=by omega
  subst hi0
  refine xwp_toEnd (s:=S 0) hcr hF 1000 (p32_n C sz inp (memI inp 0)) (S 0) ⟨_,h32 sz (memI inp 0) false 0 inp,103,rfl,by rw[hn];rfl,by rw[hn];exact⟨rfl,rfl,rfl,rfl,rfl,trivial⟩,by rw[hn,hP];exact⟨bis_mb fun j hj=>rfl,hd rfl,bis_docN,trivial⟩⟩ ?_
  exact hfinal
 |true =>
  subst hbi
  have e:=p32_c L C i sz inp (memI inp i)
  by_cases hlt:i<L
  ·have i1:intRange (i:Int) sz=true:=by rw[ir_nat];exact decide_eq_true (by omega)
   have i2:intRange (i:Int) L=true:=by rw[ir_nat];exact decide_eq_true hlt
   rw[decide_eq_true (show(i:Int)<L by omega),i1,i2,Nat.zero_add,lt_blt (show i<sz by omega),lt_blt hlt,wrap_i (n:=(i:Int)+1) (by omega) (by omega)]at e
   simp only[Bool.and_self,Bool.or_false,cond_true]at e
   refine xwp_toEnd (s:=S i) hcr hF 1000 e (S (i+1)) ⟨_,h32 sz (memI inp (i+1)) true L inp,103,rfl,by rw[hn];rfl,by rw[hn];exact⟨rfl,rfl,rfl,rfl,rfl,trivial⟩,by
    rw[hn,hP]
    refine⟨bis_mb fun j hj=>?_,hd rfl,bis_docN,bis_inB,trivial⟩
    show(bif Nat.beq j i then[Value.int .u8 (inp i)]else[Value.int .u8 (bif Nat.blt j i then inp j else 0)])=[Value.int .u8 (bif Nat.blt j (i+1)then inp j else 0)]
    rw[beq_dec,blt_dec,blt_dec]
    by_cases h1:j=i
    ·subst h1;rw[decide_eq_true (rfl:j=j),decide_eq_true (show j<j+1 by omega)];rfl
    ·rw[decide_eq_false h1,cond_false]
     by_cases h2:j<i
     ·rw[decide_eq_true h2,decide_eq_true (show j<i+1 by omega)]
     ·rw[decide_eq_false h2,decide_eq_false (show ¬ j<i+1 by omega)]⟩ ⟨i+1,hlt,by simp only;omega,Wk.refl _ _⟩
  ·have:i=L:=by omega
   subst this
   rw[decide_eq_false (show ¬ (i:Int)<i by omega),cond_false]at e
   refine xwp_toEnd (s:=S i) hcr hF 1000 e (S i) ⟨_,h32 sz (memI inp i) true i inp,103,rfl,by rw[hn];rfl,by rw[hn];exact⟨rfl,rfl,rfl,rfl,rfl,trivial⟩,by rw[hn,hP];exact⟨bis_mb fun j hj=>rfl,hd rfl,bis_docN,bis_inB,trivial⟩⟩ ?_
   exact hfinal
section
variable (bi:Bool) (L C sz:Nat) (s:Int) (inp:Nat->Int) (m d:MS) (hb:bi=false->L=0)
include hb
end
section
variable (sz:Nat) (s:Int) (m d:MS)
end
section
variable {bi:Bool}{L C sz:Nat}{s:Int}{inp:Nat->Int} (hb:bi=false->L=0)
include hb
theorem a32 (h1:L<=sz) (h2:sz<=4194304):AtN 32 [vI bi 0 L C,.int .i64 (sz:Int)] (exI bi (inB L inp)) (.tuple ⟨[docV 130 (d32 L sz inp),.bool true]⟩) (mkH [(130,mb32 sz (d32 L sz inp).mem),(131,docB 130 (d32 L sz inp))]) 130 2:=by
 have h:=b32 (C:=C) (inp:=inp) hb h1 h2
 have hm:∀ {σ:Nm},BIs Try.prog σ (mb32 sz (memI inp L)) (mb32 sz (memI inp L)):=bis_mb fun _ _=>rfl
 cases bi with
 |false=>exact⟨rfl,adet_of_body h [(40,40)] [(130,100),(131,101)] rfl rfl trivial rfl rfl ⟨hm,bis_doc rfl,trivial⟩ rfl⟩
 |true=>exact⟨rfl,adet_of_body h [(40,40)] [(130,100),(131,101)] rfl rfl ⟨bis_inB,trivial⟩ rfl rfl ⟨hm,bis_doc rfl,bis_inB,trivial⟩ rfl⟩
end
theorem d33 {m d:MS} (hs:szB m.sz=true) (hsz:d.sz=m.sz) (hx:∀ j,j<32->m.x j=d.x j) (hpl:m.pl=d.pl) (hm:∀ j,j<m.sz->m.mem j=d.mem j):DetG 33 [pAt 92,docV 93 d] (m.HA 90 91 92++[(93,mb32 d.sz d.mem)]) (.bool true) :=
 ⟨rfl,fun k=>adet_of_body (tells33 hs hsz hx hpl hm) [(90,90),(91,91),(92,92),(93,93)] [] rfl rfl ⟨bis_mem,bis_kn,bis_mAt (a:=90) (b:=91) rfl rfl,bis_mem,trivial⟩ rfl rfl ⟨bis_mem,bis_kn,bis_mAt rfl rfl,bis_mem,trivial⟩ rfl⟩
abbrev p101r:Value:=.pointer (some ⟨101,0,some 0⟩)
def g62 (A B:Bool) (n:Int):Bool:=(((bif A then B else false)||!bif A then B else false)&&true||false)&&(((bif A then B else false)&&((bif A then B else false)&&true)||!bif A then B else false)&&(((bif A then B else false)&&true||!bif A then B else false)&&(((bif A then B else false)&&true||!bif A then B else false)&&(((bif A then B else false)&&((bif A then B else false)&&true)||!bif A then B else false)&&(((bif A then B else false)&&true||!bif A then B else false)&&(((A||!A)&&true||false)&&((A&&(A&&true)||!A)&&((A&&true||!A)&&((A&&true||!A)&&((A&&true||!A)&&((!decide (IntKind.u64.wrap n=0)&&true||false)&&true)))))))))))
abbrev π93:List (Nat × Nat):=[(93,93)]
def r62 (m:MS) (a n:Int):Bool:=bif bif a.tmod (IntKind.u64.wrap n)==0 then decide (a<IntKind.u64.wrap (m.sz:Int))else false then decide (IntKind.i64.wrap (IntKind.i64.wrap a+n)<=(m.sz:Int))else false
theorem t62 (m:MS) (a n:Int):walk (lookF FL) noSc 1000 x62 (argTm 0 [docV 93 m,.int .u64 a,.int .i64 n]) [] 100 j0_ ⟨[6],[],[],[]⟩ j0_ =
  bif g62 (a.tmod (IntKind.u64.wrap n)==0) (decide (a<IntKind.u64.wrap (m.sz:Int))) n then some ⟨⟨[some (true,.bool (r62 m a n))],[],.ret,101⟩,none⟩else none:=by kernel_rfl
theorem v62 {m:MS}{a:Int}{n:Nat} (hn:n84 n) (hs:szB m.sz=true) (ha:uB a=true):walk (lookF FL) noSc 1000 x62 (argTm 0 [docV 93 m,.int .u64 a,.int .i64 (n:Int)]) [] 100 j0_ ⟨[6],[],[],[]⟩ j0_ =
  some ⟨⟨[some (true,.bool (plB m.sz a (n:Int)))],[],.ret,101⟩,none⟩:=by
 have hs':m.sz<=4194304:=szB_iff.1 hs
 have ha':=uB_iff.1 ha
 have hn':1<=n/\n<=8:=by rcases hn with rfl|rfl|rfl<;>omega
 have e1:IntKind.u64.wrap (n:Int)=n:=by rw[u64_wrap];omega
 have e2:IntKind.u64.wrap (m.sz:Int)=m.sz:=by rw[u64_wrap];omega
 have hg:∀ A B,g62 A B (n:Int)=true:=by
  intro A B
  unfold g62
  rw[e1,decide_eq_false (show ¬ (n:Int)=0 by omega)]
  cases A<;>cases B<;>rfl
 have hr:r62 m a (n:Int)=plB m.sz a (n:Int):=by
  unfold r62 plB
  rw[e1,e2,Int.tmod_eq_emod_of_nonneg ha'.1]
  cases h1:(a % (n:Int)==0)with
  |false=>rfl
  |true =>
   have h1':a % (n:Int)=0:=by simpa using h1
   simp only[cond_true,Bool.true_and]
   by_cases h2:a<(m.sz:Int)
   ·rw[decide_eq_true h2,cond_true,wrap_i (n:=a) (by omega) (by omega),wrap_i (by omega) (by omega),decide_eq_true ha'.1,Bool.true_and]
   ·rw[decide_eq_false h2,cond_false,decide_eq_false (show ¬ a+(n:Int)<=(m.sz:Int) by omega),Bool.and_false]
 rw[t62,hg,cond_true,hr]
theorem det62 {m:MS}{a:Int}{n:Nat} (hn:n84 n) (hs:szB m.sz=true) (ha:uB a=true):DetG 62 [docV 93 m,.int .u64 a,.int .i64 (n:Int)] [] (.bool (plB m.sz a (n:Int))) :=
 ⟨rfl,fun k=>adet_of_body (body_walk (news:=0) (upd:=[]) FOK fx62 (by simp) (v62 hn hs ha) rfl ⟨mkT [6] [.bool (plB m.sz a (n:Int))],[],100⟩ (fun ρ w hd=>⟨_,[],_,rfl,rfl,⟨rfl,trivial⟩,trivial⟩) trivial rfl rfl) π93 [] rfl rfl trivial rfl rfl trivial rfl⟩
def con67:Con Try.prog where
 f:=67
 run:=fun vs h n=>match vs with
  |[.int .i64 op,.int .u64 a,.int .u64 b]=>some ([],.int .u64 (doF op a b),[],0,(decide (1<=op)&&decide (op<=27))&&(uB a&&uB b))
  |_=>none
 ok:=fun vs h n pre v upd news hx=>by
  split at hx
  ·rename_i op a b
   simp only[Option.some.injEq,Prod.mk.injEq]at hx
   obtain⟨rfl,rfl,rfl,rfl,hA⟩:=hx
   have e:execC (lookF FL) (scOf [con80]) 1000 x67 (argTm 0 [.int .i64 op,.int .u64 a,.int .u64 b]) [] 100 (valK [6])=bif (decide (1<=op)&&decide (op<=27)&&(uB a&&uB b)||false)&&true then some [.int .u64 (doF op a b)]else none:=by kernel_rfl
   rw[hA]at e
   exact⟨fun id hid=>by simp[fstL]at hid,adet_tree (fok FOK _) 1000 fx67 (by simp) [6] e rfl rfl rfl rfl n⟩
  ·cases hx
def con69:Con Try.prog where
 f:=69
 run:=fun vs h n=>match vs with
  |[.int .i64 op,.int .u64 a,.int .u64 b]=>some ([],.bool (takenF op a b),[],0,(decide (45<=op)&&decide (op<=50))&&(uB a&&uB b))
  |_=>none
 ok:=fun vs h n pre v upd news hx=>by
  split at hx
  ·rename_i op a b
   simp only[Option.some.injEq,Prod.mk.injEq,Bool.and_eq_true,decide_eq_true_eq]at hx
   obtain⟨rfl,rfl,rfl,rfl,⟨h1,h2⟩,hA,hB⟩:=hx
   have e:execC (lookF FL) (scOf [con82]) 1000 x69 (argTm 0 [.int .i64 op,.int .u64 a,.int .u64 b]) [] 100 (valK [6]) =
    bif op==45 then some [.bool (a==b)]else bif op==46 then some [.bool (a != b)]else bif op==47 then some [.bool (rlessF a b)]else bif op==48 then some [.bool !rlessF a b]else bif op==49 then some [.bool (decide (a<b))]else some [.bool (decide (a>=b))]:=by kernel_rfl
   have e2:execC (lookF FL) (scOf [con82]) 1000 x69 (argTm 0 [.int .i64 op,.int .u64 a,.int .u64 b]) [] 100 (valK [6])=some [.bool (takenF op a b)]:=by
    rw[e,less_law hA hB]
    unfold takenF
    obtain rfl|rfl|rfl|rfl|rfl|rfl:op=45\/op=46\/op=47\/op=48\/op=49\/op=50:=by omega
    ·show some [Value.bool (a==b)]=some [Value.bool ((a==b)==true)];cases a==b<;>rfl
    ·show some [Value.bool (!(a==b))]=some [Value.bool ((a==b)==false)];cases a==b<;>rfl
    ·show some [Value.bool (decide (IntKind.i64.wrap a<IntKind.i64.wrap b))]=some [Value.bool (decide (IntKind.i64.wrap a<IntKind.i64.wrap b)==true)];cases decide (IntKind.i64.wrap a<IntKind.i64.wrap b)<;>rfl
    ·show some [Value.bool (!decide (IntKind.i64.wrap a<IntKind.i64.wrap b))]=some [Value.bool (decide (IntKind.i64.wrap a<IntKind.i64.wrap b)==false)];cases decide (IntKind.i64.wrap a<IntKind.i64.wrap b)<;>rfl
    ·show some [Value.bool (decide (a<b))]=some [Value.bool (decide (a<b)==true)];cases decide (a<b)<;>rfl
    ·show some [Value.bool (decide (a>=b))]=some [Value.bool (decide (a<b)==false)]
     by_cases h:a<b
     ·rw[decide_eq_true h,decide_eq_false (by omega)];rfl
     ·rw[decide_eq_false h,decide_eq_true (by omega)];rfl
   exact⟨fun id hid=>by simp[fstL]at hid,adet_tree (fok FOK _) 1000 fx69 (by simp) [6] e2 rfl rfl rfl rfl n⟩
  ·cases hx
theorem t66 (m:MS) (r v:Int):walk (lookF FL) noSc 1000 x66 (argTm 0 [docV 93 m,.int .i64 r,.int .u64 v]) [] 100 j0_ ⟨[6],[.tmp 6],[],[]⟩ j0_ =
  bif decide (r>0)then bif (1+r.toNat*1).blt (docC 93 m).length&&updOK (1+r.toNat*1) (.int .u64 v) 0 (docC 93 m)&&true&&((intRange r 32&&true||false)&&true)then some ⟨⟨[some (true,p101r)],[(101,some (docB 93 (putX m r v)))],.ret,102⟩,none⟩else none
  else some ⟨⟨[some (true,p101r)],[(101,some (docB 93 m))],.ret,102⟩,none⟩:=by kernel_rfl
def regD (x:Nat->Int) (r v:Int):Nat->Int:=fun j=>bif decide (r>0)&&Nat.beq (j+1) (1+r.toNat*1)then v else x j
def setD (m:MS) (r v:Int):MS:={ m with x:=regD m.x r v }
theorem reg_docC (m:MS) (v:Int):∀ k:Nat,k<32->((1+(k:Int).toNat*1).blt (docC 93 m).length&&updOK (1+(k:Int).toNat*1) (.int .u64 v) 0 (docC 93 m)&&true&&((intRange (k:Int) 32&&true||false)&&true))=true
 |0,_=>rfl
 |1,_=>rfl
 |2,_=>rfl
 |3,_=>rfl
 |4,_=>rfl
 |5,_=>rfl
 |6,_=>rfl
 |7,_=>rfl
 |8,_=>rfl
 |9,_=>rfl
 |10,_=>rfl
 |11,_=>rfl
 |12,_=>rfl
 |13,_=>rfl
 |14,_=>rfl
 |15,_=>rfl
 |16,_=>rfl
 |17,_=>rfl
 |18,_=>rfl
 |19,_=>rfl
 |20,_=>rfl
 |21,_=>rfl
 |22,_=>rfl
 |23,_=>rfl
 |24,_=>rfl
 |25,_=>rfl
 |26,_=>rfl
 |27,_=>rfl
 |28,_=>rfl
 |29,_=>rfl
 |30,_=>rfl
 |31,_=>rfl
 |k+32,h=>absurd h (by omega)
theorem v66 (m:MS) (v:Int){r:Int} (h:inR r):walk (lookF FL) noSc 1000 x66 (argTm 0 [docV 93 m,.int .i64 r,.int .u64 v]) [] 100 j0_ ⟨[6],[.tmp 6],[],[]⟩ j0_ =
  some ⟨⟨[some (true,p101r)],[(101,some (docB 93 (setD m r v)))],.ret,102⟩,none⟩:=by
 obtain⟨k,hk,rfl⟩:=inR_nat h
 rw[t66]
 by_cases h0:(k:Int)>0
 ·rw[decide_eq_true h0,cond_true,reg_docC m v k hk,cond_true]
  have e1:(putX m (k:Int) v).pl=m.pl:=putX_pl m h v
  have e2:(fun j=>bif Nat.beq (j+1) (1+(k:Int).toNat*1)then v else m.x j)=regD m.x (k:Int) v:=by
   funext j;unfold regD;rw[decide_eq_true h0,Bool.true_and]
  have e3:docB 93 (putX m (k:Int) v)=docB 93 (setD m (k:Int) v):=by
   unfold docB docC
   rw[e1]
   show Blk.var (_++regs (fun j=>bif Nat.beq (j+1) (1+(k:Int).toNat*1)then v else m.x j)++_)=_
   rw[e2];rfl
  rw[e3]
 ·have e2:regD m.x (k:Int) v=m.x:=by funext j;unfold regD;rw[decide_eq_false h0];rfl
  have e3:setD m (k:Int) v=m:=by unfold setD;rw[e2]
  rw[decide_eq_false h0,cond_false,e3]
theorem bis_doc93 {P:Program}{σ:Nm}{d:MS} (h:σ 93=some 93):BIs P σ (docB 93 d) (docB 93 d):=bis_doc h
theorem b66 (m:MS) (v:Int){r:Int} (h:inR r):Body Try.prog 66 [docV 93 m,.int .i64 r,.int .u64 v] [] (docV 93 (setD m r v)) (mkH [(100,docB 93 (setD m r v))]) 100 1 :=
 body_walk FOK fx66 (by simp) (v66 m v h) rfl ⟨mkT [6] [.pointer (some ⟨100,0,some 0⟩)],mkH [(100,docB 93 (setD m r v))],101⟩ (fun ρ w hd=>⟨_,[(100,docB 93 (setD m r v))],_,rfl,rfl,⟨rfl,trivial⟩,bis_doc93 rfl,trivial⟩) ⟨rfl,trivial⟩ rfl rfl
theorem adet_newD {f:FuncId}{vs:List Value}{pre:List (Nat × Blk)}{v:Value}{b:Blk}{upd:Hp} (h:Body Try.prog f vs (mkH pre) v ((100,some b) :: upd) 100 1){n:Nat} (hn:100<=n)
  (hvs:rnL (asc π93) vs=vs) (hpre:HsOK Try.prog (asc π93) (hget (mkH pre)) [] (mkH pre)) (hpn:nodupB (namesOf (asc π93) [] (mkH pre))=true)
  (hb:b.ro=false) (hur:updRW upd=true) (hv:∀ d,rn (asc ((d+100,100) :: π93)) v=v) (hbb:∀ d,BIs Try.prog (asc ((d+100,100) :: π93)) b b)
  (hup:∀ d,HsOK Try.prog (asc ((d+100,100) :: π93)) (hget ((100,some b) :: upd++mkH pre)) [d+100] (upd++mkH pre)) (hun:∀ d,natMem 100 (namesOf (asc ((d+100,100) :: π93)) [d+100] (upd++mkH pre))=false/\nodupB (namesOf (asc ((d+100,100) :: π93)) [d+100] (upd++mkH pre))=true) :
  ADet Try.prog f vs (mkH pre) v ((n,some b) :: upd) n 1:=by
 obtain⟨d,rfl⟩:∃ d,n=d+100:=⟨n-100,by omega⟩
 refine adet_of_body h π93 [(d+100,100)] ?_ hvs hpre hpn (hv d) ?_ ?_
 ·simp only[namesOK,List.all_cons,List.all_nil,updRW,hb,hur,Bool.not_false]
  rw[nOK1]
  rfl
 ·refine⟨?_,hup d⟩
  show(match asc ((d+100,100) :: π93) (d+100)with|some id0=>(match hget ((100,some b) :: upd++mkH pre) id0 with|some x=>BIs Try.prog (asc ((d+100,100) :: π93)) b x|none=>False)|none=>False)
  rw[asc_new]
  exact hbb d
 ·show nodupB (match natMem (d+100) [],some b,asc ((d+100,100) :: π93) (d+100)with|false,some _,some x=>x :: namesOf (asc ((d+100,100) :: π93)) [d+100] (upd++mkH pre)|_,_,_=>_)=true
  rw[asc_new]
  show(!natMem 100 _&&nodupB _)=true
  rw[(hun d).1,(hun d).2];rfl
theorem c66 (m:MS) (v:Int){r:Int} (h:inR r){n:Nat} (hn:100<=n):ADet Try.prog 66 [docV 93 m,.int .i64 r,.int .u64 v] [] (docV 93 (setD m r v)) [(n,some (docB 93 (setD m r v)))] n 1 :=
 adet_newD (pre:=[]) (upd:=[]) (b66 m v h) hn rfl trivial rfl rfl rfl (fun d=>rfl) (fun d=>bis_doc93 rfl) (fun d=>trivial) (fun d=>⟨rfl,rfl⟩)
noncomputable def con66 (m:MS) (r v:Int):Con Try.prog where
 f:=66
 run:=fun vs h n=>some ([],docV 93 (setD m r v),[(n,some (docB 93 (setD m r v)))],1,decP (vs=[docV 93 m,.int .i64 r,.int .u64 v]/\inR r)&&Nat.ble 100 n)
 ok:=fun vs h n pre' v' upd news hx=>by
  simp only[Option.some.injEq,Prod.mk.injEq,Bool.and_eq_true]at hx
  obtain⟨rfl,rfl,rfl,rfl,hA,hn⟩:=hx
  obtain⟨rfl,hr⟩:=of_decP hA
  exact⟨fun id hid=>by simp[fstL]at hid,c66 m v hr (ble_le hn)⟩
abbrev T64 (i o a:Int):Tm:=mkT [8,7,3,1] [.int .i64 i,.int .u64 o,q100,.int .u64 a]
theorem p64_a (m:MS) (a n:Int):walk (lookF FL) noSc 1000 x64 (argTm 0 [docV 93 m,.int .u64 a,.int .i64 n]) (mkH [(93,m.memB)]) 100 j0_ j0_ ⟨[8,7,3],[.tmp 3],[1],[93]⟩ =
  some ⟨⟨[some (true,.int .i64 (IntKind.i64.wrap (n-1))),some (true,.int .u64 0),some (true,q100)],[(100,some (docB 93 m))],.normal,101⟩,some (x64_10,[.bl 0,.sq x64_15])⟩:=by kernel_rfl
theorem p64_b (m:MS) (a i o:Int):walk (lookF FL) noSc 1000 x64_10 (T64 i o a) (mkH [(100,docB 93 m),(93,m.memB)]) 101 ⟨[8,7],[],[3,1],[100,93]⟩ j0_ j0_ =
  bif decide (i>=0)then bif ((0+(IntKind.i64.wrap (IntKind.i64.wrap a+i)).toNat).blt m.sz&&true||false)&&((intRange (IntKind.i64.wrap (IntKind.i64.wrap a+i)) m.sz&&true||false)&&true)then some ⟨⟨[some (true,.int .i64 (IntKind.i64.wrap (i-1))),some (true,.int .u64 (IntKind.u64.wrap (IntKind.u64.wrap (o*256)+IntKind.u64.wrap (m.mem (0+(IntKind.i64.wrap (IntKind.i64.wrap a+i)).toNat)))))],[],.normal,101⟩,none⟩else none
  else some ⟨⟨[some (true,.int .i64 i),some (true,.int .u64 o)],[],.exit 0,101⟩,none⟩:=by kernel_rfl
theorem p64_c (m:MS) (a i o:Int):walk (lookF FL) noSc 1000 x64_15 (T64 i o a) (mkH [(100,docB 93 m),(93,m.memB)]) 101 j0_ ⟨[6],[],[],[93]⟩ j0_ =
  some ⟨⟨[some (true,.int .u64 o)],[],.ret,101⟩,none⟩:=by kernel_rfl
def numR (f:Nat->Int) (k:Nat):Nat->Int
 |0=>0
 |n+1=>f k+256*numR f (k+1) n
def ByOK (f:Nat->Int):Prop:=∀ j,0<=f j/\f j<256
theorem numR_rng {f:Nat->Int} (hf:ByOK f):∀ n k:Nat,0<=numR f k n/\numR f k n<256 ^ n
 |0,k=>⟨Int.le_refl _,by show(0:Int)<1;omega⟩
 |n+1,k=>by
  have h:=numR_rng hf n (k+1)
  have h0:=hf k
  unfold numR
  rw[Int.pow_succ]
  generalize (256:Int) ^ n=p at *
  omega
theorem numR_byte {f:Nat->Int} (hf:ByOK f):∀ n k j:Nat,j<n->numR f k n / 2 ^ (8*j) % 256=f (k+j)
 |0,k,j,h=>absurd h (Nat.not_lt_zero _)
 |n+1,k,0,h=>by
  have h0:=hf k
  unfold numR
  rw[Nat.mul_zero,Int.pow_zero,Int.ediv_one]
  show _=f k
  omega
 |n+1,k,j+1,h=>by
  have h0:=hf k
  have ih:=numR_byte hf n (k+1) j (by omega)
  have e:(f k+256*numR f (k+1) n) / 256=numR f (k+1) n:=by omega
  unfold numR
  rw[show 8*(j+1)=8+8*j by omega,Int.pow_add,<- Int.ediv_ediv_of_nonneg (by decide),show(2:Int) ^ 8=256 from rfl,e,ih]
  congr 1;omega
theorem numF_R {f:Nat->Int} (hf:ByOK f){n:Nat} (hn:n84 n) (k:Nat):numF n f k=numR f k n:=by
 obtain⟨h0,h1⟩:=numR_rng hf n k
 have hb:∀ j,j<n->f (k+j)=byteX (numR f k n) j:=fun j hj=>by
  rw[byteX_val h0 j (by rcases hn with rfl|rfl|rfl<;>omega),numR_byte hf n k j hj]
 rcases hn with rfl|rfl|rfl
 ·show num1 f k=_;rw[num1_val h0 (hb 0 (by omega))];omega
 ·show num4 f k=_;rw[num4_val h0 (by omega) hb];omega
 ·show num8 f k=_;exact num8_val h0 (by omega) hb
theorem b64 {m:MS} (hm:ByOK m.mem) (hs:szB m.sz=true){a:Int}{n:Nat} (hn:n84 n) (ha0:0<=a) (ha:a+n<=m.sz):Body Try.prog 64 [docV 93 m,.int .u64 a,.int .i64 (n:Int)] (mkH [(93,m.memB)]) (.int .u64 (numF n m.mem a.toNat)) [] 100 0:=by
 have hs':m.sz<=4194304:=szB_iff.1 hs
 rw[numF_R hm hn]
 have hn8:n<=8:=by rcases hn with rfl|rfl|rfl<;>omega
 obtain⟨A,rfl⟩:∃ A:Nat,a=A:=⟨a.toNat,by omega⟩
 rw[Int.toNat_natCast]
 refine body_of' mixed fx64 (by simp) fun E Q hP hE hcl hfin=>?_
 have hF:FnsOK E.P (lookF FL) noSc:=hP▸FOK
 let S:Nat->St:=fun j=>⟨T64 ((n:Int)-1-j) (numR m.mem (A+n-j) j) (A:Int),mkH [(100,docB 93 m),(93,m.memB)],101⟩
 have lf:∀ {ex:Exit}{q:Nat}{ks:List Nat}{vs:List Value}{ts:List (Option (Bool × Value))},tsOK (stayOr 100 [(100,100),(93,93)]) ts vs->LeafTo E ks ⟨ts,[(100,some (docB 93 m)),(93,some m.memB)],ex,q⟩ ⟨mkT ks vs,mkH [(100,docB 93 m),(93,m.memB)],101⟩:=fun ht=>⟨_,[(100,docB 93 m),(93,m.memB)],101,rfl,by rw[hE];rfl,by rw[hE];exact ht,by rw[hE,hP];exact⟨bis_doc93 rfl,bis_mem,trivial⟩⟩
 have ea:=p64_a m (A:Int) (n:Int)
 rw[wrap_i (n:=(n:Int)-1) (by omega) (by omega)]at ea
 refine xwp_toLoop (s:=⟨_,_,_⟩) hF 1000 ea (S 0) (lf ⟨by show some (true,Value.int .i64 _)=some (true,Value.int .i64 ((n:Int)-1-((0:Nat):Int)));congr 3;omega,rfl,rfl,rfl,trivial⟩) ?_
 refine xwp_loopR (ι:=Nat) S (fun j=>j<=n) (fun j=>n-j) 0 (Nat.zero_le _) fun j hj=>?_
 have hcr:=cl_round (S:=S) (I:=fun j=>j<=n) (μ:=fun j=>n-j) (i:=j) (cl_ctx hcl [.bl 0,.sq x64_15])
 have e:=p64_b m (A:Int) ((n:Int)-1-j) (numR m.mem (A+n-j) j)
 by_cases hlt:j<n
 ·have hi:IntKind.i64.wrap (IntKind.i64.wrap (A:Int)+((n:Int)-1-j))=((A+n-(j+1):Nat):Int):=by rw[wrap_i (n:=(A:Int)) (by omega) (by omega),wrap_i (by omega) (by omega)];omega
  have i1:intRange ((A+n-(j+1):Nat):Int) m.sz=true:=by rw[ir_nat];exact decide_eq_true (by omega)
  rw[decide_eq_true (show(n:Int)-1-j>=0 by omega),cond_true,hi,i1,Int.toNat_natCast,Nat.zero_add,lt_blt (show A+n-(j+1)<m.sz by omega),wrap_i (n:=(n:Int)-1-j-1) (by omega) (by omega)]at e
  simp only[Bool.and_self,Bool.or_false,Bool.and_true,cond_true]at e
  obtain⟨r0,r1⟩:=numR_rng hm (j+1) (A+n-(j+1))
  have hb:=hm (A+n-(j+1))
  have hrec:numR m.mem (A+n-(j+1)) (j+1)=m.mem (A+n-(j+1))+256*numR m.mem (A+n-j) j:=by
   show m.mem (A+n-(j+1))+256*numR m.mem (A+n-(j+1)+1) j=_
   rw[show A+n-(j+1)+1=A+n-j by omega]
  obtain⟨s0,s1⟩:=numR_rng hm j (A+n-j)
  have hp:(256:Nat) ^ (j+1)<=256 ^ 8:=Nat.pow_le_pow_right (by decide) (by omega)
  have hp1:((256 ^ (j+1):Nat):Int)<=18446744073709551616:=Int.ofNat_le.2 hp
  have hp2:((256 ^ (j+1):Nat):Int)=256 ^ (j+1):=by rw[Int.natCast_pow];rfl
  have hw:IntKind.u64.wrap (IntKind.u64.wrap (numR m.mem (A+n-j) j*256)+IntKind.u64.wrap (m.mem (A+n-(j+1))))=numR m.mem (A+n-(j+1)) (j+1):=by
   rw[hrec]at r0 r1 ⊢
   rw[u64_wrap,u64_wrap,u64_wrap]
   generalize (256:Int) ^ (j+1)=p at *
   generalize numR m.mem (A+n-j) j=y at *
   generalize m.mem (A+n-(j+1))=z at *
   omega
  rw[hw]at e
  exact xwp_toEnd (s:=S j) hcr hF 1000 e (S (j+1)) (lf ⟨by show some (true,Value.int .i64 _)=some (true,Value.int .i64 ((n:Int)-1-((j+1:Nat):Int)));congr 3;omega,rfl,rfl,rfl,trivial⟩) ⟨j+1,hlt,by simp only;omega,Wk.refl _ _⟩
 ·have:j=n:=by omega
  subst this
  rw[decide_eq_false (show ¬ (j:Int)-1-j>=0 by omega),cond_false]at e
  refine xwp_toEnd (s:=S j) hcr hF 1000 e (S j) (lf ⟨rfl,rfl,rfl,rfl,trivial⟩) ?_
  refine xwp_toEnd (s:=S j) hcl hF 1000 (p64_c m (A:Int) ((j:Int)-1-j) (numR m.mem (A+j-j) j)) ⟨mkT [6] [.int .u64 (numR m.mem A j)],mkH [(93,m.memB)],100⟩ ⟨_,[(93,m.memB)],100,rfl,by rw[hE];rfl,by rw[hE];exact⟨by rw[Nat.add_sub_cancel];rfl,trivial⟩,by rw[hE,hP];exact⟨bis_mem,trivial⟩⟩ (hfin _ _ (fin_of rfl (by exact⟨rfl,trivial⟩) (by rw[hE]) rfl))
theorem det64 {m:MS} (hm:ByOK m.mem) (hs:szB m.sz=true){a:Int}{n:Nat} (hn:n84 n) (ha0:0<=a) (ha:a+n<=m.sz):DetG 64 [docV 93 m,.int .u64 a,.int .i64 (n:Int)] [(93,m.memB)] (.int .u64 (numF n m.mem a.toNat)) :=
 ⟨rfl,fun k=>adet_of_body (b64 hm hs hn ha0 ha) π93 [] rfl rfl ⟨bis_mem,trivial⟩ rfl rfl ⟨bis_mem,trivial⟩ rfl⟩
def rcC (bo bs:Bool) (a b k L C oN sN:Nat) (mk:Int):List Value:=[.slice (some ⟨40,k,none⟩) L C,vOa a bo oN,.int .i64 mk,vOa b bs sN]
def rcV (bo bs:Bool) (a b k L C oN sN:Nat) (mk:Int):Value:=.agg ⟨rcC bo bs a b k L C oN sN mk⟩
def rcB (bo bs:Bool) (a b k L C oN sN:Nat) (mk:Int):Blk:=.var (rcC bo bs a b k L C oN sN mk)
def dxO (bo:Bool) (a oN:Nat) (of:Nat->Int):List (Nat × Blk):=bif bo then[(a,outB oN of)]else[]
def dxW (bs:Bool) (b sN:Nat) (sf:Nat->List Value):List (Nat × Blk):=bif bs then[(b,seB sN sf)]else[]
abbrev pt (n:Nat):Value:=.pointer (some ⟨n,0,some 0⟩)
def oneI (b:Bool) (a:Nat):List Nat:=bif b then[a]else[]
end Go.X
