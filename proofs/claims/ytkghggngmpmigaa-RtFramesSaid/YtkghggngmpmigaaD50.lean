import Derived.Test.YtkghggngmpmigaaD49
import Derived.Test.YtkghggngmpmigaaD29
set_option linter.all false
namespace Go.X
open Go Go.Proofs
theorem lb_enter {heap:Int} (h:IsH heap):(rtM heap).has (.string (lbN 6))=true/\(rtM heap).val (.string (lbN 6))=4*((41:Nat):Int):=rtM_at h (i:=0) (n:=6) rfl rfl
theorem lb_leave {heap:Int} (h:IsH heap):(rtM heap).has (.string (lbN 7))=true/\(rtM heap).val (.string (lbN 7))=4*((47:Nat):Int):=rtM_at h (i:=1) (n:=7) rfl rfl
theorem at_peek {m:MS} (hs:szB m.sz=true){i:Nat} (hi:i+8<=m.sz){g:Nat->Int} (hg:∀ j,j<8->m.mem (i+j)=g j){N:Nat} (hN:N=131\/N=133) :
  AtN 11 [pAt 92,.int .i64 (i:Int),.int .i64 8] (m.HA 90 91 92) (.tuple ⟨[.slice (some ⟨N,0,none⟩) 8 8,.int .i64 0]⟩) (mkH [(N,outB 8 g)]) N 1:=by
 have hb:∀ {σ:Nm},BIs Try.prog σ (outB 8 g) (outB 8 fun j=>m.mem (i+j)):=⟨rfl,rfl,fun j hj=>by
  show[Value.int .u8 (g j)]=[Value.int .u8 (m.mem (i+j))]
  rw[hg j hj],.inl rfl,.inr rfl⟩
 have h:=b37 (l:=8) hs hi
 rcases hN with rfl|rfl
 ·exact⟨rfl,adet_of_body h [(90,90),(91,91),(92,92)] [(131,100)] rfl rfl ⟨bis_mem,bis_kn,bis_mAt (a:=90) (b:=91) rfl rfl,trivial⟩ rfl rfl ⟨hb,bis_mem,bis_kn,bis_mAt (a:=90) (b:=91) rfl rfl,trivial⟩ rfl⟩
 ·exact⟨rfl,adet_of_body h [(90,90),(91,91),(92,92)] [(133,100)] rfl rfl ⟨bis_mem,bis_kn,bis_mAt (a:=90) (b:=91) rfl rfl,trivial⟩ rfl rfl ⟨hb,bis_mem,bis_kn,bis_mAt (a:=90) (b:=91) rfl rfl,trivial⟩ rfl⟩
theorem lkA_eq {j:Nat} (h:j<1000):lkA ((j+1:Nat):Int)=((8*(33280+4*(j+1)):Nat):Int):=by
 show IntKind.i64.wrap (266240+IntKind.i64.wrap (32*IntKind.i64.wrap ((j+1:Nat):Int)))=_
 rw[wrap_i (n:=((j+1:Nat):Int)) (by omega) (by omega),wrap_i (n:=32*((j+1:Nat):Int)) (by omega) (by omega),wrap_i (by omega) (by omega)]
 omega
theorem do_peek {m:MS}{x d:Nat->Int} (hy:Yd 327680 m x d){j:Nat} (hj:j<1000){N:Nat} (hN:N=131\/N=133){k:Int} (hk:k=((j+1:Nat):Int)){g:Nat->Int} (hg:∀ i,i<8->byteX (d (33280+4*(j+1))) i=g i) :
  decP (D11 m (lkA k) ((8*(33280+4*(j+1)):Nat):Int) g N)=true:=by
 refine decP_true ⟨by rw[hk,lkA_eq hj],⟨rfl,rfl,rfl,trivial⟩,?_⟩
 have hsz:m.sz=2621440:=hy.at_.sz
 have hm:m.mem=dB d:=hy.at_.mem
 exact at_peek hy.ok.sz (by rw[hsz];omega) (fun i hi=>by rw[hm,dB_at hi];exact hg i hi) hN
theorem do_enter {m:MS}{x d:Nat->Int} (hy:Yd 327680 m x d){n M K:Nat}{ks:Nat->Int} (hf:Fs d n M K ks) (hM:M<=100) (hK:K<=1000) :
  ∃ m' x' d' M',Yd 327680 m' x' d'/\x' 10=((K+1:Nat):Int)/\x' 11=((n+1:Nat):Int)/\Fs d' (n+1) M' (K+1) (upd ks n ((K+1:Nat):Int))/\M'<=M+1 /\
   decP (DA 10 [yV,.string (lbN 6),.slice none 0 0] (yH m (rtM 327680)) (ansV 0 x' true) (mkH (m'.HA 90 91 92++[(130,.var (r5 x'))])) 130 1)=true:=by
 obtain⟨x',d',M',a1,a2,a3,a4,a5,a6⟩:=rt_enter h_A (x:=x) (d:=d) hy.at_.x0 hf hM hK
 obtain⟨m',y1,y2⟩:=call_ok p310_0 (by decide) h_A hy (by decide) (lb_enter h_A).1 (lb_enter h_A).2 (a:=fun _=>0) (fun j hj=>absurd hj (Nat.not_lt_zero _)) a1 (by decide) a6
 exact⟨m',x',d',M',y1,a2,a3,a4,a5,da_true (at_call0 y2) ⟨rfl,rfl,rfl,rfl,trivial⟩⟩
theorem do_leave {m:MS}{x d:Nat->Int} (hy:Yd 327680 m x d){n M K:Nat}{ks:Nat->Int} (hf:Fs d (n+1) M K ks) (hM:M<=100) :
  ∃ m' x' d',Yd 327680 m' x' d'/\Fs d' n M K ks/\d' (33280+4*(n+1))=0/\decP (DY m (rtM 327680) (lbN 7) 1 130 (slF [.int .u64 ((n+1:Nat):Int)]) 0 x' m')=true:=by
 have:=hf.nM
 obtain⟨x',d',a1,a2,a3,a4⟩:=rt_leave h_A (x:=x) (d:=d) hy.at_.x0 hf hM
 obtain⟨m',y1,y2⟩:=call_ok p310_1 (by decide) h_A hy (by decide) (lb_leave h_A).1 (lb_leave h_A).2 (a:=fun _=>((n+1:Nat):Int)) (fun j _=>uB_iff.2 (by omega)) a1 (by decide) a4
 exact⟨m',x',d',y1,a2,a3,da_y (n:=0) (.inl rfl) (at_callY (.inl rfl) (fun j hj=>by
  obtain rfl:j=0:=by omega
  rfl) y2)⟩
structure Z7 where
 i:Nat
 K:Nat
 n:Nat
 c:Nat
 a:Nat->Int
 b:Nat->Int
 m:MS
structure J7 (z:Z7) (lim:Nat):Prop where
 nc:z.n<=z.c
 lb:∀ j,j<z.n->z.b j=((j+1:Nat):Int)
 ab:∀ j,j<z.n->0<=z.a j/\z.a j<256
 KL:z.K<=lim+1
 m:∃ x d M,Yd 327680 z.m x d/\Fs d z.n M z.K z.a/\M<=lim
theorem J7.mono {z:Z7} {l l':Nat} (h:J7 z l) (hl:l<=l'):J7 z l':=by
 obtain⟨h1,h2,h3,h4,x,d,M,h5,h6,h7⟩:=h
 exact⟨h1,h2,h3,by omega,x,d,M,h5,h6,by omega⟩
theorem J7.at_i {z:Z7}{l:Nat} (h:J7 z l) (i:Nat):J7 { z with i:=i } l:=⟨h.nc,h.lb,h.ab,h.KL,h.m⟩
def S7 (L C:Nat) (s:Nat->Bool) (z:Z7):St:=⟨mkT [7,6,5,3,0] (V7 z.i z.K z.n z.c L C),mkH (B7 z.m (rtM 327680) z.c z.a z.b L s),130⟩
theorem bis_s7 {σ:Nm}{L:Nat}{s:Nat->Bool}:BIs Try.prog σ (sB7 L s) (sB7 L s):=⟨rfl,rfl,fun _ _=>rfl,.inr (.inr rfl),.inl rfl⟩
theorem bis_fr {σ:Nm}{c:Nat}{a b:Nat->Int}:BIs Try.prog σ (frB c a b) (frB c a b):=⟨rfl,rfl,fun _ _=>rfl,.inl rfl,.inr rfl⟩
theorem lf7 {E:FEnv} (hP:E.P=Try.prog) (hE:E.B.n=50){L C:Nat}{s:Nat->Bool}{m:MS}{c n:Nat}{i K:Int}{a b:Nat->Int}{l:Leaf} (hb:l.bs=mkH (B7 m (rtM 327680) c a b L s))
  (ht:l.ts=(V7 i K n c L C).map fun v=>some (true,v)):LeafTo E [7,6,5,3,0] l ⟨mkT [7,6,5,3,0] (V7 i K n c L C),mkH (B7 m (rtM 327680) c a b L s),130⟩ :=
 ⟨_,_,_,rfl,by rw[hE,hb];cases c<;>rfl,by rw[hE,hb,ht];cases c<;>exact⟨rfl,rfl,rfl,rfl,rfl,trivial⟩,by
  rw[hE,hP,hb]
  cases c
  ·exact⟨bis_mem,bis_kn,bis_mAt (a:=90) (b:=91) rfl rfl,bis_lmap,rfl,bis_s7,trivial⟩
  ·exact⟨bis_mem,bis_kn,bis_mAt (a:=90) (b:=91) rfl rfl,bis_lmap,rfl,bis_fr,bis_s7,trivial⟩⟩
theorem xwp_regH {E:FEnv}{Q:Post}{s:St} (hcl:Cl E.toEnv Q) (hints:List (Nat × Nat)){l:List XOper}{ks:List Nat}{rs:List Ref}{lf:Leaf}
  (he:(xrun (fun _ _ _ _ _=>none) hints l 0 s.t s.h s.n true True []).map (fun r=>(r.ok,prjK ks rs .normal r.t r.h r.n))=some (true,some lf)) (s':St) (hl:LeafTo E ks lf s') (hQ:Q .normal s'):XWP E.toEnv (.region l) Q s:=by
 have hce:(fun _ _ _ _ _=>none:CE)=ceOf E.P []:=rfl
 rw[hce]at he
 cases hx:xrun (ceOf E.P []) hints l 0 s.t s.h s.n true True []with
 |none=>rw[hx]at he;cases he
 |some r =>
  rw[hx]at he
  simp only[Option.map_some,Option.some.injEq,Prod.mk.injEq]at he
  exact xwp_region [] hints (t:=r.t) (h:=r.h) (n:=r.n) (ok:=r.ok) (pr:=r.pr) (tr:=r.tr) hx he.1 (xrun_pr (ce:=ceOf E.P []) (fun _ _ _ _ _ _ _ _ _ _ _ h=>by cases h) hx trivial) (hcl _ _ _ (hl.wk he.2) hQ)
theorem cl_wkP' {E:Env}{Q:Post}:Cl E (wkP E Q):=fun _ _ _ hw ⟨s,h1,h2⟩=>⟨s,hw.trans h1,h2⟩
section
variable {E:FEnv}{Q:Post} (hP:E.P=Try.prog) (hE:E.B.n=50) (hcl:Cl E.toEnv Q){L C:Nat}{s:Nat->Bool}
include hP hE hcl
theorem tail7 {z:Z7}{lim:Nat} (hz:J7 z lim) (hlim:lim<=60) (hQ:Q .normal (S7 L C s z)):XWP E.toEnv x307_68 Q (S7 L C s z):=by
 obtain⟨i,K,n,c,a,b,m⟩:=z
 obtain⟨nc,lb,ab,KL,x,d,M,hy,hf,hM⟩:=hz
 simp only at nc lb ab KL hy hf hM
 have hF:FnsOK E.P (lookF FL) noSc:=hP▸FOK
 let T:Nat->St:=fun j=>⟨mkT [123,122,121,7,6,5,3,0] ([.int .i64 (j:Int),.int .i64 (n:Int),frV n c]++V7 i K n c L C),mkH (B7 m (rtM 327680) c a b L s),130⟩
 have lfT:∀ {j:Nat}{l:Leaf},l.bs=mkH (B7 m (rtM 327680) c a b L s)->l.ts=([.int .i64 (j:Int),.int .i64 (n:Int),frV n c]++V7 i K n c L C).map (fun v=>some (true,v))->LeafTo E [123,122,121,7,6,5,3,0] l (T j):=fun {j l} hb ht =>
  ⟨_,_,_,rfl,by rw[hE,hb];cases c<;>rfl,by rw[hE,hb,ht];cases c<;>exact⟨rfl,rfl,rfl,rfl,rfl,rfl,rfl,rfl,trivial⟩,by
   rw[hE,hP,hb]
   cases c
   ·exact⟨bis_mem,bis_kn,bis_mAt (a:=90) (b:=91) rfl rfl,bis_lmap,rfl,bis_s7,trivial⟩
   ·exact⟨bis_mem,bis_kn,bis_mAt (a:=90) (b:=91) rfl rfl,bis_lmap,rfl,bis_fr,bis_s7,trivial⟩⟩
 refine xwp_toLoop (s:=S7 L C s ⟨i,K,n,c,a,b,m⟩) hF 1000 (p307_68 L C i n c (K:Int) s a b m (rtM 327680) (by omega)) (T 0) (lfT (j:=0) (by cases c<;>rfl) (by cases c<;>rfl)) ?_
 refine xwp_loopR (ι:=Nat) T (fun j=>j<=n) (fun j=>n-j) 0 (Nat.zero_le _) fun j hj=>?_
 have hcr:=cl_round (S:=T) (I:=fun j=>j<=n) (μ:=fun j=>n-j) (i:=j) (cl_ctx hcl [.bl 2])
 have out:roundP E.toEnv T (fun j=>j<=n) (fun j=>n-j) j (ctxP E.toEnv [.bl 2] Q) (.exit 2) (T j):=by
  show Q .normal (T j)
  refine hcl _ _ _ ?_ hQ
  refine LeafTo.wk (E:=E) (ks:=[7,6,5,3,0]) (rs:=(Q7 c).map .id) (e:=.normal) (l:=⟨(V7 i K n c L C).map fun v=>some (true,v),mkH (B7 m (rtM 327680) c a b L s),.normal,130⟩) (lf7 hP hE rfl rfl) ?_
  cases c<;>rfl
 cases c with
 |zero =>
  obtain rfl:n=0:=by omega
  obtain rfl:j=0:=by omega
  exact xwp_toEnd (s:=T 0) hcr hF 1000 (p307_65n L C i (K:Int) s a b m (rtM 327680)) (T 0) (lfT (j:=0) rfl rfl) out
 |succ c =>
  by_cases hlt:j<n
  ·have hal:=hf.lock j hlt
   have hkey:=ab j hlt
   obtain⟨g,hg⟩:∃ g:Nat->Int,g=fun q=>byteX (d (33280+4*(j+1))) q:=⟨_,rfl⟩
   have hnM:=hf.nM
   have dp:=do_peek hy (j:=j) (by omega) (N:=131) (.inl rfl) (k:=b (0+j)) (by rw[Nat.zero_add];exact lb j hlt) (g:=g) (fun q hq=>by rw[hg])
   have g0:IntKind.u64.wrap (g 0)=a (0+j):=by
    rw[Nat.zero_add,hg]
    show IntKind.u64.wrap (byteX (d (33280+4*(j+1))) 0)=_
    rw[hal,byteX_val hkey.1 0 (by decide),u64w]
    simp only[Nat.mul_zero,Int.reducePow];omega
   have e:=p307_65 L C i n c j (K:Int) s a b g m (rtM 327680) ((8*(33280+4*(j+1)):Nat):Int)
   rw[decide_eq_true (show(j:Int)<(n:Int) by omega),lt_blt (show 0+j<c+1 by omega),ir_nat,decide_eq_true hlt,dp,g65_t,g0,wrap_i (n:=(j:Int)+1) (by omega) (by omega),show(a (0+j) != a (0+j))=false by simp,
    show b (0+j)=((j+1:Nat):Int) by rw[Nat.zero_add];exact lb j hlt,show(((j+1:Nat):Int)==0)=false by simp;omega,wrap_i (n:=((j+1:Nat):Int)) (by omega) (by omega),show(((j+1:Nat):Int) != (j:Int)+1)=false by simp]at e
   simp only[Bool.and_self,Bool.or_false,Bool.not_false,cond_true,cond_false]at e
   exact xwp_toEnd (s:=T j) hcr (fokE hP _) 1000 e (T (j+1)) (lfT (j:=j+1) rfl rfl) ⟨j+1,hlt,by simp only;omega,Wk.refl _ _⟩
  ·obtain⟨g0,k0,_⟩:∃ (g0:Nat->Int) (k0:Int),True:=⟨fun _=>0,0,trivial⟩
   have e:=p307_65 L C i n c j (K:Int) s a b g0 m (rtM 327680) k0
   rw[decide_eq_false (show ¬ (j:Int)<(n:Int) by omega),cond_false]at e
   exact xwp_toEnd (s:=T j) hcr (fokE hP _) 1000 e (T j) (lfT (j:=j) rfl rfl) out
end
theorem put_rows {a b x:Nat->Int}{n:Nat}{u v:Int} (h10:x 10=u) (h11:x 11=v) (j:Nat):rowPut (abF a b) (0+n) 1 (new2 x) j=[.int .u64 (upd a n u j),.int .u64 (upd b n v j)]:=by
 unfold rowPut upd
 rw[Nat.zero_add]
 by_cases e:j=n
 ·subst e
  rw[ble_dec,blt_dec,decide_eq_true (Nat.le_refl j),decide_eq_true (Nat.lt_succ_self j),beq_tt,Nat.sub_self,<- h10,<- h11];rfl
 ·rw[ble_dec,blt_dec,beq_ff e,<- Bool.decide_and,decide_eq_false (by omega)];rfl
theorem cat_rows {a b x:Nat->Int}{n:Nat}{u v:Int} (h10:x 10=u) (h11:x 11=v){j:Nat} (hj:j<n+1):rowCat (abF a b) 0 n (new2 x) j=[.int .u64 (upd a n u j),.int .u64 (upd b n v j)]:=by
 unfold rowCat upd
 by_cases e:j=n
 ·subst e
  rw[blt_ff (Nat.lt_irrefl j),beq_tt,Nat.sub_self,<- h10,<- h11];rfl
 ·rw[lt_blt (show j<n by omega),beq_ff e,Nat.zero_add];rfl
section
variable {E:FEnv}{Q:Post} (hP:E.P=Try.prog) (hE:E.B.n=50) (hcl:Cl E.toEnv Q){L C:Nat}{s:Nat->Bool}
include hP hE hcl
theorem enter7 {z:Z7}{lim:Nat} (hz:J7 z lim) (hlim:lim<=50) (next:∀ z':Z7,z'.i=z.i->J7 z' (lim+1)->Q .normal (S7 L C s z')) :
  XWP E.toEnv x307_24 Q ⟨mkT [44,7,6,5,3,0] (.bool true :: V7 z.i z.K z.n z.c L C),mkH (B7 z.m (rtM 327680) z.c z.a z.b L s),130⟩:=by
 obtain⟨i,K,n,c,a,b,m⟩:=z
 obtain⟨nc,lb,ab,KL,x,d,M,hy,hf,hM⟩:=hz
 simp only at nc lb ab KL hy hf hM
 have hF:FnsOK E.P (lookF FL) noSc:=hP▸FOK
 obtain⟨m1,x1,d1,M1,y1,e10,e11,hf1,hM1,dE⟩:=do_enter hy hf (by omega) (by omega)
 have e14:=p307_14 L C i n c (K:Int) s a b m m1 (rtM 327680) x1
 rw[dE]at e14
 have lfR:∀ {ks:List Nat}{vs:List Value}{l:Leaf},l.bs=mkH (RL m1 (rtM 327680) x1 c a b L s)->tsOK (stayOr 50 (pis (RL m1 (rtM 327680) x1 c a b L s) (mkH (RL m1 (rtM 327680) x1 c a b L s)))) l.ts vs->LeafTo E ks l ⟨mkT ks vs,mkH (RL m1 (rtM 327680) x1 c a b L s),132⟩:=fun {ks vs l} hb ht =>
  ⟨_,_,_,rfl,by rw[hE,hb];cases c<;>rfl,by rw[hE,hb];exact ht,by
   rw[hE,hP,hb]
   cases c
   ·exact⟨bis_mem,bis_kn,bis_mAt (a:=90) (b:=91) rfl rfl,rfl,bis_lmap,rfl,bis_s7,trivial⟩
   ·exact⟨bis_mem,bis_kn,bis_mAt (a:=90) (b:=91) rfl rfl,rfl,bis_lmap,rfl,bis_fr,bis_s7,trivial⟩⟩
 refine xwp_seqW (s:=⟨_,_,_⟩) hcl (fokE hP _) 1000 e14 rfl ⟨mkT [8,9,10,7,6,5,3,0] ([.int .i64 0,ptN 131,.bool true]++V7 i K n c L C),mkH (RL m1 (rtM 327680) x1 c a b L s),132⟩ (lfR (by cases c<;>rfl) (by cases c<;>exact⟨rfl,rfl,rfl,rfl,rfl,rfl,rfl,rfl,trivial⟩)) ?_
 have e19:=p307_19 L C i n c (K:Int) s a b m1 (rtM 327680) x1
 rw[show(x1 10 != IntKind.u64.wrap ((K:Int)+1))=false by rw[e10,u64w];simp;omega,cond_false]at e19
 refine xwp_seqW (s:=⟨_,_,_⟩) hcl hF 1000 e19 rfl ⟨mkT [5,9,7,3,0] [frV n c,ptN 131,.int .i64 (i:Int),ptN 62,vP true L C],mkH (RL m1 (rtM 327680) x1 c a b L s),132⟩ (lfR (by cases c<;>rfl) (by cases c<;>exact⟨rfl,rfl,rfl,rfl,rfl,trivial⟩)) ?_
 refine xwp_seqW (s:=⟨_,_,_⟩) hcl hF 1000 (p307_20 L C i n c s a b m1 (rtM 327680) x1) rfl ⟨T21 (x1 10) i n c L C,mkH (RL m1 (rtM 327680) x1 c a b L s),132⟩ (lfR (by cases c<;>rfl) (by cases c<;>exact⟨rfl,rfl,rfl,rfl,rfl,rfl,trivial⟩)) ?_
 have nx:∀ c',n+1<=c'->J7 ⟨i,K+1,n+1,c',upd a n ((K+1:Nat):Int),upd b n ((n+1:Nat):Int),m1⟩ (lim+1):=fun c' hc'=>by
  refine⟨hc',fun j hj=>?_,fun j hj=>?_,by simp only;omega,x1,d1,M1,y1,hf1,by omega⟩
  ·simp only[upd]
   by_cases e:j=n
   ·subst e;rw[beq_tt];rfl
   ·rw[beq_ff e];exact lb j (by simp only at hj;omega)
  ·simp only[upd]
   by_cases e:j=n
   ·subst e;rw[beq_tt,cond_true];omega
   ·rw[beq_ff e];exact ab j (by simp only at hj;omega)
 cases c with
 |zero =>
  obtain rfl:n=0:=by omega
  have e:=p307_21z L C i (x1 10) s a b m1 (rtM 327680) x1
  refine xwp_regH (s:=⟨_,_,_⟩) hcl [(7,1)] e (S7 L C s ⟨i,K+1,0+1,1,upd a 0 ((K+1:Nat):Int),upd b 0 ((0+1:Nat):Int),m1⟩) ⟨_,_,_,rfl,by rw[hE];rfl,by rw[hE,e10];exact⟨rfl,rfl,rfl,rfl,rfl,trivial⟩,?_⟩ (next _ rfl (nx 1 (Nat.le_refl _)))
  rw[hE,hP]
  refine⟨bis_mem,bis_kn,bis_mAt (a:=90) (b:=91) rfl rfl,bis_lmap,rfl,⟨rfl,rfl,fun j hj=>?_,.inl rfl,.inr rfl⟩,bis_s7,trivial⟩
  obtain rfl:j=0:=by omega
  show[Value.int .u64 ((K+1:Nat):Int),.int .u64 ((0+1:Nat):Int)]=[Value.int .u64 (x1 10),.int .u64 (x1 11)]
  rw[e10,e11]
 |succ c =>
  by_cases hr:n<c+1
  ·have e:=p307_21r L C i n c (x1 10) s a b m1 (rtM 327680) x1
   rw[ble_dec,ble_dec,decide_eq_true (show n+1<=c+1 by omega),Nat.zero_add,decide_eq_true (Nat.le_refl (c+1))]at e
   refine xwp_regH (s:=⟨_,_,_⟩) hcl [(7,2)] e (S7 L C s ⟨i,K+1,n+1,c+1,upd a n ((K+1:Nat):Int),upd b n ((n+1:Nat):Int),m1⟩) ⟨_,_,_,rfl,by rw[hE];rfl,by rw[hE,e10];exact⟨rfl,rfl,rfl,rfl,rfl,trivial⟩,?_⟩ (next _ rfl (nx (c+1) (by omega)))
   rw[hE,hP]
   refine⟨bis_mem,bis_kn,bis_mAt (a:=90) (b:=91) rfl rfl,bis_lmap,rfl,⟨rfl,rfl,fun j hj=>?_,.inl rfl,.inr rfl⟩,bis_s7,trivial⟩
   exact(put_rows e10 e11 j).symm
  ·obtain rfl:n=c+1:=by omega
   have e:=p307_21g L C i (c+1) c (x1 10) s a b m1 (rtM 327680) x1
   have hbig:c+1<=M:=by have:=hf.nM;omega
   rw[ble_dec,ble_dec,ble_dec,decide_eq_false (show ¬ c+1+1<=c+1 by omega),Nat.zero_add,decide_eq_true (Nat.le_refl (c+1)),decide_eq_true (show(c+1+1)*19<=1099511627776 by omega)]at e
   refine xwp_regH (s:=⟨_,_,_⟩) hcl [(7,1)] e (S7 L C s ⟨i,K+1,c+1+1,c+1+1,upd a (c+1) ((K+1:Nat):Int),upd b (c+1) ((c+1+1:Nat):Int),m1⟩) ⟨_,_,_,rfl,by rw[hE];rfl,by rw[hE,e10];exact⟨rfl,rfl,rfl,rfl,rfl,trivial⟩,?_⟩ (next _ rfl (nx (c+1+1) (Nat.le_refl _)))
   rw[hE,hP]
   refine⟨bis_mem,bis_kn,bis_mAt (a:=90) (b:=91) rfl rfl,bis_lmap,rfl,⟨rfl,rfl,fun j hj=>?_,.inl rfl,.inr rfl⟩,bis_s7,trivial⟩
   exact(cat_rows e10 e11 hj).symm
theorem leave7 {z:Z7}{lim:Nat} (hz:J7 z lim) (hlim:lim<=50) (next:∀ z':Z7,z'.i=z.i->J7 z' lim->Q .normal (S7 L C s z')) :
  XWP E.toEnv x307_46 Q ⟨mkT [44,7,6,5,3,0] (.bool false :: V7 z.i z.K z.n z.c L C),mkH (B7 z.m (rtM 327680) z.c z.a z.b L s),130⟩:=by
 have hz0:=hz
 obtain⟨i,K,n,c,a,b,m⟩:=z
 obtain⟨nc,lb,ab,KL,x,d,M,hy,hf,hM⟩:=hz
 simp only at nc lb ab KL hy hf hM
 have hF:FnsOK E.P (lookF FL) noSc:=hP▸FOK
 have hnM:=hf.nM
 have lfB:∀ {ks:List Nat}{vs:List Value}{l:Leaf},l.bs=mkH (B7 m (rtM 327680) c a b L s)->tsOK (stayOr 50 (pis (B7 m (rtM 327680) c a b L s) (mkH (B7 m (rtM 327680) c a b L s)))) l.ts vs->LeafTo E ks l ⟨mkT ks vs,mkH (B7 m (rtM 327680) c a b L s),130⟩:=fun {ks vs l} hb ht =>
  ⟨_,_,_,rfl,by rw[hE,hb];cases c<;>rfl,by rw[hE,hb];exact ht,by
   rw[hE,hP,hb]
   cases c
   ·exact⟨bis_mem,bis_kn,bis_mAt (a:=90) (b:=91) rfl rfl,bis_lmap,rfl,bis_s7,trivial⟩
   ·exact⟨bis_mem,bis_kn,bis_mAt (a:=90) (b:=91) rfl rfl,bis_lmap,rfl,bis_fr,bis_s7,trivial⟩⟩
 have e25:=p307_25 L C i n c (K:Int) s a b m (rtM 327680) (by omega) false
 rw[wrap_i (n:=(n:Int)-1) (by omega) (by omega)]at e25
 refine xwp_seqW (s:=⟨_,_,_⟩) hcl hF 1000 e25 rfl ⟨mkT [11,7,6,5,3,0] (.int .i64 ((n:Int)-1) :: V7 i K n c L C),mkH (B7 m (rtM 327680) c a b L s),130⟩ (lfB (by cases c<;>rfl) (by cases c<;>exact⟨rfl,rfl,rfl,rfl,rfl,rfl,trivial⟩)) ?_
 refine xwp_seqW (s:=⟨_,_,_⟩) hcl hF 1000 (p307_26 L C i n c (K:Int) s a b m (rtM 327680) ((n:Int)-1)) rfl ⟨mkT [78,11,7,6,5,3,0] (.bool (decide ((n:Int)-1>=0)) :: .int .i64 ((n:Int)-1) :: V7 i K n c L C),mkH (B7 m (rtM 327680) c a b L s),130⟩ (lfB (by cases c<;>rfl) (by cases c<;>exact⟨rfl,rfl,rfl,rfl,rfl,rfl,rfl,trivial⟩)) ?_
 cases n with
 |zero =>
  rw[decide_eq_false (show ¬ (((0:Nat):Int)-1>=0) by omega)]
  refine xwp_cnd (t:=false) rfl (xwp_skip ?_)
  refine hcl _ _ _ ?_ (next ⟨i,K,0,c,a,b,m⟩ rfl hz0)
  refine LeafTo.wk (E:=E) (ks:=[7,6,5,3,0]) (rs:=(Q7 c).map .id) (e:=.normal) (l:=⟨(V7 i K 0 c L C).map fun v=>some (true,v),mkH (B7 m (rtM 327680) c a b L s),.normal,130⟩) (lf7 hP hE rfl rfl) ?_
  cases c<;>rfl
 |succ n =>
  rw[decide_eq_true (show(((n+1:Nat):Int)-1>=0) by omega),show((n+1:Nat):Int)-1=(n:Int) by omega]
  refine xwp_cnd (t:=true) rfl ?_
  obtain⟨m1,x1,d1,y1,hf1,hd0,dL⟩:=do_leave hy hf (by omega)
  obtain⟨c,rfl⟩:∃ c',c=c'+1:=⟨c-1,by omega⟩
  have hbn:b (0+n)=((n+1:Nat):Int):=by rw[Nat.zero_add];exact lb n (Nat.lt_succ_self n)
  have dp:=do_peek y1 (j:=n) (by omega) (N:=133) (.inr rfl) (k:=b (0+n)) hbn (g:=fun _=>0) (fun q hq=>by rw[hd0];exact byteX_0 q hq)
  have e:=p307_43 L C i n c (K:Int) s a b m m1 (rtM 327680) x1 ((8*(33280+4*(n+1)):Nat):Int)
  rw[dp,hbn,dL,lt_blt (show 0+n<c+1 by omega),ir_nat,decide_eq_true (Nat.lt_succ_self n),decide_eq_true (show(0:Int)<=(n:Int) by omega),decide_eq_true (show(n:Int)<=((c+1:Nat):Int) by omega)]at e
  simp only[Bool.and_self,Bool.or_false,cond_true]at e
  exact xwp_toEnd (s:=⟨_,_,_⟩) hcl (fokE hP _) 1000 e (S7 L C s ⟨i,K,n,c+1,a,b,m1⟩) (lf7 hP hE (i:=i) (K:=K) (n:=n) rfl (by
   show[_,_,some (true,Value.slice (some ⟨64,0,none⟩) ((n:Int)-0).toNat (c+1-0)),_,_]=_
   rw[show((n:Int)-0).toNat=n by omega];rfl)) (next _ rfl ⟨by simp only;omega,fun j hj=>lb j (by simp only at hj;omega),fun j hj=>ab j (by simp only at hj;omega),KL,x1,d1,M,y1,hf1,hM⟩)
end
theorem b307 {sv:Bool}{L C:Nat}{s:Nat->Bool} (hb:sv=false->L=0):Body Try.prog 7 [vP sv L C] (mkH (exP sv (sB7 L s))) (.bool true) [] 50 0:=by
 obtain⟨m,x,hy,hnew⟩:=b308 h_A
 refine body_of_ro [] mixed fx307 (by simp) ?_ fun E Q hP hE hcl hfin=>?_
 ·intro id blk h hro
  cases sv
  ·cases h
  ·simp only[exP,cond_true,mkH,hget]at h
   revert h
   cases Nat.beq 40 id<;>intro h
   ·cases h
   ·cases h;cases hro
 have hF:FnsOK E.P (lookF FL) noSc:=hP▸FOK
 refine xwp_seqW (s:=⟨_,_,_⟩) hcl hF 1000 (p307_0 L C s sv) rfl ⟨mkT [0] [vP sv L C],mkH (exP sv (sB7 L s)),50⟩ ⟨_,_,_,rfl,by rw[hE];cases sv<;>rfl,by rw[hE];cases sv<;>exact⟨rfl,trivial⟩,by
  rw[hE,hP]
  cases sv
  ·exact trivial
  ·exact⟨bis_s7,trivial⟩⟩ ?_
 have e1:=p307_1 L C s m (rtM 327680) sv
 rw[show decP (D8 327680 m (rtM 327680))=true from da_true (at_new hnew) trivial]at e1
 refine xwp_seqW (s:=⟨_,_,_⟩) hcl (fokE hP _) 1000 e1 rfl ⟨mkT [3,4,0] [ptN 62,.bool true,vP sv L C],mkH (m.HA 90 91 92++[(61,(rtM 327680).blk),(62,yB)]++exP sv (sB7 L s)),130⟩ ⟨_,_,_,rfl,by rw[hE];cases sv<;>rfl,by rw[hE];cases sv<;>exact⟨rfl,rfl,rfl,trivial⟩,by
  rw[hE,hP]
  cases sv
  ·exact⟨bis_mem,bis_kn,bis_mAt (a:=90) (b:=91) rfl rfl,bis_lmap,rfl,trivial⟩
  ·exact⟨bis_mem,bis_kn,bis_mAt (a:=90) (b:=91) rfl rfl,bis_lmap,rfl,bis_s7,trivial⟩⟩ ?_
 cases sv with
 |false =>
  refine XWP.out (xwp_piece (E:=E) (Q:=Q) (s:=⟨mkT [3,4,0] [ptN 62,.bool true,vP false L C],mkH (m.HA 90 91 92++[(61,(rtM 327680).blk),(62,yB)]++exP false (sB7 L s)),130⟩) (fokE hP _) 1000 [2] [] (p307_82n L C s m (rtM 327680)) ⟨mkT [2] [.bool true],mkH [],50⟩ ⟨_,[],50,rfl,by rw[hE];rfl,by rw[hE];exact⟨rfl,trivial⟩,trivial⟩ (hfin _ _ (fin_of rfl trivial (by rw[hE]) rfl)))
 |true =>
  have J0:J7 ⟨0,1,0,0,fun _=>0,fun _=>0,m⟩ 0:=⟨Nat.le_refl _,fun j hj=>absurd hj (Nat.not_lt_zero _),fun j hj=>absurd hj (Nat.not_lt_zero _),Nat.le_refl _,x,_,0,hy,fs_0,Nat.le_refl _⟩
  refine xwp_toLoop (s:=⟨_,_,_⟩) (fokE hP _) 1000 (p307_82 L C s m (rtM 327680)) (S7 L C s ⟨0,1,0,0,fun _=>0,fun _=>0,m⟩) (lf7 hP hE (i:=0) (K:=1) (n:=0) rfl rfl) ?_
  refine xwp_loopR (ι:=Z7) (S7 L C s) (fun z=>z.i<=25/\J7 z z.i) (fun z=>25-z.i) ⟨0,1,0,0,fun _=>0,fun _=>0,m⟩ ⟨Nat.zero_le _,J0⟩ fun z hz=>?_
  obtain⟨zi,zK,zn,zc,za,zb,zm⟩:=z
  obtain⟨hi,hz⟩:zi<=25/\J7 ⟨zi,zK,zn,zc,za,zb,zm⟩ zi:=hz
  have hcr:=cl_round (S:=S7 L C s) (I:=fun z=>z.i<=25/\J7 z z.i) (μ:=fun z=>25-z.i) (i:=⟨zi,zK,zn,zc,za,zb,zm⟩) (cl_ctx hcl [.bl 0,.sq x307_78])
  have hnc:zn<=zc:=hz.nc
  have e12:=p307_12 L C zi zn zc (zK:Int) s za zb zm (rtM 327680)
  rw[g12_t,cond_true]at e12
  by_cases hgo:zi<L/\zi<25
  ·rw[decide_eq_true (show(zi:Int)<(L:Int) by omega),decide_eq_true (show(zi:Int)<25 by omega)]at e12
   refine xwp_seqW (s:=S7 L C s ⟨zi,zK,zn,zc,za,zb,zm⟩) hcr hF 1000 e12 rfl (S7 L C s ⟨zi,zK,zn,zc,za,zb,zm⟩) (lf7 hP hE (by cases zc<;>rfl) (by cases zc<;>rfl)) ?_
   show XWP E.toEnv (.seq (.block 1 x307_69) (.region x307_71)) _ _
   refine xwp_blockT hcr ?_
   have goal:∀ z':Z7,z'.i=zi->J7 z' (zi+1)->XWP E.toEnv x307_68 (wkP E.toEnv (blkP E.toEnv 1 (.region x307_71) (roundP E.toEnv (S7 L C s) (fun z=>z.i<=25/\J7 z z.i) (fun z=>25-z.i) ⟨zi,zK,zn,zc,za,zb,zm⟩ (ctxP E.toEnv [.bl 0,.sq x307_78] Q)))) (S7 L C s z'):=fun z' hzi hz'=>by
    obtain⟨yi,yK,yn,yc,ya,yb,ym⟩:=z'
    have hzi:yi=zi:=hzi
    refine tail7 hP hE cl_wkP' hz' (by omega) ⟨_,Wk.refl _ _,?_⟩
    show XWP E.toEnv (.region x307_71) _ (S7 L C s ⟨yi,yK,yn,yc,ya,yb,ym⟩)
    have e71:=p307_71 L C yi yn yc (yK:Int) s ya yb ym (rtM 327680)
    rw[wrap_i (n:=(yi:Int)+1) (by omega) (by omega)]at e71
    refine xwp_toEnd (s:=S7 L C s ⟨yi,yK,yn,yc,ya,yb,ym⟩) hcr hF 1000 e71 (S7 L C s ⟨yi+1,yK,yn,yc,ya,yb,ym⟩) (lf7 hP hE (i:=((yi+1:Nat):Int)) (by cases yc<;>rfl) (by cases yc<;>rfl)) ⟨⟨yi+1,yK,yn,yc,ya,yb,ym⟩,⟨by simp only;omega,(hz'.at_i _).mono (by simp only;omega)⟩,by simp only;omega,Wk.refl _ _⟩
   show XWP E.toEnv (.seq x307_48 x307_68) _ _
   refine xwp_seq ?_
   have hc2:Cl E.toEnv (seqP (XWP E.toEnv x307_68 (wkP E.toEnv (blkP E.toEnv 1 (.region x307_71) (roundP E.toEnv (S7 L C s) (fun z=>z.i<=25/\J7 z z.i) (fun z=>25-z.i) ⟨zi,zK,zn,zc,za,zb,zm⟩ (ctxP E.toEnv [.bl 0,.sq x307_78] Q))))) (wkP E.toEnv (blkP E.toEnv 1 (.region x307_71) (roundP E.toEnv (S7 L C s) (fun z=>z.i<=25/\J7 z z.i) (fun z=>25-z.i) ⟨zi,zK,zn,zc,za,zb,zm⟩ (ctxP E.toEnv [.bl 0,.sq x307_78] Q))))):=cl_seqP cl_wkP'
   have e13:=p307_13 L C zi zn zc (zK:Int) s za zb zm (rtM 327680)
   rw[lt_blt (show 0+zi<L by omega),ir_nat,decide_eq_true hgo.1,Nat.zero_add]at e13
   simp only[Bool.and_self,Bool.or_false,cond_true]at e13
   refine xwp_seqW (s:=S7 L C s ⟨zi,zK,zn,zc,za,zb,zm⟩) hc2 hF 1000 e13 rfl ⟨mkT [44,7,6,5,3,0] (.bool (s zi) :: V7 zi zK zn zc L C),mkH (B7 zm (rtM 327680) zc za zb L s),130⟩ ⟨_,_,_,rfl,by rw[hE];cases zc<;>rfl,by rw[hE];cases zc<;>exact⟨rfl,rfl,rfl,rfl,rfl,rfl,trivial⟩,by
    rw[hE,hP]
    cases zc
    ·exact⟨bis_mem,bis_kn,bis_mAt (a:=90) (b:=91) rfl rfl,bis_lmap,rfl,bis_s7,trivial⟩
    ·exact⟨bis_mem,bis_kn,bis_mAt (a:=90) (b:=91) rfl rfl,bis_lmap,rfl,bis_fr,bis_s7,trivial⟩⟩ ?_
   refine xwp_cnd (t:=s zi) rfl ?_
   cases s zi with
   |true=>exact enter7 hP hE hc2 hz (by omega) goal
   |false=>exact leave7 hP hE hc2 (hz.mono (show zi<=zi+1 by omega)) (by omega) goal
  ·have hno:(bif decide ((zi:Int)<(L:Int))then decide ((zi:Int)<25)else false)=false:=by
    by_cases h1:zi<L
    ·rw[decide_eq_true (show(zi:Int)<(L:Int) by omega),decide_eq_false (show ¬ (zi:Int)<25 by omega)];rfl
    ·rw[decide_eq_false (show ¬ (zi:Int)<(L:Int) by omega)];rfl
   rw[hno,cond_false]at e12
   refine xwp_seq (xwp_toEnd (s:=S7 L C s ⟨zi,zK,zn,zc,za,zb,zm⟩) (cl_seqP hcr) hF 1000 e12 (S7 L C s ⟨zi,zK,zn,zc,za,zb,zm⟩) (lf7 hP hE (by cases zc<;>rfl) (by cases zc<;>rfl)) ?_)
   show XWP E.toEnv x307_78 Q (S7 L C s ⟨zi,zK,zn,zc,za,zb,zm⟩)
   exact xwp_toEnd (s:=S7 L C s ⟨zi,zK,zn,zc,za,zb,zm⟩) hcl hF 1000 (p307_78 L C zi zn zc (zK:Int) s za zb zm (rtM 327680)) ⟨mkT [2] [.bool true],mkH [],50⟩ ⟨_,[],50,rfl,by rw[hE];rfl,by rw[hE];exact⟨rfl,trivial⟩,trivial⟩ (hfin _ _ (fin_of rfl trivial (by rw[hE]) rfl))
theorem slice_inB {H:Type}{enc:TypeId × Value->H}{P:Program}{W:World}{base:Nat}{t e:TypeId}{v:Value}{d:DataW H}{p:List MemPlace} (ht:P.underlying t=some (.slice e)) (he:P.underlying e=some .bool) (hc:P.cellsOf e=1)
  (hok:Value.okWide P W .any base t v) (h:DataW.Trod enc P W 0 (fun _=>true) true t v d p) :
  ∃ (b:Bool) (a:Addr) (L C:Nat) (f:Nat->Bool),v=(bif b then .slice (some a) L C else .slice none 0 0)/\(b=false->L=0)/\∀ i,i<L->W.cell? (a.add i)=some (.bool (f i)):=by
 obtain⟨a0,len0,cap0,rfl⟩:=Go.WideShapes.okWide_slice ht hok
 obtain⟨fuel,hf⟩:=h
 rcases Go.Deep.open_slice1 ht hc hf with⟨hcs,_⟩|⟨a,len,cap,m,n,V,D,Pl,hcs,hb,hl,hm,hmm,hx,hi⟩
 ·simp[Value.cells]at hcs
  obtain⟨rfl,rfl,rfl⟩:=hcs
  exact⟨false,⟨0,0,none⟩,0,0,fun _=>false,rfl,fun _=>rfl,fun i hi=>absurd hi (Nat.not_lt_zero _)⟩
 ·simp[Value.cells]at hcs
  obtain⟨rfl,rfl,rfl⟩:=hcs
  have hlm:len0<=m:=by rw[hmm];simpa using hl
  have hE:∀ i:Nat,∃ z:Bool,i<len0->W.cell? (a.add i)=some (.bool z):=fun i=>by
   by_cases hil:i<len0
   ·obtain⟨hc,ht⟩:=hi i (Nat.lt_of_lt_of_le hil hlm)
    obtain⟨z,e,_⟩:=DataW.trod_bool he ht
    have e:=(List.cons.inj e).1
    exact⟨z,fun _=>by rw[hc,e]⟩
   ·exact⟨false,fun h=>absurd h hil⟩
  obtain⟨J,hJ⟩:=Classical.axiomOfChoice hE
  exact⟨true,a,len0,cap0,J,rfl,fun h=>(by cases h),hJ⟩
theorem relH_b {P:Program}{b:Bool}{a:Addr}{L:Nat}{f:Nat->Bool}{w:World} (h:∀ i,i<L->w.cell? (a.add i)=some (.bool (f i))) :
  RelH P (bif b then(fun id=>cond (Nat.beq 40 id) (some ⟨a,1,0⟩) none)else fun _=>none) (hget (mkH (exP b (sB7 L f)))) w:=by
 have one:∀ {id:Nat}{c:Blk},hget (mkH (exP b (sB7 L f))) id=some c->b=true/\Nat.beq 40 id=true/\c=sB7 L f:=fun {id c} hc=>by
  cases b with
  |false=>cases hc
  |true =>
   simp only[exP,cond_true,mkH,hget]at hc
   cases hb:Nat.beq 40 id with
   |false=>rw[hb]at hc;cases hc
   |true=>rw[hb]at hc;cases hc;exact⟨rfl,rfl,rfl⟩
 refine⟨fun id c hc=>?_,fun id c id' c' l l' hc hc' hne hro=>?_⟩
 ·obtain⟨rfl,h1,rfl⟩:=one hc
  refine⟨⟨a,1,0⟩,by simp only[cond_true,h1],rfl,fun _ h=>(by cases h),fun i hi=>⟨rfl,fun o v hv=>?_⟩,fun h=>(by cases h)⟩
  have ho:o<1:=(List.getElem?_eq_some_iff.1 hv).1
  obtain rfl:o=0:=by omega
  cases hv
  refine⟨_,?_,rfl,.bool _⟩
  have:=h i hi
  simpa using this
 ·obtain⟨_,_,rfl⟩:=one hc
  cases hro
theorem row7 {b0:Bool}{a0:Addr}{L0 C0:Nat}{f0:Nat->Bool}{w:World} (hb0:b0=false->L0=0) (hL0:∀ i,i<L0->w.cell? (a0.add i)=some (.bool (f0 i))) :
  Calls Try.prog 7 #[(bif b0 then .slice (some a0) L0 C0 else .slice none 0 0)] w fun e w'=>e=.returned (.bool true)/\Go.RowKit.Below w.heap.size w w':=by
 refine call_ro (b307 (s:=f0) (C:=C0) hb0) _ (fun id hid=>?_) (relH_b hL0) (fun id c h=>?_) ⟨v_in (id:=40) (a:=a0) fun h=>?_,trivial⟩
 ·cases b0 with
  |false=>rfl
  |true=>show cond (Nat.beq 40 id) _ none=none;rw[beq_ff (by omega)];rfl
 ·cases b0 with
  |false=>cases h
  |true =>
   simp only[exP,cond_true,mkH,hget]at h
   cases hb:Nat.beq 40 id with
   |false=>rw[hb]at h;cases h
   |true=>rw[hb]at h;cases h;rfl
 ·subst h;rfl
end Go.X
