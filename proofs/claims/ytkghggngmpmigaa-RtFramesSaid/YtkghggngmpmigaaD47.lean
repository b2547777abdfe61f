import Derived.Test.YtkghggngmpmigaaD46
import Derived.Test.YtkghggngmpmigaaD28
import Derived.Test.YtkghggngmpmigaaD42
import Derived.Test.YtkghggngmpmigaaD44
set_option linter.all false
namespace Go.X
open Go Go.Proofs
theorem lt47 {a b:Int} (h:¬ IntKind.i64.wrap a<IntKind.i64.wrap b):takenF 47 a b=false:=by
 rw[t47,decide_eq_false h];rfl
section
variable {L:List Ins} (hL:RtL L){x d:Nat->Int} (hx:x 0=0){n h w:Nat}
include hL hx
theorem malloc_head (h10:x 10=(n:Int)) (hn0:0<n) (hn:n<=1048576) (hw:w=(n+31) / 16*2) (hf:d 32769=0) (hh:d 32768=((8*h:Nat):Int)) (hh0:40960<=h) (hhw:8*(h+w)<=589824) :
  ∃ x',Rm L 16 ⟨56,x,d⟩ ⟨79,x',ud (ud d 32768 ((8*(h+w):Nat):Int)) h ((8*w:Nat):Int)⟩/\x' 0=0/\x' 10=(n:Int)/\x' 29=((8*h:Nat):Int)/\x' 14=((8*w:Nat):Int)/\∀ r,r≠6->r≠14->r≠28->r≠29->r≠30->r≠31->x' r=x r:=by
 let A1:=sx x 6 1
 let A2:=sx A1 6 1048576
 let A3:=sx A2 14 ((n+31:Nat):Int)
 let A4:=sx A3 14 ((8*w:Nat):Int)
 let A5:=sx A4 6 262144
 let A6:=sx A5 28 262152
 let A7:=sx A6 29 0
 let A8:=sx A7 29 ((8*h:Nat):Int)
 let A9:=sx A8 30 ((8*(h+w):Nat):Int)
 let AA:=sx A9 31 589824
 have wn:IntKind.i64.wrap (n:Int)=n:=wrap_i (by omega) (by omega)
 refine⟨AA,?_,hx,h10,rfl,rfl,fun r h6 h14 h28 h29 h30 h31=>?_⟩
 ·refine rn_op hL hx 1 (by kernel_rfl:(rtL 0x50000)[56]?=some ⟨28,6,0,0,1⟩) (by
   show some (IntKind.u64.wrap (x 0+ofF 1))=_
   rw[hx];rfl) ?_
  refine rn_bn hL (x:=A1) hx (by kernel_rfl:(rtL 0x50000)[57]?=some ⟨47,0,10,6,-144⟩) (u:=(n:Int)) (v:=1) h10 rfl (lt47 (by rw[wn,wrap_i (n:=1) (by omega) (by omega)];omega)) ?_
  refine rn_op hL (x:=A1) hx 1048576 (by kernel_rfl:(rtL 0x50000)[58]?=some ⟨51,6,0,0,256⟩) rfl ?_
  refine rn_bn hL (x:=A2) hx (by kernel_rfl:(rtL 0x50000)[59]?=some ⟨47,0,6,10,-152⟩) (u:=1048576) (v:=(n:Int)) rfl h10 (lt47 (by rw[wn,wrap_i (n:=1048576) (by omega) (by omega)];omega)) ?_
  refine rn_op hL (x:=A2) hx ((n+31:Nat):Int) (by kernel_rfl:(rtL 0x50000)[60]?=some ⟨28,14,10,0,31⟩) (by
   show some (IntKind.u64.wrap (x 10+ofF 31))=_
   rw[h10];exact congrArg some (addw (b:=31) (by omega))) ?_
  refine rn_op hL (x:=A3) hx ((8*w:Nat):Int) (by kernel_rfl:(rtL 0x50000)[61]?=some ⟨33,14,14,0,-16⟩) (by
   show some (bits2 .and .u64 ((n+31:Nat):Int) (ofF (-16)))=_
   rw[and16 (by omega)];exact congrArg some (by omega)) ?_
  refine rn_op hL (x:=A4) hx 262144 (by kernel_rfl:(rtL 0x50000)[62]?=some ⟨51,6,0,0,64⟩) rfl ?_
  refine rn_op hL (x:=A5) hx 262152 (by kernel_rfl:(rtL 0x50000)[63]?=some ⟨28,28,6,0,8⟩) rfl ?_
  refine rn_ld hL (x:=A6) hx 32769 (by kernel_rfl:(rtL 0x50000)[64]?=some ⟨41,29,28,0,0⟩) rfl (by decide) ?_
  rw[hf]
  refine rn_bt hL (x:=A7) hx 73 (by kernel_rfl:(rtL 0x50000)[65]?=some ⟨45,0,29,0,32⟩) (u:=0) (v:=0) rfl hx rfl (by decide) ?_
  refine rn_ld hL (x:=A7) hx 32768 (by kernel_rfl:(rtL 0x50000)[73]?=some ⟨41,29,6,0,0⟩) rfl (by decide) ?_
  rw[hh]
  refine rn_op hL (x:=A8) hx ((8*(h+w):Nat):Int) (by kernel_rfl:(rtL 0x50000)[74]?=some ⟨1,30,29,14,0⟩) (by
   show some (IntKind.u64.wrap (((8*h:Nat):Int)+((8*w:Nat):Int)))=_
   rw[u64w];exact congrArg some (by omega)) ?_
  refine rn_op hL (x:=A9) hx 589824 (by kernel_rfl:(rtL 0x50000)[75]?=some ⟨51,31,0,0,144⟩) rfl ?_
  refine rn_bn hL (x:=AA) hx (by kernel_rfl:(rtL 0x50000)[76]?=some ⟨49,0,31,30,-220⟩) (u:=589824) (v:=((8*(h+w):Nat):Int)) rfl rfl (by rw[t49,decide_eq_false (by omega)];rfl) ?_
  refine rn_sd hL (x:=AA) hx 32768 (by kernel_rfl:(rtL 0x50000)[77]?=some ⟨44,0,6,30,0⟩) rfl (by decide) (by decide) ?_
  exact rn_sd hL (x:=AA) hx h (by kernel_rfl:(rtL 0x50000)[78]?=some ⟨44,0,29,14,0⟩) (by
   show IntKind.u64.wrap (((8*h:Nat):Int)+ofF 0)=_
   exact(addw (b:=0) (by omega)).trans (by omega)) (by omega) (by omega) (rn_refl (N:=0) _)
 ·show sx (sx (sx (sx (sx (sx (sx (sx (sx (sx x 6 _) 6 _) 14 _) 14 _) 6 _) 28 _) 29 _) 29 _) 30 _) 31 _ r=_
  rw[sx_ne h31,sx_ne h30,sx_ne h29,sx_ne h29,sx_ne h28,sx_ne h6,sx_ne h14,sx_ne h14,sx_ne h6,sx_ne h6]
end
theorem clr_lo {d:Nat->Int}{k j n i:Nat} (h1:i<k) (h2:i<j):clr d k j n i=d i:=by
 unfold clr
 rw[ble_dec,ble_dec,decide_eq_false (by omega),decide_eq_false (by omega)];rfl
def mlD (d:Nat->Int) (h w n i key:Nat):Nat->Int :=
 ud (ud (lkD (ud (clr (ud (ud d 32768 ((8*(h+w):Nat):Int)) h ((8*w:Nat):Int)) (h+2) (shK (h+2)) (w-2)) 32771 ((8*(33280+4*i+4):Nat):Int)) (33280+4*i) (key+1)) (33280+4*i+1) ((8*(h+2):Nat):Int)) (33280+4*i+2) ((8*(h+2)+n:Nat):Int)
theorem malloc_new {L:List Ins} (hL:RtL L){x d:Nat->Int} (hx:x 0=0){n h w i q key:Nat} (h10:x 10=(n:Int)) (hn0:0<n) (hn:n<=1048576) (hw:w=(n+31) / 16*2) (h1:x 1=4*(q:Int)) (hq:q<150)
  (e0:d 32768=((8*h:Nat):Int)) (e1:d 32769=0) (e2:d 32770=(key:Int)) (e3:d 32771=((8*(33280+4*i):Nat):Int)) (e4:d 32772=0) (hh0:40960<=h) (hhw:8*(h+w)<=589824) (hi:i<1900) (hi0:0<i) (hkey:key<900000) :
  ∃ x',Rm L (9*w+61) ⟨56,x,d⟩ ⟨q,x',mlD d h w n i key⟩/\x' 0=0/\x' 10=((8*(h+2):Nat):Int)/\x' 11=((8*(h+2):Nat):Int)/\x' 12=((8*(h+2)+n:Nat):Int)/\x' 13=((key+1:Nat):Int)/\x' 14=(i:Int) /\
   ∀ r,r≠1->r≠5->r≠6->r≠7->r≠10->r≠11->r≠12->r≠13->r≠14->r≠28->r≠29->r≠30->r≠31->x' r=x r:=by
 obtain⟨y,a1,a2,a3,a4,a5,a6⟩:=malloc_head hL hx h10 hn0 hn hw e1 e0 hh0 hhw
 have hlo:∀ {a:Nat},a≠32768->a<40960->clr (ud (ud d 32768 ((8*(h+w):Nat):Int)) h ((8*w:Nat):Int)) (h+2) (shK (h+2)) (w-2) a=d a:=fun {a} g1 g2=>by
  rw[clr_lo (by omega) (by unfold shK;omega),ud_ne (by omega),ud_ne g1]
 have hl:∀ {y:Nat->Int},y 0=0->y 5=4*((87:Nat):Int)->∃ x',Rm L 15 ⟨23,y,clr (ud (ud d 32768 ((8*(h+w):Nat):Int)) h ((8*w:Nat):Int)) (h+2) (shK (h+2)) (w-2)⟩ ⟨87,x',lkD (ud (clr (ud (ud d 32768 ((8*(h+w):Nat):Int)) h ((8*w:Nat):Int)) (h+2) (shK (h+2)) (w-2)) 32771 ((8*(33280+4*i+4):Nat):Int)) (33280+4*i) (key+1)⟩/\x' 30=((8*(33280+4*i):Nat):Int)/\x' 31=((key+1:Nat):Int)/\x' 0=0/\∀ r,r≠6->r≠7->r≠30->r≠31->x' r=y r:=fun {y} h0 h5 =>
  lock_new hL h0 h5 (by decide) ((hlo (by decide) (by decide)).trans e4) ((hlo (by decide) (by decide)).trans e3) (by omega) (by omega) ((hlo (by decide) (by decide)).trans e2) (by omega) (by omega)
 obtain⟨z,b1,b2,b3,b4,b5,b6,b7,b8⟩:=got_ok hL a2 (k:=h+2) (m:=w-2) (n:=n) (q:=q) (i:=i) (key:=((key+1:Nat):Int)) a3 (by rw[a4];congr 1) (by rw[a5,show w-2+2=w by omega])
  (by rw[a6 1 (by decide) (by decide) (by decide) (by decide) (by decide) (by decide)];exact h1) hq (by omega) (by omega) (by omega) (by omega) hi hi0 ⟨by omega,by omega⟩ hl
 refine⟨z,?_,b2,b3,b4,b5,b6,b7,fun r r1 r5 r6 r7 r10 r11 r12 r13 r14 r28 r29 r30 r31=>?_⟩
 ·exact(a1.trans b1).mono (by omega)
 ·rw[b8 r r1 r5 r6 r7 r10 r11 r12 r13 r14 r29 r30 r31,a6 r r6 r14 r28 r29 r30 r31]
section
variable {L:List Ins} (hL:RtL L){x d:Nat->Int} (hx:x 0=0)
include hL hx
end
theorem atr_init {S:Nat}{L:List Ins}{s:RSt}{a:RA} (h:AtR S L s a):AtR S L (RSt.init s.m) a:=⟨h.mem,h.sz,h.pl,h.st,rfl,h.x,h.x0,h.xr,h.dr,h.code⟩
section
variable {S:Nat}{L:List Ins} (hL:L.all okI=true) (h4:4*L.length<=S) (hS:S<9000000000000000000){C:Nat} (hC:4*L.length<=C){main:Nat} (hmain:L[main]?=some ⟨53,0,0,0,0⟩) (hm2:main<1000000)
include hL h4 hS hC hmain hm2
theorem at_main:∀ (k:Nat){s:RSt}{a:RA},AtR S L s a->a.p=main->∃ s',Gs k s s'/\AtR S L s' a
 |0,s,a,h,_=>⟨s,gs_refl s,h⟩
 |k+1,s,a,h,hp=>by
  have he:aStep S C ⟨53,0,0,0,0⟩ a=some a:=by
   have e1:nextF (amX a) 53 ⟨0,0,0,0⟩=4*(a.p:Int):=by
    show IntKind.u64.wrap (4*(a.p:Int)+ofF 0)=_
    unfold ofF;rw[u64w,u64w];omega
   show cond (nextF (amX a) 53 ⟨0,0,0,0⟩ % 4==0) (some (RA.mk ((nextF (amX a) 53 ⟨0,0,0,0⟩).toNat / 4) (putR a.x 0 (valF (amX a) 53 ⟨0,0,0,0⟩)) a.d)) none=_
   rw[e1,show(4*(a.p:Int)) % 4=0 by omega,show(4*(a.p:Int)).toNat / 4=a.p by omega]
   show some (RA.mk a.p (putR a.x 0 (some _)) a.d)=_
   rw[putR_0 rfl h.x0]
  obtain⟨s1,e1,h1⟩:=aStep_ok hL h4 hS h (by rw[hp];exact hmain) hC he
  obtain⟨s2,g2,h2⟩:=at_main k h1 hp
  refine⟨s2,?_,h2⟩
  rw[Nat.add_comm k 1]
  exact gs_trans (gs_one h.st e1) g2
theorem at_k {a a':RA}{K:Nat} (h:Sts L S C main a K a') (hp:a'.p=main){s:RSt} (hs:AtR S L s a) (k:Nat):∃ s' b,Gs k s s'/\AtR S L s' b/\(k<K->b.p≠main)/\(K<=k->b=a'):=by
 by_cases hk:k<=K
 ·obtain⟨s',b,g,h1,h2,h3⟩:=sts_goes hL h4 hS hC h hs k hk
  exact⟨s',b,g,h1,h2,fun h=>h3 (by omega)⟩
 ·obtain⟨s',b,g,h1,h2,h3⟩:=sts_goes hL h4 hS hC h hs K (Nat.le_refl _)
  obtain rfl:=h3 rfl
  obtain⟨s2,g2,h5⟩:=at_main hL h4 hS hC hmain hm2 (k-K) h1 hp
  refine⟨s2,b,?_,h5,fun h=>absurd h (by omega),fun _=>rfl⟩
  have:=gs_trans g g2
  rw[show K+(k-K)=k by omega]at this
  exact this
end
theorem sts_split {L:List Ins}{S C main:Nat} {a a':RA}{K:Nat} (h:Sts L S C main a K a'):∀ t,t<=K->∃ b,Sts L S C main a t b/\Sts L S C main b (K-t) a':=by
 induction h with
 |refl a=>intro t ht;obtain rfl:t=0:=by omega
          exact⟨a,.refl a,.refl a⟩
 |@step a a1 a2 i n hm hi he h ih =>
  intro t ht
  cases t with
  |zero=>exact⟨_,.refl _,.step hm hi he h⟩
  |succ t =>
   obtain⟨b,h1,h2⟩:=ih t (by omega)
   exact⟨b,.step hm hi he h1,by rw[show n+1-(t+1)=n-t by omega];exact h2⟩
theorem sts_ne {L:List Ins}{S C main:Nat} {a a':RA}{K:Nat} (h:Sts L S C main a K a') (hK:0<K):a.p≠main:=by
 cases h with
 |refl=>exact absurd hK (Nat.lt_irrefl _)
 |step hm _ _ _=>exact hm
theorem gs_run {k:Nat}{m:MS}{s:RSt} (h:Gs k (RSt.init m) s):runF (stepF (e0 false)) k (RSt.init m) 0=(s,k):=by
 have:=h 0 0
 rw[Nat.add_zero]at this
 rw[this,Nat.zero_add];rfl
def homeF (main:Nat):Nat->Nat->MS->Int × Bool × MS
 |0,r,m=>(0,false,m)
 |k+1,r,m =>
  let s:=(runF (stepF (e0 false)) (100*(r+1)) (RSt.init m) 0).1
  bif s.m.st==0 then bif s.m.pl==4*(main:Int)then(0,true,s.m)else homeF main k (r+1) s.m else(s.m.st,true,s.m)
def sumR:Nat->Nat->Nat
 |0,_=>0
 |k+1,r=>100*(r+1)+sumR k (r+1)
section
variable {S:Nat}{L:List Ins} (hL:L.all okI=true) (h4:4*L.length<=S) (hS:S<9000000000000000000){C:Nat} (hC:4*L.length<=C){main:Nat} (hmain:L[main]?=some ⟨53,0,0,0,0⟩) (hm2:main<1000000)
include hL h4 hS hC hmain hm2
theorem home_main:∀ (k r:Nat) {a a':RA}{K:Nat}{m:MS},Sts L S C main a K a'->a'.p=main->AtR S L (RSt.init m) a->K<=sumR k r->0<k->∃ m',homeF main k r m=(0,true,m')/\AtR S L (RSt.init m') a'
 |0,_,_,_,_,_,_,_,_,_,h=>absurd h (Nat.lt_irrefl _)
 |k+1,r,a,a',K,m,h,hp,hs,hK,_=>by
  by_cases ht:K<=100*(r+1)
  ·obtain⟨s',b,g,h1,_,h3⟩:=at_k hL h4 hS hC hmain hm2 h hp hs (100*(r+1))
   obtain rfl:=h3 ht
   refine⟨s'.m,?_,atr_init h1⟩
   unfold homeF
   rw[gs_run g]
   simp only[h1.st,h1.pl,hp,beq_self_eq_true,cond_true]
  ·obtain⟨b,g1,g2⟩:=sts_split h (100*(r+1)) (by omega)
   obtain⟨s',b',g,h1,_,h3⟩:=sts_goes hL h4 hS hC g1 hs (100*(r+1)) (Nat.le_refl _)
   obtain rfl:=h3 rfl
   have hb:b'.p≠main:=sts_ne g2 (by omega)
   have hk0:0<k:=by
    cases k with
    |zero=>simp only[sumR]at hK;omega
    |succ y=>exact Nat.succ_pos _
   obtain⟨m',e,h5⟩:=home_main k (r+1) g2 hp (atr_init h1) (by simp only[sumR]at hK;omega) hk0
   refine⟨m',?_,h5⟩
   unfold homeF
   rw[gs_run g]
   have hn:(s'.m.pl==4*(main:Int))=false:=by
    rw[h1.pl];simp;omega
   simp only[h1.st,hn,beq_self_eq_true,cond_true,cond_false]
   exact e
end
section
variable {S:Nat}{L:List Ins} (hL:L.all okI=true) (h4:4*L.length<=S) (hS:S<9000000000000000000){C:Nat} (hC:4*L.length<=C){main:Nat}
include hL h4 hS hC
end
theorem rtA:(rtL 0x50000).all okI=true/\(rtL 0x50000).length=150/\(rtL 0x50000)[149]?=some ⟨53,0,0,0,0⟩:=⟨by kernel_rfl,by kernel_rfl,by kernel_rfl⟩
theorem rtB:(rtL 0x8f000).all okI=true/\(rtL 0x8f000).length=150/\(rtL 0x8f000)[149]?=some ⟨53,0,0,0,0⟩:=⟨by kernel_rfl,by kernel_rfl,by kernel_rfl⟩
theorem rtA_ok:RtL (rtL 0x50000):=fun _ _=>rfl
theorem rtB_drop:(rtL 0x8f000).drop 19=(rtL 0x50000).drop 19:=by kernel_rfl
theorem rtB_ok:RtL (rtL 0x8f000):=fun p hp=>by
 have h:=congrArg (fun l=>l[p-19]?) rtB_drop
 simp only[List.getElem?_drop]at h
 rw[show 19+(p-19)=p by omega]at h
 exact h
def stD (d:Nat->Int) (heap:Int):Nat->Int:=ud (ud (ud (ud (ud (ud d 32768 heap) 32769 0) 32772 0) 32770 1) 33280 1) 32771 266272
theorem start_ok {heap:Int}{L:List Ins} (hh:heap=0x50000/\L=rtL 0x50000\/heap=0x8f000/\L=rtL 0x8f000){x d:Nat->Int} (hx:x 0=0):∃ x' n,n<=20/\Rt L ⟨0,x,d⟩ n ⟨149,x',stD d heap⟩/\x' 0=0/\x' 2=786432:=by
 let X1:=sx x 2 786432
 let X2:=sx X1 5 262144
 let X3:=sx X2 6 heap
 let X4:=sx X3 6 heap
 let X5:=sx X4 6 1
 let X6:=sx X5 7 266240
 let X7:=sx X6 7 266272
 let X8:=sx X7 1 (4*((14:Nat):Int))
 have hw:IntKind.u64.wrap (heap+ofF 0)=heap:=by
  rcases hh with⟨rfl,rfl⟩|⟨rfl,rfl⟩<;>rfl
 have hl:valF (amX ⟨2,X2,d⟩) 51 ⟨6,0,0,heap / 4096⟩=some heap:=by
  rcases hh with⟨rfl,rfl⟩|⟨rfl,rfl⟩<;>rfl
 have g:∀ {p:Nat}{i:Ins},(rtL 0x50000)[p]?=some i->(rtL 0x8f000)[p]?=some i->L[p]?=some i:=fun {p i} h1 h2=>by
  rcases hh with⟨rfl,rfl⟩|⟨rfl,rfl⟩
  ·exact h1
  ·exact h2
 have g2:L[2]?=some ⟨51,6,0,0,heap / 4096⟩:=by
  rcases hh with⟨rfl,rfl⟩|⟨rfl,rfl⟩<;>kernel_rfl
 refine⟨X8,14,by decide,?_,hx,rfl⟩
 have s0:=st_op (S:=2621440) (C:=262144) (main:=149) (d:=d) (by decide) hx (g (p:=0) (i:=⟨51,2,0,0,192⟩) (by kernel_rfl) (by kernel_rfl)) 786432 rfl (by decide) rfl rfl
 have s1:=st_op (S:=2621440) (C:=262144) (main:=149) (x:=X1) (d:=d) (by decide) hx (g (p:=1) (i:=⟨51,5,0,0,64⟩) (by kernel_rfl) (by kernel_rfl)) 262144 rfl (by decide) rfl rfl
 have s2:=st_op (S:=2621440) (C:=262144) (main:=149) (x:=X2) (d:=d) (by decide) hx g2 heap rfl (by decide) rfl hl
 have s3:=st_op (S:=2621440) (C:=262144) (main:=149) (x:=X3) (d:=d) (by decide) hx (g (p:=3) (i:=⟨28,6,6,0,0⟩) (by kernel_rfl) (by kernel_rfl)) heap rfl (by decide) rfl (by show some (IntKind.u64.wrap (heap+ofF 0))=_;rw[hw])
 have s4:=st_sd (S:=2621440) (C:=262144) (main:=149) (x:=X4) (d:=d) (by decide) hx (g (p:=4) (i:=⟨44,0,5,6,0⟩) (by kernel_rfl) (by kernel_rfl)) 32768 rfl rfl (by decide) (by decide)
 have s5:=st_sd (S:=2621440) (C:=262144) (main:=149) (x:=X4) (d:=ud d 32768 heap) (by decide) hx (g (p:=5) (i:=⟨44,0,5,0,8⟩) (by kernel_rfl) (by kernel_rfl)) 32769 rfl rfl (by decide) (by decide)
 have s6:=st_sd (S:=2621440) (C:=262144) (main:=149) (x:=X4) (d:=ud (ud d 32768 heap) 32769 0) (by decide) hx (g (p:=6) (i:=⟨44,0,5,0,32⟩) (by kernel_rfl) (by kernel_rfl)) 32772 rfl rfl (by decide) (by decide)
 have e0:X4 (Int.toNat 0)=0:=hx
 rw[e0]at s5 s6
 have s7:=st_op (S:=2621440) (C:=262144) (main:=149) (x:=X4) (d:=ud (ud (ud d 32768 heap) 32769 0) 32772 0) (by decide) hx (g (p:=7) (i:=⟨28,6,0,0,1⟩) (by kernel_rfl) (by kernel_rfl)) 1 rfl (by decide) rfl (by show some (IntKind.u64.wrap (x 0+ofF 1))=_;rw[hx];rfl)
 have s8:=st_sd (S:=2621440) (C:=262144) (main:=149) (x:=X5) (d:=ud (ud (ud d 32768 heap) 32769 0) 32772 0) (by decide) hx (g (p:=8) (i:=⟨44,0,5,6,16⟩) (by kernel_rfl) (by kernel_rfl)) 32770 rfl rfl (by decide) (by decide)
 have s9:=st_op (S:=2621440) (C:=262144) (main:=149) (x:=X5) (d:=ud (ud (ud (ud d 32768 heap) 32769 0) 32772 0) 32770 1) (by decide) hx (g (p:=9) (i:=⟨51,7,0,0,65⟩) (by kernel_rfl) (by kernel_rfl)) 266240 rfl (by decide) rfl rfl
 have sA:=st_sd (S:=2621440) (C:=262144) (main:=149) (x:=X6) (d:=ud (ud (ud (ud d 32768 heap) 32769 0) 32772 0) 32770 1) (by decide) hx (g (p:=10) (i:=⟨44,0,7,6,0⟩) (by kernel_rfl) (by kernel_rfl)) 33280 rfl rfl (by decide) (by decide)
 have sB:=st_op (S:=2621440) (C:=262144) (main:=149) (x:=X6) (d:=ud (ud (ud (ud (ud d 32768 heap) 32769 0) 32772 0) 32770 1) 33280 1) (by decide) hx (g (p:=11) (i:=⟨28,7,7,0,32⟩) (by kernel_rfl) (by kernel_rfl)) 266272 rfl (by decide) rfl rfl
 have sC:=st_sd (S:=2621440) (C:=262144) (main:=149) (x:=X7) (d:=ud (ud (ud (ud (ud d 32768 heap) 32769 0) 32772 0) 32770 1) 33280 1) (by decide) hx (g (p:=12) (i:=⟨44,0,5,7,24⟩) (by kernel_rfl) (by kernel_rfl)) 32771 rfl rfl (by decide) (by decide)
 have sD:=st_pl (S:=2621440) (C:=262144) (main:=149) (x:=X7) (d:=stD d heap) (by decide) hx (g (p:=13) (i:=⟨53,1,0,0,544⟩) (by kernel_rfl) (by kernel_rfl)) 149 (some (4*((14:Nat):Int))) rfl (by
  show IntKind.u64.wrap (4*((13:Nat):Int)+ofF 544)=_
  unfold ofF;rw[u64w,u64w];omega) (by
  show some (IntKind.u64.wrap (4*((13:Nat):Int)+4))=_
  rw[u64w];rfl)
 rw[show putR X7 1 (some (4*((14:Nat):Int)))=X8 from putR_sx (by decide) hx]at sD
 exact s0.trans (s1.trans (s2.trans (s3.trans (s4.trans (s5.trans (s6.trans (s7.trans (s8.trans (s9.trans (sA.trans (sB.trans (sC.trans sD))))))))))))
def lbN:Nat->ByteArray
 |0=>⟨#[114,116,46,115,116,97,114,116]⟩
 |1=>⟨#[114,116,46,116,114,97,112]⟩
 |2=>⟨#[114,116,46,110,111,114,111,111,109]⟩
 |3=>⟨#[114,116,46,108,111,99,107]⟩
 |4=>⟨#[114,116,46,108,111,99,107,46,110,101,120,116]⟩
 |5=>⟨#[114,116,46,108,111,99,107,46,107,101,121]⟩
 |6=>⟨#[114,116,46,101,110,116,101,114]⟩
 |7=>⟨#[114,116,46,108,101,97,118,101]⟩
 |8=>⟨#[114,116,46,114,101,108,101,97,115,101]⟩
 |9=>⟨#[114,116,46,109,97,108,108,111,99]⟩
 |10=>⟨#[114,116,46,109,97,108,108,111,99,46,102,105,110,100]⟩
 |11=>⟨#[114,116,46,109,97,108,108,111,99,46,116,97,107,101]⟩
 |12=>⟨#[114,116,46,109,97,108,108,111,99,46,110,101,120,116]⟩
 |13=>⟨#[114,116,46,109,97,108,108,111,99,46,103,111,116]⟩
 |14=>⟨#[114,116,46,102,114,101,101]⟩
 |15=>⟨#[114,116,46,114,101,97,100]⟩
 |16=>⟨#[114,116,46,119,114,105,116,101]⟩
 |17=>⟨#[114,116,46,99,108,101,97,114]⟩
 |18=>⟨#[114,116,46,99,108,101,97,114,46,111,110]⟩
 |19=>⟨#[114,116,46,99,108,101,97,114,46,101,110,100]⟩
 |_=>⟨#[102,46,109,97,105,110]⟩
def It.lb:It->ByteArray
 | .l n=>lbN n
 |_=>⟨#[]⟩
def It.to_:It->ByteArray
 | .t _ _ _ _ n=>lbN n
 |_=>⟨#[]⟩
def It.ins:It->Ins
 | .l _=>⟨0,0,0,0,0⟩
 | .i x=>x
 | .t op rd rs1 rs2 _=>⟨op,rd,rs1,rs2,0⟩
def rtI (heap:Int):Its:=⟨fun j=>((It.all heap).getD j (.l 0)).lb,fun j=>((It.all heap).getD j (.l 0)).to_,fun j=>((It.all heap).getD j (.l 0)).ins.op,fun j=>((It.all heap).getD j (.l 0)).ins.rd,
 fun j=>((It.all heap).getD j (.l 0)).ins.rs1,fun j=>((It.all heap).getD j (.l 0)).ins.rs2,fun j=>((It.all heap).getD j (.l 0)).ins.imm,fun j=>0⟩
set_option maxRecDepth 100000
theorem ins_A:insTo (rtI 327680) (finA (rtI 327680) 0 171) 171=rtL 327680:=by kernel_rfl
theorem ins_B:insTo (rtI 585728) (finA (rtI 585728) 0 171) 171=rtL 585728:=by kernel_rfl
theorem chk_A:checkE (rtI 327680) 0 171 m0=0:=by kernel_rfl
theorem chk_B:checkE (rtI 585728) 0 171 m0=0:=by kernel_rfl
abbrev IsH (heap:Int):Prop:=heap=327680\/heap=585728
theorem rt_W {heap:Int} (h:IsH heap):asmW (rtI heap) 0 171=(rtL heap).map encW:=by
 unfold asmW
 rcases h with rfl|rfl
 ·rw[ins_A]
 ·rw[ins_B]
theorem rt_len {heap:Int} (h:IsH heap):(rtL heap).length=150:=by
 rcases h with rfl|rfl
 ·exact rtA.2.1
 ·exact rtB.2.1
theorem rt_all {heap:Int} (h:IsH heap):(rtL heap).all okI=true:=by
 rcases h with rfl|rfl
 ·exact rtA.1
 ·exact rtB.1
theorem rt_main {heap:Int} (h:IsH heap):(rtL heap)[149]?=some ⟨53,0,0,0,0⟩:=by
 rcases h with rfl|rfl
 ·exact rtA.2.2
 ·exact rtB.2.2
theorem rt_E {heap:Int} (h:IsH heap):asmE (rtI heap) 0 171=0:=by
 have hi:insTo (rtI heap) (finA (rtI heap) 0 171) 171=rtL heap:=by
  rcases h with rfl|rfl
  ·exact ins_A
  ·exact ins_B
 have hc:checkE (rtI heap) 0 171 m0=0:=by
  rcases h with rfl|rfl
  ·exact chk_A
  ·exact chk_B
 unfold asmE
 rw[hc,hi,rt_all h,rt_W h,List.length_map,rt_len h]
 rfl
def rtM (heap:Int):LMap:=(finA (rtI heap) 0 171).m
theorem lab_A:[6,7,9,14,15,16,17,20].map (fun n=>((rtM 327680).has (.string (lbN n)),(rtM 327680).val (.string (lbN n))))=[(true,164),(true,188),(true,224),(true,388),(true,452),(true,492),(true,532),(true,596)]:=by kernel_rfl
theorem lab_B:[6,7,9,14,15,16,17,20].map (fun n=>((rtM 585728).has (.string (lbN n)),(rtM 585728).val (.string (lbN n))))=[(true,164),(true,188),(true,224),(true,388),(true,452),(true,492),(true,532),(true,596)]:=by kernel_rfl
set_option maxRecDepth 100000
abbrev w314 (heap:Int):Option Stop:=walk (lookF FL) noSc 100000 x314 (argTm 0 [.int .i64 heap]) [] 100 j0_ ⟨[2],[.tmp 2],[],[]⟩ j0_
def f314 (heap:Int):Nat->List Value:=match w314 heap with
 |some ⟨⟨_,[(_,some (.rows _ _ f _ _))],_,_⟩,_⟩=>f
 |_=>fun _=>[]
theorem p314_A:w314 327680=some ⟨⟨[some (true,.slice (some ⟨442,0,none⟩) 169 169)],[(442,some (.rows 169 8 (f314 327680) true false))],.ret,443⟩,none⟩:=by kernel_rfl
theorem p314_B:w314 585728=some ⟨⟨[some (true,.slice (some ⟨442,0,none⟩) 169 169)],[(442,some (.rows 169 8 (f314 585728) true false))],.ret,443⟩,none⟩:=by kernel_rfl
theorem r314_A:(List.range 169).map (f314 327680)=(List.range 169).map (rtI 327680).row:=by kernel_rfl
theorem r314_B:(List.range 169).map (f314 585728)=(List.range 169).map (rtI 585728).row:=by kernel_rfl
theorem map_at {α:Type}{f g:Nat->α}{n:Nat} (h:(List.range n).map f=(List.range n).map g){j:Nat} (hj:j<n):f j=g j:=by
 have:=congrArg (fun l=>l[j]?) h
 simpa [hj]using this
theorem r314 {heap:Int} (h:IsH heap):∀ j,j<169->f314 heap j=(rtI heap).row j:=fun j hj=>by
 rcases h with rfl|rfl
 ·exact map_at r314_A hj
 ·exact map_at r314_B hj
theorem p314 {heap:Int} (h:IsH heap):walk (lookF FL) noSc 100000 x314 (argTm 0 [.int .i64 heap]) [] 100 j0_ ⟨[2],[.tmp 2],[],[]⟩ j0_=some ⟨⟨[some (true,.slice (some ⟨442,0,none⟩) 169 169)],[(442,some (.rows 169 8 (f314 heap) true false))],.ret,443⟩,none⟩:=by
 rcases h with rfl|rfl
 ·exact p314_A
 ·exact p314_B
def itB (I:Its) (l:Nat):Blk:=.rows l 8 I.row true false
theorem b314 {heap:Int} (h:IsH heap):Body Try.prog 14 [.int .i64 heap] [] (.slice (some ⟨100,0,none⟩) 169 169) (mkH [(100,itB (rtI heap) 169)]) 100 1:=by
 refine body_of' mixed fx314 (by simp) fun E Q hP hn hcl hfin=>?_
 have hF:FnsOK E.P (lookF FL) noSc:=hP▸FOK
 exact xwp_toEnd (s:=⟨_,_,_⟩) hcl hF 100000 (p314 h) ⟨mkT [2] [.slice (some ⟨100,0,none⟩) 169 169],mkH [(100,itB (rtI heap) 169)],101⟩
  ⟨_,_,_,rfl,by rw[hn];rfl,by rw[hn];exact⟨rfl,trivial⟩,by rw[hn,hP];exact⟨⟨rfl,rfl,fun j hj=>by rw[r314 h j hj];rfl,.inl rfl,.inr rfl⟩,trivial⟩⟩ (hfin _ _ (fin_of rfl ⟨rfl,trivial⟩ (by rw[hn]) rfl))
noncomputable abbrev sc17h (m:MS) (fuel:Int) (s:RSt) (n:Nat) (bo:Bool):Short:=scOf [conAt 33 [pAt 92,.slice none 0 0,.int .i64 fuel] (m.HA 90 91 92) (resV24 s.m (vOa 131 bo s.oN) n s.mark) (upd24g 90 91 92 s.m bo s.oN s.of n s.mark) 130 2]
def yV:Value:=.agg ⟨[pAt 92,.map (some 61)]⟩
def yB:Blk:=.var [pAt 92,.map (some 61)]
section
variable {L:List Ins} (hL:RtL L){x d:Nat->Int} (hx:x 0=0){c b:Nat}{z:Int}
include hL hx
end
abbrev nmMain:Value:=.string ⟨#[102,46,109,97,105,110]⟩
abbrev p129:Value:=.pointer (some ⟨129,0,some 0⟩)
section
variable (m:MS) (lm:LMap) (fuel r:Int) (s:RSt) (n:Nat)
theorem p317_0:walk (lookF FL) noSc 1000 x317 (argTm 0 [yV]) (mkH (m.HA 90 91 92++[(61,lm.blk)])) 129 j0_ j0_ ⟨[4,1],[.id 90,.id 91,.id 92,.tmp 1],[],[61]⟩ =
  some ⟨⟨[some (true,.int .i64 0),some (true,p129)],mkH (m.HA 90 91 92++[(129,yB)]),.normal,130⟩,some (x317_21,[.bl 0,.sq x317_26])⟩:=by kernel_rfl
abbrev D317 (bo:Bool):Prop:=[pAt 92,.slice none 0 0,.int .i64 (IntKind.i64.wrap (100*IntKind.i64.wrap (r+1)))]=[pAt 92,.slice none 0 0,.int .i64 fuel]/\Has (mkH (m.HA 90 91 92)) (m.HA 90 91 92) /\
 AtN 33 [pAt 92,.slice none 0 0,.int .i64 fuel] (m.HA 90 91 92) (resV24 s.m (vOa 131 bo s.oN) n s.mark) (upd24g 90 91 92 s.m bo s.oN s.of n s.mark) 130 2
theorem p317_f:walk (lookF FL) (sc17h m fuel s n false) 1000 x317_21 (mkT [4,1] [.int .i64 r,p129]) (mkH (m.HA 90 91 92++[(129,yB),(61,lm.blk)])) 130 ⟨[4],[.id 90,.id 91,.id 92],[1],[129,61]⟩ ⟨[2,3],[.id 90,.id 91,.id 92],[],[61]⟩ j0_ =
  bif decide (r<400)then bif decP (D317 m fuel r s n false)&&true&&true then bif s.m.st != 0 then some ⟨⟨[some (true,.int .i64 s.m.st),some (true,.bool true)],mkH (s.m.HA 90 91 92),.ret,133⟩,none⟩
   else bif s.m.pl==IntKind.u64.wrap (lm.val nmMain)then some ⟨⟨[some (true,.int .i64 s.m.st),some (true,.bool true)],mkH (s.m.HA 90 91 92),.ret,133⟩,none⟩
   else some ⟨⟨[some (true,.int .i64 (IntKind.i64.wrap (r+1)))],mkH (s.m.HA 90 91 92),.normal,133⟩,none⟩else none
  else some ⟨⟨[some (true,.int .i64 r)],mkH (m.HA 90 91 92),.exit 0,130⟩,none⟩:=by kernel_rfl
theorem p317_t:walk (lookF FL) (sc17h m fuel s n true) 1000 x317_21 (mkT [4,1] [.int .i64 r,p129]) (mkH (m.HA 90 91 92++[(129,yB),(61,lm.blk)])) 130 ⟨[4],[.id 90,.id 91,.id 92],[1],[129,61]⟩ ⟨[2,3],[.id 90,.id 91,.id 92],[],[61]⟩ j0_ =
  bif decide (r<400)then bif decP (D317 m fuel r s n true)&&true&&true then bif s.m.st != 0 then some ⟨⟨[some (true,.int .i64 s.m.st),some (true,.bool true)],mkH (s.m.HA 90 91 92),.ret,133⟩,none⟩
   else bif s.m.pl==IntKind.u64.wrap (lm.val nmMain)then some ⟨⟨[some (true,.int .i64 s.m.st),some (true,.bool true)],mkH (s.m.HA 90 91 92),.ret,133⟩,none⟩
   else some ⟨⟨[some (true,.int .i64 (IntKind.i64.wrap (r+1)))],mkH (s.m.HA 90 91 92),.normal,133⟩,none⟩else none
  else some ⟨⟨[some (true,.int .i64 r)],mkH (m.HA 90 91 92),.exit 0,130⟩,none⟩:=by kernel_rfl
theorem p317_26:walk (lookF FL) noSc 1000 x317_26 (mkT [4,1] [.int .i64 r,p129]) (mkH (m.HA 90 91 92++[(129,yB),(61,lm.blk)])) 130 j0_ ⟨[2,3],[],[],[90,91,92,61]⟩ j0_ =
  some ⟨⟨[some (true,.int .i64 0),some (true,.bool false)],[],.ret,130⟩,none⟩:=by kernel_rfl
end
end Go.X
