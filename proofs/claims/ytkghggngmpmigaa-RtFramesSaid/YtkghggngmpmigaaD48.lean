import Derived.Test.YtkghggngmpmigaaD47
set_option linter.all false
namespace Go.X
open Go Go.Proofs
theorem b317 {m:MS} (hm:OKM m){lm:LMap}{p:Nat} (hp:p<1000000) (hl:lm.val nmMain=4*(p:Int)){st:Int}{ok:Bool} {m':MS} (hr:homeF p 400 0 m=(st,ok,m')) :
  Body Try.prog 17 [yV] (mkH (m.HA 90 91 92++[(61,lm.blk)])) (.tuple ⟨[.int .i64 st,.bool ok]⟩) (mkH (m'.HA 90 91 92)) 129 0:=by
 refine body_of' mixed fx317 (by simp) fun E Q hP hn hcl hfin=>?_
 have hF:FnsOK E.P (lookF FL) noSc:=hP▸FOK
 have hlw:IntKind.u64.wrap (lm.val nmMain)=4*(p:Int):=by rw[hl,u64w];omega
 let S:Nat × MS->St:=fun x=>⟨mkT [4,1] [.int .i64 (x.1:Int),p129],mkH (x.2.HA 90 91 92++[(129,yB),(61,lm.blk)]),130⟩
 have lf:∀ {m:MS}{v:Int}{l:Leaf},l.bs=mkH (m.HA 90 91 92++[(129,yB),(61,lm.blk)])->l.ts=[some (true,.int .i64 v),some (true,p129)]->LeafTo E [4,1] l ⟨mkT [4,1] [.int .i64 v,p129],mkH (m.HA 90 91 92++[(129,yB),(61,lm.blk)]),130⟩:=fun {m v l} hb ht =>
  ⟨_,_,_,rfl,by rw[hn,hb];rfl,by rw[hn,hb,ht];exact⟨rfl,rfl,trivial⟩,by rw[hn,hP,hb];exact⟨bis_mem,bis_kn,bis_mAt rfl rfl,rfl,bis_lmap,trivial⟩⟩
 have lf3:∀ {m:MS}{v:Int}{b:Bool}{l:Leaf},l.bs=mkH (m.HA 90 91 92++[(61,lm.blk)])->l.ts=[some (true,.int .i64 v),some (true,.bool b)]->LeafTo E [2,3] l ⟨mkT [2,3] [.int .i64 v,.bool b],mkH (m.HA 90 91 92++[(61,lm.blk)]),129⟩:=fun {m v b l} hb ht =>
  ⟨_,_,_,rfl,by rw[hn,hb];rfl,by rw[hn,hb,ht];exact⟨rfl,rfl,trivial⟩,by rw[hn,hP,hb];exact⟨bis_mem,bis_kn,bis_mAt rfl rfl,bis_lmap,trivial⟩⟩
 refine xwp_toLoop (s:=⟨_,_,_⟩) hF 1000 (p317_0 m lm) (S (0,m)) (lf (m:=m) (v:=0) rfl rfl) ?_
 refine xwp_loopR (ι:=Nat × MS) S (fun x=>x.1<=400/\OKM x.2/\homeF p (400-x.1) x.1 x.2=(st,ok,m')) (fun x=>400-x.1) (0,m) ⟨Nat.zero_le _,hm,hr⟩ fun x hx=>?_
 obtain⟨r,m⟩:=x
 obtain⟨hr1,hm,hr⟩:r<=400/\OKM m/\homeF p (400-r) r m=(st,ok,m'):=hx
 have hcr:=cl_round (S:=S) (I:=fun x=>x.1<=400/\OKM x.2/\homeF p (400-x.1) x.1 x.2=(st,ok,m')) (μ:=fun x=>400-x.1) (i:=(r,m)) (cl_ctx hcl [.bl 0,.sq x317_26])
 by_cases hlt:r<400
 ·obtain⟨s,n,hsn⟩:∃ s n,runM false m (100*(r+1))=(s,n):=⟨_,_,rfl⟩
  have A:=c24_0 hm (fuel:=100*(r+1)) (by omega) hsn
  have hm2:OKM s.m:=by have:=(runM_ok (wt:=false) hm (fuel:=100*(r+1)) (by omega)).1;rw[hsn]at this;exact this
  have hw:IntKind.i64.wrap (100*IntKind.i64.wrap ((r:Int)+1))=((100*(r+1):Nat):Int):=by rw[wrap_i (n:=(r:Int)+1) (by omega) (by omega),wrap_i (by omega) (by omega)];omega
  have e:∃ bo,walk (lookF FL) (sc17h m ((100*(r+1):Nat):Int) s n bo) 1000 x317_21 (S (r,m)).t (S (r,m)).h 130 ⟨[4],[.id 90,.id 91,.id 92],[1],[129,61]⟩ ⟨[2,3],[.id 90,.id 91,.id 92],[],[61]⟩ j0_ =
    bif s.m.st != 0 then some ⟨⟨[some (true,.int .i64 s.m.st),some (true,.bool true)],mkH (s.m.HA 90 91 92),.ret,133⟩,none⟩
    else bif s.m.pl==IntKind.u64.wrap (lm.val nmMain)then some ⟨⟨[some (true,.int .i64 s.m.st),some (true,.bool true)],mkH (s.m.HA 90 91 92),.ret,133⟩,none⟩
    else some ⟨⟨[some (true,.int .i64 (IntKind.i64.wrap ((r:Int)+1)))],mkH (s.m.HA 90 91 92),.normal,133⟩,none⟩:=by
   cases hbo:bO s.oN with
   |false =>
    rw[hbo]at A
    have e:=p317_f m lm ((100*(r+1):Nat):Int) (r:Int) s n
    rw[decide_eq_true (show(r:Int)<400 by omega),decP_true (p:=D317 m _ (r:Int) s n false) ⟨by rw[hw],⟨rfl,rfl,rfl,trivial⟩,A⟩]at e
    exact⟨false,e⟩
   |true =>
    rw[hbo]at A
    have e:=p317_t m lm ((100*(r+1):Nat):Int) (r:Int) s n
    rw[decide_eq_true (show(r:Int)<400 by omega),decP_true (p:=D317 m _ (r:Int) s n true) ⟨by rw[hw],⟨rfl,rfl,rfl,trivial⟩,A⟩]at e
    exact⟨true,e⟩
  obtain⟨bo,e⟩:=e
  rw[hlw]at e
  obtain⟨k,hk⟩:∃ k,400-r=k+1:=⟨399-r,by omega⟩
  rw[hk]at hr
  unfold homeF at hr
  have hs:(runF (stepF (e0 false)) (100*(r+1)) (RSt.init m) 0).1=s:=by
   have:runM false m (100*(r+1))=runF (stepF (e0 false)) (100*(r+1)) (RSt.init m) 0:=rfl
   rw[<- this,hsn]
  rw[hs]at hr
  simp only at hr
  cases h0:s.m.st==0 with
  |false =>
   have h1:(s.m.st != 0)=true:=by simp only[bne,h0];rfl
   rw[h0,cond_false]at hr
   cases hr
   rw[h1,cond_true]at e
   exact xwp_toEnd (s:=S (r,m)) hcr (fokE hP _) 1000 e _ (lf3 (m:=s.m) rfl rfl) (hfin _ _ (fin_of rfl ⟨rfl,rfl,rfl,trivial,trivial,trivial,rfl,trivial⟩ (by rw[hn]) rfl))
  |true =>
   have h1:(s.m.st != 0)=false:=by simp only[bne,h0];rfl
   have h2:s.m.st=0:=eq_of_beq h0
   rw[h0,cond_true]at hr
   rw[h1,cond_false]at e
   cases h3:s.m.pl==4*(p:Int)with
   |true =>
    rw[h3,cond_true]at hr e
    cases hr
    rw[h2]at e
    exact xwp_toEnd (s:=S (r,m)) hcr (fokE hP _) 1000 e _ (lf3 (m:=s.m) rfl rfl) (hfin _ _ (fin_of rfl ⟨rfl,rfl,rfl,trivial,trivial,trivial,rfl,trivial⟩ (by rw[hn]) rfl))
   |false =>
    rw[h3,cond_false]at hr e
    rw[wrap_i (n:=(r:Int)+1) (by omega) (by omega)]at e
    exact xwp_toEnd (s:=S (r,m)) hcr (fokE hP _) 1000 e (S (r+1,s.m)) (lf (m:=s.m) (v:=((r+1:Nat):Int)) rfl rfl) ⟨(r+1,s.m),⟨hlt,hm2,by rw[show 400-(r+1)=k by omega];exact hr⟩,by simp only;omega,Wk.refl _ _⟩
 ·obtain⟨s0,z0,f0,_⟩:∃ (s0:RSt) (z0:Nat) (f0:Int),True:=⟨RSt.init m,0,0,trivial⟩
  have e:walk (lookF FL) (sc17h m f0 s0 z0 false) 1000 x317_21 (S (r,m)).t (S (r,m)).h 130 ⟨[4],[.id 90,.id 91,.id 92],[1],[129,61]⟩ ⟨[2,3],[.id 90,.id 91,.id 92],[],[61]⟩ j0_=some ⟨⟨[some (true,.int .i64 (r:Int))],mkH (m.HA 90 91 92),.exit 0,130⟩,none⟩:=by
   have e:=p317_f m lm f0 (r:Int) s0 z0
   rw[decide_eq_false (show ¬ (r:Int)<400 by omega),cond_false]at e
   exact e
  rw[show 400-r=0 by omega]at hr
  cases hr
  refine xwp_toEnd (s:=S (r,m')) hcr (fokE hP _) 1000 e (S (r,m')) (lf (m:=m') (v:=(r:Int)) rfl rfl) ?_
  show XWP E.toEnv x317_26 Q _
  exact xwp_toEnd (s:=S (r,m')) hcl hF 1000 (p317_26 m' lm (r:Int)) _ (lf3 (m:=m') rfl rfl) (hfin _ _ (fin_of rfl ⟨rfl,rfl,rfl,trivial,trivial,trivial,rfl,trivial⟩ (by rw[hn]) rfl))
def wB1 (k:Nat) (W:Nat->Int):Blk:=.rows k 1 (fun j=>[.int .u32 (W j)]) true false
def f308 (I:Its):Nat->List Value:=rowCat I.row 0 169 (fun j=>slab [.string ⟨#[102,46,109,97,105,110]⟩,.int .i64 0,.int .i64 0,.int .i64 0,.int .i64 0,.int .i64 0,.string ⟨#[]⟩,.int .i64 0,
 .string ⟨#[]⟩,.int .i64 53,.int .i64 0,.int .i64 0,.int .i64 0,.int .i64 0,.string ⟨#[102,46,109,97,105,110]⟩,.int .i64 0] ((0+j)*8) 8)
noncomputable abbrev sc308 (heap:Int) (I:Its) (W:Nat->Int) (lm:LMap) (m m':MS):Short:=scOf [
 conAt 14 [.int .i64 heap] [] (.slice (some ⟨101,0,none⟩) 169 169) (mkH [(101,itB I 169)]) 101 1,
 conAt 13 [.slice (some ⟨103,0,none⟩) 171 171,.int .i64 0] [(103,.rows 171 8 (f308 I) true false)] (.tuple ⟨[.slice (some ⟨104,0,none⟩) 150 150,.map (some 105),.int .i64 0]⟩) (mkH [(104,wB1 150 W),(105,lm.blk)]) 104 2,
 conAt 16 [.slice (some ⟨104,0,none⟩) 150 150] [(104,wB1 150 W)] (newS 106 600) (mkH [(106,outB 600 (bw W 150))]) 106 1,
 conAt 15 [newS 106 600,.int .i64 2621440] [(106,outB 600 (bw W 150))] (vM3 109) (mkH [(107,m.memB),(108,m.kn.blk),(109,m.mAt 107 108)]) 107 3,
 conAt 17 [.agg ⟨[pAt 109,.map (some 105)]⟩] (m.HA 107 108 109++[(105,lm.blk)]) (.tuple ⟨[.int .i64 0,.bool true]⟩) (mkH (m'.HA 107 108 109)) 111 0]
set_option maxRecDepth 100000
def DA (f:FuncId) (vs:List Value) (pre:List (Nat × Blk)) (v:Value) (upd:Hp) (N news:Nat):Prop:=vs=vs/\Has (mkH pre) pre/\AtN f vs pre v upd N news
theorem da_true {f:FuncId}{vs:List Value}{pre:List (Nat × Blk)}{v:Value}{upd:Hp}{N news:Nat} (h:AtN f vs pre v upd N news) (hh:Has (mkH pre) pre):decP (DA f vs pre v upd N news)=true:=decP_true ⟨rfl,hh,h⟩
section
variable (heap:Int) (I:Its) (W:Nat->Int) (lm:LMap) (m m':MS)
theorem p308:walk (lookF FL) (sc308 heap I W lm m m') 1000 x308 (argTm 0 [.int .i64 heap]) [] 100 j0_ ⟨[2,3],[.id 107,.id 108,.id 109,.id 105,.tmp 2],[],[]⟩ j0_ =
  bif decP (DA 13 [.slice (some ⟨103,0,none⟩) 171 171,.int .i64 0] [(103,.rows 171 8 (f308 I) true false)] (.tuple ⟨[.slice (some ⟨104,0,none⟩) 150 150,.map (some 105),.int .i64 0]⟩) (mkH [(104,wB1 150 W),(105,lm.blk)]) 104 2)&&true &&
   (decP (DA 14 [.int .i64 heap] [] (.slice (some ⟨101,0,none⟩) 169 169) (mkH [(101,itB I 169)]) 101 1)&&true&&true)then
  bif decP (DA 15 [newS 106 600,.int .i64 2621440] [(106,outB 600 (bw W 150))] (vM3 109) (mkH [(107,m.memB),(108,m.kn.blk),(109,m.mAt 107 108)]) 107 3)&&true &&
   (decP (DA 16 [.slice (some ⟨104,0,none⟩) 150 150] [(104,wB1 150 W)] (newS 106 600) (mkH [(106,outB 600 (bw W 150))]) 106 1)&&true&&true)then
  bif decP (DA 17 [.agg ⟨[pAt 109,.map (some 105)]⟩] (m.HA 107 108 109++[(105,lm.blk)]) (.tuple ⟨[.int .i64 0,.bool true]⟩) (mkH (m'.HA 107 108 109)) 111 0)&&true&&true then
   some ⟨⟨[some (true,.pointer (some ⟨100,0,some 0⟩)),some (true,.bool (m'.x 2==786432))],mkH (m'.HA 107 108 109++[(105,lm.blk),(100,.var [pAt 109,.map (some 105)])]),.ret,111⟩,none⟩else none else none else none:=by kernel_rfl
end
theorem r308_A:(List.range 171).map (f308 (rtI 327680))=(List.range 171).map (rtI 327680).row:=by kernel_rfl
theorem r308_B:(List.range 171).map (f308 (rtI 585728))=(List.range 171).map (rtI 585728).row:=by kernel_rfl
theorem r308 {heap:Int} (h:IsH heap):∀ j,j<171->f308 (rtI heap) j=(rtI heap).row j:=fun j hj=>by
 rcases h with rfl|rfl
 ·exact map_at r308_A hj
 ·exact map_at r308_B hj
def rtW (heap:Int):Nat->Int:=fun j=>((rtL heap).map encW).getD j 0
theorem rtW_rng (heap:Int) (j:Nat):0<=rtW heap j/\rtW heap j<4294967296:=by
 unfold rtW
 rw[List.getD_eq_getElem?_getD,List.getElem?_map]
 cases (rtL heap)[j]? with
 |none=>exact⟨Int.le_refl _,by decide⟩
 |some i=>exact encF_rng _ _ _ _ _
theorem A14 {heap:Int} (h:IsH heap):AtN 14 [.int .i64 heap] [] (.slice (some ⟨101,0,none⟩) 169 169) (mkH [(101,itB (rtI heap) 169)]) 101 1 :=
 ⟨rfl,adet_of_body (b314 h) [] [(101,100)] rfl rfl trivial rfl rfl ⟨bis_its,trivial⟩ rfl⟩
theorem A13 {heap:Int} (h:IsH heap):AtN 13 [.slice (some ⟨103,0,none⟩) 171 171,.int .i64 0] [(103,.rows 171 8 (f308 (rtI heap)) true false)] (.tuple ⟨[.slice (some ⟨104,0,none⟩) 150 150,.map (some 105),.int .i64 0]⟩) (mkH [(104,wB1 150 (rtW heap)),(105,(rtM heap).blk)]) 104 2:=by
 have hlen:(asmW (rtI heap) 0 171).length=150:=by rw[rt_W h,List.length_map,rt_len h]
 have e:=c17_ok 171 171 0 (rtI heap) (by omega) (rt_E h) (fun e=>by rw[e]at hlen;cases hlen) 103 104 (by omega) (o:=true) (r:=false) (r308 h)
 rw[hlen]at e
 refine⟨rfl,?_⟩
 have hw:(fun j=>(asmW (rtI heap) 0 171).getD j 0)=rtW heap:=by rw[rt_W h];rfl
 have e2:(fun j=>[Value.int .u32 ((asmW (rtI heap) 0 171).getD j 0)])=fun j=>[Value.int .u32 (rtW heap j)]:=by
  funext j;rw[<- hw]
 rw[e2]at e
 exact e
theorem A16 {W:Nat->Int}:AtN 16 [.slice (some ⟨104,0,none⟩) 150 150] [(104,wB1 150 W)] (newS 106 600) (mkH [(106,outB 600 (bw W 150))]) 106 1 :=
 ⟨rfl,adet_demote (o:=true) (o':=false) (adet_of_body (b38 (N:=150) (C:=150) (T:=150) (W:=W) (by decide) (by decide) (by decide)) [(41,104)] [(106,100)] rfl rfl ⟨⟨rfl,rfl,fun j hj=>rfl,.inr (.inr rfl),.inl rfl⟩,trivial⟩ rfl rfl ⟨bis_outB,bis_wB,trivial⟩ rfl) (by simp[mkH,fstL]) rfl⟩
theorem A15 {W:Nat->Int}:AtN 15 [newS 106 600,.int .i64 2621440] [(106,outB 600 (bw W 150))] (vM3 109) (mkH [(107,(mW W 150 2621440).memB),(108,(mW W 150 2621440).kn.blk),(109,(mW W 150 2621440).mAt 107 108)]) 107 3 :=
 ⟨rfl,c22_at (L:=600) (C:=600) (sz:=2621440) (inp:=bw W 150) (by decide) (by decide) 106 107 (by omega) (Nat.le_refl _) (o:=true) (r:=false) fun j _=>rfl⟩
theorem A17 {m:MS} (hm:OKM m){lm:LMap}{p:Nat} (hp:p<1000000) (hl:lm.val nmMain=4*(p:Int)){st:Int}{ok:Bool} {m':MS} (hr:homeF p 400 0 m=(st,ok,m')) :
  AtN 17 [.agg ⟨[pAt 109,.map (some 105)]⟩] (m.HA 107 108 109++[(105,lm.blk)]) (.tuple ⟨[.int .i64 st,.bool ok]⟩) (mkH (m'.HA 107 108 109)) 111 0 :=
 ⟨rfl,adet_of_body (b317 hm hp hl hr) [(90,107),(91,108),(92,109),(61,105)] [] rfl rfl ⟨bis_mem,bis_kn,bis_mAt (a:=90) (b:=91) rfl rfl,bis_lmap,trivial⟩ rfl rfl ⟨bis_mem,bis_kn,bis_mAt rfl rfl,trivial,trivial,trivial,bis_lmap,trivial⟩ rfl⟩
theorem homeF_ok (p:Nat):∀ (k r:Nat){m:MS},OKM m->r+k<=400->OKM (homeF p k r m).2.2
 |0,_,_,h,_=>h
 |k+1,r,m,h,hk=>by
  have h2:=(runM_ok (wt:=false) h (fuel:=100*(r+1)) (by omega)).1
  unfold homeF
  show OKM (bif (runM false m (100*(r+1))).1.m.st==0 then _ else _:Int × Bool × MS).2.2
  cases (runM false m (100*(r+1))).1.m.st==0 with
  |false=>exact h2
  |true =>
   rw[cond_true]
   show OKM (bif (runM false m (100*(r+1))).1.m.pl==4*(p:Int)then _ else _:Int × Bool × MS).2.2
   cases (runM false m (100*(r+1))).1.m.pl==4*(p:Int)with
   |true=>exact h2
   |false=>exact homeF_ok p k (r+1) h2 (by omega)
def dW (W:Nat->Int) (n:Nat):Nat->Int:=fun k=>bif Nat.blt k n then W (2*k)+4294967296*W (2*k+1)else 0
theorem lo_x {a b:Int} (ha:0<=a/\a<4294967296) (hb:0<=b/\b<4294967296):∀ j,j<4->byteX (a+4294967296*b) j=byteX a j:=fun j hj=>by
 rw[byteX_val (by omega) j (by omega),byteX_val ha.1 j (by omega)]
 obtain rfl|rfl|rfl|rfl:j=0\/j=1\/j=2\/j=3:=by omega
 all_goals simp only[Nat.mul_zero,Nat.mul_one,Int.reducePow,Nat.reduceMul];omega
theorem hi_x {a b:Int} (ha:0<=a/\a<4294967296) (hb:0<=b/\b<4294967296):∀ j,j<4->byteX (a+4294967296*b) (4+j)=byteX b j:=fun j hj=>by
 rw[byteX_val (by omega) (4+j) (by omega),byteX_val hb.1 j (by omega)]
 obtain rfl|rfl|rfl|rfl:j=0\/j=1\/j=2\/j=3:=by omega
 all_goals simp only[Nat.mul_zero,Nat.mul_one,Int.reducePow,Nat.reduceMul,Nat.reduceAdd,Nat.add_zero];omega
theorem byteX_0 (j:Nat) (hj:j<8):byteX 0 j=0:=by
 rw[byteX_val (by omega) j hj,Int.zero_ediv];rfl
theorem mW_dB {W:Nat->Int} (hW:∀ j,0<=W j/\W j<4294967296){n sz:Nat}:(mW W (2*n) sz).mem=dB (dW W n):=by
 funext j
 show(bif Nat.blt j (4*(2*n))then bw W (2*n) (0+j)else 0)=byteX (dW W n (j / 8)) (j % 8)
 unfold dW
 by_cases h:j<8*n
 ·rw[lt_blt (by omega),cond_true,Nat.zero_add,lt_blt (show j / 8<n by omega),cond_true,bw_at W _ _ (by omega),byteOf_X _ _ (by omega)]
  by_cases h4:j % 8<4
  ·rw[lo_x (hW _) (hW _) _ h4,show j / 4=2*(j / 8) by omega,show j % 4=j % 8 by omega]
  ·rw[show j % 8=4+j % 4 by omega,hi_x (hW _) (hW _) _ (by omega),show j / 4=2*(j / 8)+1 by omega]
 ·rw[blt_ff (show ¬ j<4*(2*n) by omega),cond_false,blt_ff (show ¬ j / 8<n by omega),cond_false,byteX_0 _ (by omega)]
theorem mW_code {W:Nat->Int} (hW:∀ j,0<=W j/\W j<4294967296){n sz i:Nat} (hi:i<2*n):num4 (mW W (2*n) sz).mem (4*i)=W i:=by
 rw[num4_val (hW i).1 (by have:=hW i;omega) fun j hj=>by
  show(bif Nat.blt (4*i+j) (4*(2*n))then bw W (2*n) (0+(4*i+j))else 0)=_
  rw[lt_blt (by omega),cond_true,Nat.zero_add,bw_at W _ _ (by omega),show(4*i+j) / 4=i by omega,show(4*i+j) % 4=j by omega,byteOf_X _ j hj]]
 have:=hW i;omega
def mRt (heap:Int):MS:=mW (rtW heap) 150 2621440
def dRt (heap:Int):Nat->Int:=dW (rtW heap) 75
theorem okRt (heap:Int):OKM (mRt heap):=newM_ok (by unfold szB;simp)
theorem atRt {heap:Int} (h:IsH heap):AtR 2621440 (rtL heap) (RSt.init (mRt heap)) ⟨0,fun _=>0,dRt heap⟩:=by
 have hd:(mRt heap).mem=dB (dRt heap):=mW_dB (n:=75) (rtW_rng heap)
 refine⟨hd,rfl,rfl,rfl,rfl,rfl,rfl,fun _=>rfl,fun k=>?_,fun i hi=>?_⟩
 ·show uB (dW (rtW heap) 75 k)=true
  unfold dW
  have h1:=rtW_rng heap (2*k)
  have h2:=rtW_rng heap (2*k+1)
  refine uB_iff.2 ?_
  cases Nat.blt k 75
  ·rw[cond_false];omega
  ·rw[cond_true];omega
 ·rw[<- hd]
  rw[rt_len h]at hi
  exact mW_code (n:=75) (rtW_rng heap) hi
structure Yd (heap:Int) (m:MS) (x d:Nat->Int):Prop where
 ok:OKM m
 at_:AtR 2621440 (rtL heap) (RSt.init m) ⟨149,x,d⟩
theorem sum400:sumR 400 0=8020000:=by kernel_rfl
theorem yd_home {heap:Int} (h:IsH heap){m:MS} (hm:OKM m){a:RA} (ha:AtR 2621440 (rtL heap) (RSt.init m) a){K:Nat}{x d:Nat->Int} (hs:Rt (rtL heap) a K ⟨149,x,d⟩) (hK:K<=8020000) :
  ∃ m',homeF 149 400 0 m=(0,true,m')/\Yd heap m' x d:=by
 obtain⟨m',e,h2⟩:=home_main (rt_all h) (by rw[rt_len h];decide) (by decide) (C:=262144) (by rw[rt_len h];decide) (main:=149) (rt_main h) (by decide) 400 0 hs rfl ha (by rw[sum400];exact hK) (by decide)
 refine⟨m',e,?_,h2⟩
 have:=homeF_ok 149 400 0 hm (by decide)
 rw[e]at this
 exact this
theorem yd_new {heap:Int} (h:IsH heap):∃ m' x,homeF 149 400 0 (mRt heap)=(0,true,m')/\Yd heap m' x (stD (dRt heap) heap)/\x 2=786432:=by
 obtain⟨x,n,hn,hs,h0,h2⟩:=start_ok (heap:=heap) (L:=rtL heap) (by rcases h with rfl|rfl<;>simp) (x:=fun _=>0) (d:=dRt heap) rfl
 obtain⟨m',e,hy⟩:=yd_home h (okRt heap) (atRt h) hs (by omega)
 exact⟨m',x,e,hy,h2⟩
theorem map_val {α:Type}{l:List Nat}{f:Nat->α}{r:List α} (h:l.map f=r){i:Nat}{n:Nat}{v:α} (h1:l[i]?=some n) (h2:r[i]?=some v):f n=v:=by
 have:=congrArg (fun q=>q[i]?) h
 simp only[List.getElem?_map,h1,h2,Option.map_some,Option.some.injEq]at this
 exact this
theorem rtM_at {heap:Int} (h:IsH heap){i n:Nat}{v:Int} (h1:[6,7,9,14,15,16,17,20][i]?=some n) (h2:[(true,(164:Int)),(true,188),(true,224),(true,388),(true,452),(true,492),(true,532),(true,596)][i]?=some (true,v)) :
  (rtM heap).has (.string (lbN n))=true/\(rtM heap).val (.string (lbN n))=v:=by
 rcases h with rfl|rfl
 ·have:=map_val lab_A h1 h2;exact⟨congrArg (·.1) this,congrArg (·.2) this⟩
 ·have:=map_val lab_B h1 h2;exact⟨congrArg (·.1) this,congrArg (·.2) this⟩
theorem main_at {heap:Int} (h:IsH heap):(rtM heap).val nmMain=4*((149:Nat):Int):=(rtM_at h (i:=7) (n:=20) rfl rfl).2
theorem b308 {heap:Int} (h:IsH heap):∃ m' x,Yd heap m' x (stD (dRt heap) heap) /\
  Body Try.prog 8 [.int .i64 heap] [] (.tuple ⟨[.agg ⟨[pAt 102,.map (some 103)]⟩,.bool true]⟩) (mkH (m'.HA 100 101 102++[(103,(rtM heap).blk),(104,.var [pAt 102,.map (some 103)])])) 100 5:=by
 obtain⟨m',x,e,hy,h2⟩:=yd_new h
 refine⟨m',x,hy,?_⟩
 refine body_of' mixed fx308 (by simp) fun E Q hP hn hcl hfin=>?_
 have ew:=p308 heap (rtI heap) (rtW heap) (rtM heap) (mRt heap) m'
 have a15:AtN 15 [newS 106 600,.int .i64 2621440] [(106,outB 600 (bw (rtW heap) 150))] (vM3 109) (mkH [(107,(mRt heap).memB),(108,(mRt heap).kn.blk),(109,(mRt heap).mAt 107 108)]) 107 3:=A15
 rw[da_true (A13 h) ⟨rfl,trivial⟩,da_true (A14 h) trivial,da_true a15 ⟨rfl,trivial⟩,da_true A16 ⟨rfl,trivial⟩,da_true (A17 (okRt heap) (by decide) (main_at h) e) ⟨rfl,rfl,rfl,rfl,trivial⟩]at ew
 have hx:(m'.x 2==786432)=true:=by
  have:m'.x=x:=hy.at_.x
  rw[this,h2];rfl
 rw[hx]at ew
 have hs:SubB (mkH (m'.HA 100 101 102++[(103,(rtM heap).blk),(104,.var [pAt 102,.map (some 103)])])) [] (mkH (m'.HA 100 101 102++[(103,(rtM heap).blk),(104,.var [pAt 102,.map (some 103)])])++[]):=⟨rfl,rfl,rfl,rfl,rfl,trivial⟩
 exact xwp_toEnd (s:=⟨_,_,_⟩) hcl (fokE hP _) 1000 ew ⟨mkT [2,3] [.pointer (some ⟨104,0,some 0⟩),.bool true],mkH (m'.HA 100 101 102++[(103,(rtM heap).blk),(104,.var [pAt 102,.map (some 103)])]),105⟩
  ⟨_,_,_,rfl,by rw[hn];rfl,by rw[hn];exact⟨rfl,rfl,trivial⟩,by rw[hn,hP];exact⟨bis_mem,bis_kn,bis_mAt rfl rfl,bis_lmap,rfl,trivial⟩⟩ (hfin _ _ (fin_of rfl hs (by rw[hn]) rfl))
def callX (x:Nat->Int) (n:Nat) (a:Nat->Int) (ra:Int):Nat->Int:=fun j =>
 bif Nat.beq j 0 then x 0 else bif Nat.beq j 1 then ra else bif Nat.blt j 32 then(bif Nat.ble 10 j&&Nat.blt j (10+n)then a (j-10)else 19088743*(j:Int)+n)else x j
def isKept (j:Nat):Bool:=(Nat.ble 2 j&&Nat.blt j 5)||(Nat.ble 8 j&&Nat.blt j 10)||(Nat.ble 18 j&&Nat.blt j 28)
def keepX (n:Nat) (u:Nat->Int):Nat->Int:=fun j=>bif isKept j then 19088743*(j:Int)+n else u j
def callM (m:MS) (n:Nat) (a:Nat->Int) (ra pl:Int):MS:={ m with x:=callX m.x n a ra,pl:=pl }
def keepM (m:MS) (n:Nat):MS:={ m with x:=keepX n m.x }
def aB (n:Nat) (a:Nat->Int):Blk:=.rows n 1 (fun j=>[.int .u64 (a j)]) false false
def aV (n:Nat):Value:=match n with
 |0=>.slice none 0 0
 |n+1=>.slice (some ⟨60,0,none⟩) (n+1) (n+1)
def aH (n:Nat) (a:Nat->Int):List (Nat × Blk):=match n with
 |0=>[]
 |n+1=>[(60,aB (n+1) a)]
noncomputable abbrev sc310 (m:MS) (lm:LMap) (st:Int) (ok:Bool) (m':MS) (N:Nat):Short:=scOf [
 conAt 17 [.agg ⟨[pAt 92,.map (some 61)]⟩] (m.HA 90 91 92++[(61,lm.blk)]) (.tuple ⟨[.int .i64 st,.bool ok]⟩) (mkH (m'.HA 90 91 92)) N 0]
abbrev lf310 (lm:LMap) (n:Nat) (a:Nat->Int) (st:Int) (b:Bool) (v:List Value) (m:MS) (k:Nat):Option Leaf:=some ⟨[some (true,.int .i64 st),some (true,.pointer (some ⟨131,0,some 0⟩)),some (true,.bool b)],mkH (m.HA 90 91 92++[(131,.var v),(61,lm.blk)]++aH n a),.ret,k⟩
def z5:List Value:=[.int .u64 0,.int .u64 0,.int .u64 0,.int .u64 0,.int .u64 0]
def r5 (x:Nat->Int):List Value:=[.int .u64 (x 10),.int .u64 (x 11),.int .u64 (x 12),.int .u64 (x 13),.int .u64 (x 14)]
def call0 (m:MS) (lm:LMap) (n:Nat) (a:Nat->Int) (lb:ByteArray):MS:=callM m n a (IntKind.u64.wrap (lm.val nmMain)) (IntKind.u64.wrap (lm.val (.string lb)))
abbrev run310 (sc:Short) (m:MS) (lm:LMap) (n:Nat) (a:Nat->Int) (lb:ByteArray):Option Leaf :=
 execC (lookF FL) sc 100000 x310 (argTm 0 [yV,.string lb,aV n]) (mkH (m.HA 90 91 92++[(61,lm.blk)]++aH n a)) 130 (prjK [6,7,8] ([.id 90,.id 91,.id 92,.tmp 7,.id 61]++(aH n a).map fun p=>.id p.1))
abbrev D310 (m:MS) (lm:LMap) (n:Nat) (a:Nat->Int) (lb:ByteArray) (st:Int) (m':MS):Prop :=
 DA 17 [.agg ⟨[pAt 92,.map (some 61)]⟩] ((call0 m lm n a lb).HA 90 91 92++[(61,lm.blk)]) (.tuple ⟨[.int .i64 st,.bool true]⟩) (mkH (m'.HA 90 91 92)) 133 0
def P310 (n:Nat):Prop:=∀ (m mh:MS) (lm:LMap) (a:Nat->Int) (lb:ByteArray),run310 (sc310 (call0 m lm n a lb) lm 0 true (keepM mh n) 133) m lm n a lb =
 bif decP (D310 m lm n a lb 0 (keepM mh n))&&true&&true then
  bif ((!!lm.has (.string lb)||!lm.has (.string lb))&&true||false)&&((!!lm.has (.string lb)&&true||!!!lm.has (.string lb))&&true)then
   bif bif !lm.has (.string lb)then true else false then lf310 lm n a 0 (lm.has (.string lb)) z5 (keepM mh n) 133 else lf310 lm n a 0 true (r5 (keepM mh n).x) (keepM mh n) 134 else none else none
theorem uB_lit {j n:Nat} (hj:j<32) (hn:n<10):uB (19088743*(j:Int)+n)=true:=uB_iff.2 (by omega)
theorem callX_uB {x a:Nat->Int} (hx:∀ j,uB (x j)=true){n:Nat} (hn:n<=5) (ha:∀ j,j<n->uB (a j)=true){ra:Int} (hr:uB ra=true) (j:Nat):uB (callX x n a ra j)=true:=by
 unfold callX
 cases Nat.beq j 0 with
 |true=>exact hx 0
 |false =>
  cases Nat.beq j 1 with
  |true=>exact hr
  |false =>
   rw[cond_false,cond_false]
   cases h2:Nat.blt j 32 with
   |false=>exact hx j
   |true =>
    have h2:=blt_lt h2
    rw[cond_true]
    cases h3:Nat.ble 10 j&&Nat.blt j (10+n)with
    |true =>
     rw[Bool.and_eq_true]at h3
     have:=ble_le h3.1
     have:=blt_lt h3.2
     exact ha _ (by omega)
    |false=>exact uB_lit h2 (by omega)
theorem yd_call {heap:Int} (h:IsH heap){m:MS}{x d:Nat->Int} (hy:Yd heap m x d){n p:Nat} (hn:n<=5) (hp:p<150){a:Nat->Int} (ha:∀ j,j<n->uB (a j)=true) :
  OKM (callM m n a 596 (4*(p:Int)))/\AtR 2621440 (rtL heap) (RSt.init (callM m n a 596 (4*(p:Int)))) ⟨p,callX x n a 596,d⟩:=by
 have hm:=hy.ok
 have hA:=hy.at_
 have hmx:m.x=x:=hA.x
 have hu:∀ j,uB (callX m.x n a 596 j)=true:=callX_uB hm.x hn ha rfl
 refine⟨⟨hm.sz,uB_iff.2 (by show 0<=4*(p:Int)/\4*(p:Int)<_;omega),hu,hm.kn⟩,hA.mem,hA.sz,rfl,hA.st,rfl,?_,?_,?_,hA.dr,hA.code⟩
 ·show callX m.x n a 596=callX x n a 596
  rw[hmx]
 ·exact hA.x0
 ·rw[<- hmx];exact hu
theorem callX_kept {x a:Nat->Int}{n:Nat} (hn:n<=5){ra:Int}{j:Nat} (h:isKept j=true):callX x n a ra j=19088743*(j:Int)+n:=by
 unfold isKept at h
 simp only[Bool.or_eq_true,Bool.and_eq_true,ble_dec,blt_dec,decide_eq_true_eq]at h
 unfold callX
 rw[beq_ff (show j≠0 by omega),beq_ff (show j≠1 by omega),lt_blt (show j<32 by omega),cond_false,cond_false,cond_true,
  show(Nat.ble 10 j&&Nat.blt j (10+n))=false by rw[ble_dec,blt_dec,<- Bool.decide_and];exact decide_eq_false (by omega)]
 rfl
theorem keepX_eq {x a x':Nat->Int}{n:Nat} (hn:n<=5){ra:Int} (hk:∀ r,isKept r=true->x' r=callX x n a ra r):keepX n x'=x':=by
 funext j
 unfold keepX
 cases h:isKept j with
 |false=>rfl
 |true=>rw[cond_true,hk j h,callX_kept hn h]
theorem body_310 {n:Nat} {m m':MS}{lm:LMap}{a:Nat->Int}{lb:ByteArray}{sc:Short}{st:Int}{x:Nat->Int}{k:Nat} (hk:132<=k) (hF:FnsOK Try.prog (lookF FL) sc) (ew:run310 sc m lm n a lb=lf310 lm n a st true (r5 x) m' k) :
  Body Try.prog 10 [yV,.string lb,aV n] (mkH (m.HA 90 91 92++[(61,lm.blk)]++aH n a)) (.tuple ⟨[.int .i64 st,.agg ⟨r5 x⟩,.bool true]⟩) (mkH (m'.HA 90 91 92++[(130,.var (r5 x))])) 130 1:=by
 refine body_of' mixed fx310 (by simp) fun E Q hP hE hcl hfin=>?_
 have hF':FnsOK E.P (lookF FL) sc:=by rw[hP];exact hF
 have pc:=xwp_piece (E:=E) (Q:=Q) (s:=⟨argTm 0 [yV,.string lb,aV n],mkH (m.HA 90 91 92++[(61,lm.blk)]++aH n a),130⟩) hF' 100000 [6,7,8] ([.id 90,.id 91,.id 92,.tmp 7,.id 61]++(aH n a).map fun p=>.id p.1) ew
 refine(pc ⟨mkT [6,7,8] [.int .i64 st,.pointer (some ⟨130,0,some 0⟩),.bool true],mkH (m'.HA 90 91 92++[(130,.var (r5 x)),(61,lm.blk)]++aH n a),131⟩
  ⟨_,_,_,rfl,?_,?_,?_⟩ (hfin _ _ (fin_of rfl ?_ (by rw[hE]) rfl))).mono fun e s hs=>?_
 ·rw[hE]
  match n with
  |0=>rfl
  |n+1=>rfl
 ·rw[hE];exact⟨rfl,rfl,rfl,trivial⟩
 ·rw[hE,hP]
  match n with
  |0=>exact⟨bis_mem,bis_kn,bis_mAt rfl rfl,rfl,bis_lmap,trivial⟩
  |n+1=>exact⟨bis_mem,bis_kn,bis_mAt rfl rfl,rfl,bis_lmap,bis_rw fun _ _=>rfl,trivial⟩
 ·match n with
  |0=>exact⟨rfl,rfl,rfl,rfl,trivial,trivial,trivial,rfl,trivial⟩
  |n+1=>exact⟨rfl,rfl,rfl,rfl,trivial,trivial,trivial,rfl,rfl,trivial⟩
 ·obtain⟨s',hw,hq⟩:=hs
  exact hcl _ _ _ hw hq
theorem call_ok {n:Nat} (hP:P310 n) (hn:n<=5){heap:Int} (h:IsH heap){m:MS}{x d:Nat->Int} (hy:Yd heap m x d){lb:ByteArray}{p:Nat} (hp:p<150) (hb:(rtM heap).has (.string lb)=true) (hv:(rtM heap).val (.string lb)=4*(p:Int))
  {a:Nat->Int} (ha:∀ j,j<n->uB (a j)=true){N:Nat} {x' d':Nat->Int} (hr:Rm (rtL heap) N ⟨p,callX x n a 596,d⟩ ⟨149,x',d'⟩) (hN:N<=8020000) (hk:∀ r,isKept r=true->x' r=callX x n a 596 r) :
  ∃ m',Yd heap m' x' d'/\Body Try.prog 10 [yV,.string lb,aV n] (mkH (m.HA 90 91 92++[(61,(rtM heap).blk)]++aH n a)) (.tuple ⟨[.int .i64 0,.agg ⟨r5 x'⟩,.bool true]⟩) (mkH (m'.HA 90 91 92++[(130,.var (r5 x'))])) 130 1:=by
 obtain⟨K,hK,hs⟩:=hr
 obtain⟨o1,o2⟩:=yd_call h hy hn hp ha
 obtain⟨m',e,hy'⟩:=yd_home h o1 o2 hs (by omega)
 refine⟨m',hy',?_⟩
 have hx':m'.x=x':=hy'.at_.x
 have hkm:keepM m' n=m':=by
  unfold keepM
  rw[hx',keepX_eq hn hk,<- hx']
 have hm0:call0 m (rtM heap) n a lb=callM m n a 596 (4*(p:Int)):=by
  unfold call0
  rw[main_at h,hv,show IntKind.u64.wrap (4*((149:Nat):Int))=596 from rfl,u64w,show(4*(p:Int)) % 18446744073709551616=4*(p:Int) by omega]
 have A:AtN 17 [.agg ⟨[pAt 92,.map (some 61)]⟩] ((call0 m (rtM heap) n a lb).HA 90 91 92++[(61,(rtM heap).blk)]) (.tuple ⟨[.int .i64 0,.bool true]⟩) (mkH ((keepM m' n).HA 90 91 92)) 133 0:=by
  rw[hkm,hm0]
  exact⟨rfl,adet_of_body (b317 o1 (by decide) (main_at h) e) [(90,90),(91,91),(92,92),(61,61)] [] rfl rfl ⟨bis_mem,bis_kn,bis_mAt (a:=90) (b:=91) rfl rfl,bis_lmap,trivial⟩ rfl rfl ⟨bis_mem,bis_kn,bis_mAt rfl rfl,trivial,trivial,trivial,bis_lmap,trivial⟩ rfl⟩
 have ew:=hP m m' (rtM heap) a lb
 rw[da_true A ⟨rfl,rfl,rfl,rfl,trivial⟩,hb,hkm,hx']at ew
 simp only[Bool.and_self,Bool.not_true,Bool.not_false,Bool.or_false,Bool.or_true,Bool.true_or,cond_true,cond_false]at ew
 have hF:FnsOK Try.prog (lookF FL) (sc310 (call0 m (rtM heap) n a lb) (rtM heap) 0 true m' 133):=fok FOK _
 exact body_310 (x:=x') (by decide) hF ew
theorem rt_rtL {heap:Int} (h:IsH heap):RtL (rtL heap):=by
 rcases h with rfl|rfl
 ·exact rtA_ok
 ·exact rtB_ok
abbrev yH (m:MS) (lm:LMap):List (Nat × Blk):=m.HA 90 91 92++[(61,lm.blk)]
def ansV (st:Int) (x:Nat->Int) (b:Bool):Value:=.tuple ⟨[.int .i64 st,.agg ⟨r5 x⟩,.bool b]⟩
theorem at_call0 {m m':MS}{lm:LMap}{a:Nat->Int}{lb:ByteArray}{st:Int}{x:Nat->Int}
  (h:Body Try.prog 10 [yV,.string lb,aV 0] (mkH (m.HA 90 91 92++[(61,lm.blk)]++aH 0 a)) (.tuple ⟨[.int .i64 st,.agg ⟨r5 x⟩,.bool true]⟩) (mkH (m'.HA 90 91 92++[(130,.var (r5 x))])) 130 1) :
  AtN 10 [yV,.string lb,.slice none 0 0] (yH m lm) (ansV st x true) (mkH (m'.HA 90 91 92++[(130,.var (r5 x))])) 130 1 :=
 ⟨rfl,adet_of_body h [(90,90),(91,91),(92,92),(61,61)] [(130,130)] rfl rfl ⟨bis_mem,bis_kn,bis_mAt (a:=90) (b:=91) rfl rfl,bis_lmap,trivial⟩ rfl rfl ⟨bis_mem,bis_kn,bis_mAt rfl rfl,rfl,trivial,trivial,trivial,bis_lmap,trivial⟩ rfl⟩
def newV:Value:=.tuple ⟨[.agg ⟨[pAt 52,.map (some 53)]⟩,.bool true]⟩
def newU (m:MS) (lm:LMap):List (Nat × Blk):=m.HA 50 51 52++[(53,lm.blk),(54,.var [pAt 52,.map (some 53)])]
noncomputable abbrev con8 (heap:Int) (m:MS) (lm:LMap):Con Try.prog:=conAt 8 [.int .i64 heap] [] newV (mkH (newU m lm)) 50 5
def yW:Value:=.agg ⟨[pAt 52,.map (some 53)]⟩
abbrev yJ (m:MS) (lm:LMap):List (Nat × Blk):=m.HA 50 51 52++[(53,lm.blk)]
noncomputable abbrev con10 (m:MS) (lm:LMap) (lb:ByteArray) (n b:Nat) (f:Nat->List Value) (st:Int) (x:Nat->Int) (m':MS):Con Try.prog :=
 conAt 10 [yW,.string lb,.slice (some ⟨b,0,none⟩) n n] (yJ m lm++[(b,.rows n 1 f false false)]) (ansV st x true) (mkH (m'.HA 50 51 52++[(b+1,.var (r5 x))])) (b+1) 1
end Go.X
