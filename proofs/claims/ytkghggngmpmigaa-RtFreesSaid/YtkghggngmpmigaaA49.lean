import Derived.Test.YtkghggngmpmigaaA48
set_option linter.all false
namespace Go.X
open Go Go.Proofs
theorem uB_lit {j n:Nat} (hj:j<32) (hn:n<10):uB (19088743*(j:Int)+n)=true:=uB_iff.2 (by omega)
theorem callX_uB {x a:Nat->Int} (hx:∀ j,uB (x j)=true){n:Nat} (hn:n<=5) (ha:∀ j,j<n->uB (a j)=true){ra:Int} (hr:uB ra=true) (j:Nat):uB (callX x n a ra j)=true:=by
 unfold callX
 cases Nat.beq j 0 with
 |true=>exact hx 0
 |false =>
  cases Nat.beq j 1 with
  |true=>exact hr
  |false =>
   rw[cond_false,cond_false]
   cases h2:Nat.blt j 32 with
   |false=>exact hx j
   |true =>
    have h2:=blt_lt h2
    rw[cond_true]
    cases h3:Nat.ble 10 j&&Nat.blt j (10+n)with
    |true =>
     rw[Bool.and_eq_true]at h3
     have:=ble_le h3.1
     have:=blt_lt h3.2
     exact ha _ (by omega)
    |false=>exact uB_lit h2 (by omega)
theorem yd_call {heap:Int} (h:IsH heap){m:MS}{x d:Nat->Int} (hy:Yd heap m x d){n p:Nat} (hn:n<=5) (hp:p<150){a:Nat->Int} (ha:∀ j,j<n->uB (a j)=true) :
  OKM (callM m n a 596 (4*(p:Int)))/\AtR 2621440 (rtL heap) (RSt.init (callM m n a 596 (4*(p:Int)))) ⟨p,callX x n a 596,d⟩:=by
 have hm:=hy.ok
 have hA:=hy.at_
 have hmx:m.x=x:=hA.x
 have hu:∀ j,uB (callX m.x n a 596 j)=true:=callX_uB hm.x hn ha rfl
 refine⟨⟨hm.sz,uB_iff.2 (by show 0<=4*(p:Int)/\4*(p:Int)<_;omega),hu,hm.kn⟩,hA.mem,hA.sz,rfl,hA.st,rfl,?_,?_,?_,hA.dr,hA.code⟩
 ·show callX m.x n a 596=callX x n a 596
  rw[hmx]
 ·exact hA.x0
 ·rw[<- hmx];exact hu
theorem callX_kept {x a:Nat->Int}{n:Nat} (hn:n<=5){ra:Int}{j:Nat} (h:isKept j=true):callX x n a ra j=19088743*(j:Int)+n:=by
 unfold isKept at h
 simp only[Bool.or_eq_true,Bool.and_eq_true,ble_dec,blt_dec,decide_eq_true_eq]at h
 unfold callX
 rw[beq_ff (show j≠0 by omega),beq_ff (show j≠1 by omega),lt_blt (show j<32 by omega),cond_false,cond_false,cond_true,
  show(Nat.ble 10 j&&Nat.blt j (10+n))=false by rw[ble_dec,blt_dec,<- Bool.decide_and];exact decide_eq_false (by omega)]
 rfl
theorem keepX_eq {x a x':Nat->Int}{n:Nat} (hn:n<=5){ra:Int} (hk:∀ r,isKept r=true->x' r=callX x n a ra r):keepX n x'=x':=by
 funext j
 unfold keepX
 cases h:isKept j with
 |false=>rfl
 |true=>rw[cond_true,hk j h,callX_kept hn h]
theorem body_310 {n:Nat} {m m':MS}{lm:LMap}{a:Nat->Int}{lb:ByteArray}{sc:Short}{st:Int}{x:Nat->Int}{k:Nat} (hk:132<=k) (hF:FnsOK Try.prog (lookF FL) sc) (ew:run310 sc m lm n a lb=lf310 lm n a st true (r5 x) m' k) :
  Body Try.prog 10 [yV,.string lb,aV n] (mkH (m.HA 90 91 92++[(61,lm.blk)]++aH n a)) (.tuple ⟨[.int .i64 st,.agg ⟨r5 x⟩,.bool true]⟩) (mkH (m'.HA 90 91 92++[(130,.var (r5 x))])) 130 1:=by
 refine body_of' mixed fx310 (by simp) fun E Q hP hE hcl hfin=>?_
 have hF':FnsOK E.P (lookF FL) sc:=by rw[hP];exact hF
 have pc:=xwp_piece (E:=E) (Q:=Q) (s:=⟨argTm 0 [yV,.string lb,aV n],mkH (m.HA 90 91 92++[(61,lm.blk)]++aH n a),130⟩) hF' 100000 [6,7,8] ([.id 90,.id 91,.id 92,.tmp 7,.id 61]++(aH n a).map fun p=>.id p.1) ew
 refine(pc ⟨mkT [6,7,8] [.int .i64 st,.pointer (some ⟨130,0,some 0⟩),.bool true],mkH (m'.HA 90 91 92++[(130,.var (r5 x)),(61,lm.blk)]++aH n a),131⟩
  ⟨_,_,_,rfl,?_,?_,?_⟩ (hfin _ _ (fin_of rfl ?_ (by rw[hE]) rfl))).mono fun e s hs=>?_
 ·rw[hE]
  match n with
  |0=>rfl
  |n+1=>rfl
 ·rw[hE];exact⟨rfl,rfl,rfl,trivial⟩
 ·rw[hE,hP]
  match n with
  |0=>exact⟨bis_mem,bis_kn,bis_mAt rfl rfl,rfl,bis_lmap,trivial⟩
  |n+1=>exact⟨bis_mem,bis_kn,bis_mAt rfl rfl,rfl,bis_lmap,bis_rw fun _ _=>rfl,trivial⟩
 ·match n with
  |0=>exact⟨rfl,rfl,rfl,rfl,trivial,trivial,trivial,rfl,trivial⟩
  |n+1=>exact⟨rfl,rfl,rfl,rfl,trivial,trivial,trivial,rfl,rfl,trivial⟩
 ·obtain⟨s',hw,hq⟩:=hs
  exact hcl _ _ _ hw hq
theorem call_ok {n:Nat} (hP:P310 n) (hn:n<=5){heap:Int} (h:IsH heap){m:MS}{x d:Nat->Int} (hy:Yd heap m x d){lb:ByteArray}{p:Nat} (hp:p<150) (hb:(rtM heap).has (.string lb)=true) (hv:(rtM heap).val (.string lb)=4*(p:Int))
  {a:Nat->Int} (ha:∀ j,j<n->uB (a j)=true){N:Nat} {x' d':Nat->Int} (hr:Rm (rtL heap) N ⟨p,callX x n a 596,d⟩ ⟨149,x',d'⟩) (hN:N<=8020000) (hk:∀ r,isKept r=true->x' r=callX x n a 596 r) :
  ∃ m',Yd heap m' x' d'/\Body Try.prog 10 [yV,.string lb,aV n] (mkH (m.HA 90 91 92++[(61,(rtM heap).blk)]++aH n a)) (.tuple ⟨[.int .i64 0,.agg ⟨r5 x'⟩,.bool true]⟩) (mkH (m'.HA 90 91 92++[(130,.var (r5 x'))])) 130 1:=by
 obtain⟨K,hK,hs⟩:=hr
 obtain⟨o1,o2⟩:=yd_call h hy hn hp ha
 obtain⟨m',e,hy'⟩:=yd_home h o1 o2 hs (by omega)
 refine⟨m',hy',?_⟩
 have hx':m'.x=x':=hy'.at_.x
 have hkm:keepM m' n=m':=by
  unfold keepM
  rw[hx',keepX_eq hn hk,<- hx']
 have hm0:call0 m (rtM heap) n a lb=callM m n a 596 (4*(p:Int)):=by
  unfold call0
  rw[main_at h,hv,show IntKind.u64.wrap (4*((149:Nat):Int))=596 from rfl,u64w,show(4*(p:Int)) % 18446744073709551616=4*(p:Int) by omega]
 have A:AtN 17 [.agg ⟨[pAt 92,.map (some 61)]⟩] ((call0 m (rtM heap) n a lb).HA 90 91 92++[(61,(rtM heap).blk)]) (.tuple ⟨[.int .i64 0,.bool true]⟩) (mkH ((keepM m' n).HA 90 91 92)) 133 0:=by
  rw[hkm,hm0]
  exact⟨rfl,adet_of_body (b317 o1 (by decide) (main_at h) e) [(90,90),(91,91),(92,92),(61,61)] [] rfl rfl ⟨bis_mem,bis_kn,bis_mAt (a:=90) (b:=91) rfl rfl,bis_lmap,trivial⟩ rfl rfl ⟨bis_mem,bis_kn,bis_mAt rfl rfl,trivial,trivial,trivial,bis_lmap,trivial⟩ rfl⟩
 have ew:=hP m m' (rtM heap) a lb
 rw[da_true A ⟨rfl,rfl,rfl,rfl,trivial⟩,hb,hkm,hx']at ew
 simp only[Bool.and_self,Bool.not_true,Bool.not_false,Bool.or_false,Bool.or_true,Bool.true_or,cond_true,cond_false]at ew
 have hF:FnsOK Try.prog (lookF FL) (sc310 (call0 m (rtM heap) n a lb) (rtM heap) 0 true m' 133):=fok FOK _
 exact body_310 (x:=x') (by decide) hF ew
theorem rt_rtL {heap:Int} (h:IsH heap):RtL (rtL heap):=by
 rcases h with rfl|rfl
 ·exact rtA_ok
 ·exact rtB_ok
theorem callEnd {n:Nat}{lb:ByteArray}{v:Int} (hv2:v=4\/v=5) (hP:P310E n lb (v-2)) (hn:n<=5){heap:Int} (h:IsH heap){m:MS}{x d:Nat->Int} (hy:Yd heap m x d){p:Nat} (hp:p<150) (hb:(rtM heap).has (.string lb)=true) (hv:(rtM heap).val (.string lb)=4*(p:Int))
  {a:Nat->Int} (ha:∀ j,j<n->uB (a j)=true){N q:Nat} {x' d':Nat->Int} (hr:Rm (rtL heap) N ⟨p,callX x n a 596,d⟩ ⟨q,x',d'⟩) (hN:N<8020000) (hq:q≠149) (hi:(rtL heap)[q]?=some ⟨55,0,0,0,0⟩) (h17:x' 17=v) :
  ∃ m':MS,Body Try.prog 10 [yV,.string lb,aV n] (mkH (m.HA 90 91 92++[(61,(rtM heap).blk)]++aH n a)) (.tuple ⟨[.int .i64 (v-2),.agg ⟨z5⟩,.bool true]⟩) (mkH (m'.HA 90 91 92++[(130,.var z5)])) 130 1:=by
 obtain⟨K,hK,hs⟩:=hr
 obtain⟨o1,o2⟩:=yd_call h hy hn hp ha
 obtain⟨m',e⟩:=home_end (rt_all h) (by rw[rt_len h];decide) (by decide) (C:=262144) (by rw[rt_len h];decide) (main:=149) hv2 400 0 hs hq hi h17 o2 (by rw[sum400];omega)
 refine⟨m',?_⟩
 have hm0:call0 m (rtM heap) n a lb=callM m n a 596 (4*(p:Int)):=by
  unfold call0
  rw[main_at h,hv,show IntKind.u64.wrap (4*((149:Nat):Int))=596 from rfl,u64w,show(4*(p:Int)) % 18446744073709551616=4*(p:Int) by omega]
 have A:AtN 17 [.agg ⟨[pAt 92,.map (some 61)]⟩] ((call0 m (rtM heap) n a lb).HA 90 91 92++[(61,(rtM heap).blk)]) (.tuple ⟨[.int .i64 (v-2),.bool true]⟩) (mkH (m'.HA 90 91 92)) 133 0:=by
  rw[hm0]
  exact⟨rfl,adet_of_body (b317 o1 (by decide) (main_at h) e) [(90,90),(91,91),(92,92),(61,61)] [] rfl rfl ⟨bis_mem,bis_kn,bis_mAt (a:=90) (b:=91) rfl rfl,bis_lmap,trivial⟩ rfl rfl ⟨bis_mem,bis_kn,bis_mAt rfl rfl,trivial,trivial,trivial,bis_lmap,trivial⟩ rfl⟩
 have ew:=hP m m' (rtM heap) a
 rw[lmH_eq hb]at ew
 rw[da_true A ⟨rfl,rfl,rfl,rfl,trivial⟩]at ew
 simp only[Bool.and_self,cond_true]at ew
 have hF:FnsOK Try.prog (lookF FL) (sc310 (call0 m (rtM heap) n a lb) (rtM heap) (v-2) true m' 133):=fok FOK _
 exact body_310 (x:=fun _=>0) (by decide) hF ew
def ansV (st:Int) (x:Nat->Int) (b:Bool):Value:=.tuple ⟨[.int .i64 st,.agg ⟨r5 x⟩,.bool b]⟩
noncomputable def conIf (k:Nat) (a b:Con Try.prog) (h:b.f=a.f):Con Try.prog where
 f:=a.f
 run:=fun vs g n=>cond (Nat.beq n k) (a.run vs g n) (b.run vs g n)
 ok:=fun vs g n pre v upd news hx=>by
  cases hk:Nat.beq n k with
  |true=>rw[hk]at hx;exact a.ok vs g n pre v upd news hx
  |false=>rw[hk]at hx;rw[<- h];exact b.ok vs g n pre v upd news hx
def newV:Value:=.tuple ⟨[.agg ⟨[pAt 52,.map (some 53)]⟩,.bool true]⟩
def newU (m:MS) (lm:LMap):List (Nat × Blk):=m.HA 50 51 52++[(53,lm.blk),(54,.var [pAt 52,.map (some 53)])]
noncomputable abbrev con8 (heap:Int) (m:MS) (lm:LMap):Con Try.prog:=conAt 8 [.int .i64 heap] [] newV (mkH (newU m lm)) 50 5
def yW:Value:=.agg ⟨[pAt 52,.map (some 53)]⟩
abbrev yJ (m:MS) (lm:LMap):List (Nat × Blk):=m.HA 50 51 52++[(53,lm.blk)]
noncomputable abbrev con10 (m:MS) (lm:LMap) (lb:ByteArray) (n b:Nat) (f:Nat->List Value) (st:Int) (x:Nat->Int) (m':MS):Con Try.prog :=
 conAt 10 [yW,.string lb,.slice (some ⟨b,0,none⟩) n n] (yJ m lm++[(b,.rows n 1 f false false)]) (ansV st x true) (mkH (m'.HA 50 51 52++[(b+1,.var (r5 x))])) (b+1) 1
theorem at_new {heap:Int}{m:MS}{lm:LMap} (h:Body Try.prog 8 [.int .i64 heap] [] (.tuple ⟨[.agg ⟨[pAt 102,.map (some 103)]⟩,.bool true]⟩) (mkH (m.HA 100 101 102++[(103,lm.blk),(104,.var [pAt 102,.map (some 103)])])) 100 5) :
  AtN 8 [.int .i64 heap] [] newV (mkH (newU m lm)) 50 5 :=
 ⟨rfl,adet_of_body h [] [(50,100),(51,101),(52,102),(53,103),(54,104)] rfl rfl trivial rfl rfl ⟨bis_mem,bis_kn,bis_mAt (a:=50) (b:=51) rfl rfl,bis_lmap,rfl,trivial⟩ rfl⟩
theorem at_callJ {n b:Nat} (hb:b=56\/b=60\/b=63) {m m':MS}{lm:LMap}{a:Nat->Int}{lb:ByteArray}{st:Int}{x:Nat->Int}{f:Nat->List Value} (hf:∀ j,j<n+1->f j=[.int .u64 (a j)])
  (h:Body Try.prog 10 [yV,.string lb,aV (n+1)] (mkH (m.HA 90 91 92++[(61,lm.blk)]++aH (n+1) a)) (.tuple ⟨[.int .i64 st,.agg ⟨r5 x⟩,.bool true]⟩) (mkH (m'.HA 90 91 92++[(130,.var (r5 x))])) 130 1) :
  AtN 10 [yW,.string lb,.slice (some ⟨b,0,none⟩) (n+1) (n+1)] (yJ m lm++[(b,.rows (n+1) 1 f false false)]) (ansV st x true) (mkH (m'.HA 50 51 52++[(b+1,.var (r5 x))])) (b+1) 1:=by
 have h1:∀ {σ:Nm},BIs Try.prog σ (aB (n+1) a) (.rows (n+1) 1 f false false):=⟨rfl,rfl,fun j hj=>by rw[hf j hj];rfl,.inr (.inl rfl),.inr rfl⟩
 have h2:∀ {σ:Nm},BIs Try.prog σ (.rows (n+1) 1 f false false) (aB (n+1) a):=⟨rfl,rfl,fun j hj=>by rw[hf j hj];rfl,.inr (.inl rfl),.inr rfl⟩
 rcases hb with rfl|rfl|rfl
 ·exact⟨rfl,adet_of_body h [(90,50),(91,51),(92,52),(61,53),(60,56)] [(57,130)] rfl rfl ⟨bis_mem,bis_kn,bis_mAt (a:=90) (b:=91) rfl rfl,bis_lmap,h1,trivial⟩ rfl rfl ⟨bis_mem,bis_kn,bis_mAt (a:=50) (b:=51) rfl rfl,rfl,trivial,trivial,trivial,bis_lmap,h2,trivial⟩ rfl⟩
 ·exact⟨rfl,adet_of_body h [(90,50),(91,51),(92,52),(61,53),(60,60)] [(61,130)] rfl rfl ⟨bis_mem,bis_kn,bis_mAt (a:=90) (b:=91) rfl rfl,bis_lmap,h1,trivial⟩ rfl rfl ⟨bis_mem,bis_kn,bis_mAt (a:=50) (b:=51) rfl rfl,rfl,trivial,trivial,trivial,bis_lmap,h2,trivial⟩ rfl⟩
 ·exact⟨rfl,adet_of_body h [(90,50),(91,51),(92,52),(61,53),(60,63)] [(64,130)] rfl rfl ⟨bis_mem,bis_kn,bis_mAt (a:=90) (b:=91) rfl rfl,bis_lmap,h1,trivial⟩ rfl rfl ⟨bis_mem,bis_kn,bis_mAt (a:=50) (b:=51) rfl rfl,rfl,trivial,trivial,trivial,bis_lmap,h2,trivial⟩ rfl⟩
theorem kept_ne {r:Nat} (h:isKept r=true):(2<=r/\r<5)\/(8<=r/\r<10)\/(18<=r/\r<28):=by
 unfold isKept at h
 simp only[Bool.or_eq_true,Bool.and_eq_true,ble_dec,blt_dec,decide_eq_true_eq]at h
 omega
section
variable {heap:Int} (h:IsH heap){x d:Nat->Int} (hx:x 0=0)
include h hx
theorem rt_malloc {n hh w i key:Nat} (hn0:0<n) (hn:n<=1048576) (hw:w=(n+31) / 16*2)
  (e0:d 32768=((8*hh:Nat):Int)) (e1:d 32769=0) (e2:d 32770=(key:Int)) (e3:d 32771=((8*(33280+4*i):Nat):Int)) (e4:d 32772=0) (hh0:40960<=hh) (hhw:8*(hh+w)<=589824) (hi:i<1900) (hi0:0<i) (hkey:key<900000) :
  ∃ x',Rm (rtL heap) (9*w+61) ⟨56,callX x 1 (fun _=>(n:Int)) 596,d⟩ ⟨149,x',mlD d hh w n i key⟩/\x' 0=0/\x' 10=((8*(hh+2):Nat):Int)/\x' 11=((8*(hh+2):Nat):Int)/\x' 12=((8*(hh+2)+n:Nat):Int)/\x' 13=((key+1:Nat):Int)/\x' 14=(i:Int) /\
   ∀ r,isKept r=true->x' r=callX x 1 (fun _=>(n:Int)) 596 r:=by
 obtain⟨x',a1,a2,a3,a4,a5,a6,a7,a8⟩:=malloc_new (rt_rtL h) (x:=callX x 1 (fun _=>(n:Int)) 596) (d:=d) hx (n:=n) (h:=hh) (w:=w) (i:=i) (q:=149) (key:=key) rfl hn0 hn hw rfl (by decide) e0 e1 e2 e3 e4 hh0 hhw hi hi0 hkey
 exact⟨x',a1,a2,a3,a4,a5,a6,a7,fun r hr=>by
  have:=kept_ne hr
  exact a8 r (by omega) (by omega) (by omega) (by omega) (by omega) (by omega) (by omega) (by omega) (by omega) (by omega) (by omega) (by omega) (by omega)⟩
theorem rt_free_no {a:Nat->Int}{i:Nat} (hi:i<1900) (hi0:0<i) (h4:a 4=(i:Int)) (hne:¬ (d (33280+4*i)=a 3/\d (33280+4*i+1)=a 1/\d (33280+4*i+2)=a 2/\a 0=a 1)) :
  ∃ x',Rm (rtL heap) 11 ⟨97,callX x 5 a 596,d⟩ ⟨20,x',d⟩/\x' 17=4:=by
 obtain⟨x',a1,a2⟩:=free_trap (rt_rtL h) (x:=callX x 5 a 596) (d:=d) hx hi hi0 h4 hne
 obtain⟨y,b1,b2,b3⟩:=trap_at (rt_rtL h) (x:=x') (d:=d) a2
 exact⟨y,a1.trans b1,b3⟩
theorem rt_free {a:Nat->Int}{i k:Nat}{f g:Int} (hi:i<1900) (hi0:0<i) (h4:a 4=(i:Int)) (e1:d (33280+4*i)=a 3) (e2:d (33280+4*i+1)=a 1) (e3:d (33280+4*i+2)=a 2) (e4:a 0=a 1)
  (h11:a 1=((8*k:Nat):Int)) (hk1:40962<=k) (hk2:k<73728) (hf:d 32769=f) (hh:d 32772=g) :
  ∃ x',Rm (rtL heap) 22 ⟨97,callX x 5 a 596,d⟩ ⟨149,x',rlD (ud (ud d (k-1) f) 32769 ((8*(k-2):Nat):Int)) (33280+4*i) g⟩/\x' 0=0/\∀ r,isKept r=true->x' r=callX x 5 a 596 r:=by
 obtain⟨x',a1,a2,a3⟩:=free_ok (rt_rtL h) (x:=callX x 5 a 596) (d:=d) hx hi hi0 h4 (k:=k) (q:=149) (f:=f) (h:=g) e1 e2 e3 e4 h11 hk1 hk2 hf hh rfl (by decide)
 exact⟨x',a1,a2,fun r hr=>by
  have:=kept_ne hr
  exact a3 r (by omega) (by omega) (by omega) (by omega)⟩
end
set_option maxRecDepth 100000
theorem p310_1:P310 1:=fun m mh lm a lb=>by
 kernel_rfl
def slF (l:List Value):Nat->List Value:=fun j=>slab l (j*1) 1
abbrev D8 (heap:Int) (m:MS) (lm:LMap):Prop:=DA 8 [.int .i64 heap] [] newV (mkH (newU m lm)) 50 5
abbrev D10 (m:MS) (lm:LMap) (lb:ByteArray) (n b:Nat) (f:Nat->List Value) (st:Int) (x:Nat->Int) (m':MS):Prop :=
 DA 10 [yW,.string lb,.slice (some ⟨b,0,none⟩) n n] (yJ m lm++[(b,.rows n 1 f false false)]) (ansV st x true) (mkH (m'.HA 50 51 52++[(b+1,.var (r5 x))])) (b+1) 1
theorem p309 (m m':MS) (lm:LMap) (x:Nat->Int):walk (lookF FL) (scOf [con8 327680 m lm,con10 m lm (lbN 9) 1 56 (slF [.int .u64 10]) 0 x m']) 1000 x309 (argTm 0 []) [] 50 j0_ ⟨[0],[],[],[]⟩ j0_ =
  bif decP (D8 327680 m lm)&&true&&true then bif decP (D10 m lm (lbN 9) 1 56 (slF [.int .u64 10]) 0 x m')&&true&&true then
   some ⟨⟨[some (true,.bool (x 10==327696&&(x 11==327696&&(x 12==327706&&(x 13==2&&(x 14==1&&true))))))],[],.ret,59⟩,none⟩else none else none:=by kernel_rfl
theorem h_A:IsH 327680:=.inl rfl
theorem lb_malloc {heap:Int} (h:IsH heap):(rtM heap).has (.string (lbN 9))=true/\(rtM heap).val (.string (lbN 9))=4*((56:Nat):Int):=rtM_at h (i:=2) (n:=9) rfl rfl
theorem lb_free {heap:Int} (h:IsH heap):(rtM heap).has (.string (lbN 14))=true/\(rtM heap).val (.string (lbN 14))=4*((97:Nat):Int):=rtM_at h (i:=3) (n:=14) rfl rfl
theorem first_malloc {heap:Int} (h:IsH heap){hh:Nat} (he:heap=((8*hh:Nat):Int)) (hh0:40960<=hh){m:MS}{x:Nat->Int} (hy:Yd heap m x (stD (dRt heap) heap)){n w:Nat} (hn0:0<n) (hn:n<=1048576) (hw:w=(n+31) / 16*2) (hhw:8*(hh+w)<=589824) :
  ∃ m' x',Yd heap m' x' (mlD (stD (dRt heap) heap) hh w n 1 1)/\x' 10=((8*(hh+2):Nat):Int)/\x' 11=((8*(hh+2):Nat):Int)/\x' 12=((8*(hh+2)+n:Nat):Int)/\x' 13=2/\x' 14=1 /\
   AtN 10 [yW,.string (lbN 9),.slice (some ⟨56,0,none⟩) 1 1] (yJ m (rtM heap)++[(56,.rows 1 1 (slF [.int .u64 (n:Int)]) false false)]) (ansV 0 x' true) (mkH (m'.HA 50 51 52++[(57,.var (r5 x'))])) 57 1:=by
 have e0:stD (dRt heap) heap 32768=((8*hh:Nat):Int):=he
 obtain⟨x',a1,a2,a3,a4,a5,a6,a7,a8⟩:=rt_malloc h (x:=x) (d:=stD (dRt heap) heap) hy.at_.x0 (n:=n) (hh:=hh) (w:=w) (i:=1) (key:=1) hn0 hn hw e0 rfl rfl rfl rfl hh0 hhw (by decide) (by decide) (by decide)
 obtain⟨m',y1,y2⟩:=call_ok p310_1 (by decide) h hy (by decide) (lb_malloc h).1 (lb_malloc h).2 (a:=fun _=>(n:Int)) (fun j _=>uB_iff.2 (by omega)) a1 (by omega) a8
 refine⟨m',x',y1,a3,a4,a5,a6,a7,?_⟩
 exact at_callJ (n:=0) (.inl rfl) (fun j hj=>by
  obtain rfl:j=0:=by omega
  rfl) y2
theorem b309:Body Try.prog 9 [] [] (.bool true) [] 50 0:=by
 obtain⟨m,x,hy,hb⟩:=b308 h_A
 obtain⟨m',x',hy',e10,e11,e12,e13,e14,A⟩:=first_malloc h_A (hh:=40960) rfl (by decide) hy (n:=10) (w:=4) (by decide) (by decide) rfl (by decide)
 have ew:=p309 m m' (rtM 327680) x'
 have h8:decP (D8 327680 m (rtM 327680))=true:=da_true (at_new hb) trivial
 have h10:decP (D10 m (rtM 327680) (lbN 9) 1 56 (slF [.int .u64 10]) 0 x' m')=true:=da_true A ⟨rfl,rfl,rfl,rfl,rfl,trivial⟩
 rw[h8,h10,e10,e11,e12,e13,e14]at ew
 refine body_of' mixed fx309 (by simp) fun E Q hP hn hcl hfin=>?_
 exact xwp_toEnd (s:=⟨_,_,_⟩) hcl (fokE hP _) 1000 ew ⟨mkT [0] [.bool true],mkH [],50⟩ ⟨_,[],50,rfl,by rw[hn];rfl,by rw[hn];exact⟨rfl,trivial⟩,trivial⟩ (hfin _ _ (fin_of rfl trivial (by rw[hn]) rfl))
noncomputable def con309:Con Try.prog where
 f:=9
 run:=fun vs _ _=>match vs with
  |[]=>some ([],.bool true,[],0,true)
  |_=>none
 ok:=fun vs h n pre v upd news hx=>by
  split at hx
  ·cases hx
   exact⟨fun id hid=>by simp[fstL]at hid,adet_of_body b309 [] [] rfl rfl trivial rfl rfl trivial rfl⟩
  ·cases hx
set_option maxRecDepth 100000
theorem p310_5:P310 5:=fun m mh lm a lb=>by
 kernel_rfl
set_option maxRecDepth 100000
theorem p310e_5:P310E 5 (lbN 14) 2:=fun m mh lm a=>by
 kernel_rfl
abbrev ix3 (wh:Int):Nat:=0+(wh.tmod 4).toNat*1
def wc3 (x:Nat->Int) (wh by_:Int) (j:Nat):Int:=bif Nat.beq j (ix3 wh)then IntKind.u64.wrap (asI ((r5 x).getD (ix3 wh) undefd)+by_.tmod 1000)else x (10+j)
def l3 (x:Nat->Int) (wh by_:Int):List Value:=[.int .u64 (wc3 x wh by_ 0),.int .u64 (wc3 x wh by_ 1),.int .u64 (wc3 x wh by_ 2),.int .u64 (wc3 x wh by_ 3),.int .u64 (wc3 x wh by_ 4)]
def eq3 (x:Nat->Int) (wh by_:Int):Bool:=wc3 x wh by_ 0==x 10&&(wc3 x wh by_ 1==x 11&&(wc3 x wh by_ 2==x 12&&(wc3 x wh by_ 3==x 13&&(wc3 x wh by_ 4==x 14&&true))))
def g3 (x:Nat->Int) (wh:Int):Bool:=(ix3 wh).blt (r5 x).length&&true&&true&&((intRange (wh.tmod 4) 5&&true||false)&&(((ix3 wh).blt (r5 x).length&&isI .u64 ((r5 x).getD (ix3 wh) undefd)&&true||false)&&((intRange (wh.tmod 4) 5&&true||false)&&true)))
def sz3 (n:Int):Int:=IntKind.u64.wrap (IntKind.u64.wrap (n.tmod 500)+1)
section
variable (n wh by_:Int) (m m1 m2 m3:MS) (lm:LMap) (x1 x2 x3:Nat->Int)
theorem p303e:walk (lookF FL) (scOf [con8 327680 m lm,con309,conIf 57 (con10 m lm (lbN 9) 1 56 (slF [.int .u64 (sz3 n)]) 0 x1 m1) (con10 m1 lm (lbN 14) 5 60 (slF (l3 x1 wh by_)) 2 x2 m2) rfl]) 1000 x303 (argTm 0 [.int .u16 n,.int .u8 wh,.int .u64 by_]) [] 50 j0_ ⟨[6],[],[],[]⟩ j0_ =
  bif decP (D8 327680 m lm)&&true&&true then bif decP (D10 m lm (lbN 9) 1 56 (slF [.int .u64 (sz3 n)]) 0 x1 m1)&&true&&true then bif g3 x1 wh then bif decP (D10 m1 lm (lbN 14) 5 60 (slF (l3 x1 wh by_)) 2 x2 m2)&&true&&true then
   bif !(false==eq3 x1 wh by_)then some ⟨⟨[some (true,.bool false)],[],.ret,63⟩,none⟩else some ⟨⟨[some (true,.bool true)],[],.ret,63⟩,none⟩else none else none else none else none:=by kernel_rfl
theorem p303o:walk (lookF FL) (scOf [con8 327680 m lm,con309,conIf 57 (con10 m lm (lbN 9) 1 56 (slF [.int .u64 (sz3 n)]) 0 x1 m1) (conIf 61 (con10 m1 lm (lbN 14) 5 60 (slF (l3 x1 wh by_)) 0 x2 m2) (con10 m2 lm (lbN 14) 5 63 (slF (r5 x1)) 2 x3 m3) rfl) rfl]) 1000 x303 (argTm 0 [.int .u16 n,.int .u8 wh,.int .u64 by_]) [] 50 j0_ ⟨[6],[],[],[]⟩ j0_ =
  bif decP (D8 327680 m lm)&&true&&true then bif decP (D10 m lm (lbN 9) 1 56 (slF [.int .u64 (sz3 n)]) 0 x1 m1)&&true&&true then bif g3 x1 wh then bif decP (D10 m1 lm (lbN 14) 5 60 (slF (l3 x1 wh by_)) 0 x2 m2)&&true&&true then
   bif !(true==eq3 x1 wh by_)then some ⟨⟨[some (true,.bool false)],[],.ret,63⟩,none⟩else
   bif decP (D10 m2 lm (lbN 14) 5 63 (slF (r5 x1)) 2 x3 m3)&&true&&true then some ⟨⟨[some (true,.bool true)],[],.ret,65⟩,none⟩else none else none else none else none else none:=by kernel_rfl
end
theorem sz3_eq {n:Int} (hn:0<=n) (hn2:n<=65535):∃ k:Nat,sz3 n=(k:Int)/\0<k/\k<=500:=by
 refine⟨(n % 500).toNat+1,?_,by omega,by omega⟩
 unfold sz3
 rw[Int.tmod_eq_emod_of_nonneg hn,u64w,u64w]
 omega
theorem ix3_lt {wh:Int} (h:0<=wh) (h2:wh<=255):ix3 wh<4:=by
 unfold ix3
 rw[Int.tmod_eq_emod_of_nonneg h];omega
theorem g3_true {x:Nat->Int}{wh:Int} (h:0<=wh) (h2:wh<=255):g3 x wh=true:=by
 have hi:=ix3_lt h h2
 have e:∀ k,k<4->ix3 wh=k->isI .u64 ((r5 x).getD (ix3 wh) undefd)=true:=fun k hk e=>by
  rw[e]
  obtain rfl|rfl|rfl|rfl:k=0\/k=1\/k=2\/k=3:=by omega
  all_goals rfl
 have ir:intRange (wh.tmod 4) 5=true:=by
  have:wh.tmod 4=((ix3 wh:Nat):Int):=by
   unfold ix3
   rw[Int.tmod_eq_emod_of_nonneg h];omega
  rw[this,ir_nat];exact decide_eq_true (by omega)
 unfold g3
 rw[e _ hi rfl,ir,lt_blt (show ix3 wh<(r5 x).length by show _<5;omega)]
 rfl
theorem wc3_uB {x:Nat->Int} (hx:∀ j,uB (x j)=true) (wh by_:Int) (j:Nat):uB (wc3 x wh by_ j)=true:=by
 unfold wc3
 cases Nat.beq j (ix3 wh)with
 |false=>exact hx _
 |true=>exact uB_iff.2 (by rw[cond_true,u64w];omega)
theorem wc3_4 {x:Nat->Int}{wh by_:Int} (h:0<=wh) (h2:wh<=255):wc3 x wh by_ 4=x 14:=by
 have hi:=ix3_lt h h2
 unfold wc3
 rw[beq_ff (show 4≠ix3 wh by omega)];rfl
theorem l3_row {x:Nat->Int}{wh by_:Int}:∀ j,j<4+1->slF (l3 x wh by_) j=[.int .u64 (wc3 x wh by_ j)]:=fun j hj=>by
 obtain rfl|rfl|rfl|rfl|rfl:j=0\/j=1\/j=2\/j=3\/j=4:=by omega
 all_goals rfl
theorem r5_row {x:Nat->Int}:∀ j,j<4+1->slF (r5 x) j=[.int .u64 (x (10+j))]:=fun j hj=>by
 obtain rfl|rfl|rfl|rfl|rfl:j=0\/j=1\/j=2\/j=3\/j=4:=by omega
 all_goals rfl
theorem eq3_iff {x:Nat->Int}{wh by_:Int}:eq3 x wh by_=true ↔ wc3 x wh by_ 0=x 10/\wc3 x wh by_ 1=x 11/\wc3 x wh by_ 2=x 12/\wc3 x wh by_ 3=x 13/\wc3 x wh by_ 4=x 14:=by
 simp[eq3,Bool.and_eq_true,beq_iff_eq]
theorem rt_ec {heap:Int} (h:IsH heap):(rtL heap)[20]?=some ⟨55,0,0,0,0⟩/\(rtL heap)[22]?=some ⟨55,0,0,0,0⟩ :=
 ⟨(rt_rtL h 20 (by decide)).trans (by kernel_rfl),(rt_rtL h 22 (by decide)).trans (by kernel_rfl)⟩
theorem b303 {n wh by_:Int} (hn:IntKind.u16.has n) (hw:IntKind.u8.has wh):Body Try.prog 3 [.int .u16 n,.int .u8 wh,.int .u64 by_] [] (.bool true) [] 50 0:=by
 have hn:0<=n/\n<=65535:=by simpa [IntKind.has,IntKind.min,IntKind.max,IntKind.signed,IntKind.bits]using hn
 have hw:0<=wh/\wh<=255:=by simpa [IntKind.has,IntKind.min,IntKind.max,IntKind.signed,IntKind.bits]using hw
 obtain⟨m,x,hy,hnew⟩:=b308 h_A
 obtain⟨k,hk,hk0,hk5⟩:=sz3_eq hn.1 hn.2
 obtain⟨m1,x1,hy1,e10,e11,e12,e13,e14,A1⟩:=first_malloc h_A (hh:=40960) rfl (by decide) hy (n:=k) (w:=(k+31) / 16*2) hk0 (by omega) rfl (by omega)
 obtain⟨d1,hd1⟩:∃ d1,d1=mlD (stD (dRt 327680) 327680) 40960 ((k+31) / 16*2) k 1 1:=⟨_,rfl⟩
 have q0:d1 (33280+4*1)=2:=by rw[hd1];rfl
 have q1:d1 (33280+4*1+1)=((8*(40960+2):Nat):Int):=by rw[hd1];rfl
 have q2:d1 (33280+4*1+2)=((8*(40960+2)+k:Nat):Int):=by rw[hd1];rfl
 rw[<- hd1]at hy1
 have hu1:∀ j,uB (x1 j)=true:=hy1.at_.xr
 have h8:decP (D8 327680 m (rtM 327680))=true:=da_true (at_new hnew) trivial
 have h10:decP (D10 m (rtM 327680) (lbN 9) 1 56 (slF [.int .u64 (sz3 n)]) 0 x1 m1)=true:=by rw[hk];exact da_true A1 ⟨rfl,rfl,rfl,rfl,rfl,trivial⟩
 have h4:=wc3_4 (x:=x1) (by_:=by_) hw.1 hw.2
 have fin:∀ {sc:Short}{kk:Nat},FnsOK Try.prog (lookF FL) sc->walk (lookF FL) sc 1000 x303 (argTm 0 [.int .u16 n,.int .u8 wh,.int .u64 by_]) [] 50 j0_ ⟨[6],[],[],[]⟩ j0_=some ⟨⟨[some (true,.bool true)],[],.ret,kk⟩,none⟩ ->
   kk=63\/kk=65->Body Try.prog 3 [.int .u16 n,.int .u8 wh,.int .u64 by_] [] (.bool true) [] 50 0:=fun {sc kk} hF ew hkk=>by
  refine body_of' mixed fx303 (by simp) fun E Q hP hn hcl hfin=>?_
  refine xwp_toEnd (s:=⟨_,_,_⟩) hcl (by rw[hP];exact hF) 1000 ew ⟨mkT [6] [.bool true],mkH [],50⟩ ⟨_,[],50,rfl,by rw[hn];rfl,by rw[hn];exact⟨rfl,trivial⟩,trivial⟩ (hfin _ _ (fin_of rfl trivial (by rw[hn]) rfl))
 cases he:eq3 x1 wh by_ with
 |false =>
  have hne:¬ (d1 (33280+4*1)=wc3 x1 wh by_ 3/\d1 (33280+4*1+1)=wc3 x1 wh by_ 1/\d1 (33280+4*1+2)=wc3 x1 wh by_ 2/\wc3 x1 wh by_ 0=wc3 x1 wh by_ 1):=by
   rintro⟨z1,z2,z3,z4⟩
   have:eq3 x1 wh by_=true:=eq3_iff.2 ⟨by rw[z4,<- z2,q1,e10],by rw[<- z2,q1,e11],by rw[<- z3,q2,e12],by rw[<- z1,q0,e13],h4⟩
   rw[he]at this;cases this
  obtain⟨x2,r1,r2⟩:=rt_free_no h_A (x:=x1) (d:=d1) hy1.at_.x0 (a:=wc3 x1 wh by_) (i:=1) (by decide) (by decide) (h4.trans e14) hne
  obtain⟨m2,y2⟩:=callEnd (.inl rfl) p310e_5 (by decide) h_A hy1 (by decide) (lb_free h_A).1 (lb_free h_A).2 (a:=wc3 x1 wh by_) (fun j _=>wc3_uB hu1 wh by_ j) r1 (by decide) (by decide) (rt_ec h_A).1 r2
  have h11:decP (D10 m1 (rtM 327680) (lbN 14) 5 60 (slF (l3 x1 wh by_)) 2 (fun _=>0) m2)=true:=da_true (at_callJ (n:=4) (.inr (.inl rfl)) l3_row y2) ⟨rfl,rfl,rfl,rfl,rfl,trivial⟩
  have ew:=p303e n wh by_ m m1 m2 (rtM 327680) x1 (fun _=>0)
  rw[h8,h10,g3_true hw.1 hw.2,h11,he]at ew
  exact fin (fok FOK _) ew (.inl rfl)
 |true =>
  obtain⟨z0,z1,z2,z3,z4⟩:=eq3_iff.1 he
  obtain⟨x2,r1,r2,r3⟩:=rt_free h_A (x:=x1) (d:=d1) hy1.at_.x0 (a:=wc3 x1 wh by_) (i:=1) (k:=40962) (by decide) (by decide) (h4.trans e14) (by rw[q0,z3,e13]) (by rw[q1,z1,e11]) (by rw[q2,z2,e12]) (by rw[z0,z1,e10,e11]) (by rw[z1,e11]) (by decide) (by decide) rfl rfl
  obtain⟨m2,hy2,y2⟩:=call_ok p310_5 (by decide) h_A hy1 (by decide) (lb_free h_A).1 (lb_free h_A).2 (a:=wc3 x1 wh by_) (fun j _=>wc3_uB hu1 wh by_ j) r1 (by decide) r3
  have h11:decP (D10 m1 (rtM 327680) (lbN 14) 5 60 (slF (l3 x1 wh by_)) 0 x2 m2)=true:=da_true (at_callJ (n:=4) (.inr (.inl rfl)) l3_row y2) ⟨rfl,rfl,rfl,rfl,rfl,trivial⟩
  obtain⟨d2,hd2⟩:∃ d2,d2=rlD (ud (ud d1 (40962-1) (d1 32769)) 32769 ((8*(40962-2):Nat):Int)) (33280+4*1) (d1 32772):=⟨_,rfl⟩
  rw[<- hd2]at hy2
  have w0:d2 (33280+4*1)=0:=by rw[hd2];rfl
  obtain⟨x3,s1,s2⟩:=rt_free_no h_A (x:=x2) (d:=d2) hy2.at_.x0 (a:=fun j=>x1 (10+j)) (i:=1) (by decide) (by decide) e14 (by
   rintro⟨t1,_⟩
   rw[w0]at t1
   have:x1 13=0:=t1.symm
   rw[e13]at this;cases this)
  obtain⟨m3,y3⟩:=callEnd (.inl rfl) p310e_5 (by decide) h_A hy2 (by decide) (lb_free h_A).1 (lb_free h_A).2 (a:=fun j=>x1 (10+j)) (fun j _=>hu1 _) s1 (by decide) (by decide) (rt_ec h_A).1 s2
  have h12:decP (D10 m2 (rtM 327680) (lbN 14) 5 63 (slF (r5 x1)) 2 (fun _=>0) m3)=true:=da_true (at_callJ (n:=4) (.inr (.inr rfl)) r5_row y3) ⟨rfl,rfl,rfl,rfl,rfl,trivial⟩
  have ew:=p303o n wh by_ m m1 m2 m3 (rtM 327680) x1 x2 (fun _=>0)
  rw[h8,h10,g3_true hw.1 hw.2,h11,he,h12]at ew
  exact fin (fok FOK _) ew (.inr rfl)
end Go.X
