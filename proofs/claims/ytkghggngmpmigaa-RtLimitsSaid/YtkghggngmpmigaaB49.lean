import Derived.Test.YtkghggngmpmigaaB48
set_option linter.all false
namespace Go.X
open Go Go.Proofs
theorem at_new {heap:Int}{m:MS}{lm:LMap} (h:Body Try.prog 8 [.int .i64 heap] [] (.tuple ⟨[.agg ⟨[pAt 102,.map (some 103)]⟩,.bool true]⟩) (mkH (m.HA 100 101 102++[(103,lm.blk),(104,.var [pAt 102,.map (some 103)])])) 100 5) :
  AtN 8 [.int .i64 heap] [] newV (mkH (newU m lm)) 50 5 :=
 ⟨rfl,adet_of_body h [] [(50,100),(51,101),(52,102),(53,103),(54,104)] rfl rfl trivial rfl rfl ⟨bis_mem,bis_kn,bis_mAt (a:=50) (b:=51) rfl rfl,bis_lmap,rfl,trivial⟩ rfl⟩
theorem at_callJ {n b:Nat} (hb:b=56\/b=60\/b=63) {m m':MS}{lm:LMap}{a:Nat->Int}{lb:ByteArray}{st:Int}{x:Nat->Int}{f:Nat->List Value} (hf:∀ j,j<n+1->f j=[.int .u64 (a j)])
  (h:Body Try.prog 10 [yV,.string lb,aV (n+1)] (mkH (m.HA 90 91 92++[(61,lm.blk)]++aH (n+1) a)) (.tuple ⟨[.int .i64 st,.agg ⟨r5 x⟩,.bool true]⟩) (mkH (m'.HA 90 91 92++[(130,.var (r5 x))])) 130 1) :
  AtN 10 [yW,.string lb,.slice (some ⟨b,0,none⟩) (n+1) (n+1)] (yJ m lm++[(b,.rows (n+1) 1 f false false)]) (ansV st x true) (mkH (m'.HA 50 51 52++[(b+1,.var (r5 x))])) (b+1) 1:=by
 have h1:∀ {σ:Nm},BIs Try.prog σ (aB (n+1) a) (.rows (n+1) 1 f false false):=⟨rfl,rfl,fun j hj=>by rw[hf j hj];rfl,.inr (.inl rfl),.inr rfl⟩
 have h2:∀ {σ:Nm},BIs Try.prog σ (.rows (n+1) 1 f false false) (aB (n+1) a):=⟨rfl,rfl,fun j hj=>by rw[hf j hj];rfl,.inr (.inl rfl),.inr rfl⟩
 rcases hb with rfl|rfl|rfl
 ·exact⟨rfl,adet_of_body h [(90,50),(91,51),(92,52),(61,53),(60,56)] [(57,130)] rfl rfl ⟨bis_mem,bis_kn,bis_mAt (a:=90) (b:=91) rfl rfl,bis_lmap,h1,trivial⟩ rfl rfl ⟨bis_mem,bis_kn,bis_mAt (a:=50) (b:=51) rfl rfl,rfl,trivial,trivial,trivial,bis_lmap,h2,trivial⟩ rfl⟩
 ·exact⟨rfl,adet_of_body h [(90,50),(91,51),(92,52),(61,53),(60,60)] [(61,130)] rfl rfl ⟨bis_mem,bis_kn,bis_mAt (a:=90) (b:=91) rfl rfl,bis_lmap,h1,trivial⟩ rfl rfl ⟨bis_mem,bis_kn,bis_mAt (a:=50) (b:=51) rfl rfl,rfl,trivial,trivial,trivial,bis_lmap,h2,trivial⟩ rfl⟩
 ·exact⟨rfl,adet_of_body h [(90,50),(91,51),(92,52),(61,53),(60,63)] [(64,130)] rfl rfl ⟨bis_mem,bis_kn,bis_mAt (a:=90) (b:=91) rfl rfl,bis_lmap,h1,trivial⟩ rfl rfl ⟨bis_mem,bis_kn,bis_mAt (a:=50) (b:=51) rfl rfl,rfl,trivial,trivial,trivial,bis_lmap,h2,trivial⟩ rfl⟩
theorem kept_ne {r:Nat} (h:isKept r=true):(2<=r/\r<5)\/(8<=r/\r<10)\/(18<=r/\r<28):=by
 unfold isKept at h
 simp only[Bool.or_eq_true,Bool.and_eq_true,ble_dec,blt_dec,decide_eq_true_eq]at h
 omega
section
variable {heap:Int} (h:IsH heap){x d:Nat->Int} (hx:x 0=0)
include h hx
theorem rt_malloc {n hh w i key:Nat} (hn0:0<n) (hn:n<=1048576) (hw:w=(n+31) / 16*2)
  (e0:d 32768=((8*hh:Nat):Int)) (e1:d 32769=0) (e2:d 32770=(key:Int)) (e3:d 32771=((8*(33280+4*i):Nat):Int)) (e4:d 32772=0) (hh0:40960<=hh) (hhw:8*(hh+w)<=589824) (hi:i<1900) (hi0:0<i) (hkey:key<900000) :
  ∃ x',Rm (rtL heap) (9*w+61) ⟨56,callX x 1 (fun _=>(n:Int)) 596,d⟩ ⟨149,x',mlD d hh w n i key⟩/\x' 0=0/\x' 10=((8*(hh+2):Nat):Int)/\x' 11=((8*(hh+2):Nat):Int)/\x' 12=((8*(hh+2)+n:Nat):Int)/\x' 13=((key+1:Nat):Int)/\x' 14=(i:Int) /\
   ∀ r,isKept r=true->x' r=callX x 1 (fun _=>(n:Int)) 596 r:=by
 obtain⟨x',a1,a2,a3,a4,a5,a6,a7,a8⟩:=malloc_new (rt_rtL h) (x:=callX x 1 (fun _=>(n:Int)) 596) (d:=d) hx (n:=n) (h:=hh) (w:=w) (i:=i) (q:=149) (key:=key) rfl hn0 hn hw rfl (by decide) e0 e1 e2 e3 e4 hh0 hhw hi hi0 hkey
 exact⟨x',a1,a2,a3,a4,a5,a6,a7,fun r hr=>by
  have:=kept_ne hr
  exact a8 r (by omega) (by omega) (by omega) (by omega) (by omega) (by omega) (by omega) (by omega) (by omega) (by omega) (by omega) (by omega) (by omega)⟩
theorem rt_noroom {n:Int} {d' x':Nat->Int}{N:Nat} (hr:Rm (rtL heap) N ⟨56,callX x 1 (fun _=>n) 596,d⟩ ⟨21,x',d'⟩) (h0:x' 0=0):∃ x',Rm (rtL heap) (N+1) ⟨56,callX x 1 (fun _=>n) 596,d⟩ ⟨22,x',d'⟩/\x' 17=5:=by
 obtain⟨y,b1,b2,b3⟩:=noroom_at (rt_rtL h) (x:=x') (d:=d') h0
 exact⟨y,hr.trans b1,b3⟩
end
set_option maxRecDepth 100000
theorem p310_1:P310 1:=fun m mh lm a lb=>by
 kernel_rfl
def slF (l:List Value):Nat->List Value:=fun j=>slab l (j*1) 1
abbrev D8 (heap:Int) (m:MS) (lm:LMap):Prop:=DA 8 [.int .i64 heap] [] newV (mkH (newU m lm)) 50 5
abbrev D10 (m:MS) (lm:LMap) (lb:ByteArray) (n b:Nat) (f:Nat->List Value) (st:Int) (x:Nat->Int) (m':MS):Prop :=
 DA 10 [yW,.string lb,.slice (some ⟨b,0,none⟩) n n] (yJ m lm++[(b,.rows n 1 f false false)]) (ansV st x true) (mkH (m'.HA 50 51 52++[(b+1,.var (r5 x))])) (b+1) 1
theorem p309 (m m':MS) (lm:LMap) (x:Nat->Int):walk (lookF FL) (scOf [con8 327680 m lm,con10 m lm (lbN 9) 1 56 (slF [.int .u64 10]) 0 x m']) 1000 x309 (argTm 0 []) [] 50 j0_ ⟨[0],[],[],[]⟩ j0_ =
  bif decP (D8 327680 m lm)&&true&&true then bif decP (D10 m lm (lbN 9) 1 56 (slF [.int .u64 10]) 0 x m')&&true&&true then
   some ⟨⟨[some (true,.bool (x 10==327696&&(x 11==327696&&(x 12==327706&&(x 13==2&&(x 14==1&&true))))))],[],.ret,59⟩,none⟩else none else none:=by kernel_rfl
theorem h_A:IsH 327680:=.inl rfl
theorem h_B:IsH 585728:=.inr rfl
theorem lb_malloc {heap:Int} (h:IsH heap):(rtM heap).has (.string (lbN 9))=true/\(rtM heap).val (.string (lbN 9))=4*((56:Nat):Int):=rtM_at h (i:=2) (n:=9) rfl rfl
theorem first_malloc {heap:Int} (h:IsH heap){hh:Nat} (he:heap=((8*hh:Nat):Int)) (hh0:40960<=hh){m:MS}{x:Nat->Int} (hy:Yd heap m x (stD (dRt heap) heap)){n w:Nat} (hn0:0<n) (hn:n<=1048576) (hw:w=(n+31) / 16*2) (hhw:8*(hh+w)<=589824) :
  ∃ m' x',Yd heap m' x' (mlD (stD (dRt heap) heap) hh w n 1 1)/\x' 10=((8*(hh+2):Nat):Int)/\x' 11=((8*(hh+2):Nat):Int)/\x' 12=((8*(hh+2)+n:Nat):Int)/\x' 13=2/\x' 14=1 /\
   AtN 10 [yW,.string (lbN 9),.slice (some ⟨56,0,none⟩) 1 1] (yJ m (rtM heap)++[(56,.rows 1 1 (slF [.int .u64 (n:Int)]) false false)]) (ansV 0 x' true) (mkH (m'.HA 50 51 52++[(57,.var (r5 x'))])) 57 1:=by
 have e0:stD (dRt heap) heap 32768=((8*hh:Nat):Int):=he
 obtain⟨x',a1,a2,a3,a4,a5,a6,a7,a8⟩:=rt_malloc h (x:=x) (d:=stD (dRt heap) heap) hy.at_.x0 (n:=n) (hh:=hh) (w:=w) (i:=1) (key:=1) hn0 hn hw e0 rfl rfl rfl rfl hh0 hhw (by decide) (by decide) (by decide)
 obtain⟨m',y1,y2⟩:=call_ok p310_1 (by decide) h hy (by decide) (lb_malloc h).1 (lb_malloc h).2 (a:=fun _=>(n:Int)) (fun j _=>uB_iff.2 (by omega)) a1 (by omega) a8
 refine⟨m',x',y1,a3,a4,a5,a6,a7,?_⟩
 exact at_callJ (n:=0) (.inl rfl) (fun j hj=>by
  obtain rfl:j=0:=by omega
  rfl) y2
theorem b309:Body Try.prog 9 [] [] (.bool true) [] 50 0:=by
 obtain⟨m,x,hy,hb⟩:=b308 h_A
 obtain⟨m',x',hy',e10,e11,e12,e13,e14,A⟩:=first_malloc h_A (hh:=40960) rfl (by decide) hy (n:=10) (w:=4) (by decide) (by decide) rfl (by decide)
 have ew:=p309 m m' (rtM 327680) x'
 have h8:decP (D8 327680 m (rtM 327680))=true:=da_true (at_new hb) trivial
 have h10:decP (D10 m (rtM 327680) (lbN 9) 1 56 (slF [.int .u64 10]) 0 x' m')=true:=da_true A ⟨rfl,rfl,rfl,rfl,rfl,trivial⟩
 rw[h8,h10,e10,e11,e12,e13,e14]at ew
 refine body_of' mixed fx309 (by simp) fun E Q hP hn hcl hfin=>?_
 exact xwp_toEnd (s:=⟨_,_,_⟩) hcl (fokE hP _) 1000 ew ⟨mkT [0] [.bool true],mkH [],50⟩ ⟨_,[],50,rfl,by rw[hn];rfl,by rw[hn];exact⟨rfl,trivial⟩,trivial⟩ (hfin _ _ (fin_of rfl trivial (by rw[hn]) rfl))
noncomputable def con309:Con Try.prog where
 f:=9
 run:=fun vs _ _=>match vs with
  |[]=>some ([],.bool true,[],0,true)
  |_=>none
 ok:=fun vs h n pre v upd news hx=>by
  split at hx
  ·cases hx
   exact⟨fun id hid=>by simp[fstL]at hid,adet_of_body b309 [] [] rfl rfl trivial rfl rfl trivial rfl⟩
  ·cases hx
abbrev ptY:Value:=.pointer (some ⟨55,0,some 0⟩)
abbrev ptV:Value:=.pointer (some ⟨58,0,some 0⟩)
def yB5:Blk:=.var [pAt 52,.map (some 53)]
abbrev yJJ (m:MS) (lm:LMap):List (Nat × Blk):=yJ m lm++[(55,yB5)]
def good4 (n:Int):Bool:=bif decide (n>=1)then decide (n<=4080)else false
section
variable (n:Int) (m m1:MS) (lm:LMap) (x1:Nat->Int)
theorem p304_0:walk (lookF FL) noSc 1000 (.region x304_0) (argTm 0 [.int .i64 n]) [] 50 ⟨[],[],[0],[]⟩ j0_ j0_=some ⟨⟨[],[],.normal,50⟩,none⟩:=by kernel_rfl
theorem p304_1:walk (lookF FL) (scOf [con8 585728 m lm]) 1000 (.region x304_1) (mkT [0] [.int .i64 n]) [] 50 ⟨[3,4],[.id 50,.id 51,.id 52,.id 53,.tmp 3],[0],[]⟩ j0_ j0_ =
  bif decP (D8 585728 m lm)&&true&&true then some ⟨⟨[some (true,ptY),some (true,.bool true)],mkH (yJJ m lm),.normal,56⟩,none⟩else none:=by kernel_rfl
theorem p304_6:walk (lookF FL) (scOf [con309]) 1000 x304_6 (mkT [3,4,0] [ptY,.bool true,.int .i64 n]) (mkH (yJJ m lm)) 56 ⟨[],[],[3,0],[50,51,52,53,55]⟩ j0_ j0_=some ⟨⟨[],[],.normal,56⟩,none⟩:=by kernel_rfl
theorem p304_7o:walk (lookF FL) (scOf [con10 m lm (lbN 9) 1 56 (slF [.int .u64 (IntKind.u64.wrap n)]) 0 x1 m1]) 1000 (.region x304_7) (mkT [3,0] [ptY,.int .i64 n]) (mkH (yJJ m lm)) 56 ⟨[6,5,7],[.tmp 6],[0],[]⟩ j0_ j0_ =
  bif decP (D10 m lm (lbN 9) 1 56 (slF [.int .u64 (IntKind.u64.wrap n)]) 0 x1 m1)&&true&&true then some ⟨⟨[some (true,ptV),some (true,.int .i64 0),some (true,.bool true)],[(58,some (.var (r5 x1)))],.normal,59⟩,none⟩else none:=by kernel_rfl
theorem p304_7e:walk (lookF FL) (scOf [con10 m lm (lbN 9) 1 56 (slF [.int .u64 (IntKind.u64.wrap n)]) 3 x1 m1]) 1000 (.region x304_7) (mkT [3,0] [ptY,.int .i64 n]) (mkH (yJJ m lm)) 56 ⟨[6,5,7],[.tmp 6],[0],[]⟩ j0_ j0_ =
  bif decP (D10 m lm (lbN 9) 1 56 (slF [.int .u64 (IntKind.u64.wrap n)]) 3 x1 m1)&&true&&true then some ⟨⟨[some (true,ptV),some (true,.int .i64 3),some (true,.bool true)],[(58,some (.var (r5 x1)))],.normal,59⟩,none⟩else none:=by kernel_rfl
theorem p304_8 (st:Int):walk (lookF FL) noSc 1000 (.region x304_8) (mkT [6,5,7,0] [ptV,.int .i64 st,.bool true,.int .i64 n]) (mkH [(58,.var (r5 x1))]) 59 ⟨[8],[],[6,5,7,0],[58]⟩ j0_ j0_ =
  bif ((decide (n>=1)||!decide (n>=1))&&true||false)&&((decide (n>=1)&&true||!decide (n>=1))&&true)then some ⟨⟨[some (true,.bool (good4 n))],[],.normal,59⟩,none⟩else none:=by kernel_rfl
theorem p304_9o:walk (lookF FL) noSc 1000 x304_10 (mkT [8,6,5,7,0] [.bool true,ptV,.int .i64 0,.bool true,.int .i64 n]) (mkH [(58,.var (r5 x1))]) 59 j0_ ⟨[2],[],[],[]⟩ j0_ =
  some ⟨⟨[some (true,.bool (IntKind.u64.wrap (x1 12-x1 11)==IntKind.u64.wrap n))],[],.ret,59⟩,none⟩:=by kernel_rfl
theorem p304_9e:walk (lookF FL) noSc 1000 x304_10 (mkT [8,6,5,7,0] [.bool false,ptV,.int .i64 3,.bool true,.int .i64 n]) (mkH [(58,.var (r5 x1))]) 59 j0_ ⟨[2],[],[],[]⟩ j0_ =
  some ⟨⟨[some (true,.bool true)],[],.ret,59⟩,none⟩:=by kernel_rfl
end
set_option maxRecDepth 100000
set_option maxRecDepth 100000
section
variable (n wh by_:Int) (m m1 m2 m3:MS) (lm:LMap) (x1 x2 x3:Nat->Int)
end
theorem rt_ec {heap:Int} (h:IsH heap):(rtL heap)[20]?=some ⟨55,0,0,0,0⟩/\(rtL heap)[22]?=some ⟨55,0,0,0,0⟩ :=
 ⟨(rt_rtL h 20 (by decide)).trans (by kernel_rfl),(rt_rtL h 22 (by decide)).trans (by kernel_rfl)⟩
set_option maxRecDepth 100000
theorem p310e_1:P310E 1 (lbN 9) 3:=fun m mh lm a=>by
 kernel_rfl
theorem limit_end {n:Int} (hn:-9223372036854775808<=n/\n<=9223372036854775807) (hb:¬ (1<=n/\n<=4080)){m:MS}{x:Nat->Int} (hy:Yd 585728 m x (stD (dRt 585728) 585728)) :
  ∃ m':MS,AtN 10 [yW,.string (lbN 9),.slice (some ⟨56,0,none⟩) 1 1] (yJ m (rtM 585728)++[(56,.rows 1 1 (slF [.int .u64 (IntKind.u64.wrap n)]) false false)]) (ansV 3 (fun _=>0) true) (mkH (m'.HA 50 51 52++[(57,.var (r5 fun _=>0))])) 57 1:=by
 have hu:uB (IntKind.u64.wrap n)=true:=uB_iff.2 (by rw[u64w];omega)
 have hi:IntKind.i64.wrap (IntKind.u64.wrap n)=n:=by
  rw[u64w,IntKind.wrap_i64];omega
 have hx0:callX x 1 (fun _=>IntKind.u64.wrap n) 596 0=0:=hy.at_.x0
 have hr:∃ x',Rm (rtL 585728) 14 ⟨56,callX x 1 (fun _=>IntKind.u64.wrap n) 596,stD (dRt 585728) 585728⟩ ⟨21,x',stD (dRt 585728) 585728⟩/\x' 0=0:=by
  by_cases h1:n<1\/1048576<n
  ·obtain⟨x',a1,a2⟩:=malloc_bad (rt_rtL h_B) (d:=stD (dRt 585728) 585728) hx0 (a:=IntKind.u64.wrap n) rfl (by rw[hi];exact h1)
   exact⟨x',a1.mono (by decide),a2⟩
  ·have hnn:IntKind.u64.wrap n=((n.toNat:Nat):Int):=by rw[u64w];omega
   exact malloc_big (rt_rtL h_B) (d:=stD (dRt 585728) 585728) hx0 (n:=n.toNat) (h:=73216) (w:=(n.toNat+31) / 16*2) hnn (by omega) (by omega) rfl rfl rfl (by decide) (by omega)
 obtain⟨x',a1,a2⟩:=hr
 obtain⟨x2,b1,b2⟩:=rt_noroom h_B (x:=x) (d:=stD (dRt 585728) 585728) hy.at_.x0 a1 a2
 obtain⟨m',y2⟩:=callEnd (.inr rfl) p310e_1 (by decide) h_B hy (by decide) (lb_malloc h_B).1 (lb_malloc h_B).2 (a:=fun _=>IntKind.u64.wrap n) (fun _ _=>hu) b1 (by decide) (by decide) (rt_ec h_B).2 b2
 refine⟨m',at_callJ (n:=0) (.inl rfl) (fun j hj=>?_) y2⟩
 obtain rfl:j=0:=by omega
 rfl
theorem b304 {n:Int} (hn:IntKind.i64.has n):Body Try.prog 4 [.int .i64 n] [] (.bool true) [] 50 0:=by
 have hn:-9223372036854775808<=n/\n<=9223372036854775807:=by simpa [IntKind.has,IntKind.min,IntKind.max,IntKind.signed,IntKind.bits]using hn
 obtain⟨m,x,hy,hnew⟩:=b308 h_B
 have h8:decP (D8 585728 m (rtM 585728))=true:=da_true (at_new hnew) trivial
 refine body_of' mixed fx304 (by simp) fun E Q hP hE hcl hfin=>?_
 have hF:FnsOK E.P (lookF FL) noSc:=hP▸FOK
 refine xwp_seqW (s:=⟨_,_,_⟩) hcl hF 1000 (p304_0 n) rfl ⟨mkT [0] [.int .i64 n],mkH [],50⟩ ⟨_,[],_,rfl,by rw[hE];rfl,by rw[hE];exact⟨rfl,trivial⟩,trivial⟩ ?_
 have e1:=p304_1 n m (rtM 585728)
 rw[h8]at e1
 have lf:∀ {l:Leaf}{ks:List Nat}{vs:List Value},l.bs=mkH (yJJ m (rtM 585728))->tsOK (stayOr 50 (pis (yJJ m (rtM 585728)) (mkH (yJJ m (rtM 585728))))) l.ts vs->LeafTo E ks l ⟨mkT ks vs,mkH (yJJ m (rtM 585728)),56⟩:=fun {l ks vs} hb ht =>
  ⟨_,_,_,rfl,by rw[hE,hb];rfl,by rw[hE,hb];exact ht,by rw[hE,hP,hb];exact⟨bis_mem,bis_kn,bis_mAt (a:=50) (b:=51) rfl rfl,bis_lmap,rfl,trivial⟩⟩
 refine xwp_seqW (s:=⟨_,_,_⟩) hcl (fokE hP _) 1000 e1 rfl ⟨mkT [3,4,0] [ptY,.bool true,.int .i64 n],mkH (yJJ m (rtM 585728)),56⟩ (lf rfl ⟨rfl,rfl,rfl,trivial⟩) ?_
 refine xwp_seqW (s:=⟨_,_,_⟩) hcl (fokE hP _) 1000 (p304_6 n m (rtM 585728)) rfl ⟨mkT [3,0] [ptY,.int .i64 n],mkH (yJJ m (rtM 585728)),56⟩ (lf rfl ⟨rfl,rfl,trivial⟩) ?_
 have lf2:∀ {l:Leaf}{x1:Nat->Int}{ks:List Nat}{vs:List Value},l.bs=[(58,some (.var (r5 x1)))]->tsOK (stayOr 50 [(58,58)]) l.ts vs->LeafTo E ks l ⟨mkT ks vs,mkH [(58,.var (r5 x1))],59⟩:=fun {l x1 ks vs} hb ht =>
  ⟨_,_,_,rfl,by rw[hE,hb];rfl,by rw[hE,hb];exact ht,by rw[hE,hP,hb];exact⟨rfl,trivial⟩⟩
 have g8:(((decide (n>=1)||!decide (n>=1))&&true||false)&&((decide (n>=1)&&true||!decide (n>=1))&&true))=true:=by cases decide (n>=1)<;>rfl
 by_cases hg:1<=n/\n<=4080
 ·obtain⟨k,rfl⟩:∃ k:Nat,n=(k:Int):=⟨n.toNat,by omega⟩
  obtain⟨m1,x1,hy1,e10,e11,e12,e13,e14,A1⟩:=first_malloc h_B (hh:=73216) rfl (by decide) hy (n:=k) (w:=(k+31) / 16*2) (by omega) (by omega) rfl (by omega)
  have hw:IntKind.u64.wrap (k:Int)=(k:Int):=by rw[u64w];omega
  have h10:decP (D10 m (rtM 585728) (lbN 9) 1 56 (slF [.int .u64 (IntKind.u64.wrap (k:Int))]) 0 x1 m1)=true:=by rw[hw];exact da_true A1 ⟨rfl,rfl,rfl,rfl,rfl,trivial⟩
  have e7:=p304_7o (k:Int) m m1 (rtM 585728) x1
  rw[h10]at e7
  refine xwp_seqW (s:=⟨_,_,_⟩) hcl (fokE hP _) 1000 e7 rfl ⟨mkT [6,5,7,0] [ptV,.int .i64 0,.bool true,.int .i64 (k:Int)],mkH [(58,.var (r5 x1))],59⟩ (lf2 rfl ⟨rfl,rfl,rfl,rfl,trivial⟩) ?_
  have e8:=p304_8 (k:Int) x1 0
  rw[g8,show good4 (k:Int)=true by unfold good4;rw[decide_eq_true (show(k:Int)>=1 from hg.1),decide_eq_true hg.2];rfl,cond_true]at e8
  refine xwp_seqW (s:=⟨_,_,_⟩) hcl hF 1000 e8 rfl ⟨mkT [8,6,5,7,0] [.bool true,ptV,.int .i64 0,.bool true,.int .i64 (k:Int)],mkH [(58,.var (r5 x1))],59⟩ (lf2 rfl ⟨rfl,rfl,rfl,rfl,rfl,trivial⟩) ?_
  have e9:=p304_9o (k:Int) x1
  rw[e12,e11,hw,show(IntKind.u64.wrap (((8*(73216+2)+k:Nat):Int)-((8*(73216+2):Nat):Int))==(k:Int))=true by rw[u64w];simp;omega]at e9
  exact xwp_toEnd (s:=⟨_,_,_⟩) hcl hF 1000 e9 ⟨mkT [2] [.bool true],mkH [],50⟩ ⟨_,[],50,rfl,by rw[hE];rfl,by rw[hE];exact⟨rfl,trivial⟩,trivial⟩ (hfin _ _ (fin_of rfl trivial (by rw[hE]) rfl))
 ·obtain⟨m1,A1⟩:=limit_end hn hg hy
  have h10:decP (D10 m (rtM 585728) (lbN 9) 1 56 (slF [.int .u64 (IntKind.u64.wrap n)]) 3 (fun _=>0) m1)=true:=da_true A1 ⟨rfl,rfl,rfl,rfl,rfl,trivial⟩
  have e7:=p304_7e n m m1 (rtM 585728) (fun _=>0)
  rw[h10]at e7
  refine xwp_seqW (s:=⟨_,_,_⟩) hcl (fokE hP _) 1000 e7 rfl ⟨mkT [6,5,7,0] [ptV,.int .i64 3,.bool true,.int .i64 n],mkH [(58,.var (r5 fun _=>0))],59⟩ (lf2 rfl ⟨rfl,rfl,rfl,rfl,trivial⟩) ?_
  have e8:=p304_8 n (fun _=>0) 3
  have hgf:good4 n=false:=by
   unfold good4
   by_cases h1:1<=n
   ·rw[decide_eq_true (show n>=1 from h1),decide_eq_false (show ¬ n<=4080 by omega)];rfl
   ·rw[decide_eq_false (show ¬ n>=1 from h1)];rfl
  rw[g8,hgf,cond_true]at e8
  refine xwp_seqW (s:=⟨_,_,_⟩) hcl hF 1000 e8 rfl ⟨mkT [8,6,5,7,0] [.bool false,ptV,.int .i64 3,.bool true,.int .i64 n],mkH [(58,.var (r5 fun _=>0))],59⟩ (lf2 rfl ⟨rfl,rfl,rfl,rfl,rfl,trivial⟩) ?_
  exact xwp_toEnd (s:=⟨_,_,_⟩) hcl hF 1000 (p304_9e n (fun _=>0)) ⟨mkT [2] [.bool true],mkH [],50⟩ ⟨_,[],50,rfl,by rw[hE];rfl,by rw[hE];exact⟨rfl,trivial⟩,trivial⟩ (hfin _ _ (fin_of rfl trivial (by rw[hE]) rfl))
end Go.X
