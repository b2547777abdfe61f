import Derived.Test.YtkghggngmpmigaaC48
set_option linter.all false
namespace Go.X
open Go Go.Proofs
theorem at_new {heap:Int}{m:MS}{lm:LMap} (h:Body Try.prog 8 [.int .i64 heap] [] (.tuple ⟨[.agg ⟨[pAt 102,.map (some 103)]⟩,.bool true]⟩) (mkH (m.HA 100 101 102++[(103,lm.blk),(104,.var [pAt 102,.map (some 103)])])) 100 5) :
  AtN 8 [.int .i64 heap] [] newV (mkH (newU m lm)) 50 5 :=
 ⟨rfl,adet_of_body h [] [(50,100),(51,101),(52,102),(53,103),(54,104)] rfl rfl trivial rfl rfl ⟨bis_mem,bis_kn,bis_mAt (a:=50) (b:=51) rfl rfl,bis_lmap,rfl,trivial⟩ rfl⟩
theorem at_callJ {n b:Nat} (hb:b=56\/b=60\/b=63) {m m':MS}{lm:LMap}{a:Nat->Int}{lb:ByteArray}{st:Int}{x:Nat->Int}{f:Nat->List Value} (hf:∀ j,j<n+1->f j=[.int .u64 (a j)])
  (h:Body Try.prog 10 [yV,.string lb,aV (n+1)] (mkH (m.HA 90 91 92++[(61,lm.blk)]++aH (n+1) a)) (.tuple ⟨[.int .i64 st,.agg ⟨r5 x⟩,.bool true]⟩) (mkH (m'.HA 90 91 92++[(130,.var (r5 x))])) 130 1) :
  AtN 10 [yW,.string lb,.slice (some ⟨b,0,none⟩) (n+1) (n+1)] (yJ m lm++[(b,.rows (n+1) 1 f false false)]) (ansV st x true) (mkH (m'.HA 50 51 52++[(b+1,.var (r5 x))])) (b+1) 1:=by
 have h1:∀ {σ:Nm},BIs Try.prog σ (aB (n+1) a) (.rows (n+1) 1 f false false):=⟨rfl,rfl,fun j hj=>by rw[hf j hj];rfl,.inr (.inl rfl),.inr rfl⟩
 have h2:∀ {σ:Nm},BIs Try.prog σ (.rows (n+1) 1 f false false) (aB (n+1) a):=⟨rfl,rfl,fun j hj=>by rw[hf j hj];rfl,.inr (.inl rfl),.inr rfl⟩
 rcases hb with rfl|rfl|rfl
 ·exact⟨rfl,adet_of_body h [(90,50),(91,51),(92,52),(61,53),(60,56)] [(57,130)] rfl rfl ⟨bis_mem,bis_kn,bis_mAt (a:=90) (b:=91) rfl rfl,bis_lmap,h1,trivial⟩ rfl rfl ⟨bis_mem,bis_kn,bis_mAt (a:=50) (b:=51) rfl rfl,rfl,trivial,trivial,trivial,bis_lmap,h2,trivial⟩ rfl⟩
 ·exact⟨rfl,adet_of_body h [(90,50),(91,51),(92,52),(61,53),(60,60)] [(61,130)] rfl rfl ⟨bis_mem,bis_kn,bis_mAt (a:=90) (b:=91) rfl rfl,bis_lmap,h1,trivial⟩ rfl rfl ⟨bis_mem,bis_kn,bis_mAt (a:=50) (b:=51) rfl rfl,rfl,trivial,trivial,trivial,bis_lmap,h2,trivial⟩ rfl⟩
 ·exact⟨rfl,adet_of_body h [(90,50),(91,51),(92,52),(61,53),(60,63)] [(64,130)] rfl rfl ⟨bis_mem,bis_kn,bis_mAt (a:=90) (b:=91) rfl rfl,bis_lmap,h1,trivial⟩ rfl rfl ⟨bis_mem,bis_kn,bis_mAt (a:=50) (b:=51) rfl rfl,rfl,trivial,trivial,trivial,bis_lmap,h2,trivial⟩ rfl⟩
theorem kept_ne {r:Nat} (h:isKept r=true):(2<=r/\r<5)\/(8<=r/\r<10)\/(18<=r/\r<28):=by
 unfold isKept at h
 simp only[Bool.or_eq_true,Bool.and_eq_true,ble_dec,blt_dec,decide_eq_true_eq]at h
 omega
section
variable {heap:Int} (h:IsH heap){x d:Nat->Int} (hx:x 0=0)
include h hx
theorem rt_malloc {n hh w i key:Nat} (hn0:0<n) (hn:n<=1048576) (hw:w=(n+31) / 16*2)
  (e0:d 32768=((8*hh:Nat):Int)) (e1:d 32769=0) (e2:d 32770=(key:Int)) (e3:d 32771=((8*(33280+4*i):Nat):Int)) (e4:d 32772=0) (hh0:40960<=hh) (hhw:8*(hh+w)<=589824) (hi:i<1900) (hi0:0<i) (hkey:key<900000) :
  ∃ x',Rm (rtL heap) (9*w+61) ⟨56,callX x 1 (fun _=>(n:Int)) 596,d⟩ ⟨149,x',mlD d hh w n i key⟩/\x' 0=0/\x' 10=((8*(hh+2):Nat):Int)/\x' 11=((8*(hh+2):Nat):Int)/\x' 12=((8*(hh+2)+n:Nat):Int)/\x' 13=((key+1:Nat):Int)/\x' 14=(i:Int) /\
   ∀ r,isKept r=true->x' r=callX x 1 (fun _=>(n:Int)) 596 r:=by
 obtain⟨x',a1,a2,a3,a4,a5,a6,a7,a8⟩:=malloc_new (rt_rtL h) (x:=callX x 1 (fun _=>(n:Int)) 596) (d:=d) hx (n:=n) (h:=hh) (w:=w) (i:=i) (q:=149) (key:=key) rfl hn0 hn hw rfl (by decide) e0 e1 e2 e3 e4 hh0 hhw hi hi0 hkey
 exact⟨x',a1,a2,a3,a4,a5,a6,a7,fun r hr=>by
  have:=kept_ne hr
  exact a8 r (by omega) (by omega) (by omega) (by omega) (by omega) (by omega) (by omega) (by omega) (by omega) (by omega) (by omega) (by omega) (by omega)⟩
end
set_option maxRecDepth 100000
theorem p310_1:P310 1:=fun m mh lm a lb=>by
 kernel_rfl
def slF (l:List Value):Nat->List Value:=fun j=>slab l (j*1) 1
abbrev D8 (heap:Int) (m:MS) (lm:LMap):Prop:=DA 8 [.int .i64 heap] [] newV (mkH (newU m lm)) 50 5
abbrev D10 (m:MS) (lm:LMap) (lb:ByteArray) (n b:Nat) (f:Nat->List Value) (st:Int) (x:Nat->Int) (m':MS):Prop :=
 DA 10 [yW,.string lb,.slice (some ⟨b,0,none⟩) n n] (yJ m lm++[(b,.rows n 1 f false false)]) (ansV st x true) (mkH (m'.HA 50 51 52++[(b+1,.var (r5 x))])) (b+1) 1
theorem p309 (m m':MS) (lm:LMap) (x:Nat->Int):walk (lookF FL) (scOf [con8 327680 m lm,con10 m lm (lbN 9) 1 56 (slF [.int .u64 10]) 0 x m']) 1000 x309 (argTm 0 []) [] 50 j0_ ⟨[0],[],[],[]⟩ j0_ =
  bif decP (D8 327680 m lm)&&true&&true then bif decP (D10 m lm (lbN 9) 1 56 (slF [.int .u64 10]) 0 x m')&&true&&true then
   some ⟨⟨[some (true,.bool (x 10==327696&&(x 11==327696&&(x 12==327706&&(x 13==2&&(x 14==1&&true))))))],[],.ret,59⟩,none⟩else none else none:=by kernel_rfl
theorem h_A:IsH 327680:=.inl rfl
theorem lb_malloc {heap:Int} (h:IsH heap):(rtM heap).has (.string (lbN 9))=true/\(rtM heap).val (.string (lbN 9))=4*((56:Nat):Int):=rtM_at h (i:=2) (n:=9) rfl rfl
theorem first_malloc {heap:Int} (h:IsH heap){hh:Nat} (he:heap=((8*hh:Nat):Int)) (hh0:40960<=hh){m:MS}{x:Nat->Int} (hy:Yd heap m x (stD (dRt heap) heap)){n w:Nat} (hn0:0<n) (hn:n<=1048576) (hw:w=(n+31) / 16*2) (hhw:8*(hh+w)<=589824) :
  ∃ m' x',Yd heap m' x' (mlD (stD (dRt heap) heap) hh w n 1 1)/\x' 10=((8*(hh+2):Nat):Int)/\x' 11=((8*(hh+2):Nat):Int)/\x' 12=((8*(hh+2)+n:Nat):Int)/\x' 13=2/\x' 14=1 /\
   AtN 10 [yW,.string (lbN 9),.slice (some ⟨56,0,none⟩) 1 1] (yJ m (rtM heap)++[(56,.rows 1 1 (slF [.int .u64 (n:Int)]) false false)]) (ansV 0 x' true) (mkH (m'.HA 50 51 52++[(57,.var (r5 x'))])) 57 1:=by
 have e0:stD (dRt heap) heap 32768=((8*hh:Nat):Int):=he
 obtain⟨x',a1,a2,a3,a4,a5,a6,a7,a8⟩:=rt_malloc h (x:=x) (d:=stD (dRt heap) heap) hy.at_.x0 (n:=n) (hh:=hh) (w:=w) (i:=1) (key:=1) hn0 hn hw e0 rfl rfl rfl rfl hh0 hhw (by decide) (by decide) (by decide)
 obtain⟨m',y1,y2⟩:=call_ok p310_1 (by decide) h hy (by decide) (lb_malloc h).1 (lb_malloc h).2 (a:=fun _=>(n:Int)) (fun j _=>uB_iff.2 (by omega)) a1 (by omega) a8
 refine⟨m',x',y1,a3,a4,a5,a6,a7,?_⟩
 exact at_callJ (n:=0) (.inl rfl) (fun j hj=>by
  obtain rfl:j=0:=by omega
  rfl) y2
theorem b309:Body Try.prog 9 [] [] (.bool true) [] 50 0:=by
 obtain⟨m,x,hy,hb⟩:=b308 h_A
 obtain⟨m',x',hy',e10,e11,e12,e13,e14,A⟩:=first_malloc h_A (hh:=40960) rfl (by decide) hy (n:=10) (w:=4) (by decide) (by decide) rfl (by decide)
 have ew:=p309 m m' (rtM 327680) x'
 have h8:decP (D8 327680 m (rtM 327680))=true:=da_true (at_new hb) trivial
 have h10:decP (D10 m (rtM 327680) (lbN 9) 1 56 (slF [.int .u64 10]) 0 x' m')=true:=da_true A ⟨rfl,rfl,rfl,rfl,rfl,trivial⟩
 rw[h8,h10,e10,e11,e12,e13,e14]at ew
 refine body_of' mixed fx309 (by simp) fun E Q hP hn hcl hfin=>?_
 exact xwp_toEnd (s:=⟨_,_,_⟩) hcl (fokE hP _) 1000 ew ⟨mkT [0] [.bool true],mkH [],50⟩ ⟨_,[],50,rfl,by rw[hn];rfl,by rw[hn];exact⟨rfl,trivial⟩,trivial⟩ (hfin _ _ (fin_of rfl trivial (by rw[hn]) rfl))
noncomputable def con309:Con Try.prog where
 f:=9
 run:=fun vs _ _=>match vs with
  |[]=>some ([],.bool true,[],0,true)
  |_=>none
 ok:=fun vs h n pre v upd news hx=>by
  split at hx
  ·cases hx
   exact⟨fun id hid=>by simp[fstL]at hid,adet_of_body b309 [] [] rfl rfl trivial rfl rfl trivial rfl⟩
  ·cases hx
structure UM where
 n:Nat
 has:Value->Bool
 val:Value->Int
def UM.blk (m:UM):Blk:=.map 23 23 m.n m.has (fun q=>.int .u64 (m.val q))
def UM.e:UM:=⟨0,fun _=>false,fun _=>0⟩
def UM.set (m:UM) (k v:Int):UM:=⟨bif m.has (.int .u64 k)then m.n else m.n+1,fun q=>keq q (.int .u64 k)||m.has q,fun q=>bif keq q (.int .u64 k)then v else m.val q⟩
def UM.setB (m:UM) (k v:Int):Blk:=.map 23 23 (bif m.has (.int .u64 k)then m.n else m.n+1) (fun q=>keq q (.int .u64 k)||m.has q) (fun q=>match keq q (.int .u64 k)with
 |true=>.int .u64 v
 |false=>.int .u64 (m.val q))
theorem bis_um {P:Program}{σ:Nm}{m:UM}:BIs P σ m.blk m.blk:=⟨rfl,rfl,rfl,fun _ _ _ _=>⟨rfl,rfl⟩⟩
theorem setB_eq (m:UM) (k v:Int):m.setB k v=(m.set k v).blk:=by
 unfold UM.setB UM.blk UM.set
 congr 1
 funext q
 show _=Value.int .u64 (bif keq q (.int .u64 k)then v else m.val q)
 cases keq q (.int .u64 k)<;>rfl
def vP (b:Bool) (L C:Nat):Value:=bif b then .slice (some ⟨40,0,none⟩) L C else .slice none 0 0
def pB16 (L:Nat) (f:Nat->Int):Blk:=.rows L 1 (fun j=>[.int .u16 (f j)]) false true
def exP (b:Bool) (x:Blk):List (Nat × Blk):=bif b then[(40,x)]else[]
def exQ (b:Bool):List Nat:=bif b then[40]else[]
def v4B (v:Nat->Int):Blk:=.var [.int .u64 (v 0),.int .u64 (v 1),.int .u64 (v 2),.int .u64 (v 3)]
def v4V (v:Nat->Int):Value:=.agg ⟨[.int .u64 (v 0),.int .u64 (v 1),.int .u64 (v 2),.int .u64 (v 3)]⟩
abbrev ptN (n:Nat):Value:=.pointer (some ⟨n,0,some 0⟩)
noncomputable abbrev con8s (heap:Int) (m:MS) (lm:LMap):Con Try.prog :=
 conAt 8 [.int .i64 heap] [] (.tuple ⟨[.agg ⟨[pAt 53,.map (some 54)]⟩,.bool true]⟩) (mkH (m.HA 51 52 53++[(54,lm.blk),(55,.var [pAt 53,.map (some 54)])])) 51 5
noncomputable abbrev con10y (m:MS) (lm:LMap) (lb:ByteArray) (n b:Nat) (f:Nat->List Value) (st:Int) (x:Nat->Int) (m':MS):Con Try.prog :=
 conAt 10 [yV,.string lb,.slice (some ⟨b,0,none⟩) n n] (yH m lm++[(b,.rows n 1 f false false)]) (ansV st x true) (mkH (m'.HA 90 91 92++[(b+1,.var (r5 x))])) (b+1) 1
abbrev DY (m:MS) (lm:LMap) (lb:ByteArray) (n b:Nat) (f:Nat->List Value) (st:Int) (x:Nat->Int) (m':MS):Prop :=
 DA 10 [yV,.string lb,.slice (some ⟨b,0,none⟩) n n] (yH m lm++[(b,.rows n 1 f false false)]) (ansV st x true) (mkH (m'.HA 90 91 92++[(b+1,.var (r5 x))])) (b+1) 1
theorem at_callY {n b:Nat} (hb:b=130\/b=131\/b=134) {m m':MS}{lm:LMap}{a:Nat->Int}{lb:ByteArray}{st:Int}{x:Nat->Int}{f:Nat->List Value} (hf:∀ j,j<n+1->f j=[.int .u64 (a j)])
  (h:Body Try.prog 10 [yV,.string lb,aV (n+1)] (mkH (m.HA 90 91 92++[(61,lm.blk)]++aH (n+1) a)) (.tuple ⟨[.int .i64 st,.agg ⟨r5 x⟩,.bool true]⟩) (mkH (m'.HA 90 91 92++[(130,.var (r5 x))])) 130 1) :
  AtN 10 [yV,.string lb,.slice (some ⟨b,0,none⟩) (n+1) (n+1)] (yH m lm++[(b,.rows (n+1) 1 f false false)]) (ansV st x true) (mkH (m'.HA 90 91 92++[(b+1,.var (r5 x))])) (b+1) 1:=by
 have h1:∀ {σ:Nm},BIs Try.prog σ (aB (n+1) a) (.rows (n+1) 1 f false false):=⟨rfl,rfl,fun j hj=>by rw[hf j hj];rfl,.inr (.inl rfl),.inr rfl⟩
 have h2:∀ {σ:Nm},BIs Try.prog σ (.rows (n+1) 1 f false false) (aB (n+1) a):=⟨rfl,rfl,fun j hj=>by rw[hf j hj];rfl,.inr (.inl rfl),.inr rfl⟩
 rcases hb with rfl|rfl|rfl
 ·exact⟨rfl,adet_of_body h [(90,90),(91,91),(92,92),(61,61),(60,130)] [(131,130)] rfl rfl ⟨bis_mem,bis_kn,bis_mAt (a:=90) (b:=91) rfl rfl,bis_lmap,h1,trivial⟩ rfl rfl ⟨bis_mem,bis_kn,bis_mAt rfl rfl,rfl,trivial,trivial,trivial,bis_lmap,h2,trivial⟩ rfl⟩
 ·exact⟨rfl,adet_of_body h [(90,90),(91,91),(92,92),(61,61),(60,131)] [(132,130)] rfl rfl ⟨bis_mem,bis_kn,bis_mAt (a:=90) (b:=91) rfl rfl,bis_lmap,h1,trivial⟩ rfl rfl ⟨bis_mem,bis_kn,bis_mAt rfl rfl,rfl,trivial,trivial,trivial,bis_lmap,h2,trivial⟩ rfl⟩
 ·exact⟨rfl,adet_of_body h [(90,90),(91,91),(92,92),(61,61),(60,134)] [(135,130)] rfl rfl ⟨bis_mem,bis_kn,bis_mAt (a:=90) (b:=91) rfl rfl,bis_lmap,h1,trivial⟩ rfl rfl ⟨bis_mem,bis_kn,bis_mAt rfl rfl,rfl,trivial,trivial,trivial,bis_lmap,h2,trivial⟩ rfl⟩
theorem da_y {n b:Nat} (hb:b=130\/b=131\/b=134) {m m':MS}{lm:LMap}{lb:ByteArray}{st:Int}{x:Nat->Int}{f:Nat->List Value}
  (h:AtN 10 [yV,.string lb,.slice (some ⟨b,0,none⟩) (n+1) (n+1)] (yH m lm++[(b,.rows (n+1) 1 f false false)]) (ansV st x true) (mkH (m'.HA 90 91 92++[(b+1,.var (r5 x))])) (b+1) 1):decP (DY m lm lb (n+1) b f st x m')=true:=by
 rcases hb with rfl|rfl|rfl<;>exact da_true h ⟨rfl,rfl,rfl,rfl,rfl,trivial⟩
theorem at_new51 {heap:Int}{m:MS}{lm:LMap} (h:Body Try.prog 8 [.int .i64 heap] [] (.tuple ⟨[.agg ⟨[pAt 102,.map (some 103)]⟩,.bool true]⟩) (mkH (m.HA 100 101 102++[(103,lm.blk),(104,.var [pAt 102,.map (some 103)])])) 100 5) :
  AtN 8 [.int .i64 heap] [] (.tuple ⟨[.agg ⟨[pAt 53,.map (some 54)]⟩,.bool true]⟩) (mkH (m.HA 51 52 53++[(54,lm.blk),(55,.var [pAt 53,.map (some 54)])])) 51 5 :=
 ⟨rfl,adet_of_body h [] [(51,100),(52,101),(53,102),(54,103),(55,104)] rfl rfl trivial rfl rfl ⟨bis_mem,bis_kn,bis_mAt (a:=51) (b:=52) rfl rfl,bis_lmap,rfl,trivial⟩ rfl⟩
abbrev y5 (m:MS) (lm:LMap) (v:Nat->Int) (b:Bool) (x:Blk):List (Nat × Blk):=yH m lm++[(62,yB),(63,v4B v)]++exP b x
abbrev w64 (n:Int):Int:=IntKind.u64.wrap n
def aA (k:Int):Int:=w64 (328704+w64 (8*w64 (k.tmod 100)))
def aB8 (k:Int):Int:=w64 (aA k+8)
def wl5 (k:Int) (i:Nat) (v:Nat->Int):List Value:=[.int .u64 (aA k),.int .u64 (w64 (v 0+w64 (i:Int))),.int .u64 (v 1),.int .u64 (v 2),.int .u64 (v 3)]
def cl5 (c:Int):Int:=w64 (8*w64 (c.tmod 50))
def gdB (h:Bool):Bool:=((!!h||!h)&&true||false)&&((!!h&&(!!h&&true)||!!!h)&&((!!h&&(!!h&&true)||!!!h)&&true))
def rdT (u:UM) (v:Nat->Int) (c a:Int) (x:Nat->Int) (bad ok:Option Leaf):Option Leaf :=
 bif gdB (u.has (.int .u64 a))then bif bif !u.has (.int .u64 a)then true else decide (a<w64 (328704+c))then
     bif !(a==a&&(x 11==0&&(x 12==0&&(x 13==0&&(x 14==0&&true)))))then bad else ok
  else bif !(a==a&&(x 11==u.val (.int .u64 a)&&(x 12==v 1&&(x 13==v 2&&(x 14==v 3&&true)))))then bad else ok else none
def T1 (i L C:Nat) (c:Int):Tm:=mkT [50,49,48,10,9,7,4,0,2] [.int .i64 (i:Int),.int .i64 (L:Int),vP true L C,.map (some 64),.int .u64 328704,ptN 62,ptN 63,vP true L C,.int .u8 c]
def T2 (i L C:Nat) (c:Int):Tm:=mkT [107,106,105,17,10,9,7,4] [.int .i64 (i:Int),.int .i64 (L:Int),vP true L C,.int .u64 c,.map (some 64),.int .u64 328704,ptN 62,ptN 63]
def B1 (m:MS) (lm:LMap) (u:UM) (v:Nat->Int) (L:Nat) (f:Nat->Int):List (Nat × Blk):=[(64,u.blk)]++m.HA 90 91 92++[(61,lm.blk),(62,yB),(63,v4B v),(40,pB16 L f)]
def B2 (m:MS) (lm:LMap) (u:UM) (v:Nat->Int) (L:Nat) (f:Nat->Int):List (Nat × Blk):=m.HA 90 91 92++[(64,u.blk),(61,lm.blk),(62,yB),(63,v4B v),(40,pB16 L f)]
section
variable (L C i:Nat) (f v:Nat->Int) (c:Int) (m m1 m2:MS) (lm:LMap) (u:UM) (x1 x2:Nat->Int)
theorem p305_0 (b:Bool):walk (lookF FL) noSc 1000 (.region x305_0) (argTm 0 [vP b L C,v4V v,.int .u8 c]) (mkH (exP b (pB16 L f))) 50 ⟨[4],[.tmp 4],[0,2],exQ b⟩ j0_ j0_ =
  some ⟨⟨[some (true,ptN 50)],[(50,some (v4B v))],.normal,51⟩,none⟩:=by cases b<;>kernel_rfl
theorem p305_1 (b:Bool):walk (lookF FL) (scOf [con8s 327680 m lm]) 1000 (.region x305_1) (mkT [4,0,2] [ptN 50,vP b L C,.int .u8 c]) (mkH ([(50,v4B v)]++exP b (pB16 L f))) 51 ⟨[7,8],[.id 51,.id 52,.id 53,.id 54,.tmp 7],[4,0,2],[50]++exQ b⟩ j0_ j0_ =
  bif decP (DA 8 [.int .i64 327680] [] (.tuple ⟨[.agg ⟨[pAt 53,.map (some 54)]⟩,.bool true]⟩) (mkH (m.HA 51 52 53++[(54,lm.blk),(55,.var [pAt 53,.map (some 54)])])) 51 5)&&true&&true then
   some ⟨⟨[some (true,ptN 56),some (true,.bool true)],mkH (m.HA 51 52 53++[(54,lm.blk),(56,.var [pAt 53,.map (some 54)])]),.normal,57⟩,none⟩else none:=by cases b<;>kernel_rfl
theorem p305_6 (b:Bool):walk (lookF FL) (scOf [con309]) 1000 x305_6 (mkT [7,8,4,0,2] [ptN 62,.bool true,ptN 63,vP b L C,.int .u8 c]) (mkH (y5 m lm v b (pB16 L f))) 130 ⟨[],[],[7,4,0,2],[90,91,92,61,62,63]++exQ b⟩ ⟨[6],[],[],[]⟩ j0_ =
  bif (bif b then decide ((L:Int)>12)else false)then some ⟨⟨[some (true,.bool true)],[],.ret,130⟩,none⟩else some ⟨⟨[],[],.normal,130⟩,none⟩:=by cases b<;>kernel_rfl
theorem p305_92:walk (lookF FL) noSc 1000 x305_92 (mkT [7,4,0,2] [ptN 62,ptN 63,vP true L C,.int .u8 c]) (mkH (y5 m lm v true (pB16 L f))) 130 j0_ j0_ ⟨[50,49,48,10,9],[.tmp 10],[7,4,0,2],[90,91,92,61,62,63,40]⟩ =
  some ⟨⟨[some (true,.int .i64 0),some (true,.int .i64 (L:Int)),some (true,vP true L C),some (true,.map (some 130)),some (true,.int .u64 328704)],[(130,some UM.e.blk)],.normal,131⟩,some (x305_29,[.bl 0,.sq x305_89])⟩:=by kernel_rfl
theorem p305_92n:execC (lookF FL) (scOf [con10y m lm (lbN 17) 2 131 (slF [.int .u64 328704,.int .u64 (cl5 c)]) 0 x1 m1]) 1000 x305_92 (mkT [7,4,0,2] [ptN 62,ptN 63,vP false L C,.int .u8 c]) (mkH (y5 m lm v false (pB16 L f))) 130 (prjK [6] []) =
  bif decP (DY m lm (lbN 17) 2 131 (slF [.int .u64 328704,.int .u64 (cl5 c)]) 0 x1 m1)&&true&&true then some ⟨[some (true,.bool true)],[],.ret,134⟩else none:=by kernel_rfl
theorem p305_29:walk (lookF FL) (scOf [con10y m lm (lbN 16) 5 130 (slF (wl5 (f (0+i)) i v)) 0 x1 m1]) 1000 x305_29 (T1 i L C c) (mkH (B1 m lm u v L f)) 130 ⟨[50],[.id 64,.id 90,.id 91,.id 92],[49,48,10,9,7,4,0,2],[61,62,63,40]⟩ ⟨[6],[],[],[]⟩ j0_ =
  bif decide ((i:Int)<(L:Int))then bif ((0+i).blt L&&true||false)&&((intRange (i:Int) L&&true||false)&&true)then
   bif decP (DY m lm (lbN 16) 5 130 (slF (wl5 (f (0+i)) i v)) 0 x1 m1)&&true&&true then
    some ⟨⟨[some (true,.int .i64 (IntKind.i64.wrap ((i:Int)+1)))],mkH ([(64,u.setB (aA (f (0+i))) (w64 (v 0+w64 (i:Int))))]++m1.HA 90 91 92),.normal,133⟩,none⟩else none else none
  else some ⟨⟨[some (true,.int .i64 (i:Int))],mkH ([(64,u.blk)]++m.HA 90 91 92),.exit 0,130⟩,none⟩:=by kernel_rfl
theorem p305_89:walk (lookF FL) (scOf [con10y m lm (lbN 17) 2 130 (slF [.int .u64 328704,.int .u64 (cl5 c)]) 0 x1 m1]) 1000 x305_89 (T1 i L C c) (mkH (B1 m lm u v L f)) 130 j0_ ⟨[6],[],[],[]⟩ ⟨[107,106,105,17],[.id 90,.id 91,.id 92],[10,9,7,4],[64,61,62,63,40]⟩ =
  bif decP (DY m lm (lbN 17) 2 130 (slF [.int .u64 328704,.int .u64 (cl5 c)]) 0 x1 m1)&&true&&true then
   some ⟨⟨[some (true,.int .i64 0),some (true,.int .i64 (L:Int)),some (true,vP true L C),some (true,.int .u64 (cl5 c))],mkH (m1.HA 90 91 92),.normal,133⟩,some (x305_81,[.bl 2,.sq x305_86])⟩else none:=by kernel_rfl
def t2r (L C:Nat) (c:Int):List (Option (Bool × Value)):=[some (true,.int .i64 (L:Int)),some (true,vP true L C),some (true,.int .u64 c),some (true,.map (some 64)),some (true,.int .u64 328704),some (true,ptN 62),some (true,ptN 63)]
abbrev R2:List Ref:=[.id 90,.id 91,.id 92]
theorem p305_81:execC (lookF FL) (scOf [conIf 131 (con10y m lm (lbN 15) 1 130 (slF [.int .u64 (aA (f (0+i)))]) 0 x1 m1) (con10y m1 lm (lbN 15) 1 134 (slF [.int .u64 (aB8 (f (0+i)))]) 0 x2 m2) rfl]) 1000 x305_81 (T2 i L C c) (mkH (B2 m lm u v L f)) 130 (prjK [107,106,105,17,10,9,7,4] (R2++[.id 64,.id 61,.id 62,.id 63,.id 40])) =
  bif decide ((i:Int)<(L:Int))then bif ((0+i).blt L&&true||false)&&((intRange (i:Int) L&&true||false)&&true)then
   bif decP (DY m lm (lbN 15) 1 130 (slF [.int .u64 (aA (f (0+i)))]) 0 x1 m1)&&true&&true then
    rdT u v c (aA (f (0+i))) x1 (some ⟨some (true,.int .i64 (i:Int)) :: t2r L C c,mkH (B2 m1 lm u v L f),.ret,134⟩)
     (bif decP (DY m1 lm (lbN 15) 1 134 (slF [.int .u64 (aB8 (f (0+i)))]) 0 x2 m2)&&true&&true then
      rdT u v c (aB8 (f (0+i))) x2 (some ⟨some (true,.int .i64 (i:Int)) :: t2r L C c,mkH (B2 m2 lm u v L f),.ret,138⟩) (some ⟨some (true,.int .i64 (IntKind.i64.wrap ((i:Int)+1))) :: t2r L C c,mkH (B2 m2 lm u v L f),.normal,138⟩)else none)else none else none
  else some ⟨some (true,.int .i64 (i:Int)) :: t2r L C c,mkH (B2 m lm u v L f),.exit 2,130⟩:=by kernel_rfl
theorem p305_86:walk (lookF FL) noSc 1000 x305_86 (T2 i L C c) (mkH (B2 m lm u v L f)) 130 j0_ ⟨[6],[],[],[]⟩ j0_=some ⟨⟨[some (true,.bool true)],[],.ret,130⟩,none⟩:=by kernel_rfl
end
abbrev kU (t:Nat):Value:=.int .u64 ((8*(41088+t):Nat):Int)
def ShI (d:Nat->Int) (u:UM) (v:Nat->Int):Prop:=∀ t,t<128 ->
 (u.has (kU t)=true->d (shK (41088+t))=u.val (kU t)/\d (shK (41088+t)+1)=v 1/\d (shK (41088+t)+2)=v 2/\d (shK (41088+t)+3)=v 3) /\
 (u.has (kU t)=false->d (shK (41088+t))=0/\d (shK (41088+t)+1)=0/\d (shK (41088+t)+2)=0/\d (shK (41088+t)+3)=0)
theorem shI_0 (heap:Int) (v:Nat->Int):ShI (stD (dRt heap) heap) UM.e v:=fun t ht=>by
 have h:∀ j,98000<=j->stD (dRt heap) heap j=0:=fun j hj=>by
  unfold stD
  rw[ud_ne (by omega),ud_ne (by omega),ud_ne (by omega),ud_ne (by omega),ud_ne (by omega),ud_ne (by omega)]
  exact dRt_0 heap (by omega)
 refine⟨fun h=>(by cases h),fun _=>?_⟩
 unfold shK
 exact⟨h _ (by omega),h _ (by omega),h _ (by omega),h _ (by omega)⟩
theorem u_has (u:UM) (t s:Nat) (w:Int):(u.set ((8*(41088+s):Nat):Int) w).has (kU t)=(decide (t=s)||u.has (kU t)):=by
 show(keq (kU t) _||u.has (kU t))=_
 congr 1
 show(((8*(41088+t):Nat):Int)==((8*(41088+s):Nat):Int))=_
 by_cases h:t=s
 ·subst h;simp
 ·rw[decide_eq_false h];simp;omega
theorem u_val (u:UM) (t s:Nat) (w:Int):(u.set ((8*(41088+s):Nat):Int) w).val (kU t)=bif decide (t=s)then w else u.val (kU t):=by
 show(bif keq (kU t) _ then w else u.val (kU t))=_
 congr 1
 show(((8*(41088+t):Nat):Int)==((8*(41088+s):Nat):Int))=_
 by_cases h:t=s
 ·subst h;simp
 ·rw[decide_eq_false h];simp;omega
def wrD (d:Nat->Int) (k:Nat) (a:Nat->Int):Nat->Int:=ud (ud (ud (ud d (shK k) (a 1)) (shK k+1) (a 2)) (shK k+2) (a 3)) (shK k+3) (a 4)
theorem shI_set {d:Nat->Int}{u:UM}{v:Nat->Int} (h:ShI d u v){s:Nat} (hs:s<128){a:Nat->Int} (h2:a 2=v 1) (h3:a 3=v 2) (h4:a 4=v 3):ShI (wrD d (41088+s) a) (u.set ((8*(41088+s):Nat):Int) (a 1)) v:=fun t ht=>by
 rw[u_has,u_val]
 by_cases e:t=s
 ·subst e
  rw[decide_eq_true rfl,Bool.true_or,cond_true]
  refine⟨fun _=>?_,fun h=>by cases h⟩
  unfold wrD
  refine⟨?_,?_,?_,?_⟩
  ·rw[ud_ne (by omega),ud_ne (by omega),ud_ne (by omega),ud_eq]
  ·rw[ud_ne (by omega),ud_ne (by omega),ud_eq,h2]
  ·rw[ud_ne (by omega),ud_eq,h3]
  ·rw[ud_eq,h4]
 ·rw[decide_eq_false e,Bool.false_or,cond_false]
  have g:∀ j,j<4->wrD d (41088+s) a (shK (41088+t)+j)=d (shK (41088+t)+j):=fun j hj=>by
   unfold wrD shK
   rw[ud_ne (by omega),ud_ne (by omega),ud_ne (by omega),ud_ne (by omega)]
  have g0:=g 0 (by decide)
  rw[Nat.add_zero]at g0
  rw[g0,g 1 (by decide),g 2 (by decide),g 3 (by decide)]
  exact h t ht
section
variable {heap:Int} (h:IsH heap){x d:Nat->Int} (hx:x 0=0)
include h hx
theorem rt_write {k:Nat}{a:Nat->Int} (h10:a 0=((8*k:Nat):Int)) (hk1:40960<=k) (hk2:k<41400) :
  ∃ x',Rm (rtL heap) 10 ⟨123,callX x 5 a 596,d⟩ ⟨149,x',wrD d k a⟩/\x' 0=0/\∀ r,isKept r=true->x' r=callX x 5 a 596 r:=by
 obtain⟨x',a1,a2,a3⟩:=write_ok (rt_rtL h) (x:=callX x 5 a 596) (d:=d) hx (k:=k) (q:=149) h10 (by omega) (by omega) rfl (by decide)
 exact⟨x',a1,a2,fun r hr=>by
  have:=kept_ne hr
  exact a3 r (by omega) (by omega)⟩
theorem rt_read {k:Nat}{a:Nat->Int} (h10:a 0=((8*k:Nat):Int)) (hk1:40960<=k) (hk2:k<41400) :
  ∃ x',Rm (rtL heap) 10 ⟨113,callX x 1 a 596,d⟩ ⟨149,x',d⟩/\x' 0=0/\x' 11=d (shK k)/\x' 12=d (shK k+1)/\x' 13=d (shK k+2)/\x' 14=d (shK k+3)/\∀ r,isKept r=true->x' r=callX x 1 a 596 r:=by
 obtain⟨x',a1,a2,b1,b2,b3,b4,a3⟩:=read_ok (rt_rtL h) (x:=callX x 1 a 596) (d:=d) hx (k:=k) (q:=149) h10 (by omega) (by omega) rfl (by decide)
 exact⟨x',a1,a2,b1,b2,b3,b4,fun r hr=>by
  have:=kept_ne hr
  exact a3 r (by omega) (by omega) (by omega) (by omega) (by omega) (by omega)⟩
theorem rt_clear {k n:Nat}{a:Nat->Int} (h10:a 0=((8*k:Nat):Int)) (h11:a 1=((8*n:Nat):Int)) (hk1:40960<=k) (hk2:k<41400) (hn:n<=1000) :
  ∃ x',Rm (rtL heap) (9*n+8) ⟨133,callX x 2 a 596,d⟩ ⟨149,x',clr d k (shK k) n⟩/\x' 0=0/\∀ r,isKept r=true->x' r=callX x 2 a 596 r:=by
 obtain⟨x',a1,a2,a3⟩:=clear_ok (rt_rtL h) (x:=callX x 2 a 596) (d:=d) hx (k:=k) (q:=149) h10 (by omega) (by omega) rfl (by decide) (n:=n) h11 (by omega)
 exact⟨x',a1,a2,fun r hr=>by
  have:=kept_ne hr
  exact a3 r (by omega) (by omega) (by omega) (by omega)⟩
end
set_option maxRecDepth 100000
theorem p310_2:P310 2:=fun m mh lm a lb=>by
 kernel_rfl
set_option maxRecDepth 100000
theorem p310_5:P310 5:=fun m mh lm a lb=>by
 kernel_rfl
theorem aA_eq {k:Int} (h0:0<=k) (h1:k<=65535):∃ t:Nat,t<100/\aA k=((8*(41088+t):Nat):Int)/\aB8 k=((8*(41088+(t+1)):Nat):Int):=by
 have e:aA k=((8*(41088+(k % 100).toNat):Nat):Int):=by
  unfold aA
  rw[Int.tmod_eq_emod_of_nonneg h0]
  simp only[u64w];omega
 refine⟨(k % 100).toNat,by omega,e,?_⟩
 unfold aB8
 rw[e];simp only[u64w];omega
theorem cl5_eq {c:Int} (h0:0<=c) (h1:c<=255):∃ n:Nat,n<50/\cl5 c=((8*n:Nat):Int):=by
 refine⟨(c % 50).toNat,by omega,?_⟩
 unfold cl5
 rw[Int.tmod_eq_emod_of_nonneg h0]
 simp only[u64w];omega
theorem w64w (a:Int):w64 a=a % 18446744073709551616:=u64w a
theorem gdB_t (h:Bool):gdB h=true:=by cases h<;>rfl
theorem clr_in {d:Nat->Int}{n t j:Nat} (ht:t<n) (hj:j<4):clr d 41088 (shK 41088) n (shK (41088+t)+j)=0:=by
 unfold clr
 rw[ble_dec (shK 41088),blt_dec (shK (41088+t)+j) (shK 41088+4*n),decide_eq_true (show shK 41088<=shK (41088+t)+j by unfold shK;omega),decide_eq_true (show shK (41088+t)+j<shK 41088+4*n by unfold shK;omega)]
 simp
theorem clr_out {d:Nat->Int}{n t j:Nat} (hn:n<50) (ht:n<=t) (hj:j<4):clr d 41088 (shK 41088) n (shK (41088+t)+j)=d (shK (41088+t)+j):=by
 unfold clr
 rw[blt_dec (shK (41088+t)+j) (41088+n),blt_dec (shK (41088+t)+j) (shK 41088+4*n),decide_eq_false (show ¬ shK (41088+t)+j<41088+n by unfold shK;omega),decide_eq_false (show ¬ shK (41088+t)+j<shK 41088+4*n by unfold shK;omega)]
 simp
theorem rd_ok {d v:Nat->Int}{u:UM} (h:ShI d u v){n t:Nat} (hn:n<50) (ht:t<128){x:Nat->Int} (e0:x 11=clr d 41088 (shK 41088) n (shK (41088+t))) (e1:x 12=clr d 41088 (shK 41088) n (shK (41088+t)+1)) (e2:x 13=clr d 41088 (shK 41088) n (shK (41088+t)+2)) (e3:x 14=clr d 41088 (shK 41088) n (shK (41088+t)+3)) (bad ok:Option Leaf) :
  rdT u v ((8*n:Nat):Int) ((8*(41088+t):Nat):Int) x bad ok=ok:=by
 obtain⟨h1,h2⟩:=h t ht
 unfold rdT
 rw[gdB_t,cond_true]
 have i0:∀ {j},t<n->j<4->clr d 41088 (shK 41088) n (shK (41088+t)+j)=0:=fun h hj=>clr_in h hj
 have i1:∀ {j},n<=t->j<4->clr d 41088 (shK 41088) n (shK (41088+t)+j)=d (shK (41088+t)+j):=fun h hj=>clr_out hn h hj
 have dl:decide (((8*(41088+t):Nat):Int)<w64 (328704+((8*n:Nat):Int)))=decide (t<n):=by
  rw[w64w];by_cases e:t<n
  ·rw[decide_eq_true e];exact decide_eq_true (by omega)
  ·rw[decide_eq_false e];exact decide_eq_false (by omega)
 cases hh:u.has (.int .u64 ((8*(41088+t):Nat):Int))with
 |false =>
  obtain⟨z0,z1,z2,z3⟩:=h2 hh
  have zz:x 11=0/\x 12=0/\x 13=0/\x 14=0:=by
   by_cases e:t<n
   ·exact⟨e0.trans (i0 (j:=0) e (by decide)),e1.trans (i0 e (by decide)),e2.trans (i0 e (by decide)),e3.trans (i0 e (by decide))⟩
   ·have e:n<=t:=by omega
    exact⟨e0.trans ((i1 (j:=0) e (by decide)).trans z0),e1.trans ((i1 e (by decide)).trans z1),e2.trans ((i1 e (by decide)).trans z2),e3.trans ((i1 e (by decide)).trans z3)⟩
  rw[zz.1,zz.2.1,zz.2.2.1,zz.2.2.2]
  simp
 |true =>
  obtain⟨z0,z1,z2,z3⟩:=h1 hh
  rw[dl]
  by_cases e:t<n
  ·rw[e0.trans (i0 (j:=0) e (by decide)),e1.trans (i0 e (by decide)),e2.trans (i0 e (by decide)),e3.trans (i0 e (by decide)),decide_eq_true e]
   simp
  ·have e':n<=t:=by omega
   rw[e0.trans ((i1 (j:=0) e' (by decide)).trans z0),e1.trans ((i1 e' (by decide)).trans z1),e2.trans ((i1 e' (by decide)).trans z2),e3.trans ((i1 e' (by decide)).trans z3),decide_eq_false e,show(u.val (kU t)==u.val (.int .u64 ((8*(41088+t):Nat):Int)))=true from beq_self_eq_true _]
   simp only[Bool.not_true,cond_false,beq_self_eq_true,Bool.and_self]
theorem lb_read {heap:Int} (h:IsH heap):(rtM heap).has (.string (lbN 15))=true/\(rtM heap).val (.string (lbN 15))=4*((113:Nat):Int):=rtM_at h (i:=4) (n:=15) rfl rfl
theorem lb_write {heap:Int} (h:IsH heap):(rtM heap).has (.string (lbN 16))=true/\(rtM heap).val (.string (lbN 16))=4*((123:Nat):Int):=rtM_at h (i:=5) (n:=16) rfl rfl
theorem lb_clear {heap:Int} (h:IsH heap):(rtM heap).has (.string (lbN 17))=true/\(rtM heap).val (.string (lbN 17))=4*((133:Nat):Int):=rtM_at h (i:=6) (n:=17) rfl rfl
theorem do_read {b:Nat} (hb:b=130\/b=131\/b=134){m:MS}{x d:Nat->Int} (hy:Yd 327680 m x d){t:Nat} (ht:t<128):∃ m' x',Yd 327680 m' x' d/\x' 11=d (shK (41088+t))/\x' 12=d (shK (41088+t)+1)/\x' 13=d (shK (41088+t)+2)/\x' 14=d (shK (41088+t)+3) /\
  decP (DY m (rtM 327680) (lbN 15) 1 b (slF [.int .u64 ((8*(41088+t):Nat):Int)]) 0 x' m')=true:=by
 obtain⟨x',a1,a2,e0,e1,e2,e3,a3⟩:=rt_read h_A (x:=x) (d:=d) hy.at_.x0 (k:=41088+t) (a:=fun _=>((8*(41088+t):Nat):Int)) rfl (by omega) (by omega)
 obtain⟨m',y1,y2⟩:=call_ok p310_1 (by decide) h_A hy (by decide) (lb_read h_A).1 (lb_read h_A).2 (a:=fun _=>((8*(41088+t):Nat):Int)) (fun j _=>uB_iff.2 (by omega)) a1 (by decide) a3
 exact⟨m',x',y1,e0,e1,e2,e3,da_y (n:=0) hb (at_callY hb (fun j hj=>by
  obtain rfl:j=0:=by omega
  rfl) y2)⟩
theorem do_write {m:MS}{x d:Nat->Int} (hy:Yd 327680 m x d){t:Nat} (ht:t<128){k:Int}{i:Nat}{v:Nat->Int} (hk:aA k=((8*(41088+t):Nat):Int)) (hv:∀ j,j<4->uB (v j)=true){u:UM} (hs:ShI d u v) :
  ∃ m' x' d',Yd 327680 m' x' d'/\ShI d' (u.set (aA k) (w64 (v 0+w64 (i:Int)))) v/\decP (DY m (rtM 327680) (lbN 16) 5 130 (slF (wl5 k i v)) 0 x' m')=true:=by
 obtain⟨a,ha⟩:∃ a:Nat->Int,a=fun j=>asI ((wl5 k i v).getD j undefd):=⟨_,rfl⟩
 have hr:∀ j,j<4+1->slF (wl5 k i v) j=[.int .u64 (a j)]:=fun j hj=>by
  rw[ha]
  obtain rfl|rfl|rfl|rfl|rfl:j=0\/j=1\/j=2\/j=3\/j=4:=by omega
  all_goals rfl
 have hu:∀ j,j<5->uB (a j)=true:=fun j hj=>by
  rw[ha]
  obtain rfl|rfl|rfl|rfl|rfl:j=0\/j=1\/j=2\/j=3\/j=4:=by omega
  ·show uB (aA k)=true
   rw[hk];exact uB_iff.2 (by omega)
  ·show uB (w64 (v 0+w64 (i:Int)))=true
   exact uB_iff.2 (by rw[w64w (v 0+_)];omega)
  ·exact hv 1 (by decide)
  ·exact hv 2 (by decide)
  ·exact hv 3 (by decide)
 have h0:a 0=((8*(41088+t):Nat):Int):=by rw[ha];exact hk
 obtain⟨x',a1,a2,a3⟩:=rt_write h_A (x:=x) (d:=d) hy.at_.x0 (k:=41088+t) (a:=a) h0 (by omega) (by omega)
 obtain⟨m',y1,y2⟩:=call_ok p310_5 (by decide) h_A hy (by decide) (lb_write h_A).1 (lb_write h_A).2 (a:=a) hu a1 (by decide) a3
 refine⟨m',x',_,y1,?_,da_y (n:=4) (.inl rfl) (at_callY (.inl rfl) hr y2)⟩
 rw[hk]
 have:=shI_set hs ht (a:=a) (by rw[ha];rfl) (by rw[ha];rfl) (by rw[ha];rfl)
 have e1:a 1=w64 (v 0+w64 (i:Int)):=by rw[ha];rfl
 rw[e1]at this
 exact this
theorem do_clear {b:Nat} (hb:b=130\/b=131\/b=134){m:MS}{x d:Nat->Int} (hy:Yd 327680 m x d){c:Int}{n:Nat} (hn:n<50) (hc:cl5 c=((8*n:Nat):Int)):∃ m' x',Yd 327680 m' x' (clr d 41088 (shK 41088) n) /\
  decP (DY m (rtM 327680) (lbN 17) 2 b (slF [.int .u64 328704,.int .u64 (cl5 c)]) 0 x' m')=true:=by
 obtain⟨a,ha⟩:∃ a:Nat->Int,a=fun j=>bif Nat.beq j 0 then 328704 else cl5 c:=⟨_,rfl⟩
 have h0:a 0=((8*41088:Nat):Int):=by rw[ha];rfl
 have h1:a 1=((8*n:Nat):Int):=by rw[ha];exact hc
 obtain⟨x',a1,a2,a3⟩:=rt_clear h_A (x:=x) (d:=d) hy.at_.x0 (k:=41088) (n:=n) (a:=a) h0 h1 (by decide) (by decide) (by omega)
 obtain⟨m',y1,y2⟩:=call_ok p310_2 (by decide) h_A hy (by decide) (lb_clear h_A).1 (lb_clear h_A).2 (a:=a) (fun j hj=>by
  obtain rfl|rfl:j=0\/j=1:=by omega
  ·rw[h0];exact uB_iff.2 (by omega)
  ·rw[h1];exact uB_iff.2 (by omega)) a1 (by omega) a3
 exact⟨m',x',y1,da_y (n:=1) hb (at_callY hb (fun j hj=>by
  rw[ha]
  obtain rfl|rfl:j=0\/j=1:=by omega
  all_goals rfl) y2)⟩
end Go.X
