import Derived.Test.YtkghggngmpmigaaD48
import Derived.Test.YtkghggngmpmigaaD44
set_option linter.all false
namespace Go.X
open Go Go.Proofs
theorem at_new {heap:Int}{m:MS}{lm:LMap} (h:Body Try.prog 8 [.int .i64 heap] [] (.tuple ⟨[.agg ⟨[pAt 102,.map (some 103)]⟩,.bool true]⟩) (mkH (m.HA 100 101 102++[(103,lm.blk),(104,.var [pAt 102,.map (some 103)])])) 100 5) :
  AtN 8 [.int .i64 heap] [] newV (mkH (newU m lm)) 50 5 :=
 ⟨rfl,adet_of_body h [] [(50,100),(51,101),(52,102),(53,103),(54,104)] rfl rfl trivial rfl rfl ⟨bis_mem,bis_kn,bis_mAt (a:=50) (b:=51) rfl rfl,bis_lmap,rfl,trivial⟩ rfl⟩
theorem at_callJ {n b:Nat} (hb:b=56\/b=60\/b=63) {m m':MS}{lm:LMap}{a:Nat->Int}{lb:ByteArray}{st:Int}{x:Nat->Int}{f:Nat->List Value} (hf:∀ j,j<n+1->f j=[.int .u64 (a j)])
  (h:Body Try.prog 10 [yV,.string lb,aV (n+1)] (mkH (m.HA 90 91 92++[(61,lm.blk)]++aH (n+1) a)) (.tuple ⟨[.int .i64 st,.agg ⟨r5 x⟩,.bool true]⟩) (mkH (m'.HA 90 91 92++[(130,.var (r5 x))])) 130 1) :
  AtN 10 [yW,.string lb,.slice (some ⟨b,0,none⟩) (n+1) (n+1)] (yJ m lm++[(b,.rows (n+1) 1 f false false)]) (ansV st x true) (mkH (m'.HA 50 51 52++[(b+1,.var (r5 x))])) (b+1) 1:=by
 have h1:∀ {σ:Nm},BIs Try.prog σ (aB (n+1) a) (.rows (n+1) 1 f false false):=⟨rfl,rfl,fun j hj=>by rw[hf j hj];rfl,.inr (.inl rfl),.inr rfl⟩
 have h2:∀ {σ:Nm},BIs Try.prog σ (.rows (n+1) 1 f false false) (aB (n+1) a):=⟨rfl,rfl,fun j hj=>by rw[hf j hj];rfl,.inr (.inl rfl),.inr rfl⟩
 rcases hb with rfl|rfl|rfl
 ·exact⟨rfl,adet_of_body h [(90,50),(91,51),(92,52),(61,53),(60,56)] [(57,130)] rfl rfl ⟨bis_mem,bis_kn,bis_mAt (a:=90) (b:=91) rfl rfl,bis_lmap,h1,trivial⟩ rfl rfl ⟨bis_mem,bis_kn,bis_mAt (a:=50) (b:=51) rfl rfl,rfl,trivial,trivial,trivial,bis_lmap,h2,trivial⟩ rfl⟩
 ·exact⟨rfl,adet_of_body h [(90,50),(91,51),(92,52),(61,53),(60,60)] [(61,130)] rfl rfl ⟨bis_mem,bis_kn,bis_mAt (a:=90) (b:=91) rfl rfl,bis_lmap,h1,trivial⟩ rfl rfl ⟨bis_mem,bis_kn,bis_mAt (a:=50) (b:=51) rfl rfl,rfl,trivial,trivial,trivial,bis_lmap,h2,trivial⟩ rfl⟩
 ·exact⟨rfl,adet_of_body h [(90,50),(91,51),(92,52),(61,53),(60,63)] [(64,130)] rfl rfl ⟨bis_mem,bis_kn,bis_mAt (a:=90) (b:=91) rfl rfl,bis_lmap,h1,trivial⟩ rfl rfl ⟨bis_mem,bis_kn,bis_mAt (a:=50) (b:=51) rfl rfl,rfl,trivial,trivial,trivial,bis_lmap,h2,trivial⟩ rfl⟩
theorem kept_ne {r:Nat} (h:isKept r=true):(2<=r/\r<5)\/(8<=r/\r<10)\/(18<=r/\r<28):=by
 unfold isKept at h
 simp only[Bool.or_eq_true,Bool.and_eq_true,ble_dec,blt_dec,decide_eq_true_eq]at h
 omega
section
variable {heap:Int} (h:IsH heap){x d:Nat->Int} (hx:x 0=0)
include h hx
theorem rt_malloc {n hh w i key:Nat} (hn0:0<n) (hn:n<=1048576) (hw:w=(n+31) / 16*2)
  (e0:d 32768=((8*hh:Nat):Int)) (e1:d 32769=0) (e2:d 32770=(key:Int)) (e3:d 32771=((8*(33280+4*i):Nat):Int)) (e4:d 32772=0) (hh0:40960<=hh) (hhw:8*(hh+w)<=589824) (hi:i<1900) (hi0:0<i) (hkey:key<900000) :
  ∃ x',Rm (rtL heap) (9*w+61) ⟨56,callX x 1 (fun _=>(n:Int)) 596,d⟩ ⟨149,x',mlD d hh w n i key⟩/\x' 0=0/\x' 10=((8*(hh+2):Nat):Int)/\x' 11=((8*(hh+2):Nat):Int)/\x' 12=((8*(hh+2)+n:Nat):Int)/\x' 13=((key+1:Nat):Int)/\x' 14=(i:Int) /\
   ∀ r,isKept r=true->x' r=callX x 1 (fun _=>(n:Int)) 596 r:=by
 obtain⟨x',a1,a2,a3,a4,a5,a6,a7,a8⟩:=malloc_new (rt_rtL h) (x:=callX x 1 (fun _=>(n:Int)) 596) (d:=d) hx (n:=n) (h:=hh) (w:=w) (i:=i) (q:=149) (key:=key) rfl hn0 hn hw rfl (by decide) e0 e1 e2 e3 e4 hh0 hhw hi hi0 hkey
 exact⟨x',a1,a2,a3,a4,a5,a6,a7,fun r hr=>by
  have:=kept_ne hr
  exact a8 r (by omega) (by omega) (by omega) (by omega) (by omega) (by omega) (by omega) (by omega) (by omega) (by omega) (by omega) (by omega) (by omega)⟩
end
set_option maxRecDepth 100000
theorem p310_1:P310 1:=fun m mh lm a lb=>by
 kernel_rfl
def slF (l:List Value):Nat->List Value:=fun j=>slab l (j*1) 1
abbrev D8 (heap:Int) (m:MS) (lm:LMap):Prop:=DA 8 [.int .i64 heap] [] newV (mkH (newU m lm)) 50 5
abbrev D10 (m:MS) (lm:LMap) (lb:ByteArray) (n b:Nat) (f:Nat->List Value) (st:Int) (x:Nat->Int) (m':MS):Prop :=
 DA 10 [yW,.string lb,.slice (some ⟨b,0,none⟩) n n] (yJ m lm++[(b,.rows n 1 f false false)]) (ansV st x true) (mkH (m'.HA 50 51 52++[(b+1,.var (r5 x))])) (b+1) 1
theorem p309 (m m':MS) (lm:LMap) (x:Nat->Int):walk (lookF FL) (scOf [con8 327680 m lm,con10 m lm (lbN 9) 1 56 (slF [.int .u64 10]) 0 x m']) 1000 x309 (argTm 0 []) [] 50 j0_ ⟨[0],[],[],[]⟩ j0_ =
  bif decP (D8 327680 m lm)&&true&&true then bif decP (D10 m lm (lbN 9) 1 56 (slF [.int .u64 10]) 0 x m')&&true&&true then
   some ⟨⟨[some (true,.bool (x 10==327696&&(x 11==327696&&(x 12==327706&&(x 13==2&&(x 14==1&&true))))))],[],.ret,59⟩,none⟩else none else none:=by kernel_rfl
theorem h_A:IsH 327680:=.inl rfl
theorem lb_malloc {heap:Int} (h:IsH heap):(rtM heap).has (.string (lbN 9))=true/\(rtM heap).val (.string (lbN 9))=4*((56:Nat):Int):=rtM_at h (i:=2) (n:=9) rfl rfl
theorem first_malloc {heap:Int} (h:IsH heap){hh:Nat} (he:heap=((8*hh:Nat):Int)) (hh0:40960<=hh){m:MS}{x:Nat->Int} (hy:Yd heap m x (stD (dRt heap) heap)){n w:Nat} (hn0:0<n) (hn:n<=1048576) (hw:w=(n+31) / 16*2) (hhw:8*(hh+w)<=589824) :
  ∃ m' x',Yd heap m' x' (mlD (stD (dRt heap) heap) hh w n 1 1)/\x' 10=((8*(hh+2):Nat):Int)/\x' 11=((8*(hh+2):Nat):Int)/\x' 12=((8*(hh+2)+n:Nat):Int)/\x' 13=2/\x' 14=1 /\
   AtN 10 [yW,.string (lbN 9),.slice (some ⟨56,0,none⟩) 1 1] (yJ m (rtM heap)++[(56,.rows 1 1 (slF [.int .u64 (n:Int)]) false false)]) (ansV 0 x' true) (mkH (m'.HA 50 51 52++[(57,.var (r5 x'))])) 57 1:=by
 have e0:stD (dRt heap) heap 32768=((8*hh:Nat):Int):=he
 obtain⟨x',a1,a2,a3,a4,a5,a6,a7,a8⟩:=rt_malloc h (x:=x) (d:=stD (dRt heap) heap) hy.at_.x0 (n:=n) (hh:=hh) (w:=w) (i:=1) (key:=1) hn0 hn hw e0 rfl rfl rfl rfl hh0 hhw (by decide) (by decide) (by decide)
 obtain⟨m',y1,y2⟩:=call_ok p310_1 (by decide) h hy (by decide) (lb_malloc h).1 (lb_malloc h).2 (a:=fun _=>(n:Int)) (fun j _=>uB_iff.2 (by omega)) a1 (by omega) a8
 refine⟨m',x',y1,a3,a4,a5,a6,a7,?_⟩
 exact at_callJ (n:=0) (.inl rfl) (fun j hj=>by
  obtain rfl:j=0:=by omega
  rfl) y2
theorem b309:Body Try.prog 9 [] [] (.bool true) [] 50 0:=by
 obtain⟨m,x,hy,hb⟩:=b308 h_A
 obtain⟨m',x',hy',e10,e11,e12,e13,e14,A⟩:=first_malloc h_A (hh:=40960) rfl (by decide) hy (n:=10) (w:=4) (by decide) (by decide) rfl (by decide)
 have ew:=p309 m m' (rtM 327680) x'
 have h8:decP (D8 327680 m (rtM 327680))=true:=da_true (at_new hb) trivial
 have h10:decP (D10 m (rtM 327680) (lbN 9) 1 56 (slF [.int .u64 10]) 0 x' m')=true:=da_true A ⟨rfl,rfl,rfl,rfl,rfl,trivial⟩
 rw[h8,h10,e10,e11,e12,e13,e14]at ew
 refine body_of' mixed fx309 (by simp) fun E Q hP hn hcl hfin=>?_
 exact xwp_toEnd (s:=⟨_,_,_⟩) hcl (fokE hP _) 1000 ew ⟨mkT [0] [.bool true],mkH [],50⟩ ⟨_,[],50,rfl,by rw[hn];rfl,by rw[hn];exact⟨rfl,trivial⟩,trivial⟩ (hfin _ _ (fin_of rfl trivial (by rw[hn]) rfl))
noncomputable def con309:Con Try.prog where
 f:=9
 run:=fun vs _ _=>match vs with
  |[]=>some ([],.bool true,[],0,true)
  |_=>none
 ok:=fun vs h n pre v upd news hx=>by
  split at hx
  ·cases hx
   exact⟨fun id hid=>by simp[fstL]at hid,adet_of_body b309 [] [] rfl rfl trivial rfl rfl trivial rfl⟩
  ·cases hx
structure UM where
 n:Nat
 has:Value->Bool
 val:Value->Int
def UM.blk (m:UM):Blk:=.map 23 23 m.n m.has (fun q=>.int .u64 (m.val q))
def UM.e:UM:=⟨0,fun _=>false,fun _=>0⟩
def UM.set (m:UM) (k v:Int):UM:=⟨bif m.has (.int .u64 k)then m.n else m.n+1,fun q=>keq q (.int .u64 k)||m.has q,fun q=>bif keq q (.int .u64 k)then v else m.val q⟩
def vP (b:Bool) (L C:Nat):Value:=bif b then .slice (some ⟨40,0,none⟩) L C else .slice none 0 0
def exP (b:Bool) (x:Blk):List (Nat × Blk):=bif b then[(40,x)]else[]
def exQ (b:Bool):List Nat:=bif b then[40]else[]
abbrev ptN (n:Nat):Value:=.pointer (some ⟨n,0,some 0⟩)
noncomputable abbrev con10y (m:MS) (lm:LMap) (lb:ByteArray) (n b:Nat) (f:Nat->List Value) (st:Int) (x:Nat->Int) (m':MS):Con Try.prog :=
 conAt 10 [yV,.string lb,.slice (some ⟨b,0,none⟩) n n] (yH m lm++[(b,.rows n 1 f false false)]) (ansV st x true) (mkH (m'.HA 90 91 92++[(b+1,.var (r5 x))])) (b+1) 1
abbrev DY (m:MS) (lm:LMap) (lb:ByteArray) (n b:Nat) (f:Nat->List Value) (st:Int) (x:Nat->Int) (m':MS):Prop :=
 DA 10 [yV,.string lb,.slice (some ⟨b,0,none⟩) n n] (yH m lm++[(b,.rows n 1 f false false)]) (ansV st x true) (mkH (m'.HA 90 91 92++[(b+1,.var (r5 x))])) (b+1) 1
theorem at_callY {n b:Nat} (hb:b=130\/b=131\/b=134) {m m':MS}{lm:LMap}{a:Nat->Int}{lb:ByteArray}{st:Int}{x:Nat->Int}{f:Nat->List Value} (hf:∀ j,j<n+1->f j=[.int .u64 (a j)])
  (h:Body Try.prog 10 [yV,.string lb,aV (n+1)] (mkH (m.HA 90 91 92++[(61,lm.blk)]++aH (n+1) a)) (.tuple ⟨[.int .i64 st,.agg ⟨r5 x⟩,.bool true]⟩) (mkH (m'.HA 90 91 92++[(130,.var (r5 x))])) 130 1) :
  AtN 10 [yV,.string lb,.slice (some ⟨b,0,none⟩) (n+1) (n+1)] (yH m lm++[(b,.rows (n+1) 1 f false false)]) (ansV st x true) (mkH (m'.HA 90 91 92++[(b+1,.var (r5 x))])) (b+1) 1:=by
 have h1:∀ {σ:Nm},BIs Try.prog σ (aB (n+1) a) (.rows (n+1) 1 f false false):=⟨rfl,rfl,fun j hj=>by rw[hf j hj];rfl,.inr (.inl rfl),.inr rfl⟩
 have h2:∀ {σ:Nm},BIs Try.prog σ (.rows (n+1) 1 f false false) (aB (n+1) a):=⟨rfl,rfl,fun j hj=>by rw[hf j hj];rfl,.inr (.inl rfl),.inr rfl⟩
 rcases hb with rfl|rfl|rfl
 ·exact⟨rfl,adet_of_body h [(90,90),(91,91),(92,92),(61,61),(60,130)] [(131,130)] rfl rfl ⟨bis_mem,bis_kn,bis_mAt (a:=90) (b:=91) rfl rfl,bis_lmap,h1,trivial⟩ rfl rfl ⟨bis_mem,bis_kn,bis_mAt rfl rfl,rfl,trivial,trivial,trivial,bis_lmap,h2,trivial⟩ rfl⟩
 ·exact⟨rfl,adet_of_body h [(90,90),(91,91),(92,92),(61,61),(60,131)] [(132,130)] rfl rfl ⟨bis_mem,bis_kn,bis_mAt (a:=90) (b:=91) rfl rfl,bis_lmap,h1,trivial⟩ rfl rfl ⟨bis_mem,bis_kn,bis_mAt rfl rfl,rfl,trivial,trivial,trivial,bis_lmap,h2,trivial⟩ rfl⟩
 ·exact⟨rfl,adet_of_body h [(90,90),(91,91),(92,92),(61,61),(60,134)] [(135,130)] rfl rfl ⟨bis_mem,bis_kn,bis_mAt (a:=90) (b:=91) rfl rfl,bis_lmap,h1,trivial⟩ rfl rfl ⟨bis_mem,bis_kn,bis_mAt rfl rfl,rfl,trivial,trivial,trivial,bis_lmap,h2,trivial⟩ rfl⟩
theorem da_y {n b:Nat} (hb:b=130\/b=131\/b=134) {m m':MS}{lm:LMap}{lb:ByteArray}{st:Int}{x:Nat->Int}{f:Nat->List Value}
  (h:AtN 10 [yV,.string lb,.slice (some ⟨b,0,none⟩) (n+1) (n+1)] (yH m lm++[(b,.rows (n+1) 1 f false false)]) (ansV st x true) (mkH (m'.HA 90 91 92++[(b+1,.var (r5 x))])) (b+1) 1):decP (DY m lm lb (n+1) b f st x m')=true:=by
 rcases hb with rfl|rfl|rfl<;>exact da_true h ⟨rfl,rfl,rfl,rfl,rfl,trivial⟩
def frV (n c:Nat):Value:=match c with
 |0=>.slice none 0 0
 |c+1=>.slice (some ⟨64,0,none⟩) n (c+1)
def frB (c:Nat) (a b:Nat->Int):Blk:=.rows c 2 (fun j=>[.int .u64 (a j),.int .u64 (b j)]) true false
def frH (c:Nat) (a b:Nat->Int):List (Nat × Blk):=match c with
 |0=>[]
 |c+1=>[(64,frB (c+1) a b)]
def sB7 (L:Nat) (s:Nat->Bool):Blk:=.rows L 1 (fun j=>[.bool (s j)]) false true
noncomputable abbrev con0y (m:MS) (lm:LMap) (lb:ByteArray) (st:Int) (x:Nat->Int) (m':MS):Con Try.prog :=
 conAt 10 [yV,.string lb,.slice none 0 0] (yH m lm) (ansV st x true) (mkH (m'.HA 90 91 92++[(130,.var (r5 x))])) 130 1
noncomputable abbrev con11 (m:MS) (a:Int) (g:Nat->Int) (N:Nat):Con Try.prog :=
 conAt 11 [pAt 92,.int .i64 a,.int .i64 8] (m.HA 90 91 92) (.tuple ⟨[.slice (some ⟨N,0,none⟩) 8 8,.int .i64 0]⟩) (mkH [(N,outB 8 g)]) N 1
section
variable (L C i:Nat) (f v:Nat->Int) (c:Int) (m m1 m2:MS) (lm:LMap) (u:UM) (x1 x2:Nat->Int)
end
def B7 (m:MS) (lm:LMap) (c:Nat) (a b:Nat->Int) (L:Nat) (s:Nat->Bool):List (Nat × Blk):=m.HA 90 91 92++[(61,lm.blk),(62,yB)]++frH c a b++[(40,sB7 L s)]
def V7 (i K:Int) (n c L C:Nat):List Value:=[.int .i64 i,.int .u64 K,frV n c,ptN 62,vP true L C]
def Q7 (c:Nat):List Nat:=[90,91,92,61,62]++(match c with|0=>[]|_+1=>[64])++[40]
def P7 (c:Nat):List Nat:=[61,62]++(match c with|0=>[]|_+1=>[64])++[40]
def g12 (h:Bool):Bool:=((h||!h)&&true||false)&&((h&&true||!h)&&true)
def g65 (p q:Bool):Bool :=
 let u:=bif p then true else q
 ((!u||u)&&true||false)&&((!u&&(!u&&true)||!!u)&&((!u&&true||!!u)&&((!u&&true||!!u)&&((!u&&true||!!u)&&(((!p||p)&&true||false)&&((!p&&true||!!p)&&((!p&&true||!!p)&&true)))))))
theorem g12_t (h:Bool):g12 h=true:=by cases h<;>rfl
theorem g65_t (p q:Bool):g65 p q=true:=by cases p<;>cases q<;>rfl
abbrev D11 (m:MS) (a a0:Int) (g:Nat->Int) (N:Nat):Prop:=[pAt 92,.int .i64 a,.int .i64 8]=[pAt 92,.int .i64 a0,.int .i64 8]/\Has (mkH (m.HA 90 91 92)) (m.HA 90 91 92) /\
 AtN 11 [pAt 92,.int .i64 a0,.int .i64 8] (m.HA 90 91 92) (.tuple ⟨[.slice (some ⟨N,0,none⟩) 8 8,.int .i64 0]⟩) (mkH [(N,outB 8 g)]) N 1
abbrev lkA (k:Int):Int:=IntKind.i64.wrap (266240+IntKind.i64.wrap (32*IntKind.i64.wrap k))
section
variable (L C i n c j:Nat) (K:Int) (s:Nat->Bool) (a b g:Nat->Int) (m m1:MS) (lm:LMap) (x:Nat->Int) (k0:Int)
theorem p307_0 (sv:Bool):walk (lookF FL) noSc 1000 (.region x307_0) (argTm 0 [vP sv L C]) (mkH (exP sv (sB7 L s))) 50 ⟨[],[],[0],exQ sv⟩ j0_ j0_=some ⟨⟨[],[],.normal,50⟩,none⟩:=by cases sv<;>kernel_rfl
theorem p307_1 (sv:Bool):walk (lookF FL) (scOf [con8 327680 m lm]) 1000 (.region x307_1) (mkT [0] [vP sv L C]) (mkH (exP sv (sB7 L s))) 50 ⟨[3,4],[.id 50,.id 51,.id 52,.id 53,.tmp 3],[0],exQ sv⟩ j0_ j0_ =
  bif decP (D8 327680 m lm)&&true&&true then some ⟨⟨[some (true,ptN 55),some (true,.bool true)],mkH (m.HA 50 51 52++[(53,lm.blk),(55,.var [pAt 52,.map (some 53)])]),.normal,56⟩,none⟩else none:=by cases sv<;>kernel_rfl
theorem p307_82:walk (lookF FL) (scOf [con309]) 1000 x307_82 (mkT [3,4,0] [ptN 62,.bool true,vP true L C]) (mkH (m.HA 90 91 92++[(61,lm.blk),(62,yB)]++exP true (sB7 L s))) 130 j0_ j0_ ⟨[7,6,5],[],[3,0],[90,91,92,61,62,40]⟩ =
  some ⟨⟨[some (true,.int .i64 0),some (true,.int .u64 1),some (true,.slice none 0 0)],[],.normal,130⟩,some (x307_73,[.bl 0,.sq x307_78])⟩:=by kernel_rfl
theorem p307_82n:execC (lookF FL) (scOf [con309]) 1000 x307_82 (mkT [3,4,0] [ptN 62,.bool true,vP false L C]) (mkH (m.HA 90 91 92++[(61,lm.blk),(62,yB)]++exP false (sB7 L s))) 130 (prjK [2] [])=some ⟨[some (true,.bool true)],[],.ret,130⟩:=by kernel_rfl
theorem p307_12:walk (lookF FL) noSc 1000 x307_12 (mkT [7,6,5,3,0] (V7 i K n c L C)) (mkH (B7 m lm c a b L s)) 130 ⟨[],[],[7,6,5,3,0],Q7 c⟩ j0_ j0_ =
  bif g12 (decide ((i:Int)<(L:Int)))then bif bif decide ((i:Int)<(L:Int))then decide ((i:Int)<25)else false then some ⟨⟨[],[],.normal,130⟩,none⟩else some ⟨⟨[],[],.exit 0,130⟩,none⟩else none:=by cases c<;>kernel_rfl
theorem p307_13:walk (lookF FL) noSc 1000 (.region x307_13) (mkT [7,6,5,3,0] (V7 i K n c L C)) (mkH (B7 m lm c a b L s)) 130 ⟨[44],[],[7,6,5,3,0],Q7 c⟩ j0_ j0_ =
  bif ((0+i).blt L&&true||false)&&((intRange (i:Int) L&&true||false)&&true)then some ⟨⟨[some (true,.bool (s (0+i)))],[],.normal,130⟩,none⟩else none:=by cases c<;>kernel_rfl
theorem p307_14:walk (lookF FL) (scOf [con0y m lm (lbN 6) 0 x m1]) 1000 (.region x307_14) (mkT [44,7,6,5,3,0] (.bool true :: V7 i K n c L C)) (mkH (B7 m lm c a b L s)) 130 ⟨[8,9,10],[.id 90,.id 91,.id 92,.tmp 9],[7,6,5,3,0],P7 c⟩ j0_ j0_ =
  bif decP (DA 10 [yV,.string (lbN 6),.slice none 0 0] (yH m lm) (ansV 0 x true) (mkH (m1.HA 90 91 92++[(130,.var (r5 x))])) 130 1)&&true&&true then
   some ⟨⟨[some (true,.int .i64 0),some (true,ptN 131),some (true,.bool true)],mkH (m1.HA 90 91 92++[(131,.var (r5 x))]),.normal,132⟩,none⟩else none:=by cases c<;>kernel_rfl
theorem p307_19:walk (lookF FL) noSc 1000 x307_19 (mkT [8,9,10,7,6,5,3,0] ([.int .i64 0,ptN 131,.bool true]++V7 i K n c L C)) (mkH (m.HA 90 91 92++[(131,.var (r5 x)),(61,lm.blk),(62,yB)]++frH c a b++[(40,sB7 L s)])) 132 ⟨[],[],[5,9,7,3,0],[90,91,92,131]++P7 c⟩ ⟨[2],[],[],[]⟩ j0_ =
  bif x 10 != IntKind.u64.wrap (K+1)then some ⟨⟨[some (true,.bool false)],[],.ret,132⟩,none⟩else some ⟨⟨[],[],.normal,132⟩,none⟩:=by cases c<;>kernel_rfl
theorem p307_20:walk (lookF FL) noSc 1000 (.region x307_20) (mkT [5,9,7,3,0] [frV n c,ptN 131,.int .i64 (i:Int),ptN 62,vP true L C]) (mkH (m.HA 90 91 92++[(131,.var (r5 x)),(61,lm.blk),(62,yB)]++frH c a b++[(40,sB7 L s)])) 132 ⟨[6],[],[5,9,7,3,0],[90,91,92,131]++P7 c⟩ ⟨[2],[],[],[]⟩ j0_ =
  some ⟨⟨[some (true,.int .u64 (x 10))],[],.normal,132⟩,none⟩:=by cases c<;>kernel_rfl
abbrev RL (m:MS) (lm:LMap) (x:Nat->Int) (c:Nat) (a b:Nat->Int) (L:Nat) (s:Nat->Bool):List (Nat × Blk):=m.HA 90 91 92++[(131,.var (r5 x)),(61,lm.blk),(62,yB)]++frH c a b++[(40,sB7 L s)]
abbrev T21 (K:Int) (i:Nat) (n c L C:Nat):Tm:=mkT [6,5,9,7,3,0] [.int .u64 K,frV n c,ptN 131,.int .i64 (i:Int),ptN 62,vP true L C]
def new2 (x:Nat->Int):Nat->List Value:=fun j=>slab [.int .u64 (x 10),.int .u64 (x 11)] ((0+j)*2) 2
def abF (a b:Nat->Int):Nat->List Value:=fun j=>[.int .u64 (a j),.int .u64 (b j)]
theorem p307_21r:(xrun (fun _ _ _ _ _=>none) [(7,2)] x307_21 0 (T21 K i n (c+1) L C) (mkH (RL m lm x (c+1) a b L s)) 132 true True []).map (fun r=>(r.ok,prjK [7,6,5,3,0] [.id 90,.id 91,.id 92,.id 61,.id 62,.id 64,.id 40] .normal r.t r.h r.n)) =
  some ((n+1).ble (c+1)&&true&&(0+(c+1)).ble (c+1)&&true&&true,some ⟨[some (true,.int .i64 (i:Int)),some (true,.int .u64 K),some (true,.slice (some ⟨64,0,none⟩) (n+1) (c+1)),some (true,ptN 62),some (true,vP true L C)],
   mkH (m.HA 90 91 92++[(61,lm.blk),(62,yB),(64,.rows (c+1) 2 (rowPut (abF a b) (0+n) 1 (new2 x)) true false),(40,sB7 L s)]),.normal,133⟩):=by kernel_rfl
theorem p307_21g:(xrun (fun _ _ _ _ _=>none) [(7,1)] x307_21 0 (T21 K i n (c+1) L C) (mkH (RL m lm x (c+1) a b L s)) 132 true True []).map (fun r=>(r.ok,prjK [7,6,5,3,0] [.id 90,.id 91,.id 92,.id 61,.id 62,.tmp 5,.id 40] .normal r.t r.h r.n)) =
  some (!(n+1).ble (c+1)&&true&&(n.ble (c+1)&&(0+(c+1)).ble (c+1))&&true&&decide ((n+1)*19<=1099511627776)&&true&&true,some ⟨[some (true,.int .i64 (i:Int)),some (true,.int .u64 K),some (true,.slice (some ⟨133,0,none⟩) (n+1) (n+1)),some (true,ptN 62),some (true,vP true L C)],
   mkH (m.HA 90 91 92++[(61,lm.blk),(62,yB),(133,.rows (n+1) 2 (rowCat (abF a b) 0 n (new2 x)) true false),(40,sB7 L s)]),.normal,134⟩):=by kernel_rfl
theorem p307_21z:(xrun (fun _ _ _ _ _=>none) [(7,1)] x307_21 0 (T21 K i 0 0 L C) (mkH (RL m lm x 0 a b L s)) 132 true True []).map (fun r=>(r.ok,prjK [7,6,5,3,0] [.id 90,.id 91,.id 92,.id 61,.id 62,.tmp 5,.id 40] .normal r.t r.h r.n)) =
  some (true,some ⟨[some (true,.int .i64 (i:Int)),some (true,.int .u64 K),some (true,.slice (some ⟨133,0,none⟩) 1 1),some (true,ptN 62),some (true,vP true L C)],
   mkH (m.HA 90 91 92++[(61,lm.blk),(62,yB),(133,.rows 1 2 (rowCat (fun _=>[]) 0 0 (new2 x)) true false),(40,sB7 L s)]),.normal,134⟩):=by kernel_rfl
theorem p307_25 (h:c=0->n=0) (b0:Bool):walk (lookF FL) noSc 1000 (.region x307_25) (mkT [44,7,6,5,3,0] (.bool b0 :: V7 i K n c L C)) (mkH (B7 m lm c a b L s)) 130 ⟨[11],[],[7,6,5,3,0],Q7 c⟩ j0_ j0_ =
  some ⟨⟨[some (true,.int .i64 (IntKind.i64.wrap ((n:Int)-1)))],[],.normal,130⟩,none⟩:=by
 cases c with
 |zero=>obtain rfl:=h rfl;kernel_rfl
 |succ c=>kernel_rfl
theorem p307_26 (k:Int):walk (lookF FL) noSc 1000 (.region x307_26) (mkT [11,7,6,5,3,0] (.int .i64 k :: V7 i K n c L C)) (mkH (B7 m lm c a b L s)) 130 ⟨[78],[],[11,7,6,5,3,0],Q7 c⟩ j0_ j0_ =
  some ⟨⟨[some (true,.bool (decide (k>=0)))],[],.normal,130⟩,none⟩:=by cases c<;>kernel_rfl
theorem p307_43:walk (lookF FL) (scOf [con10y m lm (lbN 7) 1 130 (slF [.int .u64 (b (0+n))]) 0 x m1,con11 m1 k0 (fun _=>0) 133]) 1000 x307_43 (mkT [78,11,7,6,5,3,0] (.bool true :: .int .i64 (n:Int) :: V7 i K (n+1) (c+1) L C)) (mkH (B7 m lm (c+1) a b L s)) 130 ⟨[7,6,5,3,0],[.id 90,.id 91,.id 92,.id 61,.id 62,.id 64,.id 40],[],[]⟩ ⟨[2],[],[],[]⟩ j0_ =
  bif decP (DY m lm (lbN 7) 1 130 (slF [.int .u64 (b (0+n))]) 0 x m1)&&true&&(((0+n).blt (c+1)&&true||false)&&((intRange (n:Int) (n+1)&&true||false)&&true))then
   bif decP (D11 m1 (lkA (b (0+n))) k0 (fun _=>0) 133)&&true&&(((0+n).blt (c+1)&&true||false)&&((intRange (n:Int) (n+1)&&true||false)&&true))then
    bif (decide (0<=(n:Int))&&decide ((n:Int)<=((c+1:Nat):Int))&&true||false)&&true then
     some ⟨⟨[some (true,.int .i64 (i:Int)),some (true,.int .u64 K),some (true,.slice (some ⟨64,0,none⟩) ((n:Int)-0).toNat (c+1-0)),some (true,ptN 62),some (true,vP true L C)],mkH (B7 m1 lm (c+1) a b L s),.normal,134⟩,none⟩else none else none else none:=by kernel_rfl
theorem p307_68 (h:c=0->n=0):walk (lookF FL) noSc 1000 x307_68 (mkT [7,6,5,3,0] (V7 i K n c L C)) (mkH (B7 m lm c a b L s)) 130 j0_ j0_ ⟨[123,122,121],[],[7,6,5,3,0],Q7 c⟩ =
  some ⟨⟨[some (true,.int .i64 0),some (true,.int .i64 (n:Int)),some (true,frV n c)],[],.normal,130⟩,some (x307_65,[.bl 2])⟩:=by
 cases c with
 |zero=>obtain rfl:=h rfl;kernel_rfl
 |succ c=>kernel_rfl
theorem p307_65:walk (lookF FL) (scOf [con11 m k0 g 131]) 1000 x307_65 (mkT [123,122,121,7,6,5,3,0] ([.int .i64 (j:Int),.int .i64 (n:Int),frV n (c+1)]++V7 i K n (c+1) L C)) (mkH (B7 m lm (c+1) a b L s)) 130 ⟨[123],[],[122,121,7,6,5,3,0],Q7 (c+1)⟩ ⟨[2],[],[],[]⟩ j0_ =
  bif decide ((j:Int)<(n:Int))then bif ((0+j).blt (c+1)&&true||false)&&((intRange (j:Int) n&&true||false)&&true)then bif decP (D11 m (lkA (b (0+j))) k0 g 131)&&true&&true then
   bif g65 (IntKind.u64.wrap (g 0) != a (0+j)) (b (0+j)==0)then bif bif bif IntKind.u64.wrap (g 0) != a (0+j)then true else b (0+j)==0 then true else IntKind.i64.wrap (b (0+j)) != IntKind.i64.wrap ((j:Int)+1)then
    some ⟨⟨[some (true,.bool false)],[],.ret,132⟩,none⟩else some ⟨⟨[some (true,.int .i64 (IntKind.i64.wrap ((j:Int)+1)))],[],.normal,132⟩,none⟩else none else none else none
  else some ⟨⟨[some (true,.int .i64 (j:Int))],[],.exit 2,130⟩,none⟩:=by kernel_rfl
theorem p307_65n:walk (lookF FL) noSc 1000 x307_65 (mkT [123,122,121,7,6,5,3,0] ([.int .i64 ((0:Nat):Int),.int .i64 ((0:Nat):Int),frV 0 0]++V7 i K 0 0 L C)) (mkH (B7 m lm 0 a b L s)) 130 ⟨[123],[],[122,121,7,6,5,3,0],Q7 0⟩ ⟨[2],[],[],[]⟩ j0_ =
  some ⟨⟨[some (true,.int .i64 0)],[],.exit 2,130⟩,none⟩:=by kernel_rfl
theorem p307_71:walk (lookF FL) noSc 1000 (.region x307_71) (mkT [7,6,5,3,0] (V7 i K n c L C)) (mkH (B7 m lm c a b L s)) 130 ⟨[7],[],[6,5,3,0],Q7 c⟩ j0_ j0_=some ⟨⟨[some (true,.int .i64 (IntKind.i64.wrap ((i:Int)+1)))],[],.normal,130⟩,none⟩:=by cases c<;>kernel_rfl
theorem p307_78:walk (lookF FL) noSc 1000 x307_78 (mkT [7,6,5,3,0] (V7 i K n c L C)) (mkH (B7 m lm c a b L s)) 130 j0_ ⟨[2],[],[],[]⟩ j0_=some ⟨⟨[some (true,.bool true)],[],.ret,130⟩,none⟩:=by cases c<;>kernel_rfl
end
def hdL (n M:Nat):Int:=bif Nat.blt n M then((8*(33280+4*(n+1)):Nat):Int)else 0
structure Fs (d:Nat->Int) (n M K:Nat) (ks:Nat->Int):Prop where
 nM:n<=M
 key:d 32770=(K:Int)
 nxt:d 32771=((8*(33280+4*(M+1)):Nat):Int)
 head:d 32772=hdL n M
 chain:∀ j,n<j->j<=M->d (33280+4*j+3)=hdL j M
 lock:∀ j,j<n->d (33280+4*(j+1))=ks j
theorem fs_0:Fs (stD (dRt 327680) 327680) 0 0 1 (fun _=>0):=⟨Nat.le_refl _,rfl,rfl,rfl,fun j h1 h2=>by omega,fun j h=>absurd h (Nat.not_lt_zero _)⟩
theorem lkD_ne {d:Nat->Int}{t key a:Nat} (h0:a≠32770) (h1:a≠t) (h2:a≠t+1) (h3:a≠t+2):lkD d t key a=d a:=by
 unfold lkD;rw[ud_ne h3,ud_ne h2,ud_ne h1,ud_ne h0]
theorem lkD_t {d:Nat->Int}{t key:Nat} (ht:t≠32770):lkD d t key t=(key:Int):=by
 unfold lkD;rw[ud_ne (by omega),ud_ne (by omega),ud_eq]
theorem lkD_k {d:Nat->Int}{t key:Nat} (ht:32772<t):lkD d t key 32770=(key:Int):=by
 unfold lkD;rw[ud_ne (by omega),ud_ne (by omega),ud_ne (by omega),ud_eq]
section
variable {heap:Int} (h:IsH heap){x d:Nat->Int} (hx:x 0=0){n M K:Nat}{ks:Nat->Int} (hf:Fs d n M K ks) (hM:M<=100) (hK:K<=1000)
include h hx hf hM hK
theorem rt_enter:∃ x' d' M',Rm (rtL heap) 30 ⟨41,callX x 0 (fun _=>0) 596,d⟩ ⟨149,x',d'⟩/\x' 10=((K+1:Nat):Int)/\x' 11=((n+1:Nat):Int)/\Fs d' (n+1) M' (K+1) (upd ks n ((K+1:Nat):Int))/\M'<=M+1/\(∀ r,isKept r=true->x' r=callX x 0 (fun _=>0) 596 r):=by
 have hL:=rt_rtL h
 obtain⟨X,hX⟩:∃ X,X=callX x 0 (fun _=>0) 596:=⟨_,rfl⟩
 have hX0:X 0=0:=by rw[hX];exact hx
 have tail:∀ {y d':Nat->Int}{N:Nat},Rm (rtL heap) N ⟨23,sx X 5 (4*((42:Nat):Int)),d⟩ ⟨42,y,d'⟩->N<=15->y 30=((8*(33280+4*(n+1)):Nat):Int)->y 31=((K+1:Nat):Int)->y 0=0->(∀ r,r≠6->r≠7->r≠30->r≠31->y r=sx X 5 (4*((42:Nat):Int)) r) ->
   ∃ x',Rm (rtL heap) 30 ⟨41,X,d⟩ ⟨149,x',d'⟩/\x' 10=((K+1:Nat):Int)/\x' 11=((n+1:Nat):Int)/\∀ r,isKept r=true->x' r=X r:=fun {y d' N} hr hN h30 h31 h0 hk=>by
  have h1:y 1=4*((149:Nat):Int):=by rw[hk 1 (by decide) (by decide) (by decide) (by decide),sx_ne (by decide),hX];rfl
  obtain⟨x',t1,t2,t3,t4,t5⟩:=enter_tail hL (d:=d') h0 (i:=n+1) (q:=149) (key:=((K+1:Nat):Int)) (by have:=hf.nM;omega) h30 h31 (by omega) h1 (by decide)
  refine⟨x',?_,t2,t3,fun r hr=>?_⟩
  ·refine Rm.mono (N:=(N+5)+1) ?_ (by omega)
   exact rn_jal hL hX0 23 (by kernel_rfl:(rtL 0x50000)[41]?=some ⟨53,5,0,0,-72⟩) (by
    show IntKind.u64.wrap (4*((41:Nat):Int)+ofF (-72))=_
    unfold ofF;rw[u64w,u64w];omega) (by decide) (hr.trans t1)
  ·have:=kept_ne hr
   rw[t5 r (by omega) (by omega) (by omega),hk r (by omega) (by omega) (by omega) (by omega),sx_ne (by omega)]
 have hnM:=hf.nM
 by_cases hlt:n<M
 ·have hhead:d 32772=((8*(33280+4*(n+1)):Nat):Int):=by rw[hf.head];unfold hdL;rw[lt_blt hlt];rfl
  obtain⟨y,a1,a2,a3,a4,a5⟩:=lock_old hL (x:=sx X 5 (4*((42:Nat):Int))) (d:=d) hX0 (t:=33280+4*(n+1)) (q:=42) (key:=K) (nx:=hdL (n+1) M) rfl (by decide) hhead (hf.chain (n+1) (by omega) (by omega)) (by omega) (by omega) hf.key (by omega) (by omega)
  obtain⟨x',r1,r2,r3,r4⟩:=tail a1 (by decide) a2 a3 a4 a5
  refine⟨x',_,M,by rw[<- hX];exact r1,r2,r3,⟨by omega,lkD_k (by omega),?_,?_,fun j h1 h2=>?_,fun j hj=>?_⟩,by omega,fun r hr=>by rw[<- hX];exact r4 r hr⟩
  ·rw[lkD_ne (by omega) (by omega) (by omega) (by omega),ud_ne (by omega)];exact hf.nxt
  ·rw[lkD_ne (by omega) (by omega) (by omega) (by omega),ud_eq]
  ·rw[lkD_ne (by omega) (by omega) (by omega) (by omega),ud_ne (by omega)];exact hf.chain j (by omega) h2
  ·unfold upd
   by_cases e:j=n
   ·subst e;rw[lkD_t (by omega),beq_tt];rfl
   ·rw[beq_ff e,lkD_ne (by omega) (by omega) (by omega) (by omega),ud_ne (by omega)];exact hf.lock j (by omega)
 ·have hnM2:n=M:=by omega
  have hhead:d 32772=0:=by rw[hf.head];unfold hdL;rw[blt_ff hlt];rfl
  obtain⟨y,a1,a2,a3,a4,a5⟩:=lock_new hL (x:=sx X 5 (4*((42:Nat):Int))) (d:=d) hX0 (t:=33280+4*(n+1)) (q:=42) (key:=K) rfl (by decide) hhead (by rw[hnM2];exact hf.nxt) (by omega) (by omega) hf.key (by omega) (by omega)
  obtain⟨x',r1,r2,r3,r4⟩:=tail a1 (by decide) a2 a3 a4 a5
  refine⟨x',_,M+1,by rw[<- hX];exact r1,r2,r3,⟨by omega,lkD_k (by omega),?_,?_,fun j h1 h2=>by omega,fun j hj=>?_⟩,Nat.le_refl _,fun r hr=>by rw[<- hX];exact r4 r hr⟩
  ·rw[lkD_ne (by omega) (by omega) (by omega) (by omega),ud_eq];congr 1;omega
  ·rw[lkD_ne (by omega) (by omega) (by omega) (by omega),ud_ne (by omega),hhead]
   unfold hdL;rw[blt_ff (show ¬ n+1<M+1 by omega)];rfl
  ·unfold upd
   by_cases e:j=n
   ·subst e;rw[lkD_t (by omega),beq_tt];rfl
   ·rw[beq_ff e,lkD_ne (by omega) (by omega) (by omega) (by omega),ud_ne (by omega)];exact hf.lock j (by omega)
end
section
variable {heap:Int} (h:IsH heap){x d:Nat->Int} (hx:x 0=0){n M K:Nat}{ks:Nat->Int} (hf:Fs d (n+1) M K ks) (hM:M<=100)
include h hx hf hM
theorem rt_leave:∃ x' d',Rm (rtL heap) 9 ⟨47,callX x 1 (fun _=>((n+1:Nat):Int)) 596,d⟩ ⟨149,x',d'⟩/\Fs d' n M K ks/\d' (33280+4*(n+1))=0/\(∀ r,isKept r=true->x' r=callX x 1 (fun _=>((n+1:Nat):Int)) 596 r):=by
 have hnM:=hf.nM
 obtain⟨x',a1,a2,a3⟩:=leave (rt_rtL h) (x:=callX x 1 (fun _=>((n+1:Nat):Int)) 596) (d:=d) hx (i:=n+1) (q:=149) (h:=hdL (n+1) M) (by omega) (by omega) rfl hf.head rfl (by decide)
 have hn:∀ {a:Nat},a≠33280+4*(n+1)->a≠33280+4*(n+1)+3->a≠32772->rlD d (33280+4*(n+1)) (hdL (n+1) M) a=d a:=fun {a} h1 h2 h3=>by
  unfold rlD;rw[ud_ne h3,ud_ne h2,ud_ne h1]
 refine⟨x',_,a1,⟨by omega,?_,?_,?_,fun j h1 h2=>?_,fun j hj=>?_⟩,?_,fun r hr=>?_⟩
 ·rw[hn (by omega) (by omega) (by omega)];exact hf.key
 ·rw[hn (by omega) (by omega) (by omega)];exact hf.nxt
 ·unfold rlD;rw[ud_eq];unfold hdL;rw[lt_blt (show n<M by omega)];rfl
 ·by_cases e:j=n+1
  ·subst e;unfold rlD;rw[ud_ne (by omega),ud_eq]
  ·rw[hn (by omega) (by omega) (by omega)];exact hf.chain j (by omega) h2
 ·rw[hn (by omega) (by omega) (by omega)];exact hf.lock j (by omega)
 ·unfold rlD;rw[ud_ne (by omega),ud_ne (by omega),ud_eq]
 ·have:=kept_ne hr
  exact a3 r (by omega) (by omega) (by omega)
end
section
variable {heap:Int} (h:IsH heap){x d:Nat->Int} (hx:x 0=0)
include h hx
end
set_option maxRecDepth 100000
set_option maxRecDepth 100000
set_option maxRecDepth 100000
theorem p310_0:P310 0:=fun m mh lm a lb=>by
 kernel_rfl
end Go.X
