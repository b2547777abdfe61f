import Derived.Test.YtnekegldodbgjaaM48
set_option linter.all false
namespace Go.X
open Go Go.Proofs
theorem at68 {m m2:MS}{bo bs bs2:Bool}{k L C oN sN sN2:Nat}{mk op:Int}{c:Cand}{sf sf2:Nat->List Value}{ret:Bool} (hse:SeOK sN sf) (hse2:SeOK sN2 sf2)
  (h:Body Try.prog 68 [docV 93 m,rcV bo bs 94 95 k L C oN sN mk,i18 op c.rd c.rs1 c.rs2 c.imm] (mkH (pre68 m bs sN sf)) (val70 m2 bo bs2 94 102 k L C oN sN2 mk ret) (upd68 100 m2 bo bs2 k L C oN sN2 mk sf2) 100 3) :
  AtN 68 [docV 93 m,rcV bo bs 94 95 k L C oN sN mk,i18 op c.rd c.rs1 c.rs2 c.imm] (pre68 m bs sN sf) (val70 m2 bo bs2 94 109 k L C oN sN2 mk ret) (upd68 107 m2 bo bs2 k L C oN sN2 mk sf2) 107 3:=by
 have h1:∀ {σ:Nm},BIs Try.prog σ (seB sN sf) (seB sN sf):=bis_seB fun j hj=>hse j hj _
 have h2:∀ {σ:Nm},BIs Try.prog σ (seB sN2 sf2) (seB sN2 sf2):=bis_seB fun j hj=>hse2 j hj _
 refine⟨by cases bs<;>rfl,adet_of_body h πD [(107,100),(108,101),(109,102)] ?_ ?_ ?_ ?_ ?_ ?_ ?_⟩
 ·cases bs2<;>rfl
 ·cases bo<;>cases bs<;>rfl
 ·cases bs
  ·exact⟨bis_mem,trivial⟩
  ·exact⟨bis_mem,h1,trivial⟩
 ·cases bs<;>rfl
 ·cases bo<;>cases bs2<;>rfl
 ·have hr:∀ {σ:Nm},σ 40=some 40->σ 109=some 102->σ 94=some 94->BIs Try.prog σ (rcB bo bs2 94 109 k L C oN sN2 mk) (rcB bo bs2 94 102 k L C oN sN2 mk):=fun h1 h2 h3=>bis_rc h1 (fun _=>h3) (fun _=>h2)
  cases bs<;>cases bs2
  ·exact⟨bis_doc93 rfl,hr rfl rfl rfl,bis_mem,trivial,trivial,trivial⟩
  ·exact⟨bis_doc93 rfl,hr rfl rfl rfl,h2,bis_mem,trivial,trivial,trivial⟩
  ·exact⟨bis_doc93 rfl,hr rfl rfl rfl,bis_mem,trivial,trivial,trivial,trivial⟩
  ·exact⟨bis_doc93 rfl,hr rfl rfl rfl,h2,bis_mem,trivial,trivial,trivial,trivial⟩
 ·cases bs<;>cases bs2<;>rfl
def poF (a:Nat) (b:Bool):Option Addr:=bif b then some ⟨a,0,none⟩else none
def nF (b:Bool) (n:Nat):Nat:=bif b then n else 0
theorem rcV_rn (bo bs:Bool) (k L C oN sN:Nat) (mk:Int):rn4 (some ⟨40,k,none⟩) (poF 94 bo) (poF 95 bs) L C (nF bo oN) (nF bo oN) (nF bs sN) (nF bs sN) mk=rcV bo bs 94 95 k L C oN sN mk:=by cases bo<;>cases bs<;>rfl
theorem rcB_rb (bo bs:Bool) (k L C oN sN:Nat) (mk:Int):rb4 (some ⟨40,k,none⟩) (poF 94 bo) (poF 95 bs) L C (nF bo oN) (nF bo oN) (nF bs sN) (nF bs sN) mk=rcB bo bs 94 95 k L C oN sN mk:=by cases bo<;>cases bs<;>rfl
def upd49 (N a b:Nat) (m2:MS) (bo bs:Bool) (k L C oN sN:Nat) (mk:Int):Hp:=mkH [(N,docB 93 m2),(N+1,rcB bo bs a b k L C oN sN mk)]
abbrev πG:List (Nat × Nat):=[(93,93),(40,40),(94,104),(95,105)]
section
variable {m m2:MS}{bo bs:Bool}{k L C oN sN:Nat}{mk mk2:Int}{ret:Bool}{i:Ans}{pl:Bool}{v:Int}{n:Nat}
theorem at49_0 (e:W49 m (some ⟨40,k,none⟩) (poF 94 bo) (poF 95 bs) L C (nF bo oN) (nF bo oN) (nF bs sN) (nF bs sN) mk i pl v=l49 (some ⟨40,k,none⟩) (poF 94 bo) (poF 95 bs) L C (nF bo oN) (nF bo oN) (nF bs sN) (nF bs sN) m2 mk2 ret n){m3:MS} (hd:docB 93 m2=docB 93 m3) :
  AtN 49 [docV 93 m,rcV bo bs 104 105 k L C oN sN mk] [(93,m.memB)] (val70 m3 bo bs 104 105 k L C oN sN mk2 ret) (upd49 106 104 105 m3 bo bs k L C oN sN mk2) 106 3:=by
 unfold l49 W49 at e
 rw[rcV_rn,rcB_rb,hd]at e
 have hb:Body Try.prog 49 [docV 93 m,rcV bo bs 94 95 k L C oN sN mk] (mkH [(93,m.memB)]) (val70 m3 bo bs 94 95 k L C oN sN mk2 ret) (upd49 100 94 95 m3 bo bs k L C oN sN mk2) 100 3 :=
  body_walk (fok FOK _) fx49 (by simp) e rfl ⟨mkT [4,5,6] [pt 100,pt 101,.bool ret],mkH [(100,docB 93 m3),(101,rcB bo bs 94 95 k L C oN sN mk2),(93,m.memB)],103⟩
   (fun ρ w hd=>⟨_,[(100,docB 93 m3),(101,rcB bo bs 94 95 k L C oN sN mk2),(93,m.memB)],_,rfl,rfl,⟨rfl,rfl,rfl,trivial⟩,bis_doc93 rfl,bis_rc rfl (fun _=>rfl) (fun _=>rfl),bis_mem,trivial⟩) ⟨rfl,rfl,rfl,trivial⟩ rfl rfl
 exact⟨rfl,adet_of_body hb πG [(106,100),(107,101)] rfl (by cases bo<;>cases bs<;>rfl) ⟨bis_mem,trivial⟩ rfl (by cases bo<;>cases bs<;>rfl) ⟨bis_doc93 rfl,bis_rc rfl (fun _=>rfl) (fun _=>rfl),bis_mem,trivial⟩ rfl⟩
end
noncomputable abbrev sc49c (m:MS) (i:Ans) (vs:List Value) (pre:List (Nat × Blk)) (v:Value) (upd:Hp):Short:=scOf [conG 62 [docV 93 m,.int .u64 m.pl,.int .i64 4] [] (.bool true),conG 64 [docV 93 m,.int .u64 m.pl,.int .i64 4] [(93,m.memB)] (.int .u64 (num4 m.mem (m.pl.toNat*1))),con63x (w32 m) i,con65,conAt 70 vs pre v upd 107 3]
noncomputable abbrev sc49m (m:MS) (i:Ans) (vs:List Value) (pre:List (Nat × Blk)) (v:Value) (upd:Hp):Short:=scOf [conG 62 [docV 93 m,.int .u64 m.pl,.int .i64 4] [] (.bool true),conG 64 [docV 93 m,.int .u64 m.pl,.int .i64 4] [(93,m.memB)] (.int .u64 (num4 m.mem (m.pl.toNat*1))),con63x (w32 m) i,con65,conAt 68 vs pre v upd 107 3]
def nxtD (m m2:MS) (ret:Bool):MS:=bif ret then { m2 with pl:=IntKind.u64.wrap (m.pl+4) }else m2
section
variable (m m2:MS) (c:Cand) (bo bo2 bs bs2 ret:Bool) (k L C T oN sN k2 L2 C2 oN2 sN2:Nat) (mk:Int) (inp of of2:Nat->Int) (sf sf2:Nat->List Value) (q:Int)
noncomputable def dC:Bool:=decP ([docV 93 m,rcV bo bs 94 95 k L C oN sN mk]=[docV 93 m,rcV bo bs 94 95 k L C oN sN mk]/\Has (mkH ((93,m.memB) :: pre70 bo T oN inp of)) (pre70 bo T oN inp of)/\AtN 70 [docV 93 m,rcV bo bs 94 95 k L C oN sN mk] (pre70 bo T oN inp of) (val70 m2 bo2 bs 109 95 k2 L2 C2 oN2 sN mk ret) (upd70 107 m2 bo2 bs k2 L2 C2 oN2 sN mk of2) 107 3)
theorem p49_c:walk (lookF FL) (sc49c m ⟨55,c,0⟩ [docV 93 m,rcV bo bs 94 95 k L C oN sN mk] (pre70 bo T oN inp of) (val70 m2 bo2 bs 109 95 k2 L2 C2 oN2 sN mk ret) (upd70 107 m2 bo2 bs k2 L2 C2 oN2 sN mk of2)) 1000 x49 (argTm 0 [docV 93 m,rcV bo bs 94 95 k L C oN sN mk]) (mkH ((93,m.memB) :: pre70 bo T oN inp of)) 100 j0_ ⟨[4,5,6],[.tmp 4,.tmp 5]++(oneI bo2 109).map .id,[],[93,40]⟩ j0_ =
  a49 m ⟨55,c,0⟩ (bif gg m c then bif dC m m2 bo bo2 bs ret k L C T oN sN k2 L2 C2 oN2 mk inp of of2&&true&&true then some ⟨⟨[some (true,pt 102),some (true,pt 103),some (true,.bool ret)],[(102,some (docB 93 (nxtD m m2 ret))),(103,some (rcB bo2 bs 109 95 k2 L2 C2 oN2 sN mk))]++(dxO bo2 109 oN2 of2).map (fun p=>(p.1,some p.2)),.ret,110⟩,none⟩else none else none):=by
 cases bo<;>cases bo2<;>cases bs<;>cases ret<;>kernel_rfl
noncomputable def dM:Bool:=decP ([docV 93 m,rcV bo bs 94 95 k L C oN sN mk,i18 q c.rd c.rs1 c.rs2 c.imm]=[docV 93 m,rcV bo bs 94 95 k L C oN sN mk,i18 q c.rd c.rs1 c.rs2 c.imm]/\Has (mkH (pre68 m bs sN sf)) (pre68 m bs sN sf)/\AtN 68 [docV 93 m,rcV bo bs 94 95 k L C oN sN mk,i18 q c.rd c.rs1 c.rs2 c.imm] (pre68 m bs sN sf) (val70 m2 bo bs2 94 109 k L C oN sN2 mk ret) (upd68 107 m2 bo bs2 k L C oN sN2 mk sf2) 107 3)
theorem p49_m (h:isLd q\/isSt q):walk (lookF FL) (sc49m m ⟨q,c,0⟩ [docV 93 m,rcV bo bs 94 95 k L C oN sN mk,i18 q c.rd c.rs1 c.rs2 c.imm] (pre68 m bs sN sf) (val70 m2 bo bs2 94 109 k L C oN sN2 mk ret) (upd68 107 m2 bo bs2 k L C oN sN2 mk sf2)) 1000 x49 (argTm 0 [docV 93 m,rcV bo bs 94 95 k L C oN sN mk]) (mkH (pre68 m bs sN sf)) 100 j0_ ⟨[4,5,6],[.tmp 4,.tmp 5,.id 93]++(oneI bs2 109).map .id,[],[]⟩ j0_ =
  a49 m ⟨q,c,0⟩ (bif gg m c then bif dM m m2 c bo bs bs2 ret k L C oN sN sN2 mk sf sf2 q&&true&&true then some ⟨⟨[some (true,pt 102),some (true,pt 103),some (true,.bool ret)],[(102,some (docB 93 (nxtD m m2 ret))),(103,some (rcB bo bs2 94 109 k L C oN sN2 mk)),(93,some m2.memB)]++(dxW bs2 109 sN2 sf2).map (fun p=>(p.1,some p.2)),.ret,110⟩,none⟩else none else none):=by
 rcases h with(rfl|rfl|rfl|rfl)|rfl|rfl|rfl<;>cases bo<;>cases bs<;>cases bs2<;>cases ret<;>kernel_rfl
end
def valS (e:REnv) (s:RSt) (a b:Nat) (ret:Bool):Value:=.tuple ⟨[docV 93 s.m,rsV e s a b,.bool ret]⟩
inductive DNext (e:REnv) (s s':RSt) (ret:Bool):Prop
 |d0 (h:AtN 49 [docV 93 s.m,rsV e s 104 105] [(93,s.m.memB)] (valS e s' 104 105 ret) (mkH [(106,docB 93 s'.m),(107,rsB e s' 104 105)]) 106 3) (hm:s'.m.memB=s.m.memB) (ho:s'.oN=s.oN/\s'.of=s.of) (hs:s'.sN=s.sN/\s'.sf=s.sf)
 |dO (h:AtN 49 [docV 93 s.m,rsV e s 104 105] ((93,s.m.memB) :: (40,inB e.T e.inp) :: dxO (bO s.oN) 104 s.oN s.of) (valS e s' 108 105 ret) (mkH ([(106,docB 93 s'.m),(107,rsB e s' 108 105)]++dxO (bO s'.oN) 108 s'.oN s'.of)++[(104,none)]) 106 3) (hm:s'.m.memB=s.m.memB) (hs:s'.sN=s.sN/\s'.sf=s.sf)
 |dW (h:AtN 49 [docV 93 s.m,rsV e s 104 105] ((93,s.m.memB) :: dxW (bO s.sN) 105 s.sN s.sf) (valS e s' 104 108 ret) (mkH ([(106,docB 93 s'.m),(107,rsB e s' 104 108)]++dxW (bO s'.sN) 108 s'.sN s'.sf++[(93,s'.m.memB)])++[(105,none)]) 106 3) (ho:s'.oN=s.oN/\s'.of=s.of)
section
variable {m m2 m3:MS}{c:Cand}{bo bo2 bs bs2 ret:Bool}{k L C T oN sN k2 L2 C2 oN2 sN2:Nat}{mk:Int}{inp of of2:Nat->Int}{sf sf2:Nat->List Value}{q:Int}
theorem at49_c (h:DOK m ⟨55,c,0⟩) (hc:CandOK c)
  (hA:AtN 70 [docV 93 m,rcV bo bs 94 95 k L C oN sN mk] (pre70 bo T oN inp of) (val70 m2 bo2 bs 109 95 k2 L2 C2 oN2 sN mk ret) (upd70 107 m2 bo2 bs k2 L2 C2 oN2 sN mk of2) 107 3) (hd:docB 93 (nxtD m m2 ret)=docB 93 m3) :
  AtN 49 [docV 93 m,rcV bo bs 104 105 k L C oN sN mk] ((93,m.memB) :: (40,inB T inp) :: dxO bo 104 oN of) (val70 m3 bo2 bs 108 105 k2 L2 C2 oN2 sN mk ret) (mkH ([(106,docB 93 m3),(107,rcB bo2 bs 108 105 k2 L2 C2 oN2 sN mk)]++dxO bo2 108 oN2 of2)++[(104,none)]) 106 3:=by
 have e:=p49_c m m2 c bo bo2 bs ret k L C T oN sN k2 L2 C2 oN2 mk inp of of2
 rw[a49_ok h,gg_ok hc,show dC m m2 bo bo2 bs ret k L C T oN sN k2 L2 C2 oN2 mk inp of of2=true from decP_true ⟨rfl,by cases bo<;>first|exact⟨rfl,trivial⟩|exact⟨rfl,rfl,trivial⟩,hA⟩,hd]at e
 simp only[Bool.and_self,cond_true]at e
 have hr:∀ {σ:Nm} {a b a' b':Nat},σ 40=some 40->σ a=some b->σ a'=some b'->BIs Try.prog σ (rcB bo2 bs a a' k2 L2 C2 oN2 sN mk) (rcB bo2 bs b b' k2 L2 C2 oN2 sN mk):=fun h1 h2 h3=>bis_rc h1 (fun _=>h2) (fun _=>h3)
 have hb:Body Try.prog 49 [docV 93 m,rcV bo bs 94 95 k L C oN sN mk] (mkH ((93,m.memB) :: pre70 bo T oN inp of)) (val70 m3 bo2 bs 102 95 k2 L2 C2 oN2 sN mk ret) (upd70 100 m3 bo2 bs k2 L2 C2 oN2 sN mk of2) 100 3:=by
  refine body_walk (fok FOK _) fx49 (by simp) e rfl ⟨mkT [4,5,6] [pt 100,pt 101,.bool ret],mkH ([(100,docB 93 m3),(101,rcB bo2 bs 102 95 k2 L2 C2 oN2 sN mk)]++dxO bo2 102 oN2 of2++[(93,m.memB),(40,inB T inp)]),103⟩
   (fun ρ w hd=>⟨_,[(100,docB 93 m3),(101,rcB bo2 bs 102 95 k2 L2 C2 oN2 sN mk)]++dxO bo2 102 oN2 of2++[(93,m.memB),(40,inB T inp)],_,rfl,?_,?_,?_⟩) ?_ rfl ?_
  ·cases bo<;>cases bo2<;>rfl
  ·cases bo<;>cases bo2<;>exact⟨rfl,rfl,rfl,trivial⟩
  ·cases bo<;>cases bo2
   ·exact⟨bis_doc93 rfl,bis_rc rfl (fun h=>by cases h) (fun _=>rfl),bis_mem,bis_inB,trivial⟩
   ·exact⟨bis_doc93 rfl,hr rfl rfl rfl,bis_outB,bis_mem,bis_inB,trivial⟩
   ·exact⟨bis_doc93 rfl,bis_rc rfl (fun h=>by cases h) (fun _=>rfl),bis_mem,bis_inB,trivial⟩
   ·exact⟨bis_doc93 rfl,hr rfl rfl rfl,bis_outB,bis_mem,bis_inB,trivial⟩
  ·cases bo<;>cases bo2
   ·exact⟨rfl,rfl,trivial,rfl,rfl,trivial⟩
   ·exact⟨rfl,rfl,rfl,trivial,rfl,rfl,trivial⟩
   ·exact⟨rfl,rfl,trivial,rfl,rfl,trivial,trivial⟩
   ·exact⟨rfl,rfl,rfl,trivial,rfl,rfl,trivial,trivial⟩
  ·cases bo2<;>rfl
 refine⟨by cases bo<;>rfl,adet_of_body hb πG [(106,100),(107,101),(108,102)] ?_ ?_ ?_ ?_ ?_ ?_ ?_⟩
 ·cases bo2<;>rfl
 ·cases bo<;>cases bs<;>rfl
 ·cases bo
  ·exact⟨bis_mem,bis_inB,trivial⟩
  ·exact⟨bis_mem,bis_inB,bis_outB,trivial⟩
 ·cases bo<;>rfl
 ·cases bo2<;>cases bs<;>rfl
 ·cases bo<;>cases bo2
  ·exact⟨bis_doc93 rfl,hr rfl rfl rfl,trivial,bis_mem,bis_inB,trivial⟩
  ·exact⟨bis_doc93 rfl,hr rfl rfl rfl,bis_outB,trivial,bis_mem,bis_inB,trivial⟩
  ·exact⟨bis_doc93 rfl,hr rfl rfl rfl,trivial,bis_mem,bis_inB,trivial,trivial⟩
  ·exact⟨bis_doc93 rfl,hr rfl rfl rfl,bis_outB,trivial,bis_mem,bis_inB,trivial,trivial⟩
 ·cases bo<;>cases bo2<;>rfl
theorem at49_m (h:DOK m ⟨q,c,0⟩) (hc:CandOK c) (hq:isLd q\/isSt q) (hse:SeOK sN sf) (hse2:SeOK sN2 sf2)
  (hA:AtN 68 [docV 93 m,rcV bo bs 94 95 k L C oN sN mk,i18 q c.rd c.rs1 c.rs2 c.imm] (pre68 m bs sN sf) (val70 m2 bo bs2 94 109 k L C oN sN2 mk ret) (upd68 107 m2 bo bs2 k L C oN sN2 mk sf2) 107 3) (hd:docB 93 (nxtD m m2 ret)=docB 93 m3) (hmem:m2.memB=m3.memB) :
  AtN 49 [docV 93 m,rcV bo bs 104 105 k L C oN sN mk] ((93,m.memB) :: dxW bs 105 sN sf) (val70 m3 bo bs2 104 108 k L C oN sN2 mk ret) (mkH ([(106,docB 93 m3),(107,rcB bo bs2 104 108 k L C oN sN2 mk)]++dxW bs2 108 sN2 sf2++[(93,m3.memB)])++[(105,none)]) 106 3:=by
 have h1:∀ {σ:Nm},BIs Try.prog σ (seB sN sf) (seB sN sf):=bis_seB fun j hj=>hse j hj _
 have h2:∀ {σ:Nm},BIs Try.prog σ (seB sN2 sf2) (seB sN2 sf2):=bis_seB fun j hj=>hse2 j hj _
 have e:=p49_m m m2 c bo bs bs2 ret k L C oN sN sN2 mk sf sf2 q hq
 rw[a49_ok h,gg_ok hc,show dM m m2 c bo bs bs2 ret k L C oN sN sN2 mk sf sf2 q=true from decP_true ⟨rfl,by cases bs<;>first|exact⟨rfl,trivial⟩|exact⟨rfl,rfl,trivial⟩,hA⟩,hd,hmem]at e
 simp only[Bool.and_self,cond_true]at e
 have hr:∀ {σ:Nm} {a b a' b':Nat},σ 40=some 40->σ a=some b->σ a'=some b'->BIs Try.prog σ (rcB bo bs2 a' a k L C oN sN2 mk) (rcB bo bs2 b' b k L C oN sN2 mk):=fun h1 h2 h3=>bis_rc h1 (fun _=>h3) (fun _=>h2)
 have hb:Body Try.prog 49 [docV 93 m,rcV bo bs 94 95 k L C oN sN mk] (mkH (pre68 m bs sN sf)) (val70 m3 bo bs2 94 102 k L C oN sN2 mk ret) (upd68 100 m3 bo bs2 k L C oN sN2 mk sf2) 100 3:=by
  refine body_walk (fok FOK _) fx49 (by simp) e rfl ⟨mkT [4,5,6] [pt 100,pt 101,.bool ret],mkH ([(100,docB 93 m3),(101,rcB bo bs2 94 102 k L C oN sN2 mk),(93,m3.memB)]++dxW bs2 102 sN2 sf2),103⟩
   (fun ρ w hd=>⟨_,[(100,docB 93 m3),(101,rcB bo bs2 94 102 k L C oN sN2 mk),(93,m3.memB)]++dxW bs2 102 sN2 sf2,_,rfl,?_,?_,?_⟩) ?_ rfl ?_
  ·cases bs2<;>rfl
  ·cases bs2<;>exact⟨rfl,rfl,rfl,trivial⟩
  ·cases bs2
   ·exact⟨bis_doc93 rfl,bis_rc rfl (fun _=>rfl) (fun h=>by cases h),bis_mem,trivial⟩
   ·exact⟨bis_doc93 rfl,hr rfl rfl rfl,bis_mem,h2,trivial⟩
  ·cases bs<;>cases bs2
   ·exact⟨rfl,rfl,rfl,trivial,trivial,trivial⟩
   ·exact⟨rfl,rfl,rfl,rfl,trivial,trivial,trivial⟩
   ·exact⟨rfl,rfl,rfl,trivial,trivial,trivial,trivial⟩
   ·exact⟨rfl,rfl,rfl,rfl,trivial,trivial,trivial,trivial⟩
  ·cases bs2<;>rfl
 refine⟨by cases bs<;>rfl,adet_of_body hb πG [(106,100),(107,101),(108,102)] ?_ ?_ ?_ ?_ ?_ ?_ ?_⟩
 ·cases bs2<;>rfl
 ·cases bo<;>cases bs<;>rfl
 ·cases bs
  ·exact⟨bis_mem,trivial⟩
  ·exact⟨bis_mem,h1,trivial⟩
 ·cases bs<;>rfl
 ·cases bo<;>cases bs2<;>rfl
 ·cases bs<;>cases bs2
  ·exact⟨bis_doc93 rfl,hr rfl rfl rfl,bis_mem,trivial,trivial,trivial⟩
  ·exact⟨bis_doc93 rfl,hr rfl rfl rfl,h2,bis_mem,trivial,trivial,trivial⟩
  ·exact⟨bis_doc93 rfl,hr rfl rfl rfl,bis_mem,trivial,trivial,trivial,trivial⟩
  ·exact⟨bis_doc93 rfl,hr rfl rfl rfl,h2,bis_mem,trivial,trivial,trivial,trivial⟩
 ·cases bs<;>cases bs2<;>rfl
end
structure DocOK (e:REnv) (s:RSt):Prop where
 bi:e.bi=true
 wt:e.wt=true
 by_:ByOK s.m.mem
 x0:s.m.x 0=0
theorem decA_err {w:Int} (h:(decA w).err≠0):decA w=⟨0,⟨0,0,0,0⟩,2⟩:=by
 unfold decA at *
 cases hd:decF w with
 |none=>rfl
 |some x=>rw[hd]at h;exact absurd rfl h
theorem fin_doc {m m2:MS}{k:KM} (h0:m2.x 0=0) (ret:Bool):docB 93 (nxtD m m2 ret)=docB 93 (finM m m2 k ret):=by
 cases ret with
 |false=>rfl
 |true =>
  refine doc_eq rfl ?_ rfl rfl rfl
  show regs m2.x=regs (zeroX m2.x)
  rw[reg_zero h0]
theorem fin_x0 {m m2:MS}{k:KM} (h0:m2.x 0=0) (ret:Bool):(finM m m2 k ret).x 0=0:=by cases ret<;>first|exact h0|rfl
theorem fin_mem {m m2:MS}{k:KM} (ret:Bool):(finM m m2 k ret).memB=m2.memB/\(finM m m2 k ret).mem=m2.mem:=by cases ret<;>exact⟨rfl,rfl⟩
theorem callM_x0 {e:REnv}{s:RSt} (h0:s.m.x 0=0):(callM e s).x 0=0/\(callM e s).memB=s.m.memB/\(callM e s).mem=s.m.mem:=by
 unfold callM
 cases s.m.x 17==1<;>cases s.m.x 17==2<;>cases (s.m.x 17==3||(s.m.x 17==4||s.m.x 17==5))<;>cases (e.bi&&Nat.blt s.ik e.L0)<;>exact⟨h0,rfl,rfl⟩
theorem by_fin {m:MS}{idx:Nat}{v:Int} (h:ByOK m.mem):∀ k,ByOK (stB m idx v k).mem
 |0=>h
 |k+1=>fun j=>by
  have ih:=by_fin (m:=m) (idx:=idx) (v:=v) h k j
  show 0<=(bif Nat.beq j (idx+k)then byteX v k else(stB m idx v k).mem j)/\(bif Nat.beq j (idx+k)then byteX v k else(stB m idx v k).mem j)<256
  cases Nat.beq j (idx+k)with
  |false=>exact ih
  |true=>rw[cond_true];unfold byteX;rw[u8w];omega
theorem memD_M {m:MS}{op:Int}{c:Cand}{k:KM} (h0:m.x 0=0) (hc:CandOK c):docB 93 (nxtD m (memD m op c) true)=docB 93 (finM m (memM m op c) k true)/\(memD m op c).memB=(memM m op c).memB/\(memM m op c).mem=(memD m op c).mem:=by
 unfold memD memM
 cases decide (op>=42)with
 |true =>
  simp only[cond_true]
  obtain⟨s1,s2,s3,s4,s5,_⟩:=stB_same m ((atM m c).toNat*1) (m.x c.rs2.toNat) (nM op)
  exact⟨fin_doc (by rw[s2];exact h0) true,by first|rfl|trivial,by first|rfl|trivial⟩
 |false =>
  simp only[cond_false]
  refine⟨doc_eq rfl ?_ rfl rfl rfl,by first|rfl|trivial,by first|rfl|trivial⟩
  refine(reg_put h0 hc.rd _).trans ?_
  refine regs_congr fun j hj=>?_
  show(bif Nat.beq j 0 then 0 else bif Nat.beq (j+1) (1+c.rd.toNat*1)then _ else m.x j)=bif Nat.beq j 0 then 0 else bif Nat.beq (j+1) (1+c.rd.toNat*1)then _ else m.x j
  rfl
section
variable {e:REnv}{n:Nat} {s s':RSt}{ret:Bool} (hb:BaseOK e n s) (hn:(n:Int)<1000000000) (hsn:s.sN<=n) (hd:DocOK e s)
include hb hn hsn hd
theorem dnext (hs:stepF e s=(ret,s')):DNext e s s' ret/\DocOK e s':=by
 have hx:=hb.x
 have hdr:DRun e s:=⟨hd.bi,hb.cap,hb.top,hb.ik,by have:=hb.out;omega,hx⟩
 unfold stepF stepG at hs
 cases hp:plB s.m.sz s.m.pl 4 with
 |false =>
  rw[hp,cond_false]at hs
  cases hs
  refine⟨.d0 ?_ rfl ⟨rfl,rfl⟩ ⟨rfl,rfl⟩,hd⟩
  have h62:d62 s.m s.m.pl 4 false=true:=by
   have:=det62 (m:=s.m) (a:=s.m.pl) (n:=4) (.inr (.inl rfl)) hb.sz hb.pl
   unfold d62
   refine decP_true ⟨rfl,trivial,?_⟩
   rw[show plB s.m.sz s.m.pl ((4:Nat):Int)=false from hp]at this
   exact this
  have e1:=p49_f1 s.m (some ⟨40,e.k0+s.ik,none⟩) (poF 94 (bO s.oN)) (poF 95 (bO s.sN)) (e.L0-s.ik) (e.C0-s.ik) (nF (bO s.oN) s.oN) (nF (bO s.oN) s.oN) (nF (bO s.sN) s.sN) (nF (bO s.sN) s.sN) s.mark ⟨0,⟨0,0,0,0⟩,2⟩
  rw[h62]at e1
  exact at49_0 e1 rfl
 |true =>
  rw[hp,cond_true]at hs
  have hdok:∀ i,decA (w32 s.m)=i->DOK s.m i:=fun i hi=>⟨hb.sz,hb.pl,hp,hd.by_,hx,hd.x0,hi⟩
  cases he:((decA (w32 s.m)).err==0)with
  |false =>
   rw[he,cond_false]at hs
   cases hs
   refine⟨.d0 ?_ rfl ⟨rfl,rfl⟩ ⟨rfl,rfl⟩,hd⟩
   have he':(decA (w32 s.m)).err≠0:=by simpa using he
   have e1:=p49_f2 s.m (some ⟨40,e.k0+s.ik,none⟩) (poF 94 (bO s.oN)) (poF 95 (bO s.sN)) (e.L0-s.ik) (e.C0-s.ik) (nF (bO s.oN) s.oN) (nF (bO s.oN) s.oN) (nF (bO s.sN) s.sN) (nF (bO s.sN) s.sN) s.mark
   rw[a49_ok (hdok _ (decA_err he'))]at e1
   exact at49_0 e1 rfl
  |true =>
   have he':(decA (w32 s.m)).err=0:=by simpa using he
   obtain⟨hc,hq1,hq2,_,_⟩:=decA_ok he'
   rw[he,cond_true]at hs
   have hdec:decA (w32 s.m)=⟨(decA (w32 s.m)).q,(decA (w32 s.m)).c,0⟩:=by
    generalize decA (w32 s.m)=i at *
    obtain⟨q,c,er⟩:=i
    simp only at he'
    subst he';rfl
   have hD:=hdok _ hdec
   generalize (decA (w32 s.m)).q=q at *
   generalize (decA (w32 s.m)).c=c at *
   cases hpl:plainB q with
   |true =>
    rw[hpl,cond_true]at hs
    cases hs
    obtain⟨v,n,m2,e1,e2,e3,e4⟩:=plain49 (some ⟨40,e.k0+s.ik,none⟩) (poF 94 (bO s.oN)) (poF 95 (bO s.sN)) (e.L0-s.ik) (e.C0-s.ik) (nF (bO s.oN) s.oN) (nF (bO s.oN) s.oN) (nF (bO s.sN) s.sN) (nF (bO s.sN) s.sN) s.mark hD hc hpl s.m.kn'
    refine⟨.d0 (at49_0 e1 e2) rfl ⟨rfl,rfl⟩ ⟨rfl,rfl⟩,hd.bi,hd.wt,hd.by_,?_⟩
    show putR s.m.x c.rd (valF s.m q c) 0=0
    cases valF s.m q c<;>rfl
   |false =>
    rw[hpl,cond_false]at hs
    cases h55:(q==55)with
    |true =>
     rw[h55,cond_true]at hs
     have h55':q=55:=by simpa using h55
     subst h55'
     have hA:=at70_all hdr s.m.kn'
     obtain⟨c1,c2,c3,c4⟩:=callR_m e s s.m.kn'
     rw[hs]at hA c1 c2 c3 c4
     simp only at hA c1 c2 c3 c4
     obtain⟨x0,xm,xm2⟩:=callM_x0 (e:=e) (s:=s) hd.x0
     have hdoc:docB 93 (nxtD s.m (callM e s) ret)=docB 93 s'.m:=by rw[c1];exact fin_doc x0 ret
     obtain⟨f1,f2⟩:=fin_mem (m:=s.m) (m2:=callM e s) (k:=s.m.kn') ret
     refine⟨.dO ?_ (by rw[c1,f1];exact xm) ⟨c2,c3⟩,hd.bi,hd.wt,by rw[c1,f2,xm2];exact hd.by_,by rw[c1];exact fin_x0 x0 ret⟩
     unfold rsV updK rsB at hA
     rw[c2,c4]at hA
     unfold valS rsV rsB
     rw[c2,c4]
     exact at49_c hD hc hA hdoc
    |false =>
     rw[h55,cond_false]at hs
     have h55':q≠55:=by simpa using h55
     have:¬ plainB q=true:=by rw[hpl];simp
     simp only[plainB,Bool.or_eq_true,Bool.and_eq_true,decide_eq_true_eq]at this
     have hq:isLd q\/isSt q:=by unfold isLd isSt;omega
     have hse:=hb.se
     unfold memF at hs
     rw[hdec]at hs
     simp only at hs
     cases hpa:plB s.m.sz (atM s.m c) (sizeF q)with
     |false =>
      rw[hpa,cond_false]at hs
      cases hs
      have h68:=at68 (bo:=bO s.oN) (k:=e.k0+s.ik) (L:=e.L0-s.ik) (C:=e.C0-s.ik) (oN:=s.oN) (mk:=s.mark) hse hse (b68_F hb.sz hc hq hpa hse)
      exact⟨.dW (at49_m hD hc hq hse hse h68 (fin_doc (k:=s.m.kn') hd.x0 false) rfl) ⟨rfl,rfl⟩,hd.bi,hd.wt,hd.by_,hd.x0⟩
     |true =>
      rw[hpa,cond_true,hd.wt,cond_true,cond_true]at hs
      cases hs
      obtain⟨d1,d2,d3⟩:=memD_M (op:=q) (c:=c) (k:=s.m.kn') hd.x0 hc
      have hse2:=seOK_more hse (m:=s.m) (op:=q) (c:=c)
      have h68:AtN 68 [docV 93 s.m,rsV e s 94 95,i18 q c.rd c.rs1 c.rs2 c.imm] (pre68 s.m (bO s.sN) s.sN s.sf) (val70 (memD s.m q c) (bO s.oN) true 94 109 (e.k0+s.ik) (e.L0-s.ik) (e.C0-s.ik) s.oN (s.sN+1) s.mark true) (upd68 107 (memD s.m q c) (bO s.oN) true (e.k0+s.ik) (e.L0-s.ik) (e.C0-s.ik) s.oN (s.sN+1) s.mark (seMore s.sf s.sN (rowM s.m q c))) 107 3:=by
       rcases hq with hq|hq
       ·exact at68 hse hse2 (b68_L hb.sz hc hq hpa hse (by omega) hd.by_)
       ·exact at68 hse hse2 (b68_S hb.sz hc hx hq hpa hse (by omega))
      refine⟨.dW (at49_m hD hc hq hse hse2 h68 d1 d2) ⟨rfl,rfl⟩,hd.bi,hd.wt,?_,rfl⟩
      show ByOK (memM s.m q c).mem
      rw[d3]
      unfold memD
      cases decide (q>=42)
      ·exact hd.by_
      ·exact by_fin hd.by_ _
end
abbrev T35 (n fuel:Int) (k L C:Nat):Tm:=mkT [10,3,6,7,8,9,2,1] [.int .i64 n,pt 100,pt 101,pt 102,.slice none 0 0,pt 103,.int .i64 fuel,.slice (some ⟨40,k,none⟩) L C]
def H35 (m:MS) (r:Blk) (bo bs:Bool) (T oN sN:Nat) (inp of:Nat->Int) (sf:Nat->List Value):List (Nat × Blk):=[(100,docB 93 m),(103,r),(101,docZ),(102,res0),(93,m.memB),(40,inB T inp)]++dxO bo 104 oN of++dxW bs 105 sN sf
def I35 (bo bs:Bool):List Nat:=oneI bo 104++oneI bs 105
section
variable (m m2:MS) (bo bs bo2 bs2 ret:Bool) (k L C k2 L2 C2 k3 L3 C3 T oN sN oN2 sN2:Nat) (n fuel mk mk2:Int) (inp of of2:Nat->Int) (sf sf2:Nat->List Value) (pre:List (Nat × Blk))
theorem p35_a:walk (lookF FL) noSc 1000 x35 (argTm 0 [docV 93 m,.slice (some ⟨40,k,none⟩) L C,.int .i64 fuel]) (mkH [(93,m.memB),(40,inB T inp)]) 100 j0_ j0_ ⟨[10,3,6,7,8,9],[.tmp 3,.tmp 9,.tmp 6,.tmp 7],[2,1],[93,40]⟩ =
  some ⟨⟨[some (true,.int .i64 0),some (true,pt 100),some (true,pt 101),some (true,pt 102),some (true,.slice none 0 0),some (true,pt 103)],[(100,some (docB 93 m)),(103,some (rcB false false 104 105 k L C 0 0 0)),(101,some docZ),(102,some res0)],.normal,104⟩,some (x35_16,[.bl 0,.sq x35_20])⟩:=by kernel_rfl
def g35 (b:Bool):Bool:=((b||!b)&&true||false)&&((b&&true||!b)&&((b&&true||!b)&&true))
theorem p35_c:walk (lookF FL) noSc 1000 x35_5 (T35 n fuel k L C) (mkH (H35 m (rcB bo bs 104 105 k2 L2 C2 oN sN mk) bo bs T oN sN inp of sf)) 106 ⟨[],[],[10,3,6,7,8,9,2,1],[100,103,101,102,93,40]++I35 bo bs⟩ j0_ j0_ =
  bif g35 (decide (n<fuel))then bif bif decide (n<fuel)then m.st==0 else false then some ⟨⟨[],[],.normal,106⟩,none⟩else some ⟨⟨[],[],.exit 0,106⟩,none⟩else none:=by cases bo<;>cases bs<;>kernel_rfl
noncomputable def d49 (v:Value) (upd:Hp):Bool:=decP ([docV 93 m,rcV bo bs 104 105 k2 L2 C2 oN sN mk]=[docV 93 m,rcV bo bs 104 105 k2 L2 C2 oN sN mk]/\Has (mkH (H35 m (rcB bo bs 104 105 k2 L2 C2 oN sN mk) bo bs T oN sN inp of sf)) pre/\AtN 49 [docV 93 m,rcV bo bs 104 105 k2 L2 C2 oN sN mk] pre v upd 106 3)
def goneM (m2:MS) (ret:Bool):MS:=bif ret then m2 else stopM m2
def goneN (n:Int) (ret:Bool):Int:=bif ret then IntKind.i64.wrap (n+1)else n
noncomputable abbrev W35 (v:Value) (upd:Hp) (p:Pj):Option Stop:=walk (lookF FL) (scOf [conAt 49 [docV 93 m,rcV bo bs 104 105 k2 L2 C2 oN sN mk] pre v upd 106 3]) 1000 x35_15 (T35 n fuel k L C) (mkH (H35 m (rcB bo bs 104 105 k2 L2 C2 oN sN mk) bo bs T oN sN inp of sf)) 106 p j0_ j0_
theorem p35_0:W35 m bo bs k L C k2 L2 C2 T oN sN n fuel mk inp of sf pre (val70 m2 bo bs 104 105 k3 L3 C3 oN sN mk2 ret) (mkH [(106,docB 93 m2),(107,rcB bo bs 104 105 k3 L3 C3 oN sN mk2)]) ⟨[10],[.id 100,.id 103],[3,6,7,8,9,2,1],[101,102,93,40]++I35 bo bs⟩ =
  bif d49 m bo bs k2 L2 C2 T oN sN mk inp of sf pre (val70 m2 bo bs 104 105 k3 L3 C3 oN sN mk2 ret) (mkH [(106,docB 93 m2),(107,rcB bo bs 104 105 k3 L3 C3 oN sN mk2)])&&true&&true then
   some ⟨⟨[some (true,.int .i64 (goneN n ret))],[(100,some (docB 93 (goneM m2 ret))),(103,some (rcB bo bs 104 105 k3 L3 C3 oN sN mk2))],.normal,109⟩,none⟩else none:=by cases bo<;>cases bs<;>cases ret<;>kernel_rfl
theorem p35_O:W35 m bo bs k L C k2 L2 C2 T oN sN n fuel mk inp of sf pre (val70 m2 bo2 bs 108 105 k3 L3 C3 oN2 sN mk2 ret) (mkH ([(106,docB 93 m2),(107,rcB bo2 bs 108 105 k3 L3 C3 oN2 sN mk2)]++dxO bo2 108 oN2 of2)++[(104,none)]) ⟨[10],[.id 100,.id 103]++(oneI bo2 108).map .id,[3,6,7,8,9,2,1],[101,102,93,40]++oneI bs 105⟩ =
  bif d49 m bo bs k2 L2 C2 T oN sN mk inp of sf pre (val70 m2 bo2 bs 108 105 k3 L3 C3 oN2 sN mk2 ret) (mkH ([(106,docB 93 m2),(107,rcB bo2 bs 108 105 k3 L3 C3 oN2 sN mk2)]++dxO bo2 108 oN2 of2)++[(104,none)])&&true&&true then
   some ⟨⟨[some (true,.int .i64 (goneN n ret))],[(100,some (docB 93 (goneM m2 ret))),(103,some (rcB bo2 bs 108 105 k3 L3 C3 oN2 sN mk2))]++(dxO bo2 108 oN2 of2).map (fun p=>(p.1,some p.2)),.normal,109⟩,none⟩else none:=by cases bo<;>cases bs<;>cases bo2<;>cases ret<;>kernel_rfl
theorem p35_W:W35 m bo bs k L C k2 L2 C2 T oN sN n fuel mk inp of sf pre (val70 m2 bo bs2 104 108 k3 L3 C3 oN sN2 mk2 ret) (mkH ([(106,docB 93 m2),(107,rcB bo bs2 104 108 k3 L3 C3 oN sN2 mk2)]++dxW bs2 108 sN2 sf2++[(93,m2.memB)])++[(105,none)]) ⟨[10],[.id 100,.id 103,.id 93]++(oneI bs2 108).map .id,[3,6,7,8,9,2,1],[101,102,40]++oneI bo 104⟩ =
  bif d49 m bo bs k2 L2 C2 T oN sN mk inp of sf pre (val70 m2 bo bs2 104 108 k3 L3 C3 oN sN2 mk2 ret) (mkH ([(106,docB 93 m2),(107,rcB bo bs2 104 108 k3 L3 C3 oN sN2 mk2)]++dxW bs2 108 sN2 sf2++[(93,m2.memB)])++[(105,none)])&&true&&true then
   some ⟨⟨[some (true,.int .i64 (goneN n ret))],[(100,some (docB 93 (goneM m2 ret))),(103,some (rcB bo bs2 104 108 k3 L3 C3 oN sN2 mk2)),(93,some m2.memB)]++(dxW bs2 108 sN2 sf2).map (fun p=>(p.1,some p.2)),.normal,109⟩,none⟩else none:=by cases bo<;>cases bs<;>cases bs2<;>cases ret<;>kernel_rfl
theorem p35_e:walk (lookF FL) noSc 1000 x35_20 (T35 n fuel k L C) (mkH (H35 m (rcB bo bs 104 105 k2 L2 C2 oN sN mk) bo bs T oN sN inp of sf)) 106 j0_ ⟨[6,7,8],[.tmp 6,.tmp 7],[],[93,40]++I35 bo bs⟩ j0_ =
  some ⟨⟨[some (true,pt 101),some (true,pt 102),some (true,vOa 105 bs sN)],[(101,some (docB 93 m)),(102,some (resB m (vOa 104 bo oN) n mk))],.ret,106⟩,none⟩:=by cases bo<;>cases bs<;>kernel_rfl
end
end Go.X
