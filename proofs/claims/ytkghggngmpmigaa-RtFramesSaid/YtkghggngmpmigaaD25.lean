import Derived.Test.YtkghggngmpmigaaD24
set_option linter.all false
namespace Go.X
open Go Go.Proofs
theorem isE_fold (s:ByteArray):(s.toList==(ByteArray.mk #[]).toList)=isE s:=rfl
theorem bis_rw {P:Program}{σ:Nm}{n s:Nat}{f:Nat->List Value}{o r:Bool} (h:∀ j,j<n->rnL σ (f j)=f j):BIs P σ (.rows n s f o r) (.rows n s f o r) :=
 ⟨rfl,rfl,h,by cases o<;>simp,by cases r<;>simp⟩
theorem bis_ints {P:Program}{σ:Nm}{n:Nat}{f:Nat->Int}{o r:Bool}:BIs P σ (.rows n 1 (ints f) o r) (.rows n 1 (ints f) o r):=bis_rw fun _ _=>rfl
theorem bis_bools {P:Program}{σ:Nm}{n:Nat}{f:Nat->Bool}{o r:Bool}:BIs P σ (.rows n 1 (bools f) o r) (.rows n 1 (bools f) o r):=bis_rw fun _ _=>rfl
theorem bis_its {P:Program}{σ:Nm}{n:Nat}{I:Its}{o r:Bool}:BIs P σ (.rows n 8 I.row o r) (.rows n 8 I.row o r):=bis_rw fun _ _=>rfl
theorem bis_lmap {P:Program}{σ:Nm}{m:LMap}:BIs P σ m.blk m.blk:=⟨rfl,rfl,rfl,fun _ _ _ _=>⟨rfl,rfl⟩⟩
section
variable (N C:Nat) (at_:Int) (I:Its)
structure LSt where
 cur:Int
 m:LMap
 pl:Nat->Int
def layStep (I:Its) (wd:Nat->Bool) (k:Nat) (s:LSt):LSt :=
 bif isE (I.lb k)then⟨bif wd k then IntKind.i64.wrap (s.cur+8)else IntKind.i64.wrap (s.cur+4),s.m,upd s.pl k s.cur⟩else⟨s.cur,s.m.set (I.lb k) s.cur,upd s.pl k s.cur⟩
def layIt (I:Its) (wd:Nat->Bool) (s:LSt):Nat->LSt
 |0=>s
 |k+1=>layStep I wd k (layIt I wd s k)
def V40 (k:Nat) (s:LSt):List Value:=[.int .i64 s.cur,.int .i64 k,.slice (some ⟨2,0,none⟩) N C,.int .i64 N,pp]
def S40 (wd:Nat->Bool) (k:Nat) (s:LSt):St:=⟨mkT [2,14,12,13,0] (V40 N C k s),mkH (laidL N C at_ I wd s.m s.pl),104⟩
theorem lay_round (wd:Nat->Bool) (k:Nat) (s:LSt) (hN:N<9223372036854775808):∃ n,walk (lookF FL) scD 1000 x40_22 (S40 N C at_ I wd k s).t (S40 N C at_ I wd k s).h 104 ⟨[2,14],[.id 101,.id 102],[12,13,0],[103,2,100]⟩ ⟨[2,14],[.id 101,.id 102],[12,13,0],[103,2,100]⟩ j0_ =
  some ⟨bif decide (k<N)then⟨[some (true,.int .i64 (layStep I wd k s).cur),some (true,.int .i64 ((k+1:Nat):Int))],[(101,some (layStep I wd k s).m.blk),(102,some (.rows N 1 (ints (layStep I wd k s).pl) false false))],.normal,n⟩
   else⟨[some (true,.int .i64 s.cur),some (true,.int .i64 k)],[(101,some s.m.blk),(102,some (.rows N 1 (ints s.pl) false false))],.exit 0,n⟩,none⟩:=by
 have e:=p40_b k s.cur N C at_ I wd s.m s.pl
 simp only[rowSet_ints,lmap_set,lmap_same,isE_fold]at e
 by_cases h:k<N
 ·refine⟨105,e.trans ?_⟩
  simp only[h,decide_true,cond_true,wrap_succ h hN,layStep]
  cases isE (I.lb k)
  ·rfl
  ·cases wd k<;>rfl
 ·refine⟨104,e.trans ?_⟩
  simp only[h,decide_false,cond_false]
theorem b40 (wd:Nat->Bool) (m:LMap) (pl:Nat->Int) (hN:N<9223372036854775808):Body Try.prog 22 [pp] (mkH (laidH N C at_ I wd m pl)) (.tuple ⟨[]⟩)
  [(101,some (layIt I wd ⟨at_,m,pl⟩ N).m.blk),(102,some (.rows N 1 (ints (layIt I wd ⟨at_,m,pl⟩ N).pl) false false))] 104 0:=by
 refine body_of mixed fx40 (by simp) fun ρ w hd=>?_
 refine xwp_toLoop FOKD 1000 (p40_a N C at_ I wd m pl) (S40 N C at_ I wd 0 ⟨at_,m,pl⟩)
  ⟨V40 N C 0 ⟨at_,m,pl⟩,laidL N C at_ I wd m pl,104,rfl,rfl,⟨rfl,rfl,rfl,rfl,rfl,trivial⟩,bis_lmap,bis_ints,rfl,bis_its,bis_bools,trivial⟩ ?_
 refine xwp_loopR (fun k=>S40 N C at_ I wd k (layIt I wd ⟨at_,m,pl⟩ k)) (fun k=>k<=N) (fun k=>N-k) 0 (Nat.zero_le _) fun k hk=>?_
 obtain⟨n,hn⟩:=lay_round N C at_ I wd k (layIt I wd ⟨at_,m,pl⟩ k) hN
 by_cases h:k<N
 ·simp only[h,decide_true,cond_true]at hn
  refine xwp_toEnd (cl_round (cl_ctx cl_fin _)) FOKD 1000 hn (S40 N C at_ I wd (k+1) (layIt I wd ⟨at_,m,pl⟩ (k+1)))
   ⟨V40 N C (k+1) (layIt I wd ⟨at_,m,pl⟩ (k+1)),laidL N C at_ I wd (layIt I wd ⟨at_,m,pl⟩ (k+1)).m (layIt I wd ⟨at_,m,pl⟩ (k+1)).pl,104,rfl,rfl,⟨rfl,rfl,rfl,rfl,rfl,trivial⟩,bis_lmap,bis_ints,rfl,bis_its,bis_bools,trivial⟩ ⟨k+1,h,Nat.sub_succ_lt_self N k h,Wk.refl _ _⟩
 ·simp only[h,decide_false,cond_false]at hn
  have:k=N:=by omega
  subst this
  refine xwp_toEnd (cl_round (cl_ctx cl_fin _)) FOKD 1000 hn (S40 k C at_ I wd k (layIt I wd ⟨at_,m,pl⟩ k))
   ⟨V40 k C k (layIt I wd ⟨at_,m,pl⟩ k),laidL k C at_ I wd (layIt I wd ⟨at_,m,pl⟩ k).m (layIt I wd ⟨at_,m,pl⟩ k).pl,104,rfl,rfl,⟨rfl,rfl,rfl,rfl,rfl,trivial⟩,bis_lmap,bis_ints,rfl,bis_its,bis_bools,trivial⟩ ?_
  exact fin_of rfl ⟨rfl,rfl,rfl,rfl,rfl,trivial,trivial,trivial⟩ rfl rfl
def farF (I:Its) (m:LMap) (pl:Nat->Int) (wd:Nat->Bool) (k:Nat):Bool :=
 isE (I.lb k)&&branchF (I.op k)&&!isE (I.to k)&&!wd k&&!fitsF (I.op k) (IntKind.i64.wrap (m.val (.string (I.to k))-pl k))
structure WSt where
 more:Bool
 wd:Nat->Bool
def widStep (I:Its) (m:LMap) (pl:Nat->Int) (k:Nat) (s:WSt):WSt:=bif farF I m pl s.wd k then⟨true,upd s.wd k true⟩else s
def widIt (I:Its) (m:LMap) (pl:Nat->Int) (s:WSt):Nat->WSt
 |0=>s
 |k+1=>widStep I m pl k (widIt I m pl s k)
variable (m:LMap) (pl:Nat->Int)
def V41 (k:Nat) (s:WSt):List Value:=[.bool s.more,.int .i64 k,.slice (some ⟨2,0,none⟩) N C,.int .i64 N,pp]
def S41 (k:Nat) (s:WSt):St:=⟨mkT [3,11,9,10,0] (V41 N C k s),mkH (laidW N C at_ I s.wd m pl),104⟩
theorem wid_round (k:Nat) (s:WSt) (hN:N<9223372036854775808):∃ n,walk (lookF FL) scD 1000 x41_15 (S41 N C at_ I m pl k s).t (S41 N C at_ I m pl k s).h 104 ⟨[3,11],[.id 100],[9,10,0],[103,2,101,102]⟩ ⟨[3,11],[.id 100],[9,10,0],[103,2,101,102]⟩ j0_ =
  some ⟨bif decide (k<N)then⟨[some (true,.bool (widStep I m pl k s).more),some (true,.int .i64 ((k+1:Nat):Int))],[(100,some (.rows N 1 (bools (widStep I m pl k s).wd) false false))],.normal,n⟩
   else⟨[some (true,.bool s.more),some (true,.int .i64 k)],[(100,some (.rows N 1 (bools s.wd) false false))],.exit 0,n⟩,none⟩:=by
 have e:=p41_b k s.more N C at_ I s.wd m pl
 simp only[rowSet_bools,isE_fold]at e
 by_cases h:k<N
 ·refine⟨105,e.trans ?_⟩
  simp only[h,decide_true,cond_true,wrap_succ h hN]
  change (bif farF I m pl s.wd k then _ else _)=_
  unfold widStep
  cases farF I m pl s.wd k<;>rfl
 ·refine⟨104,e.trans ?_⟩
  simp only[h,decide_false,cond_false]
theorem b41 (wd:Nat->Bool) (hN:N<9223372036854775808):Body Try.prog 23 [pp] (mkH (laidH N C at_ I wd m pl)) (.bool (widIt I m pl ⟨false,wd⟩ N).more)
  [(100,some (.rows N 1 (bools (widIt I m pl ⟨false,wd⟩ N).wd) false false))] 104 0:=by
 refine body_of mixed fx41 (by simp) fun ρ w hd=>?_
 refine xwp_toLoop FOKD 1000 (p41_a N C at_ I wd m pl) (S41 N C at_ I m pl 0 ⟨false,wd⟩)
  ⟨V41 N C 0 ⟨false,wd⟩,laidW N C at_ I wd m pl,104,rfl,rfl,⟨rfl,rfl,rfl,rfl,rfl,trivial⟩,bis_bools,rfl,bis_its,bis_lmap,bis_ints,trivial⟩ ?_
 refine xwp_loopR (fun k=>S41 N C at_ I m pl k (widIt I m pl ⟨false,wd⟩ k)) (fun k=>k<=N) (fun k=>N-k) 0 (Nat.zero_le _) fun k hk=>?_
 obtain⟨n,hn⟩:=wid_round N C at_ I m pl k (widIt I m pl ⟨false,wd⟩ k) hN
 by_cases h:k<N
 ·simp only[h,decide_true,cond_true]at hn
  exact xwp_toEnd (cl_round (cl_ctx cl_fin _)) FOKD 1000 hn (S41 N C at_ I m pl (k+1) (widIt I m pl ⟨false,wd⟩ (k+1)))
   ⟨V41 N C (k+1) (widIt I m pl ⟨false,wd⟩ (k+1)),laidW N C at_ I (widIt I m pl ⟨false,wd⟩ (k+1)).wd m pl,104,rfl,rfl,⟨rfl,rfl,rfl,rfl,rfl,trivial⟩,bis_bools,rfl,bis_its,bis_lmap,bis_ints,trivial⟩ ⟨k+1,h,Nat.sub_succ_lt_self N k h,Wk.refl _ _⟩
 ·simp only[h,decide_false,cond_false]at hn
  have:k=N:=by omega
  subst this
  refine xwp_toEnd (cl_round (cl_ctx cl_fin _)) FOKD 1000 hn (S41 k C at_ I m pl k (widIt I m pl ⟨false,wd⟩ k))
   ⟨V41 k C k (widIt I m pl ⟨false,wd⟩ k),laidW k C at_ I (widIt I m pl ⟨false,wd⟩ k).wd m pl,104,rfl,rfl,⟨rfl,rfl,rfl,rfl,rfl,trivial⟩,bis_bools,rfl,bis_its,bis_lmap,bis_ints,trivial⟩ ?_
  show XWP _ x41_20 _ _
  exact xwp_toEnd cl_fin FOKD 1000 (p41_c k _ k C at_ I _ m pl) ⟨mkT [2] [.bool (widIt I m pl ⟨false,wd⟩ k).more],mkH (laidW k C at_ I (widIt I m pl ⟨false,wd⟩ k).wd m pl),104⟩
   ⟨[.bool (widIt I m pl ⟨false,wd⟩ k).more],laidW k C at_ I (widIt I m pl ⟨false,wd⟩ k).wd m pl,104,rfl,rfl,⟨rfl,trivial⟩,bis_bools,rfl,bis_its,bis_lmap,bis_ints,trivial⟩ (fin_of rfl ⟨rfl,rfl,rfl,trivial,rfl,rfl,trivial⟩ rfl rfl)
structure Ins where
 op:Int
 rd:Int
 rs1:Int
 rs2:Int
 imm:Int
def Ins.row (i:Ins):List Value:=[.int .i64 i.op,.int .i64 i.rd,.int .i64 i.rs1,.int .i64 i.rs2,.int .i64 i.imm]
def twoF (I:Its) (wd:Nat->Bool) (k:Nat):Bool:=!isE (I.to k)&&(!(I.part k==1)&&(!(I.part k==2)&&wd k))
def wordA (I:Its) (wd:Nat->Bool) (m:LMap) (pl:Nat->Int) (k:Nat):Ins :=
 bif isE (I.to k)then⟨I.op k,I.rd k,I.rs1 k,I.rs2 k,I.imm k⟩
 else bif I.part k==1 then⟨I.op k,I.rd k,I.rs1 k,I.rs2 k,upperF (m.val (.string (I.to k)))⟩
 else bif I.part k==2 then⟨I.op k,I.rd k,I.rs1 k,I.rs2 k,lowerF (m.val (.string (I.to k)))⟩
 else bif wd k then⟨oppF (I.op k),I.rd k,I.rs1 k,I.rs2 k,8⟩
 else⟨I.op k,I.rd k,I.rs1 k,I.rs2 k,IntKind.i64.wrap (m.val (.string (I.to k))-pl k)⟩
def wordJ (I:Its) (m:LMap) (pl:Nat->Int) (k:Nat):Ins:=⟨53,0,0,0,IntKind.i64.wrap (IntKind.i64.wrap (m.val (.string (I.to k))-pl k)-4)⟩
def wordI (I:Its) (wd:Nat->Bool) (m:LMap) (pl:Nat->Int) (k j:Nat):Ins:=cond (Nat.beq j 0) (wordA I wd m pl k) (wordJ I m pl k)
def wordsR (I:Its) (wd:Nat->Bool) (m:LMap) (pl:Nat->Int) (k:Nat):Nat->List Value:=fun j=>(wordI I wd m pl k j).row
def wordsN (I:Its) (wd:Nat->Bool) (k:Nat):Nat:=bif twoF I wd k then 2 else 1
theorem b42 (wd:Nat->Bool) (k:Nat) (hk:k<N):Body Try.prog 24 [pp,.int .i64 k] (mkH (laidH N C at_ I wd m pl))
  (.slice (some ⟨104,0,none⟩) (wordsN I wd k) (wordsN I wd k)) [(104,some (.rows (wordsN I wd k) 5 (wordsR I wd m pl k) false false))] 104 1:=by
 refine body_of mixed fx42 (by simp) fun ρ w hd=>?_
 have e:=p42_ k N C at_ I wd m pl
 simp only[hk,decide_true,cond_true,isE_fold]at e
 have fin:∀ {c:Nat}{f:Nat->List Value},walk (lookF FL) scD 1000 x42 (argTm 0 [pp,.int .i64 k]) (mkH (laidH N C at_ I wd m pl)) 104 ⟨[4],[.tmp 4],[],[103,2,100,101,102]⟩ ⟨[4],[.tmp 4],[],[103,2,100,101,102]⟩ j0_ =
   some ⟨⟨[some (true,.slice (some ⟨105,0,none⟩) c c)],[(105,some (.rows c 5 f false false))],.ret,106⟩,none⟩->c=wordsN I wd k->(∀ j,j<c->rnL (stayOr 104 [(104,105),(103,103),(2,2),(100,100),(101,101),(102,102)]) (wordsR I wd m pl k j)=f j) ->
   XWP (envOf Try.prog 99 104 (mkH (laidH N C at_ I wd m pl)) mixed ρ w hd).toEnv x42 (finP (envOf Try.prog 99 104 (mkH (laidH N C at_ I wd m pl)) mixed ρ w hd).toEnv [(4,none)] (mkH (laidH N C at_ I wd m pl)) (.slice (some ⟨104,0,none⟩) (wordsN I wd k) (wordsN I wd k))
    [(104,some (.rows (wordsN I wd k) 5 (wordsR I wd m pl k) false false))] 1) ⟨argTm 0 [pp,.int .i64 k],mkH (laidH N C at_ I wd m pl),104⟩:=by
  intro c f he hc hf
  subst hc
  exact xwp_toEnd cl_fin FOKD 1000 he ⟨mkT [4] [.slice (some ⟨104,0,none⟩) (wordsN I wd k) (wordsN I wd k)],mkH ((104,.rows (wordsN I wd k) 5 (wordsR I wd m pl k) false false) :: laidH N C at_ I wd m pl),105⟩
   ⟨[.slice (some ⟨104,0,none⟩) (wordsN I wd k) (wordsN I wd k)],(104,.rows (wordsN I wd k) 5 (wordsR I wd m pl k) false false) :: laidH N C at_ I wd m pl,105,rfl,rfl,⟨rfl,trivial⟩,⟨rfl,rfl,hf,.inr (.inl rfl),.inr rfl⟩,rfl,bis_its,bis_bools,bis_lmap,bis_ints,trivial⟩ (fin_of rfl ⟨rfl,rfl,rfl,rfl,rfl,rfl,trivial⟩ rfl rfl)
 have row1:∀ {n:Nat}{r:List Value},r.length=5->∀ j,j<1->slab r (j*5) 5=r:=by
  intro n r hr j hj
  have:j=0:=by omega
  subst this
  simp[slab,<- hr]
 by_cases h1:isE (I.to k)=true
 ·rw[h1]at e
  exact fin e (by simp[wordsN,twoF,h1]) (fun j hj=>by have:j=0:=by omega
                                                      subst this;simp only[wordsR,wordI,wordA,h1];rfl)
 rw[Bool.not_eq_true]at h1
 rw[h1]at e
 by_cases h2:(I.part k==1)=true
 ·change walk _ _ _ _ _ _ _ _ _ _=(bif I.part k==1 then _ else _)at e
  rw[h2]at e
  exact fin e (by simp[wordsN,twoF,h2]) (fun j hj=>by have:j=0:=by omega
                                                      subst this;simp only[wordsR,wordI,wordA,h1,h2];rfl)
 rw[Bool.not_eq_true]at h2
 change walk _ _ _ _ _ _ _ _ _ _=(bif I.part k==1 then _ else _)at e
 rw[h2]at e
 by_cases h3:(I.part k==2)=true
 ·change walk _ _ _ _ _ _ _ _ _ _=(bif I.part k==2 then _ else _)at e
  rw[h3]at e
  exact fin e (by simp[wordsN,twoF,h3]) (fun j hj=>by have:j=0:=by omega
                                                      subst this;simp only[wordsR,wordI,wordA,h1,h2,h3];rfl)
 rw[Bool.not_eq_true]at h3
 change walk _ _ _ _ _ _ _ _ _ _=(bif I.part k==2 then _ else _)at e
 rw[h3]at e
 change walk _ _ _ _ _ _ _ _ _ _=(bif wd k then _ else _)at e
 cases h4:wd k with
 |true =>
  rw[h4]at e
  exact fin e (by simp[wordsN,twoF,h1,h2,h3,h4]) (fun j hj=>by
   match j,hj with
   |0,_=>simp only[wordsR,wordI,wordA,h1,h2,h3,h4];rfl
   |1,_=>simp only[wordsR,wordI,wordJ];rfl)
 |false =>
  rw[h4]at e
  exact fin e (by simp[wordsN,twoF,h4]) (fun j hj=>by have:j=0:=by omega
                                                      subst this;simp only[wordsR,wordI,wordA,h1,h2,h3,h4];rfl)
end
section
variable (N C:Nat) (at_:Int) (I:Its)
def goodK (I:Its) (k:Nat):Bool:=goodF (I.lb k) (I.op k) (I.rd k) (I.rs1 k) (I.rs2 k) (I.imm k) (I.to k) (I.part k)
def goodTo (I:Its):Nat->Bool
 |0=>true
 |k+1=>goodTo I k&&goodK I k
structure CSt where
 m:LMap
 dup:Bool
def chkStep (I:Its) (k:Nat) (s:CSt):CSt:=bif s.dup then s else bif s.m.has (.string (I.lb k))then⟨s.m,true⟩else⟨bif isE (I.lb k)then s.m else s.m.set (I.lb k) 0,false⟩
def chkIt (I:Its) (m:LMap):Nat->CSt
 |0=>⟨m,false⟩
 |k+1=>chkStep I k (chkIt I m k)
def foundTo (I:Its) (m:LMap):Nat->Bool
 |0=>true
 |k+1=>foundTo I m k&&(isE (I.to k)||m.has (.string (I.to k)))
theorem goodTo_stop {I:Its}{k N:Nat} (h:goodTo I k=false) (hk:k<=N):goodTo I N=false:=by
 induction N with
 |zero=>have:k=0:=by omega
        subst this;exact h
 |succ n ih =>
  by_cases e:k=n+1
  ·subst e;exact h
  ·simp[goodTo,ih (by omega)]
theorem foundTo_stop {I:Its}{m:LMap}{k N:Nat} (h:foundTo I m k=false) (hk:k<=N):foundTo I m N=false:=by
 induction N with
 |zero=>have:k=0:=by omega
        subst this;exact h
 |succ n ih =>
  by_cases e:k=n+1
  ·subst e;exact h
  ·simp[foundTo,ih (by omega)]
theorem chk_stop {I:Its}{m:LMap}{k N:Nat} (h:(chkIt I m k).dup=true) (hk:k<=N):chkIt I m N=chkIt I m k:=by
 induction N with
 |zero=>have:k=0:=by omega
        subst this;rfl
 |succ n ih =>
  by_cases e:k=n+1
  ·subst e;rfl
  ·have:=ih (by omega)
   simp only[chkIt,this,chkStep,h,cond_true]
def badAt (at_:Int):Bool:=at_.tmod 4 != 0||decide (at_<0)||decide (at_>4194304)
def chkLate (I:Its) (at_:Int) (N:Nat):Bool:=!(badAt at_)&&(!(decide ((N:Int)>65536))&&goodTo I N)
def checkE (I:Its) (at_:Int) (N:Nat) (m:LMap):Int :=
 bif badAt at_ then 1 else bif decide ((N:Int)>65536)then 3 else bif !goodTo I N then 2 else bif (chkIt I m N).dup then 18 else bif !foundTo I (chkIt I m N).m N then 17 else 0
def checkM (I:Its) (at_:Int) (N:Nat) (m:LMap):LMap:=bif chkLate I at_ N then(chkIt I m N).m else m
variable (wd:Nat->Bool) (pl:Nat->Int)
def V39 (k:Nat):List Value:=[.int .i64 k,.slice (some ⟨2,0,none⟩) N C,.int .i64 N,pp]
def S39 (ks:List Nat) (k:Nat) (m:LMap):St:=⟨mkT ks (V39 N C k),mkH (laidH N C at_ I wd m pl),104⟩
def M39 (ks:List Nat) (k:Nat) (m:LMap):St:=⟨mkT ks (V39 N C k),mkH (laidM N C at_ I wd m pl),104⟩
theorem b39 (m:LMap) (hN:N<9223372036854775808):Body Try.prog 21 [pp] (mkH (laidH N C at_ I wd m pl)) (.int .i64 (checkE I at_ N m)) [(101,some (checkM I at_ N m).blk)] 104 0:=by
 refine body_of mixed fx39 (by simp) fun ρ w hd=>?_
 have ea:=p39_a N C at_ I wd m pl
 by_cases h1:badAt at_=true
 ·replace ea:=ea.trans (show(bif badAt at_ then _ else _)=_ by rw[h1])
  refine xwp_toEnd cl_fin FOKD 1000 ea ⟨mkT [2] [.int .i64 1],mkH (laidH N C at_ I wd m pl),104⟩ ⟨[.int .i64 1],laidH N C at_ I wd m pl,104,rfl,rfl,⟨rfl,trivial⟩,rfl,bis_its,bis_bools,bis_lmap,bis_ints,trivial⟩ ?_
  rw[show checkE I at_ N m=1 by simp[checkE,h1],show checkM I at_ N m=m by simp[checkM,chkLate,h1]]
  exact fin_of rfl ⟨rfl,rfl,rfl,rfl,trivial,rfl,trivial⟩ rfl rfl
 rw[Bool.not_eq_true]at h1
 replace ea:=ea.trans (show(bif badAt at_ then _ else _)=_ by rw[h1])
 by_cases h2:decide ((N:Int)>65536)=true
 ·rw[h2]at ea
  refine xwp_toEnd cl_fin FOKD 1000 ea ⟨mkT [2] [.int .i64 3],mkH (laidH N C at_ I wd m pl),104⟩ ⟨[.int .i64 3],laidH N C at_ I wd m pl,104,rfl,rfl,⟨rfl,trivial⟩,rfl,bis_its,bis_bools,bis_lmap,bis_ints,trivial⟩ ?_
  rw[show checkE I at_ N m=3 by simp only[checkE,h1,h2,cond_true,cond_false],show checkM I at_ N m=m by simp[checkM,chkLate,h2]]
  exact fin_of rfl ⟨rfl,rfl,rfl,rfl,trivial,rfl,trivial⟩ rfl rfl
 rw[Bool.not_eq_true]at h2
 rw[h2]at ea
 refine xwp_toLoop FOKD 1000 ea (S39 N C at_ I wd pl [44,42,43,0] 0 m) ⟨V39 N C 0,laidH N C at_ I wd m pl,104,rfl,rfl,⟨rfl,rfl,rfl,rfl,trivial⟩,rfl,bis_its,bis_bools,bis_lmap,bis_ints,trivial⟩ ?_
 refine xwp_loopR (fun k=>S39 N C at_ I wd pl [44,42,43,0] k m) (fun k=>k<=N/\goodTo I k=true) (fun k=>N-k) 0 ⟨Nat.zero_le _,rfl⟩ fun k hk=>?_
 have eb:=p39_b k N C at_ I wd m pl
 by_cases hlt:k<N
 ·simp only[hlt,decide_true,cond_true,wrap_succ hlt hN]at eb
  cases hg:goodK I k with
  |false =>
   replace eb:=eb.trans (show(bif !goodK I k then _ else _)=_ by rw[hg])
   have hgN:goodTo I N=false:=goodTo_stop (k:=k+1) (by simp[goodTo,hg]) hlt
   refine xwp_toEnd (cl_round (cl_ctx cl_fin _)) FOKD 1000 eb ⟨mkT [2] [.int .i64 2],mkH (laidH N C at_ I wd m pl),104⟩ ⟨[.int .i64 2],laidH N C at_ I wd m pl,104,rfl,rfl,⟨rfl,trivial⟩,rfl,bis_its,bis_bools,bis_lmap,bis_ints,trivial⟩ ?_
   show finP _ _ _ _ _ _ _ _
   rw[show checkE I at_ N m=2 by simp only[checkE,h1,h2,hgN,Bool.not_false,cond_true,cond_false],show checkM I at_ N m=m by simp[checkM,chkLate,hgN]]
   exact fin_of rfl ⟨rfl,rfl,rfl,rfl,trivial,rfl,trivial⟩ rfl rfl
  |true =>
   replace eb:=eb.trans (show(bif !goodK I k then _ else _)=_ by rw[hg])
   exact xwp_toEnd (cl_round (cl_ctx cl_fin _)) FOKD 1000 eb (S39 N C at_ I wd pl [44,42,43,0] (k+1) m) ⟨V39 N C (k+1),laidH N C at_ I wd m pl,104,rfl,rfl,⟨rfl,rfl,rfl,rfl,trivial⟩,rfl,bis_its,bis_bools,bis_lmap,bis_ints,trivial⟩
    ⟨k+1,⟨hlt,by simp[goodTo,hk.2,hg]⟩,Nat.sub_succ_lt_self N k hlt,Wk.refl _ _⟩
 have hkN:k=N:=by omega
 subst hkN
 simp only[hlt,decide_false,cond_false]at eb
 have hgN:=hk.2
 refine xwp_toEnd (cl_round (cl_ctx cl_fin _)) FOKD 1000 eb (S39 k C at_ I wd pl [44,42,43,0] k m) ⟨V39 k C k,laidH k C at_ I wd m pl,104,rfl,rfl,⟨rfl,rfl,rfl,rfl,trivial⟩,rfl,bis_its,bis_bools,bis_lmap,bis_ints,trivial⟩ ?_
 show XWP _ x39_77 _ _
 have hlate:chkLate I at_ k=true:=by simp[chkLate,h1,h2,hgN]
 have hM:checkM I at_ k m=(chkIt I m k).m:=by simp[checkM,hlate]
 refine xwp_toLoop FOKD 1000 (p39_c k k C at_ I wd m pl) (M39 k C at_ I wd pl [57,55,56,0] 0 m) ⟨V39 k C 0,laidM k C at_ I wd m pl,104,rfl,rfl,⟨rfl,rfl,rfl,rfl,trivial⟩,bis_lmap,rfl,bis_its,bis_bools,bis_ints,trivial⟩ ?_
 refine xwp_loopR (fun j=>M39 k C at_ I wd pl [57,55,56,0] j (chkIt I m j).m) (fun j=>j<=k/\(chkIt I m j).dup=false) (fun j=>k-j) 0 ⟨Nat.zero_le _,rfl⟩ fun j hj=>?_
 have ed:=p39_d j k C at_ I wd (chkIt I m j).m pl
 by_cases hlt2:j<k
 ·simp only[hlt2,decide_true,cond_true,wrap_succ hlt2 hN,isE_fold]at ed
  cases hh:(chkIt I m j).m.has (.string (I.lb j))with
  |true =>
   replace ed:=ed.trans (show(bif (chkIt I m j).m.has (.string (I.lb j))then _ else _)=_ by rw[hh])
   have hs:chkIt I m (j+1)=⟨(chkIt I m j).m,true⟩:=by simp only[chkIt,chkStep,hj.2,hh,cond_true,cond_false]
   have hN2:chkIt I m k=⟨(chkIt I m j).m,true⟩:=(chk_stop (k:=j+1) (by rw[hs]) hlt2).trans hs
   refine xwp_toEnd (cl_round (cl_ctx cl_fin _)) FOKD 1000 ed ⟨mkT [2] [.int .i64 18],mkH (laidM k C at_ I wd (chkIt I m j).m pl),104⟩ ⟨[.int .i64 18],laidM k C at_ I wd (chkIt I m j).m pl,104,rfl,rfl,⟨rfl,trivial⟩,bis_lmap,rfl,bis_its,bis_bools,bis_ints,trivial⟩ ?_
   show finP _ _ _ _ _ _ _ _
   rw[hM,show checkE I at_ k m=18 by simp only[checkE,h1,h2,hgN,hN2,Bool.not_true,cond_true,cond_false],hN2]
   exact fin_of rfl ⟨rfl,rfl,rfl,rfl,trivial,rfl,trivial⟩ rfl rfl
  |false =>
   replace ed:=ed.trans (show(bif (chkIt I m j).m.has (.string (I.lb j))then _ else _)=_ by rw[hh])
   have hs:chkIt I m (j+1)=⟨bif isE (I.lb j)then(chkIt I m j).m else(chkIt I m j).m.set (I.lb j) 0,false⟩:=by simp only[chkIt,chkStep,hj.2,hh,cond_false]
   cases hl:isE (I.lb j)with
   |true =>
    rw[hl]at ed hs
    refine xwp_toEnd (cl_round (cl_ctx cl_fin _)) FOKD 1000 ed (M39 k C at_ I wd pl [57,55,56,0] (j+1) (chkIt I m j).m) ⟨V39 k C (j+1),laidM k C at_ I wd (chkIt I m j).m pl,104,rfl,rfl,⟨rfl,rfl,rfl,rfl,trivial⟩,bis_lmap,rfl,bis_its,bis_bools,bis_ints,trivial⟩
     ⟨j+1,⟨hlt2,by rw[hs]⟩,Nat.sub_succ_lt_self k j hlt2,by simp only[hs];exact Wk.refl _ _⟩
   |false =>
    rw[hl]at ed hs
    refine xwp_toEnd (cl_round (cl_ctx cl_fin _)) FOKD 1000 ed (M39 k C at_ I wd pl [57,55,56,0] (j+1) ((chkIt I m j).m.set (I.lb j) 0)) ⟨V39 k C (j+1),laidM k C at_ I wd ((chkIt I m j).m.set (I.lb j) 0) pl,104,rfl,rfl,⟨rfl,rfl,rfl,rfl,trivial⟩,⟨rfl,rfl,?_,fun d q _ _=>⟨rfl,?_⟩⟩,rfl,bis_its,bis_bools,bis_ints,trivial⟩
     ⟨j+1,⟨hlt2,by rw[hs]⟩,Nat.sub_succ_lt_self k j hlt2,by simp only[hs];exact Wk.refl _ _⟩
    ·show(bif (chkIt I m j).m.has (.string (I.lb j))then _ else _)=_
     rw[hh];rfl
    ·show rn _ (.int .i64 (bif keq q (.string (I.lb j))then 0 else(chkIt I m j).m.val q))=bif keq q (.string (I.lb j))then .int .i64 0 else .int .i64 ((chkIt I m j).m.val q)
     cases keq q (.string (I.lb j))<;>rfl
 have hjk:j=k:=by omega
 subst hjk
 simp only[hlt2,decide_false,cond_false]at ed
 refine xwp_toEnd (cl_round (cl_ctx cl_fin _)) FOKD 1000 ed (M39 j C at_ I wd pl [57,55,56,0] j (chkIt I m j).m) ⟨V39 j C j,laidM j C at_ I wd (chkIt I m j).m pl,104,rfl,rfl,⟨rfl,rfl,rfl,rfl,trivial⟩,bis_lmap,rfl,bis_its,bis_bools,bis_ints,trivial⟩ ?_
 show XWP _ x39_76 _ _
 refine xwp_toLoop FOKD 1000 (p39_e j j C at_ I wd (chkIt I m j).m pl) (M39 j C at_ I wd pl [87,85,86,0] 0 (chkIt I m j).m) ⟨V39 j C 0,laidM j C at_ I wd (chkIt I m j).m pl,104,rfl,rfl,⟨rfl,rfl,rfl,rfl,trivial⟩,bis_lmap,rfl,bis_its,bis_bools,bis_ints,trivial⟩ ?_
 refine xwp_loopR (fun i=>M39 j C at_ I wd pl [87,85,86,0] i (chkIt I m j).m) (fun i=>i<=j/\foundTo I (chkIt I m j).m i=true) (fun i=>j-i) 0 ⟨Nat.zero_le _,rfl⟩ fun i hi=>?_
 have ef:=p39_f i j C at_ I wd (chkIt I m j).m pl
 by_cases hlt3:i<j
 ·simp only[hlt3,decide_true,cond_true,wrap_succ hlt3 hN,isE_fold]at ef
  replace ef:=ef.trans (show(bif (!isE (I.to i)&&!(chkIt I m j).m.has (.string (I.to i)))then _ else _)=(bif !(isE (I.to i)||(chkIt I m j).m.has (.string (I.to i)))then _ else _) by rw[Bool.not_or])
  cases hh:(isE (I.to i)||(chkIt I m j).m.has (.string (I.to i)))with
  |false =>
   rw[hh]at ef
   have hf:foundTo I (chkIt I m j).m j=false:=foundTo_stop (k:=i+1) (by simp only[foundTo,hh,Bool.and_false]) hlt3
   refine xwp_toEnd (cl_round (cl_ctx cl_fin _)) FOKD 1000 ef ⟨mkT [2] [.int .i64 17],mkH (laidM j C at_ I wd (chkIt I m j).m pl),104⟩ ⟨[.int .i64 17],laidM j C at_ I wd (chkIt I m j).m pl,104,rfl,rfl,⟨rfl,trivial⟩,bis_lmap,rfl,bis_its,bis_bools,bis_ints,trivial⟩ ?_
   show finP _ _ _ _ _ _ _ _
   rw[hM,show checkE I at_ j m=17 by simp only[checkE,h1,h2,hgN,hj.2,hf,Bool.not_true,Bool.not_false,cond_true,cond_false]]
   exact fin_of rfl ⟨rfl,rfl,rfl,rfl,trivial,rfl,trivial⟩ rfl rfl
  |true =>
   rw[hh]at ef
   exact xwp_toEnd (cl_round (cl_ctx cl_fin _)) FOKD 1000 ef (M39 j C at_ I wd pl [87,85,86,0] (i+1) (chkIt I m j).m) ⟨V39 j C (i+1),laidM j C at_ I wd (chkIt I m j).m pl,104,rfl,rfl,⟨rfl,rfl,rfl,rfl,trivial⟩,bis_lmap,rfl,bis_its,bis_bools,bis_ints,trivial⟩
    ⟨i+1,⟨hlt3,by simp only[foundTo,hi.2,hh,Bool.and_self]⟩,Nat.sub_succ_lt_self j i hlt3,Wk.refl _ _⟩
 have hij:i=j:=by omega
 subst hij
 simp only[hlt3,decide_false,cond_false]at ef
 refine xwp_toEnd (cl_round (cl_ctx cl_fin _)) FOKD 1000 ef (M39 i C at_ I wd pl [87,85,86,0] i (chkIt I m i).m) ⟨V39 i C i,laidM i C at_ I wd (chkIt I m i).m pl,104,rfl,rfl,⟨rfl,rfl,rfl,rfl,trivial⟩,bis_lmap,rfl,bis_its,bis_bools,bis_ints,trivial⟩ ?_
 show XWP _ x39_75 _ _
 refine xwp_toEnd cl_fin FOKD 1000 (p39_g i i C at_ I wd (chkIt I m i).m pl) ⟨mkT [2] [.int .i64 0],mkH (laidM i C at_ I wd (chkIt I m i).m pl),104⟩ ⟨[.int .i64 0],laidM i C at_ I wd (chkIt I m i).m pl,104,rfl,rfl,⟨rfl,trivial⟩,bis_lmap,rfl,bis_its,bis_bools,bis_ints,trivial⟩ ?_
 rw[hM,show checkE I at_ i m=0 by simp only[checkE,h1,h2,hgN,hj.2,hi.2,Bool.not_true,cond_false]]
 exact fin_of rfl ⟨rfl,rfl,rfl,rfl,trivial,rfl,trivial⟩ rfl rfl
end
end Go.X
