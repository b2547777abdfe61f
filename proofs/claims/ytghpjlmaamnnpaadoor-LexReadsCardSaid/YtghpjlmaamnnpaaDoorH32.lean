import Derived.Test.YtghpjlmaamnnpaaDoorH31
import Derived.Test.YtghpjlmaamnnpaaDoorH27
set_option linter.all false
namespace Go.X
open Go Go.Proofs
set_option linter.unusedVariables false
set_option linter.unusedSimpArgs false
def min8 (s:ByteArray):Int:=if (8193:Int)<(s.size:Int)then 8193 else(s.size:Int)
noncomputable def scE1 (p:Nat) (e:Int):Short:=scOf [con12R (.inl (p,e))]
theorem FOKE1 (p:Nat) (e:Int):FnsOK Tryd.prog (lookF FL) (scE1 p e):=fok FOK _
noncomputable def scE2 (l:List Tk):Short:=scOf [con12R (.inr l)]
theorem FOKE2 (l:List Tk):FnsOK Tryd.prog (lookF FL) (scE2 l):=fok FOK _
def scE3:Short:=scOf [con13n]
theorem FOKE3:FnsOK Tryd.prog (lookF FL) scE3:=fok FOK _
noncomputable def scE4 (x:Nat) (l:List Tk):Short:=scOf [con13 x l]
theorem FOKE4 (x:Nat) (l:List Tk):FnsOK Tryd.prog (lookF FL) (scE4 x l):=fok FOK _
noncomputable def scE5 (p:Nat) (e:Int):Short:=scOf [con11R (.inl (p,e)),con13n]
theorem FOKE5 (p:Nat) (e:Int):FnsOK Tryd.prog (lookF FL) (scE5 p e):=fok FOK _
def go3 (n:Nat):Option Stop:=some ⟨⟨[],[],.normal,n⟩,none⟩
abbrev nilS:Value:=.slice none 0 0
def g3 (a b:Bool):Bool:=(((!bif a then true else b)||bif a then true else b)&&true||false)&&(((!bif a then true else b)&&true||!!bif a then true else b)&&(((!bif a then true else b)&&((!bif a then true else b)&&true)&&true||!!bif a then true else b)&&(((!a||a)&&true||false)&&((!a&&(!a&&true)||!!a)&&true))))
def P13 (x:Nat) (l:List Tk):Prop:=[newS x l.length,newS 101 l.length]=[newS x l.length,newS 101 l.length] ∧ some (tkL l)=some (tkL l) ∧ some (tkL l)=some (tkL l)
section
variable (s:ByteArray) (G:Gv)
theorem p3_0:walk (lookF FL) scA9 1000 (.region x3_0) (argTm 0 [.string s]) (mkH (glH G)) 100 ⟨[],[],[0],gIds⟩ ⟨[],[],[],[]⟩ ⟨[],[],[],[]⟩=go3 100:=by kernel_rfl
theorem p3_5:walk (lookF FL) scA9 1000 x3_5 (mkT [0] [.string s]) (mkH (glH G)) 100 ⟨[],[],[0],gIds⟩ ⟨[2],[],[],gIds⟩ ⟨[],[],[],[]⟩=go3 100:=by kernel_rfl
set_option maxRecDepth 1000000 in
theorem p3_6:walk (lookF FL) noSc 1000 (.region x3_6) (mkT [0] [.string s]) (mkH (glH G)) 100 ⟨[0],[],[],gIds⟩ ⟨[],[],[],[]⟩ ⟨[],[],[],[]⟩=bif (decide (0 ≤ min8 s)&&decide (min8 s ≤ (s.size:Int))&&true||false)&&true then some ⟨⟨[some (true,.string (s.extract 0 (min8 s).toNat))],[],.normal,100⟩,none⟩else none:=by kernel_rfl
variable (p:Nat) (e:Int) (l:List Tk) (N:Nat) (f:Nat → Tk) (i:Nat)
theorem p3_7e:walk (lookF FL) (scR (.inl (p,e))) 1000 (.region x3_7) (mkT [0] [.string s]) (mkH (glH G)) 100 ⟨[3,4,5],[],[0],gIds⟩ ⟨[],[],[],[]⟩ ⟨[],[],[],[]⟩=bif (decP (lexF s=.inl (p,e))||false)&&true then some ⟨⟨[some (true,nilS),iv p,iv e],[],.normal,100⟩,none⟩else none:=by kernel_rfl
theorem p3_7:walk (lookF FL) (scR (.inr l)) 1000 (.region x3_7) (mkT [0] [.string s]) (mkH (glH G)) 100 ⟨[3,4,5],[.tmp 3],[0],gIds⟩ ⟨[],[],[],[]⟩ ⟨[],[],[],[]⟩=bif decP (lexF s=.inr l)&&true then some ⟨⟨[some (true,newS 100 l.length),iv 0,iv 0],[(100,some (tkL l))],.normal,101⟩,none⟩else none:=by kernel_rfl
theorem p3_8e:walk (lookF FL) (scE1 p e) 1000 (.region x3_8) (mkT [3,4,5,0] [nilS,.int .i64 (p:Int),.int .i64 e,.string s]) (mkH (glH G)) 100 ⟨[6,7,8],[],[3,4,5,0],gIds⟩ ⟨[],[],[],[]⟩ ⟨[],[],[],[]⟩=bif (s.size.blt 4611686018427387904&&decP (lexF s=.inl (p,e))||false)&&true then some ⟨⟨[some (true,nilS),iv p,iv e],[],.normal,100⟩,none⟩else none:=by kernel_rfl
theorem p3_8:walk (lookF FL) (scE2 l) 1000 (.region x3_8) (mkT [3,4,5,0] [newS 100 l.length,.int .i64 0,.int .i64 0,.string s]) (mkH ((100,tkL l) :: glH G)) 101 ⟨[6,7,8],[.tmp 6],[3,4,5,0],100 :: gIds⟩ ⟨[],[],[],[]⟩ ⟨[],[],[],[]⟩=bif s.size.blt 4611686018427387904&&decP (lexF s=.inr l)&&true then some ⟨⟨[some (true,newS 101 l.length),iv 0,iv 0],[(101,some (tkL l))],.normal,102⟩,none⟩else none:=by kernel_rfl
theorem p3_13e:walk (lookF FL) scE3 1000 x3_13 (mkT [6,7,8,3,4,5,0] [nilS,.int .i64 (p:Int),.int .i64 e,nilS,.int .i64 (p:Int),.int .i64 e,.string s]) (mkH (glH G)) 100 ⟨[],[],[3,6,0],gIds⟩ ⟨[2],[],[],gIds⟩ ⟨[],[],[],[]⟩=bif g3 (e != e) ((p:Int) != (p:Int))then bif bif bif e != e then true else(p:Int) != (p:Int)then true else false then rt9 false 100 else go3 100 else none:=by kernel_rfl
theorem p3_13:walk (lookF FL) (scE4 100 l) 1000 x3_13 (mkT [6,7,8,3,4,5,0] [newS 101 l.length,.int .i64 0,.int .i64 0,newS 100 l.length,.int .i64 0,.int .i64 0,.string s]) (mkH ((101,tkL l) :: (100,tkL l) :: glH G)) 102 ⟨[],[],[3,6,0],100 :: 101 :: gIds⟩ ⟨[2],[],[],gIds⟩ ⟨[],[],[],[]⟩=bif (l.length.blt 4611686018427387904&&decP (P13 100 l)||false)&&true then go3 102 else none:=by kernel_rfl
theorem p3_27e:walk (lookF FL) noSc 1000 x3_27 (mkT [3,6,0] [nilS,nilS,.string s]) (mkH (glH G)) 100 ⟨[],[],[],[]⟩ ⟨[],[],[],[]⟩ ⟨[48,47],[],[3,6,0],gIds⟩=some ⟨⟨[iv 0,iv 0],[],.normal,100⟩,some (x3_24,[.bl 0])⟩:=by kernel_rfl
theorem p3_le:walk (lookF FL) noSc 1000 x3_24 (mkT [48,47,3,6,0] [.int .i64 0,.int .i64 0,nilS,nilS,.string s]) (mkH (glH G)) 100 ⟨[48],[],[47,3,6,0],gIds⟩ ⟨[],[],[],[]⟩ ⟨[],[],[],[]⟩=some ⟨⟨[iv 0],[],.exit 0,100⟩,none⟩:=by kernel_rfl
theorem p3_28e:walk (lookF FL) (scE5 p e) 1000 x3_31 (mkT [48,47,3,6,0] [.int .i64 0,.int .i64 0,nilS,nilS,.string s]) (mkH (glH G)) 100 ⟨[],[],[],[]⟩ ⟨[2],[],[],gIds⟩ ⟨[],[],[],[]⟩=bif (decP (lexF s=.inl (p,e))||false)&&true then rt9 true 100 else none:=by kernel_rfl
theorem p3_27:walk (lookF FL) noSc 1000 x3_27 (mkT [3,6,0] [newS 100 N,newS 101 N,.string s]) (mkH ((100,tkB N f) :: (101,tkL l) :: glH G)) 102 ⟨[],[],[],[]⟩ ⟨[],[],[],[]⟩ ⟨[48,47],[],[3,6,0],100 :: 101 :: gIds⟩=some ⟨⟨[iv 0,iv N],[],.normal,102⟩,some (x3_24,[.bl 0])⟩:=by kernel_rfl
theorem p3_l:walk (lookF FL) noSc 1000 x3_24 (mkT [48,47,3,6,0] [.int .i64 (i:Int),.int .i64 (N:Int),newS 100 N,newS 101 N,.string s]) (mkH ((100,tkB N f) :: (101,tkL l) :: glH G)) 102 ⟨[48],[.tmp 3],[47,3,6,0],101 :: gIds⟩ ⟨[],[],[],[]⟩ ⟨[],[],[],[]⟩=bif decide ((i:Int)<(N:Int))then bif (0+i).blt N&&true&&((intRange i N&&true||false)&&true)then some ⟨⟨[iv (IntKind.i64.wrap ((i:Int)+1))],[(100,some (.rows N 3 (rowSet (fun j=>tkRow (f j)) (0+i) [.int .i64 (-1),.string (f (0+i)).text,.int .i64 ((f (0+i)).at_:Int)]) true false))],.normal,102⟩,none⟩else none
 else some ⟨⟨[iv i],[(100,some (tkB N f))],.exit 0,102⟩,none⟩:=by kernel_rfl
theorem p3_28:walk (lookF FL) (scR (.inr l)) 1000 (.region x3_28) (mkT [48,47,3,6,0] [.int .i64 (i:Int),.int .i64 (N:Int),newS 100 N,newS 101 N,.string s]) (mkH ((100,tkB N f) :: (101,tkL l) :: glH G)) 102 ⟨[10],[.tmp 10],[6],101 :: gIds⟩ ⟨[],[],[],[]⟩ ⟨[],[],[],[]⟩=bif decP (lexF s=.inr l)&&true then some ⟨⟨[some (true,newS 102 l.length)],[(102,some (tkL l))],.normal,103⟩,none⟩else none:=by kernel_rfl
theorem p3_30:walk (lookF FL) (scE4 102 l) 1000 x3_30 (mkT [10,6] [newS 102 l.length,newS 101 l.length]) (mkH ((102,tkL l) :: (101,tkL l) :: glH G)) 103 ⟨[],[],[],[]⟩ ⟨[2],[],[],gIds⟩ ⟨[],[],[],[]⟩=bif (l.length.blt 4611686018427387904&&decP (P13 102 l)||false)&&true then rt9 true 103 else none:=by kernel_rfl
end
set_option linter.unusedVariables false
set_option linter.unusedSimpArgs false
set_option linter.unusedVariables false
set_option linter.unusedSimpArgs false
theorem g3_true:g3 false false=true:=rfl
def f3 (f:Nat → Tk) (i:Nat):Nat → Tk:=fun j=>if j<i then⟨-1,(f j).text,(f j).at_⟩else f j
theorem bis_set3 {P:Program}{σ:Nm}{N i:Nat}{f:Nat → Tk}:BIs P σ (tkB N (f3 f (i+1))) (.rows N 3 (rowSet (fun j=>tkRow (f3 f i j)) (0+i) [.int .i64 (-1),.string (f3 f i (0+i)).text,.int .i64 ((f3 f i (0+i)).at_:Int)]) true false):=by
 refine⟨rfl,rfl,fun j hj=>?_,.inl rfl,.inr rfl⟩
 show tkRow (f3 f (i+1) j)=cond (Nat.beq j (0+i)) [.int .i64 (-1),.string (f3 f i (0+i)).text,.int .i64 ((f3 f i (0+i)).at_:Int)] (tkRow (f3 f i j))
 rw[Nat.zero_add]
 by_cases e:j=i
 ·subst e
  rw[Nat.beq_refl,cond_true]
  unfold f3
  rw[if_pos (Nat.lt_succ_self _),if_neg (Nat.lt_irrefl _)]
  rfl
 ·have hb:Nat.beq j i=false:=by
   cases hb:Nat.beq j i with
   |false=>rfl
   |true=>exact absurd (Nat.eq_of_beq_eq_true hb) e
  rw[hb,cond_false]
  unfold f3
  by_cases h:j<i
  ·rw[if_pos h,if_pos (by omega)]
  ·rw[if_neg h,if_neg (by omega)]
theorem bis_tkB3 {P:Program}{σ:Nm}{n:Nat}{f:Nat → Tk}:BIs P σ (tkB n f) (tkB n f):=⟨rfl,rfl,fun _ _=>rnL_tk,.inl rfl,.inr rfl⟩
def Z3 (t:ByteArray) (G:Gv) (l:List Tk) (N:Nat) (f:Nat → Tk) (i:Nat):St:=⟨mkT [48,47,3,6,0] [.int .i64 (i:Int),.int .i64 (N:Int),newS 100 N,newS 101 N,.string t],mkH ((100,tkB N (f3 f i)) :: (101,tkL l) :: glH G),102⟩
theorem b3 {s:ByteArray}{G:Gv}:Body Tryd.prog 3 [.string s] (mkH (glH G)) (.bool true) [] 100 0:=by
 refine body_of' mixed fx3 (by simp) fun E Q hP hn hcl hfin=>?_
 have hFA:FnsOK E.P (lookF FL) scA9:=hP▸FOKA9
 have hF0:FnsOK E.P (lookF FL) noSc:=hP▸FOK
 have hFR:∀ R,FnsOK E.P (lookF FL) (scR R):=fun R=>by rw[hP];exact FOKR R
 have hq:Q .ret ⟨mkT [2] [.bool true],mkH (glH G),100⟩:=hfin _ _ (fin_of rfl ⟨rfl,rfl,rfl,rfl,rfl,rfl,rfl,rfl,trivial⟩ (by rw[hn]) rfl)
 have lr:∀ {n:Nat},LeafTo E [2] ⟨[some (true,.bool true)],mkH (glH G),.ret,n⟩ ⟨mkT [2] [.bool true],mkH (glH G),100⟩:=fun {n} =>
  ⟨_,glH G,_,rfl,by rw[hn];rfl,by rw[hn];exact⟨rfl,trivial⟩,by rw[hn];exact gl_bs⟩
 refine xwp_seq (xwp_toEnd (s:=⟨_,_,_⟩) (cl_seqP hcl) hFA 1000 (p3_0 s G) ⟨mkT [0] [.string s],mkH (glH G),100⟩ ⟨_,glH G,_,rfl,by rw[hn];rfl,by rw[hn];exact⟨rfl,trivial⟩,by rw[hn];exact gl_bs⟩ ?_)
 refine xwp_seq (xwp_toEnd (s:=⟨_,_,_⟩) (cl_seqP hcl) hFA 1000 (p3_5 s G) ⟨mkT [0] [.string s],mkH (glH G),100⟩ ⟨_,glH G,_,rfl,by rw[hn];rfl,by rw[hn];exact⟨rfl,trivial⟩,by rw[hn];exact gl_bs⟩ ?_)
 have hm:0 ≤ min8 s ∧ min8 s ≤ (s.size:Int) ∧ min8 s ≤ 8193:=by unfold min8;split<;>omega
 have e6:=p3_6 s G
 rw[decide_eq_true hm.1,decide_eq_true hm.2.1]at e6
 obtain⟨t,ht⟩:∃ t,s.extract 0 (min8 s).toNat=t:=⟨_,rfl⟩
 have hts:t.size ≤ 8193:=by rw[← ht,ByteArray.size_extract];omega
 rw[ht]at e6
 refine xwp_seq (xwp_toEnd (s:=⟨_,_,_⟩) (cl_seqP hcl) hF0 1000 e6 ⟨mkT [0] [.string t],mkH (glH G),100⟩ ⟨_,glH G,_,rfl,by rw[hn];rfl,by rw[hn];exact⟨rfl,trivial⟩,by rw[hn];exact gl_bs⟩ ?_)
 have hb:t.size.blt 4611686018427387904=true:=lt_blt (by omega)
 cases ha:lexF t with
 |inl pe =>
  obtain⟨p,e⟩:=pe
  have e7:=p3_7e t G p e
  rw[decP_true ha]at e7
  have e8:=p3_8e t G p e
  rw[hb,decP_true ha]at e8
  have e13:=p3_13e t G p e
  rw[bne_self_eq_false,bne_self_eq_false,g3_true]at e13
  have e28:=p3_28e t G p e
  rw[decP_true ha]at e28
  refine xwp_seq (xwp_toEnd (s:=⟨_,_,_⟩) (cl_seqP hcl) (hFR _) 1000 e7 ⟨mkT [3,4,5,0] [nilS,.int .i64 (p:Int),.int .i64 e,.string t],mkH (glH G),100⟩ ⟨_,glH G,_,rfl,by rw[hn];rfl,by rw[hn];exact⟨rfl,rfl,rfl,rfl,trivial⟩,by rw[hn];exact gl_bs⟩ ?_)
  refine xwp_seq (xwp_toEnd (s:=⟨_,_,_⟩) (cl_seqP hcl) (hP▸FOKE1 p e) 1000 e8 ⟨mkT [6,7,8,3,4,5,0] [nilS,.int .i64 (p:Int),.int .i64 e,nilS,.int .i64 (p:Int),.int .i64 e,.string t],mkH (glH G),100⟩ ⟨_,glH G,_,rfl,by rw[hn];rfl,by rw[hn];exact⟨rfl,rfl,rfl,rfl,rfl,rfl,rfl,trivial⟩,by rw[hn];exact gl_bs⟩ ?_)
  refine xwp_seq (xwp_toEnd (s:=⟨_,_,_⟩) (cl_seqP hcl) (hP▸FOKE3) 1000 e13 ⟨mkT [3,6,0] [nilS,nilS,.string t],mkH (glH G),100⟩ ⟨_,glH G,_,rfl,by rw[hn];rfl,by rw[hn];exact⟨rfl,rfl,rfl,trivial⟩,by rw[hn];exact gl_bs⟩ ?_)
  let S:Nat → St:=fun _=>⟨mkT [48,47,3,6,0] [.int .i64 0,.int .i64 0,nilS,nilS,.string t],mkH (glH G),100⟩
  refine xwp_seq (xwp_toLoop (s:=⟨_,_,_⟩) hF0 1000 (p3_27e t G) (S 0) ⟨_,glH G,_,rfl,by rw[hn];rfl,by rw[hn];exact⟨rfl,rfl,rfl,rfl,rfl,trivial⟩,by rw[hn];exact gl_bs⟩ ?_)
  refine xwp_loopR (ι:=Nat) S (fun _=>True) (fun _=>0) 0 trivial fun i _=>?_
  have hcr:=cl_round (S:=S) (I:=fun _=>True) (μ:=fun _=>0) (i:=i) (cl_ctx (cl_seqP (x:=x3_31) hcl) [.bl 0])
  refine xwp_toEnd (s:=S i) hcr hF0 1000 (p3_le t G) (S i) ⟨_,glH G,_,rfl,by rw[hn];rfl,by rw[hn];exact⟨rfl,rfl,rfl,rfl,rfl,trivial⟩,by rw[hn];exact gl_bs⟩ ?_
  show XWP E.toEnv x3_31 Q (S i)
  exact xwp_toEnd (s:=S i) hcl (hP▸FOKE5 p e) 1000 e28 _ lr hq
 |inr l =>
  have hlN:=lexF_len ha
  have hlb:l.length.blt 4611686018427387904=true:=lt_blt (by omega)
  have e7:=p3_7 t G l
  rw[decP_true ha]at e7
  have e8:=p3_8 t G l
  rw[hb,decP_true ha]at e8
  have e13:=p3_13 t G l
  rw[hlb,decP_true (show P13 100 l from ⟨rfl,rfl,rfl⟩)]at e13
  have e30:=p3_30 G l
  rw[hlb,decP_true (show P13 102 l from ⟨rfl,rfl,rfl⟩)]at e30
  refine xwp_seq (xwp_toEnd (s:=⟨_,_,_⟩) (cl_seqP hcl) (hFR _) 1000 e7 ⟨mkT [3,4,5,0] [newS 100 l.length,.int .i64 0,.int .i64 0,.string t],mkH ((100,tkL l) :: glH G),101⟩ ⟨_,(100,tkL l) :: glH G,_,rfl,by rw[hn];rfl,by rw[hn];exact⟨rfl,rfl,rfl,rfl,trivial⟩,by rw[hn];exact⟨bis_tkL,gl_bs⟩⟩ ?_)
  refine xwp_seq (xwp_toEnd (s:=⟨_,_,_⟩) (cl_seqP hcl) (hP▸FOKE2 l) 1000 e8 ⟨mkT [6,7,8,3,4,5,0] [newS 101 l.length,.int .i64 0,.int .i64 0,newS 100 l.length,.int .i64 0,.int .i64 0,.string t],mkH ((101,tkL l) :: (100,tkL l) :: glH G),102⟩ ⟨_,(101,tkL l) :: (100,tkL l) :: glH G,_,rfl,by rw[hn];rfl,by rw[hn];exact⟨rfl,rfl,rfl,rfl,rfl,rfl,rfl,trivial⟩,by rw[hn];exact⟨bis_tkL,bis_tkL,gl_bs⟩⟩ ?_)
  let f:Nat → Tk:=fun j=>l.getD j tk0
  have hl0:tkL l=tkB l.length (f3 f 0):=by
   show tkB l.length (fun j=>l.getD j tk0)=tkB l.length (f3 f 0)
   congr 1
  refine xwp_seq (xwp_toEnd (s:=⟨_,_,_⟩) (cl_seqP hcl) (hP▸FOKE4 100 l) 1000 e13 ⟨mkT [3,6,0] [newS 100 l.length,newS 101 l.length,.string t],mkH ((100,tkB l.length (f3 f 0)) :: (101,tkL l) :: glH G),102⟩ ⟨_,(100,tkB l.length (f3 f 0)) :: (101,tkL l) :: glH G,_,rfl,by rw[hn];rfl,by rw[hn];exact⟨rfl,rfl,rfl,trivial⟩,by rw[hn];exact⟨by rw[← hl0];exact bis_tkL,bis_tkL,gl_bs⟩⟩ ?_)
  obtain⟨N,hN⟩:∃ N,N=l.length:=⟨_,rfl⟩
  rw[← hN]at e30 hlb ⊢
  rw[← hN]at hlN
  have e28:=fun i=>p3_28 t G l N (f3 f i) i
  rw[decP_true ha,← hN]at e28
  refine xwp_seq (xwp_toLoop (s:=⟨_,_,_⟩) hF0 1000 (p3_27 t G l N (f3 f 0)) (Z3 t G l N f 0) ⟨_,(100,tkB N (f3 f 0)) :: (101,tkL l) :: glH G,_,rfl,by rw[hn];rfl,by rw[hn];exact⟨rfl,rfl,rfl,rfl,rfl,trivial⟩,by rw[hn];exact⟨bis_tkB3,bis_tkL,gl_bs⟩⟩ ?_)
  refine xwp_loopR (ι:=Nat) (Z3 t G l N f) (fun i=>i ≤ N) (fun i=>N-i) 0 (Nat.zero_le _) fun i hi=>?_
  have hcr:=cl_round (S:=Z3 t G l N f) (I:=fun i=>i ≤ N) (μ:=fun i=>N-i) (i:=i) (cl_ctx (cl_seqP (x:=x3_31) hcl) [.bl 0])
  have el:=p3_l t G l N (f3 f i) i
  by_cases hlt:i<N
  ·rw[decide_eq_true (by omega),show(0+i).blt N=true from lt_blt (by omega),ir_nat,decide_eq_true hlt,wrap_i (by omega) (by omega)]at el
   exact xwp_toEnd (s:=Z3 t G l N f i) hcr hF0 1000 el (Z3 t G l N f (i+1)) ⟨_,(100,tkB N (f3 f (i+1))) :: (101,tkL l) :: glH G,_,rfl,by rw[hn];rfl,by rw[hn];exact⟨rfl,rfl,rfl,rfl,rfl,trivial⟩,by rw[hn];exact⟨bis_set3,bis_tkL,gl_bs⟩⟩
    ⟨i+1,hlt,by simp only;omega,Wk.refl _ _⟩
  ·rw[decide_eq_false (by omega)]at el
   refine xwp_toEnd (s:=Z3 t G l N f i) hcr hF0 1000 el (Z3 t G l N f i) ⟨_,(100,tkB N (f3 f i)) :: (101,tkL l) :: glH G,_,rfl,by rw[hn];rfl,by rw[hn];exact⟨rfl,rfl,rfl,rfl,rfl,trivial⟩,by rw[hn];exact⟨bis_tkB3,bis_tkL,gl_bs⟩⟩ ?_
   show XWP E.toEnv x3_31 Q (Z3 t G l N f i)
   refine xwp_seq (xwp_toEnd (s:=Z3 t G l N f i) (cl_seqP hcl) (hFR _) 1000 (e28 i) ⟨mkT [10,6] [newS 102 N,newS 101 N],mkH ((102,tkL l) :: (101,tkL l) :: glH G),103⟩ ⟨_,(102,tkL l) :: (101,tkL l) :: glH G,_,rfl,by rw[hn];rfl,by rw[hn];exact⟨rfl,rfl,trivial⟩,by rw[hn];exact⟨bis_tkL,bis_tkL,gl_bs⟩⟩ ?_)
   exact xwp_toEnd (s:=⟨_,_,_⟩) hcl (hP▸FOKE4 102 l) 1000 e30 _ lr hq
end Go.X
