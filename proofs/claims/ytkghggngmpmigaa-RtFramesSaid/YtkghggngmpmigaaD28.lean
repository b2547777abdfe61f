import Derived.Test.YtkghggngmpmigaaD27
import Derived.Test.YtkghggngmpmigaaD15
set_option linter.all false
namespace Go.X
open Go Go.Proofs
def outV:List Int->Value
 |[]=>.slice none 0 0
 |a :: l=>.slice (some ⟨104,0,none⟩) (l.length+1) (l.length+1)
def outH:List Int->List (Nat × Blk)
 |[]=>[]
 |a :: l=>[(104,.rows (l.length+1) 1 (fun j=>[.int .u32 ((a :: l).getD j 0)]) true false)]
theorem bis_u32 {P:Program}{σ:Nm}{n:Nat}{g:Nat->Int}{o r:Bool}:BIs P σ (.rows n 1 (fun j=>[.int .u32 (g j)]) o r) (.rows n 1 (fun j=>[.int .u32 (g j)]) o r):=bis_rw fun _ _=>rfl
theorem bis_ins {P:Program}{σ:Nm}{n:Nat}{g:Nat->Ins}{o r:Bool}:BIs P σ (.rows n 5 (insR g) o r) (.rows n 5 (insR g) o r):=bis_rw fun _ _=>rfl
theorem laid_dec (N C:Nat) (at_:Int) (I:Its) (wd:Nat->Bool) (m:LMap) (pl:Nat->Int) (hN:N<=1000000000) :
  decP (Blk.var [Value.slice (some (Addr.mk 2 0 none)) N C,Value.slice (some (Addr.mk 100 0 none)) N N,Value.int IntKind.i64 at_,Value.map (some 101),Value.slice (some (Addr.mk 102 0 none)) N N]=Blk.var [Value.slice (some (Addr.mk 2 0 none)) N C,Value.slice (some (Addr.mk 100 0 none)) N N,Value.int IntKind.i64 at_,Value.map (some 101),Value.slice (some (Addr.mk 102 0 none)) N N] /\
   Blk.rows N 8 I.row false true=Blk.rows N 8 I.row false true/\Blk.rows N 1 (bools wd) false false=Blk.rows N 1 (bools wd) false false/\((Blk.map 9 3 m.n m.has fun q ↦ Value.int IntKind.i64 (m.val q))=Blk.map 9 3 m.n m.has fun q ↦ Value.int IntKind.i64 (m.val q))/\Blk.rows N 1 (ints pl) false false=Blk.rows N 1 (ints pl) false false/\N<9223372036854775808)=true :=
 decP_true ⟨rfl,rfl,rfl,rfl,rfl,by omega⟩
section
variable (N C:Nat) (at_:Int) (I:Its)
abbrev SLI:Value:=.slice (some ⟨2,0,none⟩) N C
def S0A (s:ASt):St:=⟨mkT [7,0] [pp,SLI N C],mkH (laidA N C at_ I s.wd s.m s.pl),104⟩
def V2A (k:Nat) (l:List Int):List Value:=[.int .i64 k,outV l,SLI N C,.int .i64 N,pp]
def H2A (s:ASt) (l:List Int):List (Nat × Blk):=outH l++laidA N C at_ I s.wd s.m s.pl
def S2A (s:ASt) (k:Nat) (l:List Int):St:=⟨mkT [40,9,38,39,7] (V2A N C k l),mkH (H2A N C at_ I s l),105⟩
def V4A (k W j:Nat) (l:List Int):List Value:=[outV l,.int .i64 j,.slice (some ⟨105,0,none⟩) W W,.int .i64 W,.int .i64 k,SLI N C,.int .i64 N,pp]
def H4A (s:ASt) (W:Nat) (R:Nat->Ins) (l:List Int):List (Nat × Blk):=outH l++((105,.rows W 5 (insR R) false false) :: laidA N C at_ I s.wd s.m s.pl)
def S4A (s:ASt) (k W:Nat) (R:Nat->Ins) (j:Nat) (l:List Int):St:=⟨mkT [9,52,50,51,40,38,39,7] (V4A N C k W j l),mkH (H4A N C at_ I s W R l),106⟩
abbrev preA:Hp:=mkH [(2,.rows N 8 I.row false true)]
variable {ρ:Rn}{w:World}{hd:∀ id,100<=id->ρ id=none}
noncomputable abbrev EA (ρ:Rn) (w:World) (hd:∀ id,100<=id->ρ id=none):FEnv:=envOf Try.prog 77 100 (preA N I) mixed ρ w hd
theorem asm_wide (s:ASt) (hN:N<=1000000000){Q:Post} (hcl:Cl (EA N I ρ w hd).toEnv Q)
  (h1:(widN I N s).more=true->Q .normal (S0A N C at_ I (nextA I at_ N s))) (h2:(widN I N s).more=false->Q (.exit 0) (S0A N C at_ I s)):XWP (EA N I ρ w hd).toEnv x17_15 Q (S0A N C at_ I s):=by
 have e:=p17_b N C at_ I s.wd s.m s.pl
 rw[laid_dec N C at_ I s.wd s.m s.pl hN,laid_dec N C at_ I _ s.m s.pl hN]at e
 simp only[cond_true]at e
 change walk _ _ _ _ _ _ _ _ _ _=(bif (widN I N s).more then _ else _)at e
 cases hm:(widN I N s).more with
 |true =>
  rw[hm]at e
  exact xwp_toEnd hcl FOKE 1000 e (S0A N C at_ I (nextA I at_ N s)) ⟨[pp,SLI N C],laidA N C at_ I (nextA I at_ N s).wd (nextA I at_ N s).m (nextA I at_ N s).pl,104,rfl,rfl,⟨rfl,rfl,trivial⟩,bis_bools,bis_lmap,bis_ints,rfl,bis_its,trivial⟩ (h1 hm)
 |false =>
  rw[hm]at e
  have hw:(widN I N s).wd=s.wd:=(wid_facts I s.m s.pl s.wd N).2.1 hm
  change walk _ _ _ _ _ _ _ _ _ _=some ⟨⟨[],[(100,some (.rows N 1 (bools (widN I N s).wd) false false)),(101,some s.m.blk),(102,some (.rows N 1 (ints s.pl) false false))],.exit 0,104⟩,none⟩at e
  rw[hw]at e
  exact xwp_toEnd hcl FOKE 1000 e (S0A N C at_ I s) ⟨[pp,SLI N C],laidA N C at_ I s.wd s.m s.pl,104,rfl,rfl,⟨rfl,rfl,trivial⟩,bis_bools,bis_lmap,bis_ints,rfl,bis_its,trivial⟩ (h2 hm)
theorem asm_word (s:ASt) (k W:Nat) (R:Nat->Ins) (j:Nat) (l:List Int) (hl:l.length<=10000000000) (hW:j<W) (hW2:W<9223372036854775808){Q:Post} (hcl:Cl (EA N I ρ w hd).toEnv Q)
  (h1:okI (R j)=true->Q .normal (S4A N C at_ I s k W R (j+1) (l++[encW (R j)]))) (h2:okI (R j)=false->Q .ret ⟨mkT [4,5,6] [.slice none 0 0,.map none,.int .i64 16],mkH [(2,.rows N 8 I.row false true)],100⟩) :
  XWP (EA N I ρ w hd).toEnv x17_44 Q (S4A N C at_ I s k W R j l):=by
 have key:∀ (b:Bool),((encF (R j).op (R j).rd (R j).rs1 (R j).rs2 (R j).imm).2 != 0)=b->okI (R j)=!b:=by
  intro b h;subst h;unfold okI;cases hh:(encF (R j).op (R j).rd (R j).rs1 (R j).rs2 (R j).imm).2==0<;>simp[bne,hh]
 cases l with
 |nil =>
  have e:=p17_en k W j R N C at_ I s.wd s.m s.pl
  simp only[hW,decide_true,cond_true,wrap_succ hW hW2]at e
  cases hb:(encF (R j).op (R j).rd (R j).rs1 (R j).rs2 (R j).imm).2 != 0 with
  |true =>
   rw[hb]at e
   exact xwp_toEnd hcl FOKE 1000 e _ ⟨[.slice none 0 0,.map none,.int .i64 16],[(2,.rows N 8 I.row false true)],100,rfl,rfl,⟨rfl,rfl,rfl,trivial⟩,bis_its,trivial⟩ (h2 (key _ hb))
  |false =>
   rw[hb]at e
   exact xwp_toEnd hcl FOKE 1000 e (S4A N C at_ I s k W R (j+1) [encW (R j)]) ⟨V4A N C k W (j+1) [encW (R j)],H4A N C at_ I s W R [encW (R j)],106,rfl,rfl,⟨rfl,rfl,rfl,rfl,rfl,rfl,rfl,rfl,trivial⟩,
    ⟨rfl,rfl,fun i hi=>by have:i=0:=by omega
                          subst this;rfl,.inl rfl,.inr rfl⟩,bis_ins,bis_bools,bis_lmap,bis_ints,rfl,bis_its,trivial⟩ (h1 (key _ hb))
 |cons a t =>
  have e:=p17_es k W j (t.length+1) (fun i=>(a :: t).getD i 0) R N C at_ I s.wd s.m s.pl
  simp only[List.length_cons]at hl
  have g1:decide (t.length+1+1<=t.length+1)=false:=by simp
  have g2:decide ((t.length+1+1)*6<=1099511627776)=true:=by simp;omega
  simp only[hW,decide_true,cond_true,wrap_succ hW hW2,g1,g2,Nat.le_refl,Bool.not_false,Bool.and_self]at e
  cases hb:(encF (R j).op (R j).rd (R j).rs1 (R j).rs2 (R j).imm).2 != 0 with
  |true =>
   rw[hb]at e
   exact xwp_toEnd hcl FOKE 1000 e _ ⟨[.slice none 0 0,.map none,.int .i64 16],[(2,.rows N 8 I.row false true)],100,rfl,rfl,⟨rfl,rfl,rfl,trivial⟩,bis_its,trivial⟩ (h2 (key _ hb))
  |false =>
   rw[hb]at e
   have hlen:(t++[encW (R j)]).length+1=t.length+1+1:=by simp
   refine xwp_toEnd hcl FOKE 1000 e (S4A N C at_ I s k W R (j+1) (a :: (t++[encW (R j)]))) ⟨V4A N C k W (j+1) (a :: (t++[encW (R j)])),H4A N C at_ I s W R (a :: (t++[encW (R j)])),106,rfl,rfl,⟨?_,rfl,rfl,rfl,rfl,rfl,rfl,rfl,trivial⟩,
    ⟨hlen,rfl,fun i hi=>?_,.inl rfl,.inr rfl⟩,bis_ins,bis_bools,bis_lmap,bis_ints,rfl,bis_its,trivial⟩ (h1 (key _ hb))
   ·simp only[V4A,outV,hlen];rfl
   ·show[Value.int .u32 ((a :: (t++[encW (R j)])).getD i 0)]=rowCat (fun i=>[.int .u32 ((a :: t).getD i 0)]) 0 (t.length+1) _ i
    by_cases h:i<t.length+1
    ·simp only[rowCat,lt_blt h,cond_true,Nat.zero_add]
     rw[<- List.cons_append,List.getD_eq_getElem?_getD,List.getElem?_append_left (by simpa using h),List.getD_eq_getElem?_getD]
    ·have hi':i=t.length+1:=by omega
     subst hi'
     have hb0:Nat.blt (t.length+1) (t.length+1)=false:=by rw[blt_dec];simp
     simp only[rowCat,hb0,cond_false,Nat.sub_self]
     have:(a :: (t++[encW (R j)])).getD (t.length+1) 0=encW (R j):=by simp[List.getD]
     rw[this];rfl
end
theorem decP_key {α:Type}{p:Prop}{x y:α} (h:p):(bif decP p then x else y)=x:=by rw[decP_true h];rfl
theorem decP_key2 {α:Type}{p:Prop}{b:Bool}{x y:α} (h:p) (hb:b=true):(bif decP p&&b then x else y)=x:=by rw[decP_true h,hb];rfl
section
variable (N C:Nat) (at_:Int) (I:Its)
def ErrSt (e:Int):St:=⟨mkT [4,5,6] [.slice none 0 0,.map none,.int .i64 e],mkH [(2,.rows N 8 I.row false true)],100⟩
def outV':List Int->Value
 |[]=>.slice none 0 0
 |a :: l=>.slice (some ⟨100,0,none⟩) (l.length+1) (l.length+1)
def outH':List Int->List (Nat × Blk)
 |[]=>[]
 |a :: l=>[(100,.rows (l.length+1) 1 (fun j=>[.int .u32 ((a :: l).getD j 0)]) true false)]
def OkSt (l:List Int) (m:LMap):St:=⟨mkT [4,5,6] [outV' l,.map (some 101),.int .i64 0],mkH (outH' l++[(101,m.blk),(2,.rows N 8 I.row false true)]),102⟩
def Err3 (l:List Int) (m:LMap):St:=⟨mkT [4,5,6] [.slice none 0 0,.map none,.int .i64 3],mkH (outH' l++[(101,m.blk),(2,.rows N 8 I.row false true)]),102⟩
variable {ρ:Rn}{w:World}{hd:∀ id,100<=id->ρ id=none}
theorem asm_end (s:ASt) (k:Nat) (l:List Int){Q:Post} (hcl:Cl (EA N I ρ w hd).toEnv Q)
  (h1:decide ((l.length:Int)>65536)=true->Q .ret (ErrSt N I 3)) (h2:decide ((l.length:Int)>65536)=false->Q .ret (OkSt N I l s.m)):XWP (EA N I ρ w hd).toEnv x17_65 Q (S2A N C at_ I s k l):=by
 cases l with
 |nil =>
  have e:=p17_gn k N C at_ I s.wd s.m s.pl
  exact xwp_toEnd hcl FOKE 1000 e _ ⟨[.slice none 0 0,.map (some 101),.int .i64 0],[(101,s.m.blk),(2,.rows N 8 I.row false true)],102,rfl,rfl,⟨rfl,rfl,rfl,trivial⟩,bis_lmap,bis_its,trivial⟩ (h2 (by simp))
 |cons a t =>
  have e:=p17_gs k (t.length+1) (fun i=>(a :: t).getD i 0) N C at_ I s.wd s.m s.pl
  cases hb:decide (((t.length+1:Nat):Int)>65536)with
  |true =>
   rw[hb]at e
   have hq:Q .ret (Err3 N I (a :: t) s.m):=hcl _ _ (ErrSt N I 3) (weak (E:=EA N I ρ w hd) (s:=Err3 N I (a :: t) s.m) (s':=ErrSt N I 3) [] rfl rfl ⟨⟨rfl,rfl⟩,⟨rfl,rfl⟩,⟨rfl,rfl⟩,trivial⟩ ⟨bis_its,trivial⟩) (h1 hb)
   exact xwp_toEnd hcl FOKE 1000 e (Err3 N I (a :: t) s.m) ⟨[.slice none 0 0,.map none,.int .i64 3],outH' (a :: t)++[(101,s.m.blk),(2,.rows N 8 I.row false true)],102,rfl,rfl,⟨rfl,rfl,rfl,trivial⟩,bis_u32,bis_lmap,bis_its,trivial⟩ hq
  |false =>
   rw[hb]at e
   exact xwp_toEnd hcl FOKE 1000 e (OkSt N I (a :: t) s.m) ⟨[outV' (a :: t),.map (some 101),.int .i64 0],outH' (a :: t)++[(101,s.m.blk),(2,.rows N 8 I.row false true)],102,rfl,rfl,⟨rfl,rfl,rfl,trivial⟩,bis_u32,bis_lmap,bis_its,trivial⟩ (h2 hb)
theorem wordsN_pos (I:Its) (wd:Nat->Bool) (k:Nat):0<wordsN I wd k/\wordsN I wd k<=2:=by unfold wordsN;cases twoF I wd k<;>simp
theorem insK_succ (s:ASt) (k j:Nat):insK I s k (j+1)=insK I s k j++[wordI I s.wd s.m s.pl k j]:=by simp[insK,List.range_succ]
theorem asm_item (s:ASt) (k:Nat) (hk:k<N) (hN:N<=1000000000) (hall:(insTo I s k).all okI=true){Q:Post} (hcl:Cl (EA N I ρ w hd).toEnv Q)
  (h1:(insTo I s (k+1)).all okI=true->Q .normal (S2A N C at_ I s (k+1) ((insTo I s (k+1)).map encW))) (h2:(insTo I s (k+1)).all okI=false->Q .ret (ErrSt N I 16)) :
  XWP (EA N I ρ w hd).toEnv x17_54 Q (S2A N C at_ I s k ((insTo I s k).map encW)):=by
 have hk':k<9223372036854775807:=by omega
 have hN':N<9223372036854775808:=by omega
 cases hl:isE (I.lb k)with
 |false =>
  have hins:insTo I s (k+1)=insTo I s k:=by simp[insTo,hl]
  rw[hins]at h1
  have h1:=h1 hall
  generalize (insTo I s k).map encW=l at h1
  cases l with
  |nil =>
   have e:=p17_dn k N C at_ I s.wd s.m s.pl
   simp only[hk,decide_true,cond_true,wrap_succ hk hN',isE_fold,hl,Bool.not_false]at e
   exact xwp_toEnd hcl FOKE 1000 e _ ⟨V2A N C (k+1) [],H2A N C at_ I s [],105,rfl,rfl,⟨rfl,rfl,rfl,rfl,rfl,trivial⟩,bis_bools,bis_lmap,bis_ints,rfl,bis_its,trivial⟩ h1
  |cons a t =>
   have e:=p17_ds k (t.length+1) (fun i=>(a :: t).getD i 0) N C at_ I s.wd s.m s.pl
   simp only[hk,decide_true,cond_true,wrap_succ hk hN',isE_fold,hl,Bool.not_false]at e
   exact xwp_toEnd hcl FOKE 1000 e _ ⟨V2A N C (k+1) (a :: t),H2A N C at_ I s (a :: t),105,rfl,rfl,⟨rfl,rfl,rfl,rfl,rfl,trivial⟩,bis_u32,bis_bools,bis_lmap,bis_ints,rfl,bis_its,trivial⟩ h1
 |true =>
  have hins:insTo I s (k+1)=insTo I s k++insK I s k (wordsN I s.wd k):=by simp[insTo,hl]
  obtain⟨hW0,hW2⟩:=wordsN_pos I s.wd k
  have inner:XWP (EA N I ρ w hd).toEnv (.loop x17_44) (ctxP (EA N I ρ w hd).toEnv [.bl 4,.bl 3,.sq (.region x17_51)] Q) (S4A N C at_ I s k (wordsN I s.wd k) (wordI I s.wd s.m s.pl k) 0 ((insTo I s k++insK I s k 0).map encW)):=by
   refine xwp_loopR (fun j=>S4A N C at_ I s k (wordsN I s.wd k) (wordI I s.wd s.m s.pl k) j ((insTo I s k++insK I s k j).map encW)) (fun j=>j<=wordsN I s.wd k/\(insTo I s k++insK I s k j).all okI=true) (fun j=>wordsN I s.wd k-j) 0
    ⟨Nat.zero_le _,by simpa [insK]using hall⟩ fun j hj=>?_
   by_cases hjW:j<wordsN I s.wd k
   ·refine asm_word N C at_ I s k _ _ j _ ?_ hjW (by omega) (cl_round (cl_ctx hcl _)) (fun ho=>?_) (fun ho=>?_)
    ·have:=insTo_len I s k
     simp[insK];omega
    ·refine⟨j+1,⟨hjW,?_⟩,Nat.sub_succ_lt_self _ j hjW,?_⟩
     ·rw[insK_succ,<- List.append_assoc,List.all_append,hj.2];simp[ho]
     ·show Wk _ _ (S4A N C at_ I s k (wordsN I s.wd k) (wordI I s.wd s.m s.pl k) (j+1) ((insTo I s k++insK I s k (j+1)).map encW))
      rw[insK_succ,<- List.append_assoc,List.map_append (l₁:=insTo I s k++insK I s k j)];exact Wk.refl _ _
    ·show Q .ret _
     refine h2 ?_
     rw[hins]
     have hm:wordI I s.wd s.m s.pl k j∈insK I s k (wordsN I s.wd k):=List.mem_map.2 ⟨j,List.mem_range.2 hjW,rfl⟩
     rw[List.all_append]
     have:(insK I s k (wordsN I s.wd k)).all okI=false:=by
      rw[List.all_eq_false];exact⟨_,hm,by simp[ho]⟩
     rw[this];simp
   ·have hjE:j=wordsN I s.wd k:=by omega
    subst hjE
    rw[<- hins]at hj ⊢
    have h1:=h1 hj.2
    have hne:(insTo I s (k+1)).map encW≠[]:=by
     rw[hins]
     intro h
     have:=congrArg List.length h
     simp[insK]at this
     omega
    cases hlist:(insTo I s (k+1)).map encW with
    |nil=>exact absurd hlist hne
    |cons a t =>
     rw[hlist]at h1
     have e:=p17_es k (wordsN I s.wd k) (wordsN I s.wd k) (t.length+1) (fun i=>(a :: t).getD i 0) (wordI I s.wd s.m s.pl k) N C at_ I s.wd s.m s.pl
     simp only[hjW,decide_false,cond_false]at e
     refine xwp_toEnd (cl_round (cl_ctx hcl _)) FOKE 1000 e (S4A N C at_ I s k (wordsN I s.wd k) (wordI I s.wd s.m s.pl k) (wordsN I s.wd k) (a :: t))
      ⟨V4A N C k (wordsN I s.wd k) (wordsN I s.wd k) (a :: t),H4A N C at_ I s (wordsN I s.wd k) (wordI I s.wd s.m s.pl k) (a :: t),106,rfl,rfl,⟨rfl,rfl,rfl,rfl,rfl,rfl,rfl,rfl,trivial⟩,bis_u32,bis_ins,bis_bools,bis_lmap,bis_ints,rfl,bis_its,trivial⟩ ?_
     show XWP _ (.region x17_51) _ _
     have ef:=p17_fs k (wordsN I s.wd k) (wordsN I s.wd k) (t.length+1) (fun i=>(a :: t).getD i 0) (wordI I s.wd s.m s.pl k) N C at_ I s.wd s.m s.pl
     rw[wrap_succ hk hN']at ef
     exact xwp_toEnd hcl FOKE 1000 ef _ ⟨V2A N C (k+1) (a :: t),H2A N C at_ I s (a :: t),105,rfl,rfl,⟨rfl,rfl,rfl,rfl,rfl,trivial⟩,bis_u32,bis_bools,bis_lmap,bis_ints,rfl,bis_its,trivial⟩ h1
  have h00:insTo I s k++insK I s k 0=insTo I s k:=by simp[insK]
  rw[h00]at inner
  clear h1
  generalize (insTo I s k).map encW=l at inner
  cases l with
  |nil =>
   have e:=p17_dn k N C at_ I s.wd s.m s.pl
   simp only[hk,decide_true,cond_true,isE_fold,hl,Bool.not_true,cond_false]at e
   rw[decP_key2]at e
   ·exact xwp_toLoop FOKE 1000 e _ ⟨V4A N C k (wordsN I s.wd k) 0 [],H4A N C at_ I s (wordsN I s.wd k) (wordI I s.wd s.m s.pl k) [],106,rfl,rfl,⟨rfl,rfl,rfl,rfl,rfl,rfl,rfl,rfl,trivial⟩,bis_ins,bis_bools,bis_lmap,bis_ints,rfl,bis_its,trivial⟩ inner
   ·exact⟨trivial,trivial,trivial,trivial,trivial,hN'⟩
   ·simp
  |cons a t =>
   have e:=p17_ds k (t.length+1) (fun i=>(a :: t).getD i 0) N C at_ I s.wd s.m s.pl
   simp only[hk,decide_true,cond_true,isE_fold,hl,Bool.not_true,cond_false]at e
   rw[decP_key2]at e
   ·exact xwp_toLoop FOKE 1000 e _ ⟨V4A N C k (wordsN I s.wd k) 0 (a :: t),H4A N C at_ I s (wordsN I s.wd k) (wordI I s.wd s.m s.pl k) (a :: t),106,rfl,rfl,⟨rfl,rfl,rfl,rfl,rfl,rfl,rfl,rfl,trivial⟩,bis_u32,bis_ins,bis_bools,bis_lmap,bis_ints,rfl,bis_its,trivial⟩ inner
   ·exact⟨trivial,trivial,trivial,trivial,trivial,hN'⟩
   ·simp
end
section
variable (N C:Nat) (at_:Int) (I:Its)
variable {ρ:Rn}{w:World}{hd:∀ id,100<=id->ρ id=none}
theorem fixN_more {f:Nat}{s:ASt} (h:(widN I N s).more=true):fixN I at_ N (f+1) s=fixN I at_ N f (nextA I at_ N s):=by simp[fixN,h]
theorem fixN_done {f:Nat}{s:ASt} (h:(widN I N s).more=false):fixN I at_ N f s=s:=by cases f<;>simp[fixN,h]
theorem asm_rest (hN:N<=1000000000) (hc:checkE I at_ N m0=0){Q:Post} (hcl:Cl (EA N I ρ w hd).toEnv Q)
  (hErr:asmE I at_ N≠0->Q .ret (ErrSt N I (asmE I at_ N))) (hOk:asmE I at_ N=0->Q .ret (OkSt N I (asmW I at_ N) (finA I at_ N).m)) :
  XWP (EA N I ρ w hd).toEnv (.loop x17_15) (ctxP (EA N I ρ w hd).toEnv [.bl 0,.sq x17_67] Q) (S0A N C at_ I (startA I at_ N)):=by
 refine xwp_loopR (S0A N C at_ I) (fun s=>∃ f,cntF s.wd N<f/\fixN I at_ N f s=finA I at_ N) (fun s=>cntF s.wd N) (startA I at_ N) ⟨N+1,Nat.lt_succ_of_le (cnt_le _ _),rfl⟩ fun s hs=>?_
 obtain⟨f,hf,hfix⟩:=hs
 refine asm_wide N C at_ I s hN (cl_round (cl_ctx hcl _)) (fun hm=>?_) (fun hm=>?_)
 ·obtain⟨f,rfl⟩:∃ f',f=f'+1:=⟨f-1,by omega⟩
  rw[fixN_more N at_ I hm]at hfix
  obtain⟨h1,_,h3⟩:=wid_facts I s.m s.pl s.wd N
  have hlt:cntF (nextA I at_ N s).wd N<cntF s.wd N:=cnt_lt h1 N (h3 hm)
  exact⟨nextA I at_ N s,⟨f,by omega,hfix⟩,hlt,Wk.refl _ _⟩
 ·rw[fixN_done N at_ I hm]at hfix
  subst hfix
  show XWP _ x17_67 Q _
  have ec:=p17_c N C at_ I (finA I at_ N).wd (finA I at_ N).m (finA I at_ N).pl
  refine xwp_toLoop FOKE 1000 ec (S2A N C at_ I (finA I at_ N) 0 []) ⟨V2A N C 0 [],H2A N C at_ I (finA I at_ N) [],105,rfl,rfl,⟨rfl,rfl,rfl,rfl,rfl,trivial⟩,bis_bools,bis_lmap,bis_ints,rfl,bis_its,trivial⟩ ?_
  refine xwp_loopR (fun k=>S2A N C at_ I (finA I at_ N) k ((insTo I (finA I at_ N) k).map encW)) (fun k=>k<=N/\(insTo I (finA I at_ N) k).all okI=true) (fun k=>N-k) 0 ⟨Nat.zero_le _,rfl⟩ fun k hk=>?_
  by_cases hlt:k<N
  ·refine asm_item N C at_ I (finA I at_ N) k hlt hN hk.2 (cl_round (cl_ctx hcl _)) (fun ha=>⟨k+1,⟨hlt,ha⟩,Nat.sub_succ_lt_self N k hlt,Wk.refl _ _⟩) (fun ha=>?_)
   show Q .ret _
   have hN:=ins_stop ha hlt
   have hE:asmE I at_ N=16:=by simp only[asmE,hc,hN];rfl
   have:=hErr (by rw[hE];decide)
   rwa [hE]at this
  ·have hkN:k=N:=by omega
   subst hkN
   have hend:XWP (EA k I ρ w hd).toEnv x17_65 Q (S2A k C at_ I (finA I at_ k) k ((insTo I (finA I at_ k) k).map encW)):=by
    refine asm_end k C at_ I (finA I at_ k) k _ hcl (fun hb=>?_) (fun hb=>?_)
    ·have hb:decide (((asmW I at_ k).length:Int)>65536)=true:=hb
     have hE:asmE I at_ k=3:=by simp only[asmE,hc,hk.2];rw[hb];rfl
     have:=hErr (by rw[hE];decide)
     rwa [hE]at this
    ·have hb:decide (((asmW I at_ k).length:Int)>65536)=false:=hb
     exact hOk (by simp only[asmE,hc,hk.2];rw[hb];rfl)
   cases hlist:(insTo I (finA I at_ k) k).map encW with
   |nil =>
    rw[hlist]at hend
    have e:=p17_dn k k C at_ I (finA I at_ k).wd (finA I at_ k).m (finA I at_ k).pl
    simp only[hlt,decide_false,cond_false]at e
    refine xwp_toEnd (cl_round (cl_ctx hcl _)) FOKE 1000 e (S2A k C at_ I (finA I at_ k) k []) ⟨V2A k C k [],H2A k C at_ I (finA I at_ k) [],105,rfl,rfl,⟨rfl,rfl,rfl,rfl,rfl,trivial⟩,bis_bools,bis_lmap,bis_ints,rfl,bis_its,trivial⟩ ?_
    exact hend
   |cons a t =>
    rw[hlist]at hend
    have e:=p17_ds k (t.length+1) (fun i=>(a :: t).getD i 0) k C at_ I (finA I at_ k).wd (finA I at_ k).m (finA I at_ k).pl
    simp only[hlt,decide_false,cond_false]at e
    refine xwp_toEnd (cl_round (cl_ctx hcl _)) FOKE 1000 e (S2A k C at_ I (finA I at_ k) k (a :: t)) ⟨V2A k C k (a :: t),H2A k C at_ I (finA I at_ k) (a :: t),105,rfl,rfl,⟨rfl,rfl,rfl,rfl,rfl,trivial⟩,bis_u32,bis_bools,bis_lmap,bis_ints,rfl,bis_its,trivial⟩ ?_
    exact hend
theorem asm_walk (hN:N<=1000000000){Q:Post} (hcl:Cl (EA N I ρ w hd).toEnv Q)
  (hErr:asmE I at_ N≠0->Q .ret (ErrSt N I (asmE I at_ N))) (hOk:asmE I at_ N=0->Q .ret (OkSt N I (asmW I at_ N) (finA I at_ N).m)) :
  XWP (EA N I ρ w hd).toEnv x17 Q ⟨argTm 0 [SLI N C,.int .i64 at_],preA N I,100⟩:=by
 have hN':N<9223372036854775808:=by omega
 have e:=p17_a N C at_ I
 have g1:(decide (0<=(N:Int))&&decide (N<=N)&&decide ((N:Int)*10<=1099511627776)&&(decide (0<=(N:Int))&&decide (N<=N)&&decide ((N:Int)*3<=1099511627776)))=true:=by
  simp;omega
 rw[g1]at e
 simp only[cond_true]at e
 rw[decP_key,decP_key]at e
 ·change walk _ _ _ _ _ _ _ _ _ _=(bif checkE I at_ N m0 != 0 then _ else _)at e
  cases hb:checkE I at_ N m0 != 0 with
  |true =>
   rw[hb]at e
   have hE:asmE I at_ N=checkE I at_ N m0:=by simp only[asmE,hb,cond_true]
   have hne:asmE I at_ N≠0:=by rw[hE];simpa using hb
   have:=hErr hne
   rw[hE]at this
   exact xwp_toEnd hcl FOKE 1000 e _ ⟨[.slice none 0 0,.map none,.int .i64 (checkE I at_ N m0)],[(2,.rows N 8 I.row false true)],100,rfl,rfl,⟨rfl,rfl,rfl,trivial⟩,bis_its,trivial⟩ this
  |false =>
   rw[hb]at e
   have hc:checkE I at_ N m0=0:=by simpa using hb
   exact xwp_toLoop FOKE 1000 e (S0A N C at_ I (startA I at_ N)) ⟨[pp,SLI N C],laidA N C at_ I (startA I at_ N).wd (startA I at_ N).m (startA I at_ N).pl,104,rfl,rfl,⟨rfl,rfl,trivial⟩,bis_bools,bis_lmap,bis_ints,rfl,bis_its,trivial⟩ (asm_rest N C at_ I hN hc hcl hErr hOk)
 ·refine⟨?_,?_,?_,?_,?_,hN'⟩<;>first|trivial|rfl
 ·refine⟨?_,?_,?_,?_,?_,hN'⟩<;>first|trivial|rfl
end
section
variable (N C:Nat) (at_:Int) (I:Its)
theorem b17_ok (hN:N<=1000000000) (he:asmE I at_ N=0){a:Int}{t:List Int} (hW:asmW I at_ N=a :: t):Body Try.prog 13 [SLI N C,.int .i64 at_] (preA N I)
  (.tuple ⟨[.slice (some ⟨100,0,none⟩) (t.length+1) (t.length+1),.map (some 101),.int .i64 0]⟩) [(100,some (.rows (t.length+1) 1 (fun j=>[.int .u32 ((a :: t).getD j 0)]) true false)),(101,some (finA I at_ N).m.blk)] 100 2 :=
 body_of mixed fx17 (by simp) fun ρ w hd=>asm_walk N C at_ I hN cl_fin (fun h=>absurd he h) (fun _=>by
  rw[hW]
  exact fin_of rfl ⟨rfl,rfl,rfl,trivial⟩ rfl rfl)
end
end Go.X
namespace Go.X
open Go
theorem adet_demote {P:Program}{f:FuncId}{vs:List Value}{v:Value}{upd:Hp}{n news b N s:Nat}{F:Nat->List Value} {o o':Bool} (h:ADet P f vs [(b,some (.rows N s F o' true))] v upd n news)
  (hb:b ∉ fstL upd) (hrw:updRW upd=true):ADet P f vs [(b,some (.rows N s F o false))] v upd n news:=by
 refine⟨h.1,h.2.1,fun ρ g w cargs hvl hr hg hfree hsp=>?_⟩
 have hgb:g b=some (.rows N s F o false):=by
  have:=hg b (by simp[fstL])
  simpa [hget]using this
 obtain⟨lb,hlb,hhb⟩:=hr.holds b _ hgb
 have hro:Holds P ρ w lb (.rows N s F o' true):=⟨hhb.1,fun _ h=>(by cases h),hhb.2.2.1,fun h=>by cases h⟩
 let g':G:=gset g b (some (.rows N s F o' true))
 have hr':RelH P ρ g' w:=by
  refine⟨fun id c hc=>?_,fun id c id' c' l l' hc hc' hne hro1 ht hl hl'=>?_⟩
  ·by_cases e:id=b
   ·subst e
    simp only[g',gset_same]at hc
    cases hc
    exact⟨lb,hlb,hro⟩
   ·simp only[g',gset_ne _ _ e]at hc
    exact hr.holds id c hc
  ·have e1:id≠b:=by
    rintro rfl
    simp only[g',gset_same]at hc
    cases hc;cases hro1
   simp only[g',gset_ne _ _ e1]at hc
   by_cases e2:id'=b
   ·subst e2
    exact hr.sep id c id' _ l l' hc hgb hne hro1 (.inl rfl) hl hl'
   ·simp only[g',gset_ne _ _ e2]at hc'
    exact hr.sep id c id' c' l l' hc hc' hne hro1 ht hl hl'
 have hown:∀ k,Own ρ g' k->Own ρ g k:=by
  rintro k ⟨id,c,l,hc,hro1,hl,hk⟩
  by_cases e:id=b
  ·subst e
   simp only[g',gset_same]at hc
   cases hc;cases hro1
  ·simp only[g',gset_ne _ _ e]at hc
   exact⟨id,c,l,hc,hro1,hl,hk⟩
 have hnb:¬ Own ρ g' lb.addr.block:=by
  rintro⟨id,c,l,hc,hro1,hl,hk⟩
  by_cases e:id=b
  ·subst e
   simp only[g',gset_same]at hc
   cases hc;cases hro1
  ·simp only[g',gset_ne _ _ e]at hc
   exact hr.sep id c b _ l lb hc hgb e hro1 (.inl rfl) hl hlb hk
 have hltb:lb.addr.block<w.heap.size:=hhb.lt (.inl rfl)
 refine(h.2.2 ρ g' w cargs hvl hr' (fun id hid=>?_) hfree hsp).mono ?_
 ·simp only[fstL,List.mem_cons,List.not_mem_nil,or_false]at hid
  subst hid
  simp[g',gset_same,hget]
 intro e w' hR
 cases e with
 |panicked _=>exact hR.elim
 |outgrown=>exact hR.elim
 |returned c =>
 obtain⟨ρ',hgood,hv⟩:=hR
 have hap:∀ id,id≠b->gapply g upd id=gapply g' upd id:=fun id hne=>by
  by_cases hu:id∈fstL upd
  ·have h1:gapply g upd id=hget (upd++([]:Hp)) id:=by rw[hget_append];exact gapply_in hu
   have h2:gapply g' upd id=hget (upd++([]:Hp)) id:=by rw[hget_append];exact gapply_in hu
   rw[h1,h2]
  ·rw[gapply_nin hu,gapply_nin hu];simp only[g',gset_ne _ _ hne]
 have hbb:gapply g upd b=some (.rows N s F o false):=by rw[gapply_nin hb];exact hgb
 have hl':ρ' b=some lb:=hgood.le b lb hlb
 have hblk:w'.heap[lb.addr.block]?=w.heap[lb.addr.block]?:=hgood.fr.block _ hltb hnb
 have hupd:∀ id c,id≠b->gapply g' upd id=some c->(id∈fstL upd->c.ro=false):=fun id c hne hc hu=>by
  have h2:gapply g' upd id=hget (upd++([]:Hp)) id:=by rw[hget_append];exact gapply_in hu
  rw[h2,List.append_nil]at hc
  exact updRW_get hrw hc
 have hoff:∀ id c l,id≠b->gapply g' upd id=some c->c.touch->ρ' id=some l->l.addr.block≠lb.addr.block:=by
  intro id c l hne hc ht hl he
  by_cases hu:id∈fstL upd
  ·rcases hgood.own _ ⟨id,c,l,hc,hupd id c hne hc hu,hl,rfl⟩with h|h
   ·rw[he]at h;exact hnb h
   ·omega
  ·rw[gapply_nin hu]at hc
   simp only[g',gset_ne _ _ hne]at hc
   obtain⟨l0,hl0,_⟩:=hr.holds id c hc
   have:=hgood.le id l0 hl0
   rw[hl]at this;cases this
   exact hr.sep b _ id c lb l hgb hc (Ne.symm hne) rfl ht hlb hl0 he.symm
 refine⟨ρ',⟨hgood.le,hgood.new,⟨fun id c hc=>?_,fun id1 b1 id2 b2 l1 l2 hb1 hb2 hne hro1 ht hl1 hl2=>?_⟩,?_,fun k hk=>?_⟩,hv⟩
 ·by_cases e:id=b
  ·subst e
   rw[hbb]at hc;cases hc
   exact⟨lb,hl',hhb.stay hgood.le fun _=>hblk⟩
  ·rw[hap id e]at hc
   exact hgood.rel.holds id c hc
 ·by_cases e1:id1=b
  ·subst e1
   rw[hl']at hl1;cases hl1
   rw[hap id2 (Ne.symm hne)]at hb2
   exact fun he=>hoff id2 b2 l2 (Ne.symm hne) hb2 ht hl2 he.symm
  ·rw[hap id1 e1]at hb1
   by_cases e2:id2=b
   ·subst e2
    rw[hl']at hl2;cases hl2
    exact hoff id1 b1 l1 e1 hb1 (touch_of_rw hro1) hl1
   ·rw[hap id2 e2]at hb2
    exact hgood.rel.sep id1 b1 id2 b2 l1 l2 hb1 hb2 hne hro1 ht hl1 hl2
 ·exact⟨hgood.fr.os,hgood.fr.tape,hgood.fr.output,hgood.fr.size,fun k hk hn=>hgood.fr.block k hk fun ho=>hn (hown k ho)⟩
 ·obtain⟨id,c,l,hc,hro1,hl,rfl⟩:=hk
  by_cases e:id=b
  ·subst e
   rw[hl']at hl;cases hl
   exact .inl ⟨id,_,lb,hgb,rfl,hlb,rfl⟩
  ·rw[hap id e]at hc
   rcases hgood.own _ ⟨id,c,l,hc,hro1,hl,rfl⟩with h|h
   ·exact .inl (hown _ h)
   ·exact .inr h
end Go.X
namespace Go.X
open Go Go.Proofs
theorem beq_ff {a b:Nat} (h:a≠b):Nat.beq a b=false:=by
 cases hb:Nat.beq a b with
 |false=>rfl
 |true=>exact absurd (Nat.eq_of_beq_eq_true hb) h
theorem beq_tt (a:Nat):Nat.beq a a=true:=by simp
theorem c17_okT (N C:Nat) (at_:Int) (I:Its) (hN:N<=1000000000) (he:asmE I at_ N=0) (hW:asmW I at_ N≠[]) (b n:Nat) (hb:b<n){f:Nat->List Value}{o:Bool} (hf:∀ j,j<N->f j=I.row j) :
  ADet Try.prog 13 [.slice (some ⟨b,0,none⟩) N C,.int .i64 at_] [(b,some (.rows N 8 f o true))]
   (.tuple ⟨[.slice (some ⟨n,0,none⟩) (asmW I at_ N).length (asmW I at_ N).length,.map (some (n+1)),.int .i64 0]⟩)
   [(n,some (.rows (asmW I at_ N).length 1 (fun j=>[.int .u32 ((asmW I at_ N).getD j 0)]) true false)),(n+1,some (finA I at_ N).m.blk)] n 2:=by
 obtain⟨a,t,ht⟩:∃ a t,asmW I at_ N=a :: t:=by
  cases h:asmW I at_ N with
  |nil=>exact absurd h hW
  |cons a t=>exact⟨a,t,rfl⟩
 have hl:(asmW I at_ N).length=t.length+1:=by rw[ht];rfl
 have b1:=beq_ff (show n≠b by omega)
 have b2:=beq_ff (show n+1≠b by omega)
 have b3:=beq_ff (show b≠n by omega)
 have b4:=beq_ff (show b≠n+1 by omega)
 have b5:=beq_ff (show n≠n+1 by omega)
 have b6:=beq_ff (show n+1≠n by omega)
 have bn:=beq_tt n
 have bn1:=beq_tt (n+1)
 have bb:=beq_tt b
 have s1:asc ([(n,100),(n+1,101)]++flip [(2,b)]) n=some 100:=by simp only[List.cons_append,asc,bn,cond_true]
 have s2:asc ([(n,100),(n+1,101)]++flip [(2,b)]) (n+1)=some 101:=by simp only[List.cons_append,asc,b5,bn1,cond_true,cond_false]
 have s3:asc ([(n,100),(n+1,101)]++flip [(2,b)]) b=some 2:=by simp only[List.cons_append,List.nil_append,flip,asc,b1,b2,bb,cond_true,cond_false]
 refine adet_of_body (b17_ok N C at_ I hN he ht) [(2,b)] [(n,100),(n+1,101)] ?_ rfl ?_ ?_ ?_ ?_ ?_
 ·refine(show((Nat.blt 2 100&&Nat.beq b b&&true)&&((Nat.ble n n&&Nat.blt n (n+2))&&((Nat.ble n (n+1)&&Nat.blt (n+1) (n+2))&&true))&&true&&true)=true from ?_)
  simp[lt_blt]
 ·refine⟨?_,trivial⟩
  show(match hget [(b,some (Blk.rows N 8 f o true))] b with|some x=>BIs Try.prog (asc [(2,b)]) (.rows N 8 I.row false true) x|none=>False)
  simp only[hget,bb,cond_true]
  exact⟨rfl,rfl,fun j hj=>by rw[hf j hj];rfl,.inr (.inr rfl),.inl rfl⟩
 ·rfl
 ·rw[hl]
  show(.tuple ⟨[renP _ n 0 none _,renP _ (n+1) 0 none _,.int .i64 0]⟩:Value)=_
  simp only[renP,s1,s2]
 ·rw[hl,ht]
  simp only[List.cons_append,List.nil_append,HsOK,natMem,b1,b2,b3,b4,b5,b6,bn,bn1,Bool.or_false,Bool.false_or]
  rw[show asc ((n,100) :: (n+1,101) :: flip [(2,b)]) n=some 100 from s1,show asc ((n,100) :: (n+1,101) :: flip [(2,b)]) (n+1)=some 101 from s2,show asc ((n,100) :: (n+1,101) :: flip [(2,b)]) b=some 2 from s3]
  exact⟨bis_u32,bis_lmap,⟨rfl,rfl,fun j hj=>by rw[hf j hj];rfl,.inr (.inl rfl),.inl rfl⟩,trivial⟩
 ·simp only[List.cons_append,List.nil_append,namesOf,natMem,b1,b2,b3,b4,b5,b6,bn,bn1,Bool.or_false,Bool.false_or]
  rw[show asc ((n,100) :: (n+1,101) :: flip [(2,b)]) n=some 100 from s1,show asc ((n,100) :: (n+1,101) :: flip [(2,b)]) (n+1)=some 101 from s2,show asc ((n,100) :: (n+1,101) :: flip [(2,b)]) b=some 2 from s3]
  rfl
theorem c17_ok (N C:Nat) (at_:Int) (I:Its) (hN:N<=1000000000) (he:asmE I at_ N=0) (hW:asmW I at_ N≠[]) (b n:Nat) (hb:b<n){f:Nat->List Value}{o r:Bool} (hf:∀ j,j<N->f j=I.row j) :
  ADet Try.prog 13 [.slice (some ⟨b,0,none⟩) N C,.int .i64 at_] [(b,some (.rows N 8 f o r))]
   (.tuple ⟨[.slice (some ⟨n,0,none⟩) (asmW I at_ N).length (asmW I at_ N).length,.map (some (n+1)),.int .i64 0]⟩)
   [(n,some (.rows (asmW I at_ N).length 1 (fun j=>[.int .u32 ((asmW I at_ N).getD j 0)]) true false)),(n+1,some (finA I at_ N).m.blk)] n 2:=by
 have h:=c17_okT N C at_ I hN he hW b n hb (o:=o) hf
 cases r with
 |true=>exact h
 |false=>exact adet_demote h (by simp[fstL];omega) rfl
attribute [local congr] cond_ctx
theorem beq_dec (a b:Nat):Nat.beq a b=decide (a=b):=by
 by_cases h:a=b
 ·subst h;simp
 ·rw[beq_ff h];simp[h]
theorem xwp_seqW {E:FEnv}{Q:Post}{s:St}{F:Fns}{sc:Short}{x y:XCode}{p r q:Pj}{l:Leaf} (hcl:Cl E.toEnv Q) (hF:FnsOK E.P F sc) (k:Nat) (he:walk F sc k x s.t s.h s.n p r q=some ⟨l,none⟩) (hn:l.e=.normal) (s':St)
  (hl:LeafTo E ((pjOf p r l.e).ks++(pjOf p r l.e).uk) (ext (pjOf p r l.e) s.t s.h l) s') (hQ:XWP E.toEnv y Q s'):XWP E.toEnv (.seq x y) Q s :=
 xwp_seq (xwp_toEnd (cl_seqP hcl) hF k he s' hl (by rw[hn];exact hQ))
section
variable (a a0 a1:Int)
variable {ρ:Rn}{w:World}{hd:∀ id,2<=id->ρ id=none}
end
end Go.X
