import Derived.Test.YtghpjlmaamnnpaaDoorF27
set_option linter.all false
namespace Go.X
open Go Go.Proofs
set_option linter.unusedVariables false
set_option linter.unusedSimpArgs false
def kt (t:Tk):Int × List UInt8:=(t.kind,t.text.data.toList)
inductive LxL:List UInt8 → List (Int × List UInt8) → Prop
 |done:LxL [] []
 |tok {l l':List UInt8}{k:Int}{n:Nat}{q:List (Int × List UInt8)} (hl:l≠[]) (ht:tokL l=(k,(n:Int))) (hn:0<n) (hg:gp .n (l.drop n)=some l') (h:LxL l' q):LxL l ((k,l.take n) :: q)
theorem drop_all (s:ByteArray):s.data.toList.drop s.size=[]:=by rw[List.drop_eq_nil_iff,← Lib.size_eq];omega
theorem drop_ne {s:ByteArray}{p:Nat} (hp:p<s.size):s.data.toList.drop p≠[]:=by
 intro h
 rw[List.drop_eq_nil_iff,← Lib.size_eq]at h
 omega
theorem lx_list {s:ByteArray}{p:Nat}{r:List Tk} (h:Lx s p r):∃ q,r.map kt=q++[(0,[])] ∧ LxL (s.data.toList.drop p) q:=by
 induction h with
 |done hp=>subst hp;rw[drop_all];exact⟨[],rfl,.done⟩
 |@tok p r hp hz hg h ih =>
  obtain⟨q,h1,h2⟩:=ih
  obtain⟨n1,n2,n3⟩:=tokN_rng hp hz
  have hgg:=gapG_gp (s:=s) s.size (p+tokN s p) n2 (by omega)
  rw[if_pos hg]at hgg
  refine⟨((tokF (rest s p)).1,(s.data.toList.drop p).take (tokN s p)) :: q,?_,.tok (drop_ne hp) ?_ n1 (by rw[List.drop_drop];exact hgg) h2⟩
  ·rw[List.map_cons,h1]
   show kt (tkAt s p) :: _=_
   have:(tkAt s p).text.data.toList=(s.data.toList.drop p).take (tokN s p):=by
    show(s.extract p (p+tokN s p)).data.toList=_
    rw[ext_list,Nat.add_sub_cancel_left]
   rw[kt,this];rfl
  ·unfold tokL
   rw[← rest_bs]
   exact Prod.ext rfl n3
theorem list_lx {s:ByteArray}{L:List UInt8}{q:List (Int × List UInt8)} (h:LxL L q):∀ p,p ≤ s.size → L=s.data.toList.drop p → ∃ r,Lx s p r ∧ r.map kt=q++[(0,[])]:=by
 induction h with
 |done =>
  intro p hp e
  have:p=s.size:=by
   have:=List.drop_eq_nil_iff.1 e.symm
   rw[← Lib.size_eq]at this;omega
  exact⟨_,.done this,rfl⟩
 |@tok l l' k n q hl ht hn hg h ih =>
  intro p hp e
  subst e
  have hlt:p<s.size:=by
   rcases Nat.lt_or_ge p s.size with h|h
   ·exact h
   ·exact absurd (by rw[List.drop_eq_nil_iff,← Lib.size_eq];exact h) hl
  have htk:tokF (rest s p)=(k,(n:Int)):=by rw[rest_bs];exact ht
  have hz:(tokF (rest s p)).2≠0:=by rw[htk];simp;omega
  have hN:tokN s p=n:=by unfold tokN;rw[htk];rfl
  obtain⟨n1,n2,n3⟩:=tokN_rng hlt hz
  rw[List.drop_drop,← hN]at hg
  have hgg:=gapG_gp (s:=s) s.size (p+tokN s p) n2 (by omega)
  rw[hg]at hgg
  cases hok:(gapG s s.size (p+tokN s p)).2 with
  |false=>rw[hok]at hgg;simp at hgg
  |true =>
   rw[hok,if_pos rfl]at hgg
   have hrg:=gapG_rng s s.size (p+tokN s p) n2
   obtain⟨r,h1,h2⟩:=ih _ hrg.2 (Option.some.inj hgg)
   refine⟨_,.tok hlt hz hok h1,?_⟩
   rw[List.map_cons,h2]
   have:(tkAt s p).text.data.toList=(s.data.toList.drop p).take n:=by
    show(s.extract p (p+tokN s p)).data.toList=_
    rw[ext_list,Nat.add_sub_cancel_left,hN]
   rw[kt,this]
   show(((tokF (rest s p)).1,_) :: _)=_
   rw[htk];rfl
def LexL (l:List UInt8) (q:List (Int × List UInt8)):Prop:=∃ l',gp .n l=some l' ∧ LxL l' q
theorem lex_list {s:ByteArray}{l:List Tk} (h:lexF s=.inr l):∃ q,l.map kt=q++[(0,[])] ∧ LexL s.data.toList q:=by
 obtain⟨h0,h1,h2⟩:=lexF_lx h
 obtain⟨q,h3,h4⟩:=lx_list h2
 have hgg:=gapG_gp (s:=s) s.size 0 (Nat.zero_le _) (by omega)
 rw[if_pos h1,List.drop_zero]at hgg
 exact⟨q,h3,_,hgg,h4⟩
theorem gp_len:∀ (l:List UInt8) (m:Md) (r:List UInt8),gp m l=some r → r.length ≤ l.length+1 ∧ (m≠.sl → r.length ≤ l.length)
 |[],m,r,h=>by
  cases m<;>simp[gp]at h<;>subst h<;>simp
 |c :: l,m,r,h=>by
  have ih:=gp_len l
  cases m with
  |n =>
   rw[gp]at h
   split at h
   ·have:=(ih _ _ h).2 (by simp);simp only[List.length_cons];exact⟨by omega,fun _=>by omega⟩
   ·split at h
    ·have:=(ih _ _ h).1;simp only[List.length_cons];exact⟨by omega,fun _=>by omega⟩
    ·cases h;exact⟨by simp,fun _=>Nat.le_refl _⟩
  |ln =>
   rw[gp]at h
   split at h
   ·have:=(ih _ _ h).2 (by simp);simp only[List.length_cons];exact⟨by omega,fun _=>by omega⟩
   ·have:=(ih _ _ h).2 (by simp);simp only[List.length_cons];exact⟨by omega,fun _=>by omega⟩
  |sl =>
   rw[gp]at h
   split at h
   ·have:=(ih _ _ h).2 (by simp);simp only[List.length_cons];exact⟨by omega,fun _=>by omega⟩
   ·split at h
    ·have:=(ih _ _ h).2 (by simp);simp only[List.length_cons];exact⟨by omega,fun _=>by omega⟩
    ·cases h;exact⟨by simp,fun h=>absurd rfl h⟩
  |rm =>
   rw[gp]at h
   split at h
   ·have:=(ih _ _ h).2 (by simp);simp only[List.length_cons];exact⟨by omega,fun _=>by omega⟩
   ·have:=(ih _ _ h).2 (by simp);simp only[List.length_cons];exact⟨by omega,fun _=>by omega⟩
  |st =>
   rw[gp]at h
   split at h
   ·have:=(ih _ _ h).2 (by simp);simp only[List.length_cons];exact⟨by omega,fun _=>by omega⟩
   ·split at h
    ·have:=(ih _ _ h).2 (by simp);simp only[List.length_cons];exact⟨by omega,fun _=>by omega⟩
    ·have:=(ih _ _ h).2 (by simp);simp only[List.length_cons];exact⟨by omega,fun _=>by omega⟩
def sumW:List (Int × List UInt8) → Nat
 |[]=>0
 |x :: q=>x.2.length+sumW q
theorem tok_le {l:List UInt8}{k:Int}{n:Nat} (hl:l≠[]) (ht:tokL l=(k,(n:Int))):n ≤ l.length:=by
 have h0:0<(bs l).size:=by rw[bs_size];exact List.length_pos_iff.2 hl
 have:=(tokF_rng h0).2
 unfold tokL at ht
 rw[ht,bs_size]at this
 simp only at this;omega
theorem lxL_sum {l:List UInt8}{q:List (Int × List UInt8)} (h:LxL l q):q.length ≤ sumW q ∧ sumW q ≤ l.length:=by
 induction h with
 |done=>exact⟨Nat.le_refl _,Nat.le_refl _⟩
 |@tok l l' k n q hl ht hn hg h ih =>
  have h1:=tok_le hl ht
  have h2:=(gp_len _ _ _ hg).2 (by simp)
  simp only[sumW,List.length_cons,List.length_take,List.length_drop]at h2 ⊢
  omega
theorem list_lex {s:ByteArray}{q:List (Int × List UInt8)} (h0:s.size ≤ 8192) (hq:q.length ≤ 2500) (h:LexL s.data.toList q):∃ l,lexF s=.inr l ∧ l.map kt=q++[(0,[])]:=by
 obtain⟨l',h1,h2⟩:=h
 have hgg:=gapG_gp (s:=s) s.size 0 (Nat.zero_le _) (by omega)
 rw[List.drop_zero,h1]at hgg
 cases hok:(gapG s s.size 0).2 with
 |false=>rw[hok]at hgg;simp at hgg
 |true =>
  rw[hok,if_pos rfl]at hgg
  have hrg:=gapG_rng s s.size 0 (Nat.zero_le _)
  obtain⟨r,h3,h4⟩:=list_lx h2 _ hrg.2 (Option.some.inj hgg)
  have hlen:=congrArg List.length h4
  simp at hlen
  exact⟨r,lx_lexF h0 hok h3 (by omega),h4⟩
set_option linter.unusedVariables false
set_option linter.unusedSimpArgs false
theorem gp_idem:∀ (l:List UInt8) (m:Md) (r:List UInt8),gp m l=some r → r=[] ∨ gp .n r=some r
 |[],m,r,h=>by
  cases m<;>simp only[gp,Option.some.injEq,reduceCtorEq]at h<;>subst h
  ·exact .inl rfl
  ·exact .inl rfl
  ·exact .inr (by decide +kernel)
 |c :: l,m,r,h=>by
  have ih:=gp_idem l
  cases m with
  |n =>
   have h0:=h
   rw[gp]at h
   by_cases h1:blk c=true
   ·rw[if_pos h1]at h;exact ih _ _ h
   ·rw[if_neg h1]at h
    by_cases h2:c=47
    ·rw[if_pos h2]at h;exact ih _ _ h
    ·rw[if_neg h2]at h;cases h;exact .inr h0
  |ln =>
   rw[gp]at h
   by_cases h1:c=10
   ·rw[if_pos h1]at h;exact ih _ _ h
   ·rw[if_neg h1]at h;exact ih _ _ h
  |sl =>
   have h0:=h
   rw[gp]at h
   by_cases h1:c=47
   ·rw[if_pos h1]at h;exact ih _ _ h
   ·rw[if_neg h1]at h
    by_cases h2:c=42
    ·rw[if_pos h2]at h;exact ih _ _ h
    ·rw[if_neg h2]at h;cases h
     have e:gp .n (47 :: c :: l)=gp .sl (c :: l):=by rw[gp,if_neg (by decide +kernel),if_pos rfl]
     exact .inr (by rw[e];exact h0)
  |rm =>
   rw[gp]at h
   by_cases h1:c=42
   ·rw[if_pos h1]at h;exact ih _ _ h
   ·rw[if_neg h1]at h;exact ih _ _ h
  |st =>
   rw[gp]at h
   by_cases h1:c=47
   ·rw[if_pos h1]at h;exact ih _ _ h
   ·rw[if_neg h1]at h
    by_cases h2:c=42
    ·rw[if_pos h2]at h;exact ih _ _ h
    ·rw[if_neg h2]at h;exact ih _ _ h
theorem gp_stop {l:List UInt8}{n:Nat}{b:UInt8}{t:List UInt8} (h:gp .n l=some l) (hl:l≠[]) (hn:0<n) (hb:blkB b):gp .n (l.take n++b :: t)=some (l.take n++b :: t):=by
 obtain⟨c,l1,rfl⟩:∃ c l1,l=c :: l1:=by
  cases l with
  |nil=>exact absurd rfl hl
  |cons c l1=>exact⟨c,l1,rfl⟩
 obtain⟨n,rfl⟩:∃ m,n=m+1:=⟨n-1,by omega⟩
 rw[gp]at h
 rw[List.take_succ_cons,List.cons_append]
 by_cases h1:blk c=true
 ·rw[if_pos h1]at h
  have:=(gp_len _ _ _ h).2 (by simp)
  simp at this
  omega
 ·rw[if_neg h1]at h
  rw[gp,if_neg h1]
  by_cases h2:c=47
  ·subst h2
   rw[if_pos rfl]at h ⊢
   cases l1 with
   |nil =>
    rw[List.take_nil,List.nil_append,gp,if_neg (blkB_not hb).2.2.1,if_neg (blkB_not hb).2.2.2]
   |cons d l2 =>
    cases n with
    |zero=>rw[List.take_zero,List.nil_append,gp,if_neg (blkB_not hb).2.2.1,if_neg (blkB_not hb).2.2.2]
    |succ n =>
     rw[List.take_succ_cons,List.cons_append]
     rw[gp]at h
     rw[gp]
     by_cases d1:d=47
     ·rw[if_pos d1]at h
      have:=(gp_len _ _ _ h).2 (by simp)
      simp at this;omega
     ·rw[if_neg d1]at h ⊢
      by_cases d2:d=42
      ·rw[if_pos d2]at h
       have:=(gp_len _ _ _ h).2 (by simp)
       simp at this;omega
      ·rw[if_neg d2]
  ·rw[if_neg h2]
def txG (g:Nat → List UInt8):Nat → List (Int × List UInt8) → List UInt8
 |_,[]=>[]
 |i,x :: q=>x.2++(g i++txG g (i+1) q)
theorem lxL_blanks {g:Nat → List UInt8} (hg1:∀ i u,gp .n (g i++u)=gp .n u) (hg2:∀ i,∃ b t,g i=b :: t ∧ blkB b){L:List UInt8}{q:List (Int × List UInt8)} (h:LxL L q):(L=[] ∨ gp .n L=some L) → ∀ i,LxL (txG g i q) q ∧ gp .n (txG g i q)=some (txG g i q):=by
 induction h with
 |done=>intro _ i;exact⟨.done,rfl⟩
 |@tok l l' k n q hl ht hn hg h ih =>
  intro hs i
  have hs:=hs.resolve_left hl
  obtain⟨i1,i2⟩:=ih (gp_idem _ _ _ hg) (i+1)
  obtain⟨b,t,e,hb⟩:=hg2 i
  have hle:=tok_le hl ht
  have hlen:(l.take n).length=n:=by rw[List.length_take];omega
  have e0:txG g i ((k,l.take n) :: q)=l.take n++(g i++txG g (i+1) q):=rfl
  rw[e0]
  have htk:(l.take n++(g i++txG g (i+1) q)).take n=l.take n:=by
   rw[List.take_append_of_le_length (by omega),List.take_of_length_le (by omega)]
  have hdr:(l.take n++(g i++txG g (i+1) q)).drop n=g i++txG g (i+1) q:=by
   rw[List.drop_append_of_le_length (by omega),List.drop_of_length_le (by omega),List.nil_append]
  refine⟨?_,by rw[e,List.cons_append];exact gp_stop hs hl hn hb⟩
  have:=LxL.tok (l:=l.take n++(g i++txG g (i+1) q)) (by rw[e];simp) (tokL_local ht hn hl htk fun c hc=>?_) hn (by rw[hdr,hg1];exact i2) i1
  ·rw[htk]at this;exact this
  ·rw[e,List.cons_append,List.getElem?_append_right (by omega),hlen,Nat.sub_self]at hc
   cases hc
   exact .inr hb
theorem lexL_blanks {g:Nat → List UInt8} (hg1:∀ i u,gp .n (g i++u)=gp .n u) (hg2:∀ i,∃ b t,g i=b :: t ∧ blkB b){L:List UInt8}{q:List (Int × List UInt8)} (h:LexL L q):LexL (txG g 0 q) q:=by
 obtain⟨l',h1,h2⟩:=h
 obtain⟨h3,h4⟩:=lxL_blanks hg1 hg2 h2 (gp_idem _ _ _ h1) 0
 exact⟨_,h4,h3⟩
set_option linter.unusedVariables false
set_option linter.unusedSimpArgs false
section
variable (A B C:Nat) (fa fb fc:Nat → Tk) (G:Gv)
def ok6 (A:Nat):Bool:=(decide (0 ≤ IntKind.i64.wrap ((A:Int)-1))&&decide (IntKind.i64.wrap ((A:Int)-1) ≤ (A:Int))&&true||false)&&true
end
def scA9:Short:=scOf [con10]
theorem FOKA9:FnsOK Tryd.prog (lookF FL) scA9:=fok FOK _
noncomputable def scR (R:Sum (Nat × Int) (List Tk)):Short:=scOf [con11R R]
theorem FOKR (R:Sum (Nat × Int) (List Tk)):FnsOK Tryd.prog (lookF FL) (scR R):=fok FOK _
def rt9 (b:Bool) (n:Nat):Option Stop:=some ⟨⟨[some (true,.bool b)],[],.ret,n⟩,none⟩
set_option linter.unusedVariables false
set_option linter.unusedSimpArgs false
theorem kt_at {l:List Tk}{q:List (Int × List UInt8)} (h:l.map kt=q) (i:Nat) (hi:i<l.length):q[i]?=some (kt (l.getD i tk0)):=by
 rw[← h,List.getElem?_map,List.getElem?_eq_getElem hi,List.getD_eq_getElem?_getD,List.getElem?_eq_getElem hi];rfl
theorem kt_inj {a b:Tk} (h:kt a=kt b):a.kind=b.kind ∧ a.text.toList=b.text.toList:=by
 unfold kt at h
 rw[Prod.mk.injEq]at h
 exact⟨h.1,by rw[toList_data,toList_data,h.2]⟩
theorem bis_tkB {P:Program}{σ:Nm}{n:Nat}{f:Nat → Tk}:BIs P σ (tkB n f) (tkB n f):=⟨rfl,rfl,fun _ _=>rnL_tk,.inl rfl,.inr rfl⟩
set_option linter.unusedVariables false
set_option linter.unusedSimpArgs false
def gp4:List Value:=[.string ⟨#[32]⟩,.string ⟨#[9,10]⟩,.string ⟨#[32,47,42,32,42,47,32]⟩,.string ⟨#[32,47,47,32,39,10]⟩]
def gap4:Blk:=.var gp4
def gaB (L:Nat) (g:Nat → Int):Blk:=.rows L 1 (fun j=>[.int .u8 (g j)]) false true
abbrev pA (a:Nat):Value:=.pointer (some ⟨a,0,some 0⟩)
def vG (b:Bool) (L C:Nat):Value:=bif b then .slice (some ⟨40,0,none⟩) L C else .slice none 0 0
def exG (b:Bool) (L:Nat) (g:Nat → Int):List (Nat × Blk):=bif b then[(40,gaB L g)]else[]
def idG (b:Bool):List Nat:=bif b then 40 :: gIds else gIds
abbrev k6:List Nat:=[39,9,38,37,8,5,1]
abbrev v6 (i:Nat) (txt:ByteArray) (m N:Nat) (g:Value):List Value:=[.int .i64 (i:Int),.string txt,.int .i64 (m:Int),.slice (some ⟨100,0,none⟩) m N,pA 101,newS 100 N,g]
def gix (ga:Nat → Int) (L i:Nat):Int:=(ga (0+((i:Int).tmod (L:Int)).toNat)).tmod 4
def gst (x:Int):ByteArray:=asS (gp4.getD (0+x.toNat*1) undefd)
def app6 (txt w g:ByteArray):ByteArray:=⟨⟨(txt++w).data.toList++g.data.toList⟩⟩
def sv6 (s:ByteArray):Option (Bool × Value):=some (true,.string s)
section
variable (b:Bool) (L C:Nat) (ga:Nat → Int) (s:ByteArray) (G:Gv)
theorem p6_0:walk (lookF FL) scA9 1000 (.region x6_0) (argTm 0 [.string s,vG b L C]) (mkH (exG b L ga++glH G)) 100 ⟨[],[],[0,1],idG b⟩ ⟨[],[],[],[]⟩ ⟨[],[],[],[]⟩=some ⟨⟨[],[],.normal,100⟩,none⟩:=by cases b<;>kernel_rfl
theorem p6_5:walk (lookF FL) scA9 1000 x6_5 (mkT [0,1] [.string s,vG b L C]) (mkH (exG b L ga++glH G)) 100 ⟨[],[],[0,1],idG b⟩ ⟨[4],[],[],idG b⟩ ⟨[],[],[],[]⟩=bif decide ((s.size:Int)>700)then rt9 true 100 else some ⟨⟨[],[],.normal,100⟩,none⟩:=by cases b<;>kernel_rfl
theorem p6_67e (p:Nat) (e:Int) (he:e=10 ∨ e=3):walk (lookF FL) (scR (.inl (p,e))) 1000 x6_67 (mkT [0,1] [.string s,vG b L C]) (mkH (exG b L ga++glH G)) 100 ⟨[],[],[],[]⟩ ⟨[4],[],[],idG b⟩ ⟨[],[],[],[]⟩=bif (decP (lexF s=.inl (p,e))||false)&&true then rt9 true 100 else none:=by
 rcases he with rfl|rfl<;>cases b<;>kernel_rfl
theorem p6_6 (l:List Tk):walk (lookF FL) (scR (.inr l)) 1000 (.region x6_6) (mkT [0,1] [.string s,vG b L C]) (mkH (exG b L ga++glH G)) 100 ⟨[5,7],[.tmp 5],[1],idG b⟩ ⟨[],[],[],[]⟩ ⟨[],[],[],[]⟩=bif decP (lexF s=.inr l)&&true then some ⟨⟨[some (true,newS 100 l.length),iv 0],[(100,some (tkL l))],.normal,101⟩,none⟩else none:=by cases b<;>kernel_rfl
variable (N:Nat) (f:Nat → Tk)
theorem p6_11:walk (lookF FL) noSc 1000 x6_11 (mkT [5,7,1] [newS 100 N,.int .i64 0,vG b L C]) (mkH ((100,tkB N f) :: exG b L ga++glH G)) 101 ⟨[],[],[5,1],100 :: idG b⟩ ⟨[4],[],[],idG b⟩ ⟨[],[],[],[]⟩=some ⟨⟨[],[],.normal,101⟩,none⟩:=by cases b<;>kernel_rfl
theorem p6_12:walk (lookF FL) noSc 1000 (.region x6_12) (mkT [5,1] [newS 100 N,vG b L C]) (mkH ((100,tkB N f) :: exG b L ga++glH G)) 101 ⟨[8],[.tmp 8],[5,1],100 :: idG b⟩ ⟨[],[],[],[]⟩ ⟨[],[],[],[]⟩=some ⟨⟨[some (true,pA 101)],[(101,some gap4)],.normal,102⟩,none⟩:=by cases b<;>kernel_rfl
theorem p6_13:walk (lookF FL) noSc 1000 (.region x6_13) (mkT [8,5,1] [pA 101,newS 100 N,vG b L C]) (mkH ((101,gap4) :: (100,tkB N f) :: exG b L ga++glH G)) 102 ⟨[9],[],[8,5,1],101 :: 100 :: idG b⟩ ⟨[],[],[],[]⟩ ⟨[],[],[],[]⟩=some ⟨⟨[sv6 ⟨#[]⟩],[],.normal,102⟩,none⟩:=by cases b<;>kernel_rfl
theorem p6_33:walk (lookF FL) noSc 1000 x6_33 (mkT [9,8,5,1] [.string ⟨#[]⟩,pA 101,newS 100 N,vG b L C]) (mkH ((101,gap4) :: (100,tkB N f) :: exG b L ga++glH G)) 102 ⟨[],[],[],[]⟩ ⟨[],[],[],[]⟩ ⟨[39,9,38,37],[],[8,5,1],101 :: 100 :: idG b⟩=bif ok6 N then
  some ⟨⟨[iv 0,sv6 ⟨#[]⟩,iv (IntKind.i64.wrap ((N:Int)-1)-0).toNat,some (true,.slice (some ⟨100,0,none⟩) (IntKind.i64.wrap ((N:Int)-1)-0).toNat (N-0))],[],.normal,102⟩,some (x6_30,[.bl 0])⟩else none:=by cases b<;>kernel_rfl
variable (i m:Nat) (txt:ByteArray)
def nx6 (g:ByteArray):Option Stop:=some ⟨⟨[iv (IntKind.i64.wrap ((i:Int)+1)),sv6 (app6 txt (f (0+i)).text g)],[],.normal,103⟩,none⟩
def sp6:ByteArray:=⟨#[32]⟩
def szOK (t w g:ByteArray):Bool:=(decide ((t++w).size+g.size ≤ 9223372036854775807)&&true||false)
def fr6 (K:Option Stop):Option Stop:=bif decide ((i:Int)<(m:Int))then bif ((0+i).blt N&&true||false)&&((intRange i m&&true||false)&&true)then bif (decide (txt.size+(f (0+i)).text.size ≤ 9223372036854775807)&&true||false)&&true then K else none else none else some ⟨⟨[iv i,sv6 txt],[],.exit 0,102⟩,none⟩
theorem p6_ln:walk (lookF FL) noSc 1000 x6_30 (mkT k6 (v6 i txt m N (vG false L C))) (mkH ((101,gap4) :: (100,tkB N f) :: exG false L ga++glH G)) 102 ⟨[39,9],[],[38,37,8,5,1],101 :: 100 :: idG false⟩ ⟨[],[],[],[]⟩ ⟨[],[],[],[]⟩ =
  fr6 N f i m txt (bif szOK txt (f (0+i)).text sp6&&true then nx6 f i txt sp6 else none):=by kernel_rfl
theorem p6_lb:walk (lookF FL) noSc 1000 x6_30 (mkT k6 (v6 i txt m N (vG true L C))) (mkH ((101,gap4) :: (100,tkB N f) :: exG true L ga++glH G)) 102 ⟨[39,9],[],[38,37,8,5,1],101 :: 100 :: idG true⟩ ⟨[],[],[],[]⟩ ⟨[],[],[],[]⟩ =
  fr6 N f i m txt (bif decide ((L:Int)>0)then bif szOK txt (f (0+i)).text (gst (gix ga L i))&&(((0+(gix ga L i).toNat*1).blt 4&&isS (gp4.getD (0+(gix ga L i).toNat*1) undefd)&&true||false)&&((intRange (gix ga L i) 4&&true||false)&&(((0+((i:Int).tmod (L:Int)).toNat).blt L&&true||false)&&((intRange ((i:Int).tmod (L:Int)) L&&true||false)&&((!decide ((L:Int)=0)&&true||false)&&true)))))
   then nx6 f i txt (gst (gix ga L i))else none else bif szOK txt (f (0+i)).text sp6&&true then nx6 f i txt sp6 else none):=by kernel_rfl
theorem p6_34 (lm:List Tk):walk (lookF FL) (scR (.inr lm)) 1000 (.region x6_34) (mkT k6 (v6 i txt m N (vG b L C))) (mkH ((101,gap4) :: (100,tkB N f) :: exG b L ga++glH G)) 102 ⟨[12,14],[.tmp 12],[5],100 :: idG b⟩ ⟨[],[],[],[]⟩ ⟨[],[],[],[]⟩=bif decP (lexF txt=.inr lm)&&true then
  some ⟨⟨[some (true,newS 102 lm.length),iv 0],[(102,some (tkL lm))],.normal,103⟩,none⟩else none:=by cases b<;>kernel_rfl
variable (M:Nat) (h:Nat → Tk)
theorem p6_39:walk (lookF FL) noSc 1000 x6_39 (mkT [12,14,5] [newS 102 M,.int .i64 0,newS 100 N]) (mkH ((102,tkB M h) :: (100,tkB N f) :: exG b L ga++glH G)) 103 ⟨[],[],[12,5],102 :: 100 :: idG b⟩ ⟨[4],[],[],idG b⟩ ⟨[],[],[],[]⟩=bif (M:Int) != (N:Int)then rt9 false 103 else some ⟨⟨[],[],.normal,103⟩,none⟩:=by cases b<;>kernel_rfl
theorem p6_57:walk (lookF FL) noSc 1000 x6_57 (mkT [12,5] [newS 102 M,newS 100 N]) (mkH ((102,tkB M h) :: (100,tkB N f) :: exG b L ga++glH G)) 103 ⟨[],[],[],[]⟩ ⟨[],[],[],[]⟩ ⟨[83,82],[],[12,5],102 :: 100 :: idG b⟩=some ⟨⟨[iv 0,iv N],[],.normal,103⟩,some (x6_54,[.bl 2])⟩:=by cases b<;>kernel_rfl
def gl6 (b u v x y:Bool):Bool:=((!b||b)&&true||false)&&((!b&&(!b&&true)||!!b)&&((u&&(!b&&true)||!!b)&&((!b&&true||!!b)&&((v&&(!b&&(!b&&true))||!!b)&&((x&&(!b&&true)||!!b)&&((!b&&true||!!b)&&((y&&(!b&&(!b&&true))||!!b)&&((u&&true||false)&&((v&&true||false)&&((x&&true||false)&&((y&&true||false)&&true)))))))))))
theorem p6_l2:walk (lookF FL) noSc 1000 x6_54 (mkT [83,82,12,5] [.int .i64 (i:Int),.int .i64 (N:Int),newS 102 M,newS 100 N]) (mkH ((102,tkB M h) :: (100,tkB N f) :: exG b L ga++glH G)) 103 ⟨[83],[],[82,12,5],102 :: 100 :: idG b⟩ ⟨[4],[],[],idG b⟩ ⟨[],[],[],[]⟩=bif decide ((i:Int)<(N:Int))then
  bif gl6 ((f (0+i)).kind != (h (0+i)).kind) ((0+i).blt M) (intRange i M) ((0+i).blt N) (intRange i N)then bif bif (f (0+i)).kind != (h (0+i)).kind then true else !((f (0+i)).text.toList==(h (0+i)).text.toList)then rt9 false 103 else some ⟨⟨[iv (IntKind.i64.wrap ((i:Int)+1))],[],.normal,103⟩,none⟩else none
  else some ⟨⟨[iv i],[],.exit 2,103⟩,none⟩:=by cases b<;>kernel_rfl
theorem p6_59:walk (lookF FL) noSc 1000 x6_59 (mkT [83,82,12,5] [.int .i64 (i:Int),.int .i64 (N:Int),newS 102 M,newS 100 N]) (mkH ((102,tkB M h) :: (100,tkB N f) :: exG b L ga++glH G)) 103 ⟨[],[],[],[]⟩ ⟨[4],[],[],idG b⟩ ⟨[],[],[],[]⟩=rt9 true 103:=by cases b<;>kernel_rfl
end
theorem gl6_true:∀ b u v x y:Bool,u=true → v=true → x=true → y=true → gl6 b u v x y=true:=by decide
def gI (b:Bool) (L:Nat) (ga:Nat → Int) (i:Nat):ByteArray:=bif b&&decide ((L:Int)>0)then gst (gix ga L i)else sp6
theorem gst_cases {x:Int} (h0:0 ≤ x) (h:x<4):gst x=⟨#[32]⟩ ∨ gst x=⟨#[9,10]⟩ ∨ gst x=⟨#[32,47,42,32,42,47,32]⟩ ∨ gst x=⟨#[32,47,47,32,39,10]⟩:=by
 obtain⟨n,rfl⟩:∃ n:Nat,x=(n:Int):=⟨x.toNat,by omega⟩
 have:n=0 ∨ n=1 ∨ n=2 ∨ n=3:=by omega
 rcases this with rfl|rfl|rfl|rfl
 ·exact .inl rfl
 ·exact .inr (.inl rfl)
 ·exact .inr (.inr (.inl rfl))
 ·exact .inr (.inr (.inr rfl))
theorem gi_rng {ga:Nat → Int}{L:Nat} (hL:∀ j,j<L → 0 ≤ ga j ∧ ga j<256) (h:0<L) (i:Nat):0 ≤ gix ga L i ∧ gix ga L i<4 ∧ ((i:Int).tmod (L:Int))=((i % L:Nat):Int) ∧ i % L<L:=by
 have h1:((i:Int).tmod (L:Int))=((i % L:Nat):Int):=by rw[Int.tmod_eq_emod_of_nonneg (by omega)];omega
 have h2:i % L<L:=Nat.mod_lt _ h
 unfold gix
 rw[h1,Int.toNat_natCast,Nat.zero_add]
 obtain⟨h3,h4⟩:=hL _ h2
 have h5:=Int.tmod_nonneg 4 h3
 have h6:=Int.tmod_lt_of_pos (ga (i % L)) (show(0:Int)<4 by decide)
 exact⟨h5,h6,rfl,h2⟩
theorem gI_cases {b:Bool}{L:Nat}{ga:Nat → Int} (hL:∀ j,j<L → 0 ≤ ga j ∧ ga j<256) (i:Nat):gI b L ga i=⟨#[32]⟩ ∨ gI b L ga i=⟨#[9,10]⟩ ∨ gI b L ga i=⟨#[32,47,42,32,42,47,32]⟩ ∨ gI b L ga i=⟨#[32,47,47,32,39,10]⟩:=by
 unfold gI
 cases b with
 |false=>exact .inl rfl
 |true =>
  by_cases h:0<L
  ·rw[decide_eq_true (by omega)]
   obtain⟨h1,h2,_⟩:=gi_rng hL h i
   exact gst_cases h1 h2
  ·rw[decide_eq_false (by omega)];exact .inl rfl
def gL (b:Bool) (L:Nat) (ga:Nat → Int) (i:Nat):List UInt8:=(gI b L ga i).data.toList
theorem gp_lit:∀ u:List UInt8,gp .n (32 :: u)=gp .n u ∧ gp .n (9 :: 10 :: u)=gp .n u ∧ gp .n (32 :: 47 :: 42 :: 32 :: 42 :: 47 :: 32 :: u)=gp .n u ∧ gp .n (32 :: 47 :: 47 :: 32 :: 39 :: 10 :: u)=gp .n u:=fun u=>by
 have b32:blk 32=true:=by decide +kernel
 have b9:blk 9=true:=by decide +kernel
 have b47:blk 47=false:=by decide +kernel
 refine⟨?_,?_,?_,?_⟩<;>simp[gp,b32,b9,b47,blk10]
theorem gL_ok {b:Bool}{L:Nat}{ga:Nat → Int} (hL:∀ j,j<L → 0 ≤ ga j ∧ ga j<256) (i:Nat):(∀ u,gp .n (gL b L ga i++u)=gp .n u) ∧ (∃ c t,gL b L ga i=c :: t ∧ blkB c) ∧ (gL b L ga i).length ≤ 7:=by
 unfold gL
 rcases gI_cases (b:=b) hL i with h|h|h|h<;>rw[h]
 ·exact⟨fun u=>(gp_lit u).1,⟨32,[],rfl,.inl rfl⟩,by decide⟩
 ·exact⟨fun u=>(gp_lit u).2.1,⟨9,[10],rfl,.inr (.inl rfl)⟩,by decide⟩
 ·exact⟨fun u=>(gp_lit u).2.2.1,⟨32,_,rfl,.inl rfl⟩,by decide⟩
 ·exact⟨fun u=>(gp_lit u).2.2.2,⟨32,_,rfl,.inl rfl⟩,by decide⟩
theorem txG_len {g:Nat → List UInt8} (hg:∀ i,(g i).length ≤ 7):∀ (q:List (Int × List UInt8)) (i:Nat),(txG g i q).length ≤ sumW q+7*q.length
 |[],i=>Nat.zero_le _
 |x :: q,i=>by
  have:=txG_len hg q (i+1)
  have h2:=hg i
  simp only[txG,sumW,List.length_append,List.length_cons]
  omega
end Go.X
