import Derived.Test.YtghpjlmaamnnpaaDoorF26
import Derived.Laws.Bits64
set_option linter.all false
namespace Go.X
open Go Go.Proofs
set_option linter.unusedVariables false
set_option linter.unusedSimpArgs false
noncomputable def con11R (R:Sum (Nat × Int) (List Tk)):Con Tryd.prog where
 f:=11
 run:=fun vs h n=>match vs,getG h with
  |[.string s],some G=>match R with
   | .inl (p,e)=>some (mkH (glH G),.tuple ⟨[.slice none 0 0,.int .i64 (p:Int),.int .i64 e]⟩,[],0,decP (lexF s=R))
   | .inr l=>some (mkH (glH G),.tuple ⟨[newS n l.length,.int .i64 0,.int .i64 0]⟩,[(n,some (tkL l))],1,Nat.ble 20 n&&decP (lexF s=R))
  |_,_=>none
 ok:=fun vs h n pre v upd news hx=>by
  split at hx
  ·rename_i s G hg
   split at hx
   ·simp only[Option.some.injEq,Prod.mk.injEq]at hx
    obtain⟨rfl,rfl,rfl,rfl,hs⟩:=hx
    exact⟨getG_ok hg,c11_err (of_decP hs) n⟩
   ·simp only[Option.some.injEq,Prod.mk.injEq,Bool.and_eq_true]at hx
    obtain⟨rfl,rfl,rfl,rfl,hs,hr⟩:=hx
    rw[Nat.ble_eq]at hs
    exact⟨getG_ok hg,c11_ok (of_decP hr) n hs⟩
  ·cases hx
set_option linter.unusedVariables false
set_option linter.unusedSimpArgs false
def tokN (s:ByteArray) (p:Nat):Nat:=(tokF (rest s p)).2.toNat
def tkAt (s:ByteArray) (p:Nat):Tk:=⟨(tokF (rest s p)).1,s.extract p (p+tokN s p),p⟩
inductive Lx (s:ByteArray):Nat → List Tk → Prop
 |done {p:Nat} (hp:p=s.size):Lx s p [⟨0,⟨#[]⟩,s.size⟩]
 |tok {p:Nat}{l:List Tk} (hp:p<s.size) (hz:(tokF (rest s p)).2≠0) (hg:(gapG s s.size (p+tokN s p)).2=true) (h:Lx s (gapG s s.size (p+tokN s p)).1 l):Lx s p (tkAt s p :: l)
theorem tokN_rng {s:ByteArray}{p:Nat} (hp:p<s.size) (hz:(tokF (rest s p)).2≠0):0<tokN s p ∧ p+tokN s p ≤ s.size ∧ (tokF (rest s p)).2=(tokN s p:Int):=by
 have h:=tokF_rng (s:=rest s p) (by rw[rest_size];omega)
 rw[rest_size]at h
 unfold tokN
 omega
theorem lexG_lx {s:ByteArray}:∀ {f p:Nat} {l l':List Tk}{ok:Bool},p ≤ s.size → lexG s f l p ok=.inr l' → ok=true ∧ ∃ r,l'=l++r ∧ Lx s p r
 |0,p,l,l',ok,_,h=>by cases h
 |f+1,p,l,l',ok,hp,h=>by
  rw[lexG]at h
  cases ok with
  |false=>cases h
  |true =>
   simp only[Bool.not_true,cond_false]at h
   refine⟨rfl,?_⟩
   cases hpe:Nat.beq p s.size with
   |true =>
    rw[hpe]at h
    have:=Nat.eq_of_beq_eq_true hpe
    subst this
    cases h
    exact⟨_,rfl,.done rfl⟩
   |false =>
    rw[hpe,cond_false]at h
    have hlt:p<s.size:=by
     rcases Nat.lt_or_ge p s.size with h|h
     ·exact h
     ·have:p=s.size:=by omega
      rw[this,Nat.beq_refl]at hpe;cases hpe
    cases hz:(tokF (rest s p)).2==0 with
    |true=>rw[hz]at h;cases h
    |false =>
     rw[hz,cond_false]at h
     have hz':(tokF (rest s p)).2≠0:=fun h=>by rw[h]at hz;cases hz
     cases hm:Nat.beq l.length 2500 with
     |true=>rw[hm]at h;cases h
     |false =>
      rw[hm,cond_false]at h
      obtain⟨h1,h2,h3⟩:=tokN_rng hlt hz'
      obtain⟨g1,r,rfl,g2⟩:=lexG_lx (gapG_rng s s.size (p+tokN s p) h2).2 h
      exact⟨tkAt s p :: r,by simp[tkAt,tokN],.tok hlt hz' g1 g2⟩
theorem lx_lexG {s:ByteArray}{p:Nat}{r:List Tk} (h:Lx s p r):∀ {f:Nat}{l:List Tk},s.size-p<f → l.length+r.length ≤ 2501 → lexG s f l p true=.inr (l++r):=by
 induction h with
 |done hp =>
  intro f l hf _
  subst hp
  obtain⟨f,rfl⟩:∃ f',f=f'+1:=⟨f-1,by omega⟩
  simp only[lexG,Bool.not_true,Nat.beq_refl,cond_true,cond_false]
 |@tok p r hp hz hg h ih =>
  intro f l hf hl
  obtain⟨f,rfl⟩:∃ f',f=f'+1:=⟨f-1,by omega⟩
  obtain⟨h1,h2,h3⟩:=tokN_rng hp hz
  have hgr:=gapG_rng s s.size (p+tokN s p) h2
  have e1:Nat.beq p s.size=false:=by
   cases hb:Nat.beq p s.size with
   |false=>rfl
   |true=>have:=Nat.eq_of_beq_eq_true hb;omega
  have e2:((tokF (rest s p)).2==0)=false:=by simp[hz]
  have h4:1 ≤ r.length:=by cases h<;>simp
  have e3:Nat.beq l.length 2500=false:=by
   cases hb:Nat.beq l.length 2500 with
   |false=>rfl
   |true=>have:=Nat.eq_of_beq_eq_true hb;simp only[List.length_cons]at hl;omega
  simp only[lexG,e1,e2,e3,Bool.not_true,cond_false]
  have:=ih (f:=f) (l:=l++[tkAt s p]) (by omega) (by simp only[List.length_append,List.length_cons,List.length_nil]at hl ⊢;omega)
  rw[show(gapG s s.size (p+(tokF (rest s p)).2.toNat)).2=true from hg]
  rw[List.append_assoc]at this
  exact this
theorem lexF_lx {s:ByteArray}{l:List Tk} (h:lexF s=.inr l):s.size ≤ 8192 ∧ (gapG s s.size 0).2=true ∧ Lx s (gapG s s.size 0).1 l:=by
 unfold lexF at h
 by_cases hb:(s.size:Int)>8192
 ·rw[decide_eq_true hb]at h;cases h
 ·rw[decide_eq_false hb,cond_false]at h
  obtain⟨h1,r,h2,h3⟩:=lexG_lx (gapG_rng s s.size 0 (Nat.zero_le _)).2 h
  rw[List.nil_append]at h2
  subst h2
  exact⟨by omega,h1,h3⟩
theorem lx_lexF {s:ByteArray}{l:List Tk} (h0:s.size ≤ 8192) (h1:(gapG s s.size 0).2=true) (h2:Lx s (gapG s s.size 0).1 l) (hl:l.length ≤ 2501):lexF s=.inr l:=by
 unfold lexF
 rw[decide_eq_false (by omega),cond_false,h1]
 have:=lx_lexG h2 (f:=s.size+1) (l:=[]) (by omega) (by simpa using hl)
 simpa using this
theorem lexG_len {s:ByteArray}:∀ {f p:Nat} {l l':List Tk}{ok:Bool},l.length ≤ 2500 → lexG s f l p ok=.inr l' → l'.length ≤ 2501
 |0,p,l,l',ok,_,h=>by cases h
 |f+1,p,l,l',ok,hl,h=>by
  rw[lexG]at h
  cases ok with
  |false=>cases h
  |true =>
   simp only[Bool.not_true,cond_false]at h
   cases hpe:Nat.beq p s.size with
   |true=>rw[hpe]at h;cases h;simpa using hl
   |false =>
    rw[hpe,cond_false]at h
    cases hz:(tokF (rest s p)).2==0 with
    |true=>rw[hz]at h;cases h
    |false =>
     rw[hz,cond_false]at h
     cases hm:Nat.beq l.length 2500 with
     |true=>rw[hm]at h;cases h
     |false =>
      rw[hm,cond_false]at h
      refine lexG_len ?_ h
      have:l.length≠2500:=fun h=>by rw[h]at hm;cases hm
      simp;omega
theorem lexF_len {s:ByteArray}{l:List Tk} (h:lexF s=.inr l):l.length ≤ 2501:=by
 unfold lexF at h
 by_cases hb:(s.size:Int)>8192
 ·rw[decide_eq_true hb]at h;cases h
 ·rw[decide_eq_false hb,cond_false]at h
  exact lexG_len (by simp) h
theorem lexG_err {s:ByteArray}:∀ {f p:Nat}{l:List Tk}{ok:Bool}{q:Nat}{e:Int},lexG s f l p ok=.inl (q,e) → e=10 ∨ e=3
 |0,p,l,ok,q,e,h=>by cases h;exact .inl rfl
 |f+1,p,l,ok,q,e,h=>by
  rw[lexG]at h
  cases ok with
  |false=>cases h;exact .inl rfl
  |true =>
   simp only[Bool.not_true,cond_false]at h
   cases hpe:Nat.beq p s.size with
   |true=>rw[hpe]at h;cases h
   |false =>
    rw[hpe,cond_false]at h
    cases hz:(tokF (rest s p)).2==0 with
    |true=>rw[hz]at h;cases h;exact .inl rfl
    |false =>
     rw[hz,cond_false]at h
     cases hm:Nat.beq l.length 2500 with
     |true=>rw[hm]at h;cases h;exact .inr rfl
     |false=>rw[hm,cond_false]at h;exact lexG_err h
theorem lexF_err {s:ByteArray}{q:Nat}{e:Int} (h:lexF s=.inl (q,e)):e=10 ∨ e=3:=by
 unfold lexF at h
 by_cases hb:(s.size:Int)>8192
 ·rw[decide_eq_true hb]at h;cases h;exact .inr rfl
 ·rw[decide_eq_false hb,cond_false]at h
  exact lexG_err h
set_option linter.unusedVariables false
set_option linter.unusedSimpArgs false
set_option linter.unusedVariables false
set_option linter.unusedSimpArgs false
def at_ (l:List UInt8) (i:Nat):Nat:=(l.getD i 0).toNat
theorem drop_at {l:List UInt8}{i:Nat} (h:i<l.length):∃ c,l.drop i=c :: l.drop (i+1) ∧ c.toNat=at_ l i:=by
 refine⟨l[i],List.drop_eq_getElem_cons h,?_⟩
 simp[at_,List.getD,h]
theorem toList_data (s:ByteArray):s.toList=s.data.toList:=by
 simp[ByteArray.toList_eq]
set_option linter.unusedVariables false
set_option linter.unusedSimpArgs false
set_option linter.unusedVariables false
set_option linter.unusedSimpArgs false
def blk (c:UInt8):Bool:=blank (c.toNat:Int)
inductive Md where
 |n|ln|rm|sl|st
def gp:Md → List UInt8 → Option (List UInt8)
 | .n,[]=>some []
 | .ln,[]=>some []
 | .sl,[]=>some [47]
 | .rm,[]=>none
 | .st,[]=>none
 | .n,c :: l=>if blk c then gp .n l else if c=47 then gp .sl l else some (c :: l)
 | .ln,c :: l=>if c=10 then gp .n l else gp .ln l
 | .sl,c :: l=>if c=47 then gp .ln l else if c=42 then gp .rm l else some (47 :: c :: l)
 | .rm,c :: l=>if c=42 then gp .st l else gp .rm l
 | .st,c :: l=>if c=47 then gp .n l else if c=42 then gp .st l else gp .rm l
theorem blk10:blk 10=true:=by decide +kernel
theorem line_no:∀ {t:List UInt8},Lib.indexByte t 10<0 → gp .ln t=some []
 |[],_=>rfl
 |c :: l,h=>by
  unfold Lib.indexByte at h
  by_cases hc:(c==10)=true
  ·rw[if_pos hc]at h;omega
  ·rw[if_neg hc]at h
   have hge:=Lib.indexByte_ge l 10
   have:Lib.indexByte l 10<0:=by
    split at h
    ·rename_i e;have:=eq_of_beq e;omega
    ·rename_i e
     have hne:Lib.indexByte l 10≠-1:=fun x=>e (by rw[x];rfl)
     omega
   rw[gp,if_neg (by simpa using hc)]
   exact line_no this
theorem line_at:∀ {t:List UInt8}{o:Nat},Lib.indexByte t 10=(o:Int) → gp .ln t=gp .n (t.drop o)
 |[],o,h=>by unfold Lib.indexByte at h;omega
 |c :: l,o,h=>by
  unfold Lib.indexByte at h
  by_cases hc:(c==10)=true
  ·rw[if_pos hc]at h
   have:o=0:=by omega
   subst this
   have hc:=eq_of_beq hc
   subst hc
   have e1:gp .n (10 :: l)=gp .n l:=by rw[gp,if_pos blk10]
   have e2:gp .ln (10 :: l)=gp .n l:=by rw[gp,if_pos rfl]
   rw[List.drop_zero,e1,e2]
  ·rw[if_neg hc]at h
   have hge:=Lib.indexByte_ge l 10
   rw[gp,if_neg (by simpa using hc)]
   split at h
   ·omega
   ·obtain⟨o,rfl⟩:∃ q,o=q+1:=⟨o-1,by rename_i e;have hne:Lib.indexByte l 10≠-1:=fun x=>e (by rw[x];rfl);omega⟩
    rw[List.drop_succ_cons]
    exact line_at (by omega)
theorem pre2 {c:UInt8}{l:List UInt8}:([42,47]:List UInt8).isPrefixOf (c :: l)=true ↔ c=42 ∧ ∃ l',l=47 :: l':=by
 constructor
 ·intro h
  obtain⟨t,ht⟩:=List.isPrefixOf_iff_prefix.1 h
  simp only[List.cons_append,List.nil_append,List.cons.injEq]at ht
  exact⟨ht.1.symm,t,ht.2.symm⟩
 ·rintro⟨rfl,l',rfl⟩
  simp[List.isPrefixOf]
theorem rem_step {c:UInt8}{l:List UInt8} (h:¬ ([42,47]:List UInt8).isPrefixOf (c :: l)=true):gp .rm (c :: l)=gp .rm l:=by
 by_cases hc:c=42
 ·subst hc
  rw[gp,if_pos rfl]
  cases l with
  |nil=>rfl
  |cons d l' =>
   have:d≠47:=fun e=>h (pre2.2 ⟨rfl,l',by rw[e]⟩)
   rw[gp,gp,if_neg this]
 ·rw[gp,if_neg hc]
theorem rem_no:∀ {t:List UInt8},Lib.index t [42,47]<0 → gp .rm t=none
 |[],_=>rfl
 |c :: l,h=>by
  unfold Lib.index at h
  by_cases hp:([42,47]:List UInt8).isPrefixOf (c :: l)=true
  ·rw[if_pos hp]at h;omega
  ·rw[if_neg hp]at h
   rw[rem_step hp]
   have hge:=Lib.index_ge l [42,47]
   refine rem_no ?_
   split at h
   ·rename_i e;have:=eq_of_beq e;omega
   ·rename_i e
    have hne:Lib.index l [42,47]≠-1:=fun x=>e (by rw[x];rfl)
    omega
theorem rem_at:∀ {t:List UInt8}{o:Nat},Lib.index t [42,47]=(o:Int) → gp .rm t=gp .n (t.drop (o+2))
 |[],o,h=>by
  unfold Lib.index at h
  rw[if_neg (by simp)]at h;omega
 |c :: l,o,h=>by
  unfold Lib.index at h
  by_cases hp:([42,47]:List UInt8).isPrefixOf (c :: l)=true
  ·rw[if_pos hp]at h
   have:o=0:=by omega
   subst this
   obtain⟨rfl,l',rfl⟩:=pre2.1 hp
   rfl
  ·rw[if_neg hp]at h
   rw[rem_step hp]
   have hge:=Lib.index_ge l [42,47]
   split at h
   ·omega
   ·obtain⟨o,rfl⟩:∃ q,o=q+1:=⟨o-1,by rename_i e;have hne:Lib.index l [42,47]≠-1:=fun x=>e (by rw[x];rfl);omega⟩
    rw[show o+1+2=(o+2)+1 by omega,List.drop_succ_cons]
    exact rem_at (by omega)
theorem blank_c (c:UInt8):blank (c.toNat:Int)=blk c:=rfl
theorem rest_at {s:ByteArray}{k:Nat} (hk:k<s.size):∃ c l,s.data.toList.drop k=c :: l ∧ byteAt (rest s k) 0=(c.toNat:Int):=by
 have h:k<s.data.toList.length:=by rw[← Lib.size_eq];exact hk
 refine⟨s.data.toList[k],_,List.drop_eq_getElem_cons h,?_⟩
 unfold byteAt
 rw[rest_list,List.drop_eq_getElem_cons h]
 rfl
theorem hasP_rest {s p:ByteArray}{k:Nat}:hasP (rest s k) p=p.data.toList.isPrefixOf (s.data.toList.drop k):=by
 unfold hasP Lib.hasPrefix
 rw[rest_list]
theorem gapG_gp {s:ByteArray}:∀ (f k:Nat),k ≤ s.size → s.size-k ≤ f → gp .n (s.data.toList.drop k)=if (gapG s f k).2=true then some (s.data.toList.drop (gapG s f k).1)else none
 |0,k,hk,hf=>by
  have:s.data.toList.drop k=[]:=by rw[List.drop_eq_nil_iff,← Lib.size_eq];omega
  show _=if true=true then some (s.data.toList.drop k)else none
  rw[this];rfl
 |f+1,k,hk,hf=>by
  by_cases hlt:k<s.size
  ·obtain⟨c,l,hd,hc⟩:=rest_at hlt
   have hdr:s.data.toList.drop (k+1)=l:=by rw[← List.drop_drop,hd];rfl
   rw[gapG,lt_blt hlt,hc,blank_c,hasP_rest,hasP_rest,hd]
   simp only[cond_true]
   have e1:gp .n (c :: l)=if blk c then gp .n l else if c=47 then gp .sl l else some (c :: l):=by rw[gp]
   rw[e1]
   cases hb:blk c with
   |true =>
    rw[if_pos rfl,cond_true,← hdr]
    exact gapG_gp f (k+1) hlt (by omega)
   |false =>
    rw[if_neg (by simp),cond_false]
    have hs2:sl2.data.toList=[47,47]:=rfl
    have hsS:slS.data.toList=[47,42]:=rfl
    rw[hs2,hsS]
    by_cases h47:c=47
    ·subst h47
     rw[if_pos rfl]
     cases l with
     |nil=>rw[show([47,47]:List UInt8).isPrefixOf [47]=false from rfl,show([47,42]:List UInt8).isPrefixOf [47]=false from rfl];simp only[cond_false,if_true];rw[hd];rfl
     |cons d t =>
      have e2:gp .sl (d :: t)=if d=47 then gp .ln t else if d=42 then gp .rm t else some (47 :: d :: t):=by rw[gp]
      rw[e2]
      have hx:∀ x:UInt8,([47,x]:List UInt8).isPrefixOf (47 :: d :: t)=(x==d):=fun x=>by simp[List.isPrefixOf]
      rw[hx,hx]
      by_cases hd47:d=47
      ·subst hd47
       rw[if_pos rfl,show((47:UInt8)==47)=true from rfl,cond_true]
       have hix:ixB (rest s k) 10=Lib.indexByte (47 :: 47 :: t) 10:=by unfold ixB;rw[rest_list,hd];rfl
       have hi2:Lib.indexByte (47 :: 47 :: t) 10=if Lib.indexByte t 10=-1 then -1 else Lib.indexByte t 10+2:=by
        have hge:=Lib.indexByte_ge t 10
        have s1:∀ l:List UInt8,Lib.indexByte (47 :: l) 10=if Lib.indexByte l 10=-1 then -1 else Lib.indexByte l 10+1:=fun l=>by
         rw[Lib.indexByte,if_neg (by decide)]
         by_cases h:Lib.indexByte l 10=-1
         ·rw[if_pos (by rw[h];rfl),if_pos h]
         ·rw[if_neg (by simpa using h),if_neg h]
        rw[s1,s1]
        by_cases h:Lib.indexByte t 10=-1
        ·rw[if_pos h,if_pos rfl,if_pos h]
        ·rw[if_neg h,if_neg h,if_neg (by omega)];omega
       rw[hix,hi2]
       have hge:=Lib.indexByte_ge t 10
       by_cases h:Lib.indexByte t 10=-1
       ·rw[if_pos h]
        rw[show decide ((-1:Int)<0)=true from rfl,cond_true,gapG_end (Nat.lt_irrefl _),line_no (by omega)]
        simp only[if_true]
        rw[show s.data.toList.drop s.size=[] by rw[List.drop_eq_nil_iff,← Lib.size_eq];omega]
       ·rw[if_neg h,decide_eq_false (by omega),cond_false]
        obtain⟨o,ho⟩:∃ o:Nat,Lib.indexByte t 10=(o:Int):=⟨(Lib.indexByte t 10).toNat,by omega⟩
        have hfit:=ixB_fit s k (by rw[hasP_rest,hd];rfl) (by rw[hix,hi2,if_neg h];omega)
        obtain⟨o',h1,h2,h3⟩:=hfit
        rw[hix,hi2,if_neg h]at h1
        rw[line_at ho,ho,show(((o:Int)+2).toNat)=o+2 by omega]
        have:s.data.toList.drop (k+(o+2))=t.drop o:=by
         rw[← List.drop_drop,hd,show o+2=(o+1)+1 by omega,List.drop_succ_cons,List.drop_succ_cons]
        rw[← this]
        exact gapG_gp f (k+(o+2)) (by omega) (by omega)
      ·rw[if_neg hd47,show((47:UInt8)==d)=false by simpa using fun e=>hd47 e.symm,cond_false]
       by_cases hd42:d=42
       ·subst hd42
        rw[if_pos rfl,show((42:UInt8)==42)=true from rfl,cond_true]
        have hix:ixS (rest (rest s k) 2) sSl=Lib.index t [42,47]:=by
         unfold ixS
         rw[rest_list,rest_list,hd];rfl
        rw[hix]
        have hge:=Lib.index_ge t [42,47]
        by_cases h:Lib.index t [42,47]<0
        ·rw[decide_eq_true h,cond_true,rem_no h];rfl
        ·rw[decide_eq_false h,cond_false]
         obtain⟨o,ho⟩:∃ o:Nat,Lib.index t [42,47]=(o:Int):=⟨(Lib.index t [42,47]).toNat,by omega⟩
         have hfit:=index_fit [42,47] t (by omega)
         have htl:t.length+2=s.size-k:=by
          have:=congrArg List.length hd
          rw[List.length_drop,← Lib.size_eq]at this
          simp at this;omega
         rw[ho]at hfit
         rw[rem_at ho,ho,Int.toNat_natCast]
         have:s.data.toList.drop (k+o+4)=t.drop (o+2):=by
          rw[show k+o+4=k+(o+4) by omega,← List.drop_drop,hd,show o+4=(o+2+1)+1 by omega,List.drop_succ_cons,List.drop_succ_cons]
         rw[← this]
         simp at hfit
         exact gapG_gp f (k+o+4) (by omega) (by omega)
       ·rw[if_neg hd42,show((42:UInt8)==d)=false by simpa using fun e=>hd42 e.symm,cond_false]
        simp only[if_true];rw[hd]
    ·rw[if_neg h47]
     have hx:∀ x:UInt8,([47,x]:List UInt8).isPrefixOf (c :: l)=false:=fun x=>by
      simp only[List.isPrefixOf,Bool.and_eq_false_imp,beq_iff_eq]
      intro e;exact absurd e.symm h47
     rw[hx,hx]
     simp only[cond_false,if_true];rw[hd]
  ·rw[gapG_end hlt]
   have:s.data.toList.drop k=[]:=by rw[List.drop_eq_nil_iff,← Lib.size_eq];omega
   simp only[if_true]
   rw[this];rfl
set_option linter.unusedVariables false
set_option linter.unusedSimpArgs false
def aln (c:UInt8):Bool:=alnum (c.toNat:Int)
def tokL (l:List UInt8):Int × Int:=tokF (bs l)
theorem rest_bs (s:ByteArray) (p:Nat):rest s p=bs (s.data.toList.drop p):=by
 have:(rest s p).data.toList=s.data.toList.drop p:=rest_list s p
 unfold bs
 rw[← this]
theorem byteAt_bs (l:List UInt8) (k:Nat):byteAt (bs l) k=(at_ l k:Int):=rfl
theorem span_list (l:List UInt8):∀ (f k:Nat),k+f=l.length → spanG (fun k=>alnum (byteAt (bs l) k)) f k=k+((l.drop k).takeWhile aln).length
 |0,k,h=>by
  have:l.drop k=[]:=by rw[List.drop_eq_nil_iff];omega
  rw[this];rfl
 |f+1,k,h=>by
  obtain⟨c,h1,h2⟩:=drop_at (l:=l) (i:=k) (by omega)
  rw[spanG,byteAt_bs,h1,List.takeWhile_cons,← h2]
  cases ha:alnum (c.toNat:Int)with
  |true =>
   rw[show aln c=true from ha,if_pos rfl,cond_true,span_list l f (k+1) (by omega),List.length_cons]
   omega
  |false=>rw[show aln c=false from ha,if_neg (by simp)];rfl
theorem span_eq (l:List UInt8):spanF (bs l)=(l.takeWhile aln).length:=by
 unfold spanF
 rw[span_list l _ 0 (by rw[bs_size];omega)]
 simp
theorem ext_bs (l:List UInt8) (n:Nat):(bs l).extract 0 n=bs (l.take n):=by
 have:((bs l).extract 0 n).data.toList=l.take n:=by rw[ext_list];rfl
 rw[show bs (l.take n)=⟨⟨l.take n⟩⟩ from rfl,← this]
def blkB (c:UInt8):Prop:=c=32 ∨ c=9 ∨ c=10 ∨ c=13
theorem blkB_not {c:UInt8} (h:blkB c):aln c=false ∧ blk c=true ∧ c≠47 ∧ c≠42:=by
 rcases h with rfl|rfl|rfl|rfl<;>exact⟨by decide +kernel,by decide +kernel,by decide,by decide⟩
theorem two_blk {s:ByteArray}{c:Int}{b:UInt8} (h:byteAt s 1=(b.toNat:Int)) (hb:blkB b):two17 s c=false:=by
 unfold two17
 rw[h]
 have:hasD (fun _=>true) (kv c (b.toNat:Int))=false:=by
  rcases hb with rfl|rfl|rfl|rfl<;>simp[hasD,keq,kv]
 rw[this];rfl
theorem at_eq {l l':List UInt8}{n k:Nat} (h:l'.take n=l.take n) (hk:k<n) (hl:n ≤ l.length):at_ l' k=at_ l k:=by
 have h1:(l'.take n)[k]?=(l.take n)[k]?:=by rw[h]
 rw[List.getElem?_take_of_lt hk,List.getElem?_take_of_lt hk]at h1
 unfold at_
 rw[List.getD_eq_getElem?_getD,List.getD_eq_getElem?_getD,h1]
theorem take_len {l l':List UInt8}{n:Nat} (h:l'.take n=l.take n) (hl:n ≤ l.length):n ≤ l'.length:=by
 have:=congrArg List.length h
 simp at this;omega
theorem takeWhile_of {p:UInt8 → Bool}:∀ {l':List UInt8}{n:Nat},(∀ c∈l'.take n,p c=true) → n ≤ l'.length → (∀ b,l'[n]?=some b → p b=false) → l'.takeWhile p=l'.take n
 |[],n,_,hn,_=>by simp
 |c :: l,0,_,_,h=>by
  have:=h c rfl
  simp[List.takeWhile_cons,this]
 |c :: l,n+1,h1,hn,h2=>by
  have hc:=h1 c (by simp)
  rw[List.takeWhile_cons,hc,if_pos rfl,List.take_succ_cons]
  rw[takeWhile_of (fun d hd=>h1 d (by rw[List.take_succ_cons];exact List.mem_cons_of_mem _ hd)) (by simpa using hn) (fun b hb=>h2 b (by simpa using hb))]
theorem takeWhile_take (p:UInt8 → Bool):∀ l:List UInt8,l.take (l.takeWhile p).length=l.takeWhile p ∧ (∀ b,l[(l.takeWhile p).length]?=some b → p b=false)
 |[]=>⟨rfl,fun b h=>(by simp at h)⟩
 |c :: l=>by
  rw[List.takeWhile_cons]
  cases hc:p c with
  |true =>
   rw[if_pos rfl,List.length_cons,List.take_succ_cons]
   obtain⟨h1,h2⟩:=takeWhile_take p l
   exact⟨by rw[h1],fun b hb=>h2 b (by simpa using hb)⟩
  |false=>rw[if_neg (by simp)];exact⟨rfl,fun b hb=>by simp at hb;rw[← hb];exact hc⟩
theorem takeWhile_mem {p:UInt8 → Bool}:∀ {l:List UInt8}{c:UInt8},c∈l.takeWhile p → p c=true
 |a :: l,c,h=>by
  rw[List.takeWhile_cons]at h
  cases ha:p a with
  |false=>rw[ha]at h;simp at h
  |true =>
   rw[ha,if_pos rfl]at h
   rcases List.mem_cons.1 h with e|e
   ·rw[e];exact ha
   ·exact takeWhile_mem e
theorem tokL_local {l l':List UInt8}{k:Int}{n:Nat} (h:tokL l=(k,(n:Int))) (hn:0<n) (hl:l≠[]) (ht:l'.take n=l.take n) (hb:∀ b,l'[n]?=some b → l[n]?=some b ∨ blkB b):tokL l'=(k,(n:Int)):=by
 have h0:0<(bs l).size:=by rw[bs_size];exact List.length_pos_iff.2 hl
 have hle:n ≤ l.length:=by
  have:=(tokF_rng h0).2
  unfold tokL at h
  rw[h,bs_size]at this
  simp only at this;omega
 have hle':=take_len ht hle
 have a0:at_ l' 0=at_ l 0:=at_eq ht hn hle
 unfold tokL tokF at h ⊢
 rw[byteAt_bs,span_eq,ext_bs]at h
 rw[byteAt_bs,span_eq,ext_bs,a0]
 have span:n=(l.takeWhile aln).length → l'.takeWhile aln=l.takeWhile aln:=fun e=>by
  obtain⟨t1,t2⟩:=takeWhile_take aln l
  rw[← e]at t1 t2
  rw[takeWhile_of (n:=n) (fun c hc=>?_) hle' (fun b hb'=>?_),ht,t1]
  ·rw[ht,t1]at hc
   exact takeWhile_mem hc
  ·rcases hb b hb' with h|h
   ·exact t2 b h
   ·exact(blkB_not h).1
 cases hc:letF (at_ l 0:Int)with
 |true =>
  rw[hc]at h
  simp only[cond_true]at h ⊢
  have e:n=(l.takeWhile aln).length:=by
   cases h1:inW 13 wdRow (bs (l.take (l.takeWhile aln).length))with
   |true=>rw[h1,cond_true,Prod.mk.injEq]at h;omega
   |false =>
    rw[h1,cond_false]at h
    cases h2:decide (((l.takeWhile aln).length:Int)>32)with
    |true=>rw[h2,cond_true,Prod.mk.injEq]at h;omega
    |false=>rw[h2,cond_false,Prod.mk.injEq]at h;omega
  rw[span e,show l'.take (l.takeWhile aln).length=l.take (l.takeWhile aln).length by rw[← e];exact ht]
  exact h
 |false =>
  rw[hc,cond_false]at h
  rw[cond_false]
  cases hd:digF (at_ l 0:Int)with
  |true =>
   rw[hd,cond_true]at h
   rw[cond_true]
   have e:n=(l.takeWhile aln).length:=by
    cases h1:(meanF (bs (l.take (l.takeWhile aln).length))).2 != 0 with
    |true=>rw[h1,cond_true,Prod.mk.injEq]at h;omega
    |false=>rw[h1,cond_false,Prod.mk.injEq]at h;omega
   rw[span e,show l'.take (l.takeWhile aln).length=l.take (l.takeWhile aln).length by rw[← e];exact ht]
   exact h
  |false =>
   rw[hd,cond_false]at h
   rw[cond_false]
   cases hq:((at_ l 0:Int)==39)with
   |true =>
    rw[hq,cond_true]at h
    rw[cond_true]
    have e:n=3:=by
     cases h1:(meanF ((bs l).extract 0 (min3 (bs l)).toNat)).2 != 0 with
     |true=>rw[h1,cond_true,Prod.mk.injEq]at h;omega
     |false=>rw[h1,cond_false,Prod.mk.injEq]at h;omega
    subst e
    have m:∀ {q:List UInt8},3 ≤ q.length → (min3 (bs q)).toNat=3:=fun {q} hq=>by
     unfold min3
     rw[bs_size,if_neg (by omega)];rfl
    rw[m hle,ext_bs]at h
    rw[m hle',ext_bs,ht]
    exact h
   |false =>
    rw[hq,cond_false]at h
    rw[cond_false]
    cases h2:(bif decide (((bs l).size:Int)>1)then two17 (bs l) (at_ l 0:Int)else false)with
    |true =>
     rw[h2,cond_true,Prod.mk.injEq]at h
     have e:n=2:=by omega
     subst e
     have h3:(bif decide (((bs l').size:Int)>1)then two17 (bs l') (at_ l 0:Int)else false)=true:=by
      cases hg:decide (((bs l).size:Int)>1)with
      |false=>rw[hg]at h2;cases h2
      |true =>
       rw[hg,cond_true]at h2
       rw[decide_eq_true (by rw[bs_size];omega),cond_true]
       unfold two17 at h2 ⊢
       rw[byteAt_bs]at h2 ⊢
       rw[at_eq ht (by omega) hle]
       exact h2
     rw[h3,cond_true]
     rw[← h.1];rfl
    |false =>
     rw[h2,cond_false]at h
     have e:n=1:=by
      cases h1:decide (ixB one22 (at_ l 0:Int) ≥ 0)with
      |true=>rw[h1,cond_true,Prod.mk.injEq]at h;omega
      |false=>rw[h1,cond_false,Prod.mk.injEq]at h;omega
     subst e
     have h3:(bif decide (((bs l').size:Int)>1)then two17 (bs l') (at_ l 0:Int)else false)=false:=by
      cases hg:decide (((bs l').size:Int)>1)with
      |false=>rfl
      |true =>
       rw[cond_true]
       have hlen:1<l'.length:=by have:=of_decide_eq_true hg;rw[bs_size]at this;omega
       have hat:byteAt (bs l') 1=(l'[1].toNat:Int):=by
        rw[byteAt_bs]
        unfold at_
        rw[List.getD_eq_getElem?_getD,List.getElem?_eq_getElem hlen];rfl
       rcases hb l'[1] (List.getElem?_eq_getElem hlen)with h5|h5
       ·have hl2:1<l.length:=(List.getElem?_eq_some_iff.1 h5).1
        rw[decide_eq_true (by rw[bs_size];omega),cond_true]at h2
        unfold two17 at h2 ⊢
        have:byteAt (bs l) 1=byteAt (bs l') 1:=by
         rw[hat,byteAt_bs]
         unfold at_
         rw[List.getD_eq_getElem?_getD,h5];rfl
        rw[← this]
        exact h2
       ·exact two_blk hat h5
     rw[h3,cond_false]
     exact h
end Go.X
