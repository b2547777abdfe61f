import Derived.Test.YtghpjlmaamnnpaaDoorD27
set_option linter.all false
namespace Go.X
open Go Go.Proofs
set_option linter.unusedVariables false
set_option linter.unusedSimpArgs false
def kt (t:Tk):Int × List UInt8:=(t.kind,t.text.data.toList)
inductive LxL:List UInt8 → List (Int × List UInt8) → Prop
 |done:LxL [] []
 |tok {l l':List UInt8}{k:Int}{n:Nat}{q:List (Int × List UInt8)} (hl:l≠[]) (ht:tokL l=(k,(n:Int))) (hn:0<n) (hg:gp .n (l.drop n)=some l') (h:LxL l' q):LxL l ((k,l.take n) :: q)
theorem drop_all (s:ByteArray):s.data.toList.drop s.size=[]:=by rw[List.drop_eq_nil_iff,← Lib.size_eq];omega
theorem drop_ne {s:ByteArray}{p:Nat} (hp:p<s.size):s.data.toList.drop p≠[]:=by
 intro h
 rw[List.drop_eq_nil_iff,← Lib.size_eq]at h
 omega
theorem lx_list {s:ByteArray}{p:Nat}{r:List Tk} (h:Lx s p r):∃ q,r.map kt=q++[(0,[])] ∧ LxL (s.data.toList.drop p) q:=by
 induction h with
 |done hp=>subst hp;rw[drop_all];exact⟨[],rfl,.done⟩
 |@tok p r hp hz hg h ih =>
  obtain⟨q,h1,h2⟩:=ih
  obtain⟨n1,n2,n3⟩:=tokN_rng hp hz
  have hgg:=gapG_gp (s:=s) s.size (p+tokN s p) n2 (by omega)
  rw[if_pos hg]at hgg
  refine⟨((tokF (rest s p)).1,(s.data.toList.drop p).take (tokN s p)) :: q,?_,.tok (drop_ne hp) ?_ n1 (by rw[List.drop_drop];exact hgg) h2⟩
  ·rw[List.map_cons,h1]
   show kt (tkAt s p) :: _=_
   have:(tkAt s p).text.data.toList=(s.data.toList.drop p).take (tokN s p):=by
    show(s.extract p (p+tokN s p)).data.toList=_
    rw[ext_list,Nat.add_sub_cancel_left]
   rw[kt,this];rfl
  ·unfold tokL
   rw[← rest_bs]
   exact Prod.ext rfl n3
theorem list_lx {s:ByteArray}{L:List UInt8}{q:List (Int × List UInt8)} (h:LxL L q):∀ p,p ≤ s.size → L=s.data.toList.drop p → ∃ r,Lx s p r ∧ r.map kt=q++[(0,[])]:=by
 induction h with
 |done =>
  intro p hp e
  have:p=s.size:=by
   have:=List.drop_eq_nil_iff.1 e.symm
   rw[← Lib.size_eq]at this;omega
  exact⟨_,.done this,rfl⟩
 |@tok l l' k n q hl ht hn hg h ih =>
  intro p hp e
  subst e
  have hlt:p<s.size:=by
   rcases Nat.lt_or_ge p s.size with h|h
   ·exact h
   ·exact absurd (by rw[List.drop_eq_nil_iff,← Lib.size_eq];exact h) hl
  have htk:tokF (rest s p)=(k,(n:Int)):=by rw[rest_bs];exact ht
  have hz:(tokF (rest s p)).2≠0:=by rw[htk];simp;omega
  have hN:tokN s p=n:=by unfold tokN;rw[htk];rfl
  obtain⟨n1,n2,n3⟩:=tokN_rng hlt hz
  rw[List.drop_drop,← hN]at hg
  have hgg:=gapG_gp (s:=s) s.size (p+tokN s p) n2 (by omega)
  rw[hg]at hgg
  cases hok:(gapG s s.size (p+tokN s p)).2 with
  |false=>rw[hok]at hgg;simp at hgg
  |true =>
   rw[hok,if_pos rfl]at hgg
   have hrg:=gapG_rng s s.size (p+tokN s p) n2
   obtain⟨r,h1,h2⟩:=ih _ hrg.2 (Option.some.inj hgg)
   refine⟨_,.tok hlt hz hok h1,?_⟩
   rw[List.map_cons,h2]
   have:(tkAt s p).text.data.toList=(s.data.toList.drop p).take n:=by
    show(s.extract p (p+tokN s p)).data.toList=_
    rw[ext_list,Nat.add_sub_cancel_left,hN]
   rw[kt,this]
   show(((tokF (rest s p)).1,_) :: _)=_
   rw[htk];rfl
def LexL (l:List UInt8) (q:List (Int × List UInt8)):Prop:=∃ l',gp .n l=some l' ∧ LxL l' q
theorem lex_list {s:ByteArray}{l:List Tk} (h:lexF s=.inr l):∃ q,l.map kt=q++[(0,[])] ∧ LexL s.data.toList q:=by
 obtain⟨h0,h1,h2⟩:=lexF_lx h
 obtain⟨q,h3,h4⟩:=lx_list h2
 have hgg:=gapG_gp (s:=s) s.size 0 (Nat.zero_le _) (by omega)
 rw[if_pos h1,List.drop_zero]at hgg
 exact⟨q,h3,_,hgg,h4⟩
theorem gp_len:∀ (l:List UInt8) (m:Md) (r:List UInt8),gp m l=some r → r.length ≤ l.length+1 ∧ (m≠.sl → r.length ≤ l.length)
 |[],m,r,h=>by
  cases m<;>simp[gp]at h<;>subst h<;>simp
 |c :: l,m,r,h=>by
  have ih:=gp_len l
  cases m with
  |n =>
   rw[gp]at h
   split at h
   ·have:=(ih _ _ h).2 (by simp);simp only[List.length_cons];exact⟨by omega,fun _=>by omega⟩
   ·split at h
    ·have:=(ih _ _ h).1;simp only[List.length_cons];exact⟨by omega,fun _=>by omega⟩
    ·cases h;exact⟨by simp,fun _=>Nat.le_refl _⟩
  |ln =>
   rw[gp]at h
   split at h
   ·have:=(ih _ _ h).2 (by simp);simp only[List.length_cons];exact⟨by omega,fun _=>by omega⟩
   ·have:=(ih _ _ h).2 (by simp);simp only[List.length_cons];exact⟨by omega,fun _=>by omega⟩
  |sl =>
   rw[gp]at h
   split at h
   ·have:=(ih _ _ h).2 (by simp);simp only[List.length_cons];exact⟨by omega,fun _=>by omega⟩
   ·split at h
    ·have:=(ih _ _ h).2 (by simp);simp only[List.length_cons];exact⟨by omega,fun _=>by omega⟩
    ·cases h;exact⟨by simp,fun h=>absurd rfl h⟩
  |rm =>
   rw[gp]at h
   split at h
   ·have:=(ih _ _ h).2 (by simp);simp only[List.length_cons];exact⟨by omega,fun _=>by omega⟩
   ·have:=(ih _ _ h).2 (by simp);simp only[List.length_cons];exact⟨by omega,fun _=>by omega⟩
  |st =>
   rw[gp]at h
   split at h
   ·have:=(ih _ _ h).2 (by simp);simp only[List.length_cons];exact⟨by omega,fun _=>by omega⟩
   ·split at h
    ·have:=(ih _ _ h).2 (by simp);simp only[List.length_cons];exact⟨by omega,fun _=>by omega⟩
    ·have:=(ih _ _ h).2 (by simp);simp only[List.length_cons];exact⟨by omega,fun _=>by omega⟩
def sumW:List (Int × List UInt8) → Nat
 |[]=>0
 |x :: q=>x.2.length+sumW q
theorem tok_le {l:List UInt8}{k:Int}{n:Nat} (hl:l≠[]) (ht:tokL l=(k,(n:Int))):n ≤ l.length:=by
 have h0:0<(bs l).size:=by rw[bs_size];exact List.length_pos_iff.2 hl
 have:=(tokF_rng h0).2
 unfold tokL at ht
 rw[ht,bs_size]at this
 simp only at this;omega
theorem lxL_sum {l:List UInt8}{q:List (Int × List UInt8)} (h:LxL l q):q.length ≤ sumW q ∧ sumW q ≤ l.length:=by
 induction h with
 |done=>exact⟨Nat.le_refl _,Nat.le_refl _⟩
 |@tok l l' k n q hl ht hn hg h ih =>
  have h1:=tok_le hl ht
  have h2:=(gp_len _ _ _ hg).2 (by simp)
  simp only[sumW,List.length_cons,List.length_take,List.length_drop]at h2 ⊢
  omega
theorem list_lex {s:ByteArray}{q:List (Int × List UInt8)} (h0:s.size ≤ 8192) (hq:q.length ≤ 2500) (h:LexL s.data.toList q):∃ l,lexF s=.inr l ∧ l.map kt=q++[(0,[])]:=by
 obtain⟨l',h1,h2⟩:=h
 have hgg:=gapG_gp (s:=s) s.size 0 (Nat.zero_le _) (by omega)
 rw[List.drop_zero,h1]at hgg
 cases hok:(gapG s s.size 0).2 with
 |false=>rw[hok]at hgg;simp at hgg
 |true =>
  rw[hok,if_pos rfl]at hgg
  have hrg:=gapG_rng s s.size 0 (Nat.zero_le _)
  obtain⟨r,h3,h4⟩:=list_lx h2 _ hrg.2 (Option.some.inj hgg)
  have hlen:=congrArg List.length h4
  simp at hlen
  exact⟨r,lx_lexF h0 hok h3 (by omega),h4⟩
set_option linter.unusedVariables false
set_option linter.unusedSimpArgs false
theorem gp_join (T:List UInt8):∀ (l:List UInt8) (m:Md) (r:List UInt8),gp m l=some r → (r≠[] → gp m (l++10 :: T)=some (r++10 :: T)) ∧ (r=[] → gp m (l++10 :: T)=gp .n T)
 |[],m,r,h=>by
  cases m<;>simp only[gp,Option.some.injEq,reduceCtorEq]at h<;>subst h
  ·exact⟨fun h=>absurd rfl h,fun _=>by rw[List.nil_append,gp,if_pos blk10]⟩
  ·exact⟨fun h=>absurd rfl h,fun _=>by rw[List.nil_append,gp,if_pos rfl]⟩
  ·exact⟨fun _=>by rw[List.nil_append,gp,if_neg (by decide),if_neg (by decide)];rfl,fun h=>by cases h⟩
 |c :: l,m,r,h=>by
  have ih:=gp_join T l
  rw[List.cons_append]
  cases m with
  |n =>
   rw[gp]at h
   have e:gp .n (c :: (l++10 :: T))=if blk c then gp .n (l++10 :: T)else if c=47 then gp .sl (l++10 :: T)else some (c :: (l++10 :: T)):=by rw[gp]
   rw[e]
   by_cases h1:blk c=true
   ·rw[if_pos h1]at h ⊢;exact ih _ _ h
   ·rw[if_neg h1]at h ⊢
    by_cases h2:c=47
    ·rw[if_pos h2]at h ⊢;exact ih _ _ h
    ·rw[if_neg h2]at h ⊢;cases h;exact⟨fun _=>rfl,fun h=>by cases h⟩
  |ln =>
   rw[gp]at h
   have e:gp .ln (c :: (l++10 :: T))=if c=10 then gp .n (l++10 :: T)else gp .ln (l++10 :: T):=by rw[gp]
   rw[e]
   by_cases h1:c=10
   ·rw[if_pos h1]at h ⊢;exact ih _ _ h
   ·rw[if_neg h1]at h ⊢;exact ih _ _ h
  |sl =>
   rw[gp]at h
   have e:gp .sl (c :: (l++10 :: T))=if c=47 then gp .ln (l++10 :: T)else if c=42 then gp .rm (l++10 :: T)else some (47 :: c :: (l++10 :: T)):=by rw[gp]
   rw[e]
   by_cases h1:c=47
   ·rw[if_pos h1]at h ⊢;exact ih _ _ h
   ·rw[if_neg h1]at h ⊢
    by_cases h2:c=42
    ·rw[if_pos h2]at h ⊢;exact ih _ _ h
    ·rw[if_neg h2]at h ⊢;cases h;exact⟨fun _=>rfl,fun h=>by cases h⟩
  |rm =>
   rw[gp]at h
   have e:gp .rm (c :: (l++10 :: T))=if c=42 then gp .st (l++10 :: T)else gp .rm (l++10 :: T):=by rw[gp]
   rw[e]
   by_cases h1:c=42
   ·rw[if_pos h1]at h ⊢;exact ih _ _ h
   ·rw[if_neg h1]at h ⊢;exact ih _ _ h
  |st =>
   rw[gp]at h
   have e:gp .st (c :: (l++10 :: T))=if c=47 then gp .n (l++10 :: T)else if c=42 then gp .st (l++10 :: T)else gp .rm (l++10 :: T):=by rw[gp]
   rw[e]
   by_cases h1:c=47
   ·rw[if_pos h1]at h ⊢;exact ih _ _ h
   ·rw[if_neg h1]at h ⊢
    by_cases h2:c=42
    ·rw[if_pos h2]at h ⊢;exact ih _ _ h
    ·rw[if_neg h2]at h ⊢;exact ih _ _ h
theorem lxL_nil {q:List (Int × List UInt8)} (h:LxL [] q):q=[]:=by
 cases h with
 |done=>rfl
 |tok hl=>exact absurd rfl hl
theorem lxL_join {T T':List UInt8}{qb:List (Int × List UInt8)} (hT:gp .n T=some T') (hb:LxL T' qb){L:List UInt8}{q:List (Int × List UInt8)} (h:LxL L q):L≠[] → LxL (L++10 :: T) (q++qb):=by
 induction h with
 |done=>intro h;exact absurd rfl h
 |@tok l l' k n q hl ht hn hg h ih =>
  intro _
  have hle:=tok_le hl ht
  have htk:(l++10 :: T).take n=l.take n:=List.take_append_of_le_length hle
  have hdr:(l++10 :: T).drop n=l.drop n++10 :: T:=List.drop_append_of_le_length hle
  rw[List.cons_append,← htk]
  have hj:=gp_join T _ _ _ hg
  have key:∃ l2,gp .n ((l++10 :: T).drop n)=some l2 ∧ LxL l2 (q++qb):=by
   rw[hdr]
   by_cases hne:l'=[]
   ·subst hne
    have:=lxL_nil h
    subst this
    exact⟨T',by rw[hj.2 rfl,hT],hb⟩
   ·exact⟨_,hj.1 hne,ih hne⟩
  obtain⟨l2,k1,k2⟩:=key
  refine .tok (by simp) (tokL_local ht hn hl htk fun b hb=>?_) hn k1 k2
  rcases Nat.lt_or_ge n l.length with h1|h1
  ·rw[List.getElem?_append_left h1]at hb
   exact .inl hb
  ·have:n=l.length:=by omega
   subst this
   rw[List.getElem?_append_right (Nat.le_refl _),Nat.sub_self]at hb
   cases hb
   exact .inr (.inr (.inr (.inl rfl)))
theorem lexL_join {a b:List UInt8}{qa qb:List (Int × List UInt8)} (ha:LexL a qa) (hb:LexL b qb):LexL (a++10 :: b) (qa++qb):=by
 obtain⟨a',a1,a2⟩:=ha
 obtain⟨b',b1,b2⟩:=hb
 have hj:=gp_join b _ _ _ a1
 by_cases hne:a'=[]
 ·subst hne
  have:=lxL_nil a2
  subst this
  exact⟨b',by rw[hj.2 rfl,b1],b2⟩
 ·exact⟨_,hj.1 hne,lxL_join b1 b2 a2 hne⟩
set_option linter.unusedVariables false
set_option linter.unusedSimpArgs false
theorem xwp_regK {E:FEnv}{Q:Post} (hcl:Cl E.toEnv Q){s:St}{F:Fns}{sc:Short} (hF:FnsOK E.P F sc) (k:Nat){l:List XOper}{tr:List Foot}{lf:Leaf} (ks:List Nat) (rs:List Ref)
  (hx:pvK ks rs (xrun (callE F sc (exec F sc k [])) [] l 0 s.t s.h s.n true True [])=some (some lf,true,tr)) (s':St) (hl:LeafTo E ks lf s') (hQ:Q .normal s'):XWP E.toEnv (.region l) Q s:=fun c hc a w hr=>by
 cases hr0:xrun (callE F sc (exec F sc k [])) [] l 0 s.t s.h s.n true True []with
 |none=>rw[hr0]at hx;cases hx
 |some r =>
  obtain⟨t,h,n,ok,pr,tr'⟩:=r
  rw[hr0]at hx
  simp only[pvK,Option.some.injEq,Prod.mk.injEq]at hx
  obtain⟨h1,h2,h3⟩:=hx
  subst h3
  have hce:=callE_ok hF (exec_sound hF k)
  have hpr:pr:=xrun_pr callE_pr hr0 trivial
  have hn:s.n ≤ n:=by
   obtain⟨rs,_,_,_,h4,_⟩:=xrun_recs hce hr0 h2 hpr
   simp only at h4;rw[h4];exact newsOf_le _ _
  exact xwp_regionG (E:=E.toEnv) _ hce [] hr0 h2 hpr (fun id h1 _=>E.dom id (Nat.le_trans hr.1 h1)) ⟨n,Nat.le_refl _,E.dom n (Nat.le_trans hr.1 hn)⟩ (hcl _ _ _ (hl.wk h1) hQ) c hc a w hr
abbrev q9 (A B C:Nat) (fa fb fc:Nat → Tk):List (Nat × Blk):=[(102,tkB C fc),(101,tkB B fb),(100,tkB A fa)]
def ce0:CE:=callE (lookF FL) noSc (exec (lookF FL) noSc 10 [])
def z3:Nat → List Value:=fun j=>slab [] (j*3) 3
def t69 (v74:Value) (m:Int) (A B C:Nat):Tm:=[(74,true,v74),(73,true,.int .i64 m),(72,true,.int .i64 (A:Int)),(71,true,newS 100 A),(70,true,newS 100 A),(69,true,.slice (some ⟨103,0,none⟩) 0 0)]++mkT [11,5,8] [newS 102 C,newS 100 A,newS 101 B]
section
variable (A B C:Nat) (fa fb fc:Nat → Tk) (G:Gv)
def h69:Hp:=(103,some (.rows 0 3 z3 false false)) :: mkH (q9 A B C fa fb fc++glH G)
def ok6 (A:Nat):Bool:=(decide (0 ≤ IntKind.i64.wrap ((A:Int)-1))&&decide (IntKind.i64.wrap ((A:Int)-1) ≤ (A:Int))&&true||false)&&true
def pr6:Prop:=P1 (P1 (P1 (P1 (P1 (True ∧ True)))))
def tr6:List Foot:=[⟨5,[100],[]⟩,⟨4,[],[]⟩,⟨3,[],[]⟩,⟨2,[],[]⟩,⟨1,[],[]⟩,⟨0,[],[103]⟩]
theorem a6:xrun ce0 [] (x9_19.take 6) 0 (mkT [11,5,8] [newS 102 C,newS 100 A,newS 101 B]) (mkH (q9 A B C fa fb fc++glH G)) 103 true True [] =
  some ⟨t69 (.slice (some ⟨100,0,none⟩) (IntKind.i64.wrap ((A:Int)-1)-0).toNat (A-0)) (IntKind.i64.wrap ((A:Int)-1)) A B C,h69 A B C fa fb fc G,104,ok6 A,pr6,tr6⟩:=by kernel_rfl
theorem a19 (m:Nat) (hm:A=m+1) (hA:A<4000):xrun ce0 [] x9_19 0 (mkT [11,5,8] [newS 102 C,newS 100 A,newS 101 B]) (mkH (q9 A B C fa fb fc++glH G)) 103 true True [] =
  xrun ce0 [] (x9_19.drop 6) 6 (t69 (.slice (some ⟨100,0,none⟩) m A) (m:Int) A B C) (h69 A B C fa fb fc G) 104 true pr6 tr6:=by
 have:=xrun_app (x9_19.take 6) (x9_19.drop 6) 0 _ _ _ _ _ _ _ (a6 A B C fa fb fc G)
 rw[List.take_append_drop]at this
 have hw:IntKind.i64.wrap ((A:Int)-1)=(m:Int):=by rw[wrap_i (by omega) (by omega)];omega
 have hk:ok6 A=true:=by unfold ok6;rw[hw,decide_eq_true (show 0 ≤ (m:Int) by omega),decide_eq_true (show(m:Int) ≤ (A:Int) by omega)];rfl
 rw[this]
 simp only
 rw[hw,hk,show((m:Int)-0).toNat=m by omega,Nat.sub_zero]
 rfl
def ft (f:Nat → Tk):Nat → List Value:=fun j=>tkRow (f (0+j))
def lf9 (n:Nat) (N C:Nat) (rows:Nat → List Value):Leaf:=⟨[iv 0,iv N,some (true,newS n N),some (true,newS 102 C)],(n,some (.rows N 3 rows true false)) :: (102,some (tkB C fc)) :: mkH (glH G),.normal,n+1⟩
def ks9:List Nat:=[79,78,77,11]
def rs9:List Ref:=.tmp 77 :: .id 102 :: gIds.map .id
theorem c0 (m:Int):pvK ks9 rs9 (xrun ce0 [] (x9_19.drop 6) 6 (t69 (.slice (some ⟨100,0,none⟩) 0 1) m 1 (B+1) C) (h69 1 (B+1) C fa fb fc G) 104 true pr6 tr6) =
  some (some (lf9 fc G 104 (0+(B+1)) C (rowCat (rowPut z3 0 0 (ft fa)) 0 0 (ft fb))),(0+(B+1)).ble (B+1)&&true&&decide ((0+(B+1))*36 ≤ 1099511627776)&&true&&true,[⟨10,[],[]⟩,⟨9,[],[]⟩,⟨8,[103,101],[104]⟩,⟨7,[],[]⟩,⟨6,[103,100],[103]⟩]++tr6):=by kernel_rfl
theorem c1 (m:Int):pvK ks9 rs9 (xrun ce0 [] (x9_19.drop 6) 6 (t69 (.slice (some ⟨100,0,none⟩) (A+1) (A+2)) m (A+2) (B+1) C) (h69 (A+2) (B+1) C fa fb fc G) 104 true pr6 tr6) =
  some (some (lf9 fc G 105 (0+(A+1)+(B+1)) C (rowCat (rowCat z3 0 0 (ft fa)) 0 (0+(A+1)) (ft fb))),!(0+(A+1)+(B+1)).ble (0+(A+1))&&true&&((0+(A+1)).ble (0+(A+1))&&(0+(0+(A+1))).ble (0+(A+1)))&&((0+(B+1)).ble (B+1)&&true)&&decide ((0+(A+1)+(B+1))*36 ≤ 1099511627776)&&true&&((0+(A+1)).ble (A+2)&&true&&decide ((0+(A+1))*36 ≤ 1099511627776)&&true&&true),
   [⟨10,[],[]⟩,⟨9,[],[]⟩,⟨8,[104,101],[105,104]⟩,⟨7,[],[]⟩,⟨6,[103,100],[104]⟩]++tr6):=by kernel_rfl
end
def scA9:Short:=scOf [con10]
theorem FOKA9:FnsOK Tryd.prog (lookF FL) scA9:=fok FOK _
noncomputable def scR (R:Sum (Nat × Int) (List Tk)):Short:=scOf [con11R R]
theorem FOKR (R:Sum (Nat × Int) (List Tk)):FnsOK Tryd.prog (lookF FL) (scR R):=fok FOK _
def g9 (b:Bool):Bool:=((!b||b)&&true||false)&&((!b&&true||!!b)&&((!b&&true||!!b)&&true))
def rt9 (b:Bool) (n:Nat):Option Stop:=some ⟨⟨[some (true,.bool b)],[],.ret,n⟩,none⟩
theorem p9_0 (s t:ByteArray) (G:Gv):walk (lookF FL) scA9 1000 (.region x9_0) (argTm 0 [.string s,.string t]) (mkH (glH G)) 100 ⟨[],[],[0,1],gIds⟩ ⟨[],[],[],[]⟩ ⟨[],[],[],[]⟩=some ⟨⟨[],[],.normal,100⟩,none⟩:=by kernel_rfl
theorem p9_5 (s t:ByteArray) (G:Gv):walk (lookF FL) scA9 1000 x9_5 (mkT [0,1] [.string s,.string t]) (mkH (glH G)) 100 ⟨[],[],[0,1],gIds⟩ ⟨[4],[],[],gIds⟩ ⟨[],[],[],[]⟩=bif g9 (decide ((s.size:Int)>1000))then bif bif decide ((s.size:Int)>1000)then true else decide ((t.size:Int)>1000)then rt9 true 100 else some ⟨⟨[],[],.normal,100⟩,none⟩else none:=by kernel_rfl
theorem p9_6r (s t:ByteArray) (G:Gv) (la:List Tk):walk (lookF FL) (scR (.inr la)) 1000 (.region x9_6) (mkT [0,1] [.string s,.string t]) (mkH (glH G)) 100 ⟨[5,7],[.tmp 5],[0,1],gIds⟩ ⟨[],[],[],[]⟩ ⟨[],[],[],[]⟩=bif decP (lexF s=.inr la)&&true then some ⟨⟨[some (true,newS 100 la.length),iv 0],[(100,some (tkL la))],.normal,101⟩,none⟩else none:=by kernel_rfl
theorem p9_6e (s t:ByteArray) (G:Gv) (p:Nat) (e:Int):walk (lookF FL) (scR (.inl (p,e))) 1000 (.region x9_6) (mkT [0,1] [.string s,.string t]) (mkH (glH G)) 100 ⟨[5,7],[],[0,1],gIds⟩ ⟨[],[],[],[]⟩ ⟨[],[],[],[]⟩=bif (decP (lexF s=.inl (p,e))||false)&&true then some ⟨⟨[some (true,.slice none 0 0),iv e],[],.normal,100⟩,none⟩else none:=by kernel_rfl
theorem p9_43e (s t:ByteArray) (G:Gv) (e:Int) (he:e=10 ∨ e=3) (p:Nat) (g:Int):walk (lookF FL) (scR (.inl (p,g))) 1000 x9_43 (mkT [5,7,0,1] [.slice none 0 0,.int .i64 e,.string s,.string t]) (mkH (glH G)) 101 ⟨[],[],[],[]⟩ ⟨[4],[],[],gIds⟩ ⟨[],[],[],[]⟩=bif (decP (lexF t=.inl (p,g))||false)&&true then rt9 true 101 else none:=by
 rcases he with rfl|rfl<;>kernel_rfl
theorem p9_43r (s t:ByteArray) (G:Gv) (e:Int) (he:e=10 ∨ e=3) (l:List Tk):walk (lookF FL) (scR (.inr l)) 1000 x9_43 (mkT [5,7,0,1] [.slice none 0 0,.int .i64 e,.string s,.string t]) (mkH (glH G)) 101 ⟨[],[],[],[]⟩ ⟨[4],[],[],gIds⟩ ⟨[],[],[],[]⟩=bif decP (lexF t=.inr l)&&true then rt9 true 102 else none:=by
 rcases he with rfl|rfl<;>kernel_rfl
theorem p9_43b (s t:ByteArray) (G:Gv) (la:List Tk) (e:Int) (he:e=10 ∨ e=3) (p:Nat):walk (lookF FL) (scR (.inl (p,e))) 1000 x9_43 (mkT [5,7,0,1] [newS 100 la.length,.int .i64 0,.string s,.string t]) (mkH ((100,tkL la) :: glH G)) 101 ⟨[],[],[],[]⟩ ⟨[4],[],[],gIds⟩ ⟨[],[],[],[]⟩=bif (decP (lexF t=.inl (p,e))||false)&&true then rt9 true 101 else none:=by
 rcases he with rfl|rfl<;>kernel_rfl
theorem p9_7 (s t:ByteArray) (G:Gv) (la lb:List Tk):walk (lookF FL) (scR (.inr lb)) 1000 (.region x9_7) (mkT [5,7,0,1] [newS 100 la.length,.int .i64 0,.string s,.string t]) (mkH ((100,tkL la) :: glH G)) 101 ⟨[8,10],[.tmp 8],[5,7,0,1],100 :: gIds⟩ ⟨[],[],[],[]⟩ ⟨[],[],[],[]⟩=bif decP (lexF t=.inr lb)&&true then some ⟨⟨[some (true,newS 101 lb.length),iv 0],[(101,some (tkL lb))],.normal,102⟩,none⟩else none:=by kernel_rfl
theorem p9_12 (s t:ByteArray) (G:Gv) (la lb:List Tk):walk (lookF FL) noSc 1000 x9_12 (mkT [8,10,5,7,0,1] [newS 101 lb.length,.int .i64 0,newS 100 la.length,.int .i64 0,.string s,.string t]) (mkH ((101,tkL lb) :: (100,tkL la) :: glH G)) 102 ⟨[],[],[8,5,0,1],101 :: 100 :: gIds⟩ ⟨[],[],[],[]⟩ ⟨[],[],[],[]⟩=some ⟨⟨[],[],.normal,102⟩,none⟩:=by kernel_rfl
def cat9 (s t:ByteArray):ByteArray:=⟨⟨(s++⟨#[10]⟩).data.toList++t.data.toList⟩⟩
def gc9 (s t:ByteArray):Bool:=(decide ((s++⟨#[10]⟩).size+t.size ≤ 9223372036854775807)&&true||false)&&((decide (s.size+1 ≤ 9223372036854775807)&&true||false)&&true)
theorem p9_13 (s t:ByteArray) (G:Gv) (la lb lc:List Tk):walk (lookF FL) (scR (.inr lc)) 1000 (.region x9_13) (mkT [8,5,0,1] [newS 101 lb.length,newS 100 la.length,.string s,.string t]) (mkH ((101,tkL lb) :: (100,tkL la) :: glH G)) 102 ⟨[11,13],[.tmp 11],[5,8],101 :: 100 :: gIds⟩ ⟨[],[],[],[]⟩ ⟨[],[],[],[]⟩=bif decP (lexF (cat9 s t)=.inr lc)&&gc9 s t then
  some ⟨⟨[some (true,newS 102 lc.length),iv 0],[(102,some (tkL lc))],.normal,103⟩,none⟩else none:=by kernel_rfl
theorem p9_18 (A B C:Nat) (G:Gv) (fa fb fc:Nat → Tk):walk (lookF FL) noSc 1000 x9_18 (mkT [11,13,5,8] [newS 102 C,.int .i64 0,newS 100 A,newS 101 B]) (mkH (q9 A B C fa fb fc++glH G)) 103 ⟨[],[],[11,5,8],102 :: 101 :: 100 :: gIds⟩ ⟨[4],[],[],gIds⟩ ⟨[],[],[],[]⟩=bif (C:Int) != IntKind.i64.wrap (IntKind.i64.wrap ((A:Int)+(B:Int))-1)then rt9 false 103 else some ⟨⟨[],[],.normal,103⟩,none⟩:=by kernel_rfl
def gl9 (b u v:Bool):Bool:=((!b||b)&&true||false)&&((!b&&(!b&&true)||!!b)&&((!b&&true||!!b)&&((u&&(!b&&true)||!!b)&&((!b&&true||!!b)&&((v&&(!b&&(!b&&true))||!!b)&&((u&&true||false)&&((v&&true||false)&&true)))))))
theorem p9_l (i N C:Nat) (fx fc:Nat → Tk) (G:Gv):walk (lookF FL) noSc 1000 x9_33 (mkT ks9 [.int .i64 (i:Int),.int .i64 (N:Int),newS 104 N,newS 102 C]) (mkH ((104,tkB N fx) :: (102,tkB C fc) :: glH G)) 105 ⟨[79],[],[78,77,11],104 :: 102 :: gIds⟩ ⟨[4],[],[],gIds⟩ ⟨[],[],[],[]⟩=bif decide ((i:Int)<(N:Int))then bif ((0+i).blt N&&true||false)&&((intRange i N&&true||false)&&true)then
  bif gl9 ((fc (0+i)).kind != (fx (0+i)).kind) ((0+i).blt C) (intRange i C)then bif bif (fc (0+i)).kind != (fx (0+i)).kind then true else !((fc (0+i)).text.toList==(fx (0+i)).text.toList)then rt9 false 106 else some ⟨⟨[iv (IntKind.i64.wrap ((i:Int)+1))],[],.normal,106⟩,none⟩else none else none
  else some ⟨⟨[iv i],[],.exit 0,105⟩,none⟩:=by kernel_rfl
theorem p9_38 (i N C:Nat) (fx fc:Nat → Tk) (G:Gv):walk (lookF FL) noSc 1000 x9_38 (mkT ks9 [.int .i64 (i:Int),.int .i64 (N:Int),newS 104 N,newS 102 C]) (mkH ((104,tkB N fx) :: (102,tkB C fc) :: glH G)) 105 ⟨[],[],[],[]⟩ ⟨[4],[],[],gIds⟩ ⟨[],[],[],[]⟩=rt9 true 105:=by kernel_rfl
end Go.X
