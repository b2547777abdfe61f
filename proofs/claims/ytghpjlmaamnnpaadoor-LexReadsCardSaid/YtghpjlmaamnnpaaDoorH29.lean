import Derived.Test.YtghpjlmaamnnpaaDoorH28
import Derived.Test.YtghpjlmaamnnpaaDoorH27
set_option linter.all false
namespace Go.X
open Go Go.Proofs
set_option linter.unusedVariables false
set_option linter.unusedSimpArgs false
def g35 (a b d e:Bool):Bool:=(((!bif bif a then b else false then true else bif d then e else false)||bif bif a then b else false then true else bif d then e else false)&&true||false)&&(((!bif bif a then b else false then true else bif d then e else false)&&true||!!bif bif a then b else false then true else bif d then e else false)&&((((!bif a then b else false)||bif a then b else false)&&true||false)&&(((((!bif a then b else false)&&d||!d)&&!bif a then b else false)||!!bif a then b else false)&&(((!bif a then b else false)&&d&&true||!((!bif a then b else false)&&d))&&(((!bif a then b else false)&&true||!!bif a then b else false)&&(((!bif a then b else false)&&true||!!bif a then b else false)&&(((a||!a)&&true||false)&&((a&&true||!a)&&true))))))))
theorem g35_true:∀ a b d e:Bool,g35 a b d e=true:=by decide
theorem p35 (c:Int):execC (lookF FL) noSc 1000 x35 (argTm 0 [Value.int IntKind.u8 c]) [] 100 (valK [2])=bif g35 (decide (c ≥ 97)) (decide (c ≤ 122)) (decide (c ≥ 65)) (decide (c ≤ 90))then some [Value.bool (bif bif bif decide (c ≥ 97)then decide (c ≤ 122)else false then true else bif decide (c ≥ 65)then decide (c ≤ 90)else false then true else c==95)]else none:=by kernel_rfl
def letR (c:Int):Bool:=bif bif bif decide (c ≥ 97)then decide (c ≤ 122)else false then true else bif decide (c ≥ 65)then decide (c ≤ 90)else false then true else c==95
theorem c35 (c:Int) (n:Nat):ADet Tryd.prog 35 [Value.int IntKind.u8 c] [] (Value.bool (letR c)) [] n 0:=adet_tree FOK 1000 fx35 (by simp) [2] (by rw[p35,g35_true];rfl) rfl rfl rfl rfl n
def g20r:List Value → Option Value
 |[.int .u8 c]=>some (Value.bool (letR c))
 |_=>none
def con35:Con Tryd.prog:=pureC 35 g20r fun vs v n h=>by
 unfold g20r at h
 split at h
 ·cases h;exact c35 _ n
 ·cases h
set_option maxRecDepth 100000 in
theorem letR_all:∀ c:Fin 256,letR (c.val:Int)=letF (c.val:Int):=by decide +kernel
theorem letR_eq (s:ByteArray) (k:Nat):letR (byteAt s k)=letF (byteAt s k):=by
 rw[byteAt_nat]
 exact letR_all ⟨at_ s.data.toList k,at_lt _ _⟩
def scU1:Short:=scOf [con26]
theorem FOKU1:FnsOK Tryd.prog (lookF FL) scU1:=fok FOK _
def r18 (k:Nat) (b:Bool):Option Stop:=some ⟨⟨[iv k,some (true,.bool b)],[],.ret,100⟩,none⟩
def z18 (k:Int) (s:ByteArray) (e:Exit) (lp:Option (XCode × List Cx)):Option Stop:=some ⟨⟨[some (true,.int .i64 k),some (true,.string s)],[],e,100⟩,lp⟩
def g18 (a b d i:Bool):Bool:=(((!bif bif a then true else b then true else d)||bif bif a then true else b then true else d)&&true||false)&&(((!bif bif a then true else b then true else d)&&true||!!bif bif a then true else b then true else d)&&((i&&((!bif bif a then true else b then true else d)&&((!bif bif a then true else b then true else d)&&true))||!!bif bif a then true else b then true else d)&&((((!bif a then true else b)||bif a then true else b)&&true||false)&&(((!bif a then true else b)&&true||!!bif a then true else b)&&((i&&((!bif a then true else b)&&((!bif a then true else b)&&true))||!!bif a then true else b)&&(((!a||a)&&true||false)&&((!a&&true||!!a)&&((i&&(!a&&(!a&&true))||!!a)&&((i&&true||false)&&true)))))))))
theorem g18_true:∀ a b d:Bool,g18 a b d true=true:=by decide
theorem p18_0 (s:ByteArray) (k:Nat):walk (lookF FL) noSc 1000 x18 (argTm 0 [.string s,.int .i64 (k:Int)]) [] 100 ⟨[],[],[],[]⟩ ⟨[4,5],[],[],[]⟩ ⟨[1,0],[],[],[]⟩=z18 k s .normal (some (x18_43,[.bl 0,.sq x18_47])):=by kernel_rfl
theorem p18_r (s:ByteArray) (k:Nat):walk (lookF FL) scU1 1000 x18_43 (mkT [1,0] [.int .i64 (k:Int),.string s]) [] 100 ⟨[1,0],[],[],[]⟩ ⟨[4,5],[],[],[]⟩ ⟨[1,0],[],[],[]⟩ =
  bif decide ((k:Int)<(s.size:Int))then bif g18 (byteAt s k==32) (byteAt s k==9) (byteAt s k==10) (intRange k s.size)then bif bif bif bif byteAt s k==32 then true else byteAt s k==9 then true else byteAt s k==10 then true else byteAt s k==13 then z18 (IntKind.i64.wrap ((k:Int)+1)) s .normal none else
   bif (k.ble s.size&&(s.size.blt 4611686018427387904&&true)||false)&&true then bif stF s k sl2 then z18 k s .normal (some (x18_12,[.bl 2,.bl 1]))else bif (k.ble s.size&&(s.size.blt 4611686018427387904&&true)||false)&&true then bif stF s k slS then z18 k s .normal (some (x18_22,[.bl 4,.sq x18_31,.bl 1]))else r18 k true else none else none else none
  else z18 k s (.exit 0) none:=by kernel_rfl
theorem p18_r2 (s:ByteArray) (k:Nat):walk (lookF FL) scU1 1000 x18_43 (mkT [1,0] [.int .i64 (k:Int),.string s]) [] 100 ⟨[1,0],[],[],[]⟩ ⟨[4,5],[],[],[]⟩ ⟨[6,1,0],[],[],[]⟩ =
  bif decide ((k:Int)<(s.size:Int))then bif g18 (byteAt s k==32) (byteAt s k==9) (byteAt s k==10) (intRange k s.size)then bif bif bif bif byteAt s k==32 then true else byteAt s k==9 then true else byteAt s k==10 then true else byteAt s k==13 then z18 (IntKind.i64.wrap ((k:Int)+1)) s .normal none else
   bif (k.ble s.size&&(s.size.blt 4611686018427387904&&true)||false)&&true then bif stF s k sl2 then some ⟨⟨[none,iv k,some (true,.string s)],[],.normal,100⟩,some (x18_12,[.bl 2,.bl 1])⟩else bif (k.ble s.size&&(s.size.blt 4611686018427387904&&true)||false)&&true then bif stF s k slS then some ⟨⟨[some (true,.int .i64 (IntKind.i64.wrap ((k:Int)+2))),iv k,some (true,.string s)],[],.normal,100⟩,some (x18_22,[.bl 4,.sq x18_31,.bl 1])⟩else r18 k true else none else none else none
  else z18 k s (.exit 0) none:=by kernel_rfl
def g18l (c i:Bool):Bool:=((c||!c)&&true||false)&&((c&&true||!c)&&((i&&(c&&(c&&true))||!c)&&true))
theorem p18_l (s:ByteArray) (k:Nat):walk (lookF FL) noSc 1000 x18_12 (mkT [1,0] [.int .i64 (k:Int),.string s]) [] 100 ⟨[1,0],[],[],[]⟩ ⟨[4,5],[],[],[]⟩ ⟨[],[],[],[]⟩=bif g18l (decide ((k:Int)<(s.size:Int))) (intRange k s.size)then bif bif decide ((k:Int)<(s.size:Int))then byteAt s k != 10 else false then z18 (IntKind.i64.wrap ((k:Int)+1)) s .normal none else z18 k s (.exit 2) none else none:=by kernel_rfl
def g18c (c u:Bool):Bool:=((c||!c)&&true||false)&&((c&&true||!c)&&((c&&(c&&true)&&u||!c)&&true))
def y18 (e:Int) (k:Nat) (s:ByteArray) (x:Exit):Option Stop:=some ⟨⟨[some (true,.int .i64 e),iv k,some (true,.string s)],[],x,100⟩,none⟩
theorem p18_c (s:ByteArray) (k e:Nat):walk (lookF FL) scU1 1000 x18_22 (mkT [6,1,0] [.int .i64 (e:Int),.int .i64 (k:Int),.string s]) [] 100 ⟨[6,1,0],[],[],[]⟩ ⟨[4,5],[],[],[]⟩ ⟨[],[],[],[]⟩=bif g18c (decide ((e:Int)<(s.size:Int))) (e.ble s.size&&(s.size.blt 4611686018427387904&&true))then bif bif decide ((e:Int)<(s.size:Int))then !stF s e sSl else false then y18 (IntKind.i64.wrap ((e:Int)+1)) k s .normal else y18 e k s (.exit 4)else none:=by kernel_rfl
theorem p18_31 (s:ByteArray) (k e:Nat):walk (lookF FL) noSc 1000 x18_31 (mkT [6,1,0] [.int .i64 (e:Int),.int .i64 (k:Int),.string s]) [] 100 ⟨[1,0],[],[],[]⟩ ⟨[4,5],[],[],[]⟩ ⟨[],[],[],[]⟩=bif decide ((e:Int) ≥ (s.size:Int))then r18 k false else z18 (IntKind.i64.wrap ((e:Int)+2)) s .normal none:=by kernel_rfl
theorem p18_47 (s:ByteArray) (k:Nat):walk (lookF FL) noSc 1000 x18_47 (mkT [1,0] [.int .i64 (k:Int),.string s]) [] 100 ⟨[1,0],[],[],[]⟩ ⟨[4,5],[],[],[]⟩ ⟨[],[],[],[]⟩=r18 k true:=by kernel_rfl
set_option linter.unusedVariables false
set_option linter.unusedSimpArgs false
theorem hasP_rest {s p:ByteArray}{k:Nat}:hasP (rest s k) p=p.data.toList.isPrefixOf (s.data.toList.drop k):=by
 unfold hasP Lib.hasPrefix
 rw[rest_list]
set_option linter.unusedVariables false
set_option linter.unusedSimpArgs false
theorem dr_at {s:ByteArray}{k:Nat} (hk:k<s.size):∃ c l,s.data.toList.drop k=c :: l ∧ s.data.toList.drop (k+1)=l ∧ byteAt s k=(c.toNat:Int):=by
 have h:k<s.data.toList.length:=by rw[← Lib.size_eq];exact hk
 refine⟨s.data.toList[k],_,List.drop_eq_getElem_cons h,rfl,?_⟩
 unfold byteAt
 rw[List.getD_eq_getElem?_getD,List.getElem?_eq_getElem h];rfl
theorem dr_nil {s:ByteArray}{k:Nat} (hk:¬ k<s.size):s.data.toList.drop k=[]:=by
 rw[List.drop_eq_nil_iff,← Lib.size_eq];omega
def lnT (s:ByteArray) (k:Nat):Nat:=bif decide (ixB (rest s k) 10<0)then s.size else k+(ixB (rest s k) 10).toNat
theorem ixB_list (s:ByteArray) (k:Nat):ixB (rest s k) 10=Lib.indexByte (s.data.toList.drop k) 10:=by
 unfold ixB;rw[rest_list];rfl
theorem ixS_list (s:ByteArray) (k:Nat):ixS (rest s k) sSl=Lib.index (s.data.toList.drop k) [42,47]:=by
 unfold ixS;rw[rest_list];rfl
theorem ln_end {s:ByteArray}{k:Nat} (hk:k=s.size):lnT s k=k:=by
 unfold lnT
 rw[ixB_list,dr_nil (by omega),decide_eq_true (show Lib.indexByte [] 10<0 by decide),hk];rfl
theorem ln_stop {s:ByteArray}{k:Nat} (hk:k<s.size) (h:byteAt s k=10):lnT s k=k:=by
 obtain⟨c,l,h1,h2,h3⟩:=dr_at hk
 have:c=10:=by
  apply UInt8.toNat_inj.1
  show c.toNat=10
  omega
 subst this
 unfold lnT
 rw[ixB_list,h1]
 unfold Lib.indexByte
 rw[if_pos (by decide)];rfl
theorem ln_step {s:ByteArray}{k:Nat} (hk:k<s.size) (h:byteAt s k≠10):lnT s (k+1)=lnT s k:=by
 obtain⟨c,l,h1,h2,h3⟩:=dr_at hk
 have hc:¬ (c==10)=true:=fun e=>h (by rw[h3,eq_of_beq e];rfl)
 unfold lnT
 rw[ixB_list,ixB_list,h1,h2]
 have h4:=Lib.indexByte_ge l 10
 have e:Lib.indexByte (c :: l) 10=if Lib.indexByte l 10==-1 then -1 else Lib.indexByte l 10+1:=by
  conv=>lhs;unfold Lib.indexByte
  rw[if_neg hc]
 rw[e]
 by_cases hn:Lib.indexByte l 10=-1
 ·rw[hn];rfl
 ·rw[if_neg (by simpa using hn),decide_eq_false (show ¬ Lib.indexByte l 10<0 by omega),decide_eq_false (show ¬ Lib.indexByte l 10+1<0 by omega)]
  simp only[cond_false];omega
def cmE (s:ByteArray) (e:Nat):Option Nat:=bif decide (ixS (rest s e) sSl<0)then none else some (e+(ixS (rest s e) sSl).toNat)
theorem cm_end {s:ByteArray}{e:Nat} (hk:¬ e<s.size):cmE s e=none:=by
 unfold cmE
 rw[ixS_list,dr_nil hk,decide_eq_true (show Lib.index [] [42,47]<0 by decide)];rfl
theorem cm_stop {s:ByteArray}{e:Nat} (hk:e<s.size) (h:stF s e sSl=true):cmE s e=some e:=by
 obtain⟨c,l,h1,h2,h3⟩:=dr_at hk
 have h':([42,47]:List UInt8).isPrefixOf (c :: l)=true:=by rw[← h1];exact h
 unfold cmE
 rw[ixS_list,h1]
 have:Lib.index (c :: l) [42,47]=0:=by unfold Lib.index;rw[if_pos h']
 rw[this];rfl
theorem cm_step {s:ByteArray}{e:Nat} (hk:e<s.size) (h:stF s e sSl=false):cmE s (e+1)=cmE s e:=by
 obtain⟨c,l,h1,h2,h3⟩:=dr_at hk
 have h':¬ ([42,47]:List UInt8).isPrefixOf (c :: l)=true:=by rw[← h1];intro x;have:stF s e sSl=true:=x;rw[h]at this;cases this
 unfold cmE
 rw[ixS_list,ixS_list,h1,h2]
 have h4:=Lib.index_ge l [42,47]
 have e1:Lib.index (c :: l) [42,47]=if Lib.index l [42,47]==-1 then -1 else Lib.index l [42,47]+1:=by
  conv=>lhs;unfold Lib.index
  rw[if_neg h']
 rw[e1]
 by_cases hn:Lib.index l [42,47]=-1
 ·rw[hn];rfl
 ·rw[if_neg (by simpa using hn),decide_eq_false (show ¬ Lib.index l [42,47]<0 by omega),decide_eq_false (show ¬ Lib.index l [42,47]+1<0 by omega)]
  simp only[cond_false]
  congr 1;omega
def bl4 (c:Int):Bool:=bif bif bif c==32 then true else c==9 then true else c==10 then true else c==13
set_option maxRecDepth 100000 in
theorem bl4_all:∀ c:Fin 256,bl4 (c.val:Int)=blank (c.val:Int):=by decide +kernel
theorem bl4_eq (s:ByteArray) (k:Nat):bl4 (byteAt s k)=blank (byteAt (rest s k) 0):=by
 rw[byteAt_rest,Nat.add_zero,byteAt_nat]
 exact bl4_all ⟨at_ s.data.toList k,at_lt _ _⟩
theorem gap_step {s:ByteArray}{f k:Nat} (hk:k<s.size):gapG s (f+1) k=bif bl4 (byteAt s k)then gapG s f (k+1)else bif stF s k sl2 then gapG s f (lnT s k)else bif stF s k slS then(match cmE s (k+2)with|none=>(k,false)|some e=>gapG s f (e+2))else(k,true):=by
 have e2:sl2.data.toList.isPrefixOf (s.data.toList.drop k)=stF s k sl2:=rfl
 have eS:slS.data.toList.isPrefixOf (s.data.toList.drop k)=stF s k slS:=rfl
 have e3:ixS (rest (rest s k) 2) sSl=ixS (rest s (k+2)) sSl:=by
  unfold ixS;rw[rest_list,rest_list,rest_list,List.drop_drop]
 rw[gapG,lt_blt hk,cond_true,← bl4_eq,hasP_rest,hasP_rest,e2,eS,e3]
 generalize stF s k sl2=a
 generalize stF s k slS=b
 unfold lnT cmE
 generalize bl4 (byteAt s k)=x
 generalize (ixS (rest s (k+2)) sSl)=o
 generalize (ixB (rest s k) 10)=q
 cases x
 ·cases a
  ·cases b
   ·simp only[cond_false]
   ·simp only[cond_false,cond_true]
    cases decide (o<0)
    ·simp only[cond_false]
     rw[show k+o.toNat+4=k+2+o.toNat+2 by omega]
    ·simp only[cond_true]
  ·simp only[cond_false,cond_true]
   cases decide (q<0)
   ·simp only[cond_false]
   ·simp only[cond_true]
 ·simp only[cond_true]
set_option linter.unusedVariables false
set_option linter.unusedSimpArgs false
theorem g18l_true:∀ c i:Bool,(c=true → i=true) → g18l c i=true:=by decide
theorem g18c_true:∀ c u:Bool,u=true → g18c c u=true:=by decide
def S18 (s:ByteArray) (k:Nat):St:=⟨mkT [1,0] [.int .i64 (k:Int),.string s],[],100⟩
def C18 (s:ByteArray) (k e:Nat):St:=⟨mkT [6,1,0] [.int .i64 (e:Int),.int .i64 (k:Int),.string s],[],100⟩
theorem st_at {s:ByteArray}{k:Nat}{a:UInt8}{l:List UInt8} (h:(a :: l).isPrefixOf (s.data.toList.drop k)=true):byteAt s k=(a.toNat:Int) ∧ k+(l.length+1) ≤ s.size:=by
 obtain⟨t,ht⟩:=List.isPrefixOf_iff_prefix.1 h
 have hl:=congrArg List.length ht
 rw[List.length_append,List.length_cons,List.length_drop,← Lib.size_eq]at hl
 obtain⟨c,l',h1,h2,h3⟩:=dr_at (s:=s) (k:=k) (by omega)
 rw[h1,List.cons_append]at ht
 rw[h3,(List.cons.inj ht).1]
 exact⟨rfl,by omega⟩
theorem le_ble {a b:Nat} (h:a ≤ b):Nat.ble a b=true:=by rw[Nat.ble_eq];exact h
theorem b18 {s:ByteArray}{k0:Nat} (hs:s.size<4611686018427387904) (hk0:k0 ≤ s.size) :
  Body Tryd.prog 18 [.string s,.int .i64 (k0:Int)] [] (.tuple ⟨[.int .i64 ((gapG s s.size k0).1:Int),.bool (gapG s s.size k0).2]⟩) [] 100 0:=by
 refine body_of' mixed fx18 (by simp) fun E Q hP hn hcl hfin=>?_
 have hF0:FnsOK E.P (lookF FL) noSc:=hP▸FOK
 have hF1:FnsOK E.P (lookF FL) scU1:=hP▸FOKU1
 obtain⟨R,hR⟩:∃ R,gapG s s.size k0=R:=⟨_,rfl⟩
 rw[hR]at hfin
 have lS:∀ {k:Nat}{x:Exit},LeafTo E [1,0] ⟨[some (true,.int .i64 (k:Int)),some (true,.string s)],[],x,100⟩ (S18 s k):=fun {k x} =>
  ⟨_,[],_,rfl,by rw[hn];rfl,by rw[hn];exact⟨rfl,rfl,trivial⟩,trivial⟩
 have lC:∀ {k e:Nat}{x:Exit},LeafTo E [6,1,0] ⟨[some (true,.int .i64 (e:Int)),iv k,some (true,.string s)],[],x,100⟩ (C18 s k e):=fun {k e x} =>
  ⟨_,[],_,rfl,by rw[hn];rfl,by rw[hn];exact⟨rfl,rfl,rfl,trivial⟩,trivial⟩
 have lr:∀ {k:Nat}{b:Bool},LeafTo E [4,5] ⟨[iv k,some (true,.bool b)],[],.ret,100⟩ ⟨mkT [4,5] [.int .i64 (k:Int),.bool b],[],100⟩:=fun {k b} =>
  ⟨_,[],_,rfl,by rw[hn];rfl,by rw[hn];exact⟨rfl,rfl,trivial⟩,trivial⟩
 have hq:∀ {k:Nat}{b:Bool},(k,b)=R → Q .ret ⟨mkT [4,5] [.int .i64 (k:Int),.bool b],[],100⟩:=fun {k b} h=>by
  subst h
  exact hfin _ _ (fin_of rfl trivial (by rw[hn]) rfl)
 let I:Nat → Prop:=fun k=>k ≤ s.size ∧ ∃ f,s.size-k ≤ f ∧ gapG s f k=R
 refine xwp_toLoop (s:=⟨_,_,_⟩) hF0 1000 (p18_0 s k0) (S18 s k0) lS ?_
 refine xwp_loopR (ι:=Nat) (S18 s) I (fun k=>s.size-k) k0 ⟨hk0,s.size,by omega,hR⟩ fun k hk=>?_
 have hcr:=cl_round (S:=S18 s) (I:=I) (μ:=fun k=>s.size-k) (i:=k) (cl_ctx hcl [.bl 0,.sq x18_47])
 obtain⟨hks,f,hf,hg⟩:=hk
 have er:=p18_r s k
 by_cases hlt:k<s.size
 ·obtain⟨f,rfl⟩:∃ f',f=f'+1:=⟨f-1,by omega⟩
  rw[gap_step hlt]at hg
  have er2:=p18_r2 s k
  rw[decide_eq_true (show(k:Int)<(s.size:Int) by omega),ir_nat,decide_eq_true hlt,g18_true,le_ble hks,lt_blt hs]at er er2
  simp only[cond_true,Bool.and_self,Bool.or_false]at er er2
  have hb:(bif bif bif byteAt s k==32 then true else byteAt s k==9 then true else byteAt s k==10 then true else byteAt s k==13)=bl4 (byteAt s k):=rfl
  rw[hb]at er er2
  cases hbl:bl4 (byteAt s k)with
  |true =>
   rw[hbl,wrap_i (by omega) (by omega)]at er
   rw[hbl,cond_true]at hg
   exact xwp_toEnd (s:=S18 s k) hcr hF1 1000 er (S18 s (k+1)) lS ⟨k+1,⟨hlt,f,by omega,hg⟩,by simp only;omega,Wk.refl _ _⟩
  |false =>
   rw[hbl]at er er2
   rw[hbl,cond_false]at hg
   simp only[cond_false]at er er2
   cases h2:stF s k sl2 with
   |true =>
    rw[h2]at er
    rw[h2,cond_true]at hg
    obtain⟨c1,c2⟩:=st_at (a:=47) (l:=[47]) h2
    refine xwp_toLoop (s:=S18 s k) hF1 1000 er (S18 s k) lS ?_
    let J:Nat → Prop:=fun j=>k ≤ j ∧ j ≤ s.size ∧ lnT s j=lnT s k
    refine xwp_loopR (ι:=Nat) (S18 s) J (fun j=>s.size-j) k ⟨Nat.le_refl _,hks,rfl⟩ fun j hj=>?_
    have hcr2:=cl_round (S:=S18 s) (I:=J) (μ:=fun j=>s.size-j) (i:=j) (cl_ctx hcr [.bl 2,.bl 1])
    obtain⟨j1,j2,j3⟩:=hj
    have el:=p18_l s j
    rw[ir_nat,g18l_true _ _ (fun h=>by have:=of_decide_eq_true h;exact decide_eq_true (by omega)),cond_true]at el
    by_cases hjs:j<s.size
    ·by_cases hj10:byteAt s j=10
     ·rw[decide_eq_true (show(j:Int)<(s.size:Int) by omega),cond_true,show(byteAt s j != 10)=false by rw[hj10];rfl]at el
      refine xwp_toEnd (s:=S18 s j) hcr2 hF0 1000 el (S18 s j) lS ?_
      rw[← j3,ln_stop hjs hj10]at hg
      have:j≠k:=fun e=>by rw[e,c1]at hj10;exact absurd hj10 (by decide)
      exact⟨j,⟨j2,f,by omega,hg⟩,by simp only;omega,Wk.refl _ _⟩
     ·rw[decide_eq_true (show(j:Int)<(s.size:Int) by omega),cond_true,show(byteAt s j != 10)=true by simpa using hj10,wrap_i (by omega) (by omega)]at el
      exact xwp_toEnd (s:=S18 s j) hcr2 hF0 1000 el (S18 s (j+1)) lS ⟨j+1,⟨by omega,hjs,by rw[ln_step hjs hj10,j3]⟩,by simp only;omega,Wk.refl _ _⟩
    ·rw[decide_eq_false (show ¬ (j:Int)<(s.size:Int) by omega)]at el
     refine xwp_toEnd (s:=S18 s j) hcr2 hF0 1000 el (S18 s j) lS ?_
     rw[← j3,ln_end (by omega)]at hg
     exact⟨j,⟨j2,f,by omega,hg⟩,by simp only;omega,Wk.refl _ _⟩
   |false =>
    rw[h2]at er er2
    rw[h2,cond_false]at hg
    simp only[cond_false]at er er2
    cases h3:stF s k slS with
    |false =>
     rw[h3]at er
     rw[h3,cond_false]at hg
     exact xwp_toEnd (s:=S18 s k) hcr hF1 1000 er _ lr (hq hg)
    |true =>
     rw[h3,wrap_i (by omega) (by omega)]at er2
     rw[h3,cond_true]at hg
     obtain⟨c1,c2⟩:=st_at (a:=47) (l:=[42]) h3
     refine xwp_toLoop (s:=S18 s k) hF1 1000 er2 (C18 s k (k+2)) lC ?_
     let J:Nat → Prop:=fun e=>k+2 ≤ e ∧ e ≤ s.size ∧ cmE s e=cmE s (k+2)
     refine xwp_loopR (ι:=Nat) (C18 s k) J (fun e=>s.size-e) (k+2) ⟨Nat.le_refl _,c2,rfl⟩ fun e he=>?_
     have hcr2:=cl_round (S:=C18 s k) (I:=J) (μ:=fun e=>s.size-e) (i:=e) (cl_ctx hcr [.bl 4,.sq x18_31,.bl 1])
     obtain⟨j1,j2,j3⟩:=he
     have el:=p18_c s k e
     rw[g18c_true _ _ (by rw[le_ble j2,lt_blt hs];rfl),cond_true]at el
     have e31:=p18_31 s k e
     by_cases hes:e<s.size
     ·rw[decide_eq_true (show(e:Int)<(s.size:Int) by omega),cond_true]at el
      cases hst:stF s e sSl with
      |true =>
       rw[hst]at el
       rw[decide_eq_false (by omega),wrap_i (by omega) (by omega)]at e31
       rw[← j3,cm_stop hes hst]at hg
       obtain⟨c3,c4⟩:=st_at (a:=42) (l:=[47]) hst
       refine xwp_toEnd (s:=C18 s k e) hcr2 hF1 1000 el (C18 s k e) lC ?_
       show XWP E.toEnv x18_31 _ (C18 s k e)
       exact xwp_toEnd (s:=C18 s k e) (cl_ctx hcr [.bl 1]) hF0 1000 e31 (S18 s (e+2)) lS ⟨e+2,⟨c4,f,by omega,hg⟩,by simp only;omega,Wk.refl _ _⟩
      |false =>
       rw[hst,wrap_i (by omega) (by omega)]at el
       exact xwp_toEnd (s:=C18 s k e) hcr2 hF1 1000 el (C18 s k (e+1)) lC ⟨e+1,⟨by omega,hes,by rw[cm_step hes hst,j3]⟩,by simp only;omega,Wk.refl _ _⟩
     ·rw[decide_eq_false (show ¬ (e:Int)<(s.size:Int) by omega)]at el
      rw[decide_eq_true (by omega)]at e31
      rw[← j3,cm_end hes]at hg
      refine xwp_toEnd (s:=C18 s k e) hcr2 hF1 1000 el (C18 s k e) lC ?_
      show XWP E.toEnv x18_31 _ (C18 s k e)
      exact xwp_toEnd (s:=C18 s k e) (cl_ctx hcr [.bl 1]) hF0 1000 e31 _ lr (hq hg)
 ·rw[decide_eq_false (show ¬ (k:Int)<(s.size:Int) by omega)]at er
  rw[gapG_end hlt]at hg
  refine xwp_toEnd (s:=S18 s k) hcr hF1 1000 er (S18 s k) lS ?_
  show XWP E.toEnv x18_47 Q (S18 s k)
  exact xwp_toEnd (s:=S18 s k) hcl hF0 1000 (p18_47 s k) _ lr (hq hg)
theorem c18 {s:ByteArray}{k:Nat} (hs:s.size<4611686018427387904) (hk:k ≤ s.size) (n:Nat):ADet Tryd.prog 18 [.string s,.int .i64 (k:Int)] [] (.tuple ⟨[.int .i64 ((gapG s s.size k).1:Int),.bool (gapG s s.size k).2]⟩) [] n 0 :=
 adet_of_body (b18 hs hk) [] [] rfl rfl trivial rfl rfl trivial rfl
def con18:Con Tryd.prog where
 f:=18
 run:=fun vs h n=>match vs with
  |[.string s,.int .i64 (.ofNat k)]=>some ([],.tuple ⟨[.int .i64 ((gapG s s.size k).1:Int),.bool (gapG s s.size k).2]⟩,[],0,Nat.ble k s.size&&Nat.blt s.size 4611686018427387904)
  |_=>none
 ok:=fun vs h n pre v upd news hx=>by
  split at hx
  ·simp only[Option.some.injEq,Prod.mk.injEq,Bool.and_eq_true]at hx
   obtain⟨rfl,rfl,rfl,rfl,h1,h2⟩:=hx
   rw[Nat.ble_eq]at h1
   rw[Nat.blt_eq]at h2
   exact⟨fun id hid=>by simp[fstL]at hid,c18 h2 h1 n⟩
  ·cases hx
set_option linter.unusedVariables false
set_option linter.unusedSimpArgs false
def w13:List Value:=wordsL.map fun l=>.string (bs l)
abbrev pQ:Value:=.pointer (some ⟨100,0,some 0⟩)
theorem p36_0 (s:ByteArray):walk (lookF FL) noSc 1000 (.region x36_0) (argTm 0 [.string s]) [] 100 ⟨[],[],[0],[]⟩ ⟨[],[],[],[]⟩ ⟨[],[],[],[]⟩=some ⟨⟨[],[],.normal,100⟩,none⟩:=by kernel_rfl
theorem p36_1 (s:ByteArray):walk (lookF FL) noSc 1000 (.region x36_1) (mkT [0] [.string s]) [] 100 ⟨[3,0],[.tmp 3],[],[]⟩ ⟨[],[],[],[]⟩ ⟨[],[],[],[]⟩=some ⟨⟨[some (true,pQ),some (true,.string s)],[(100,some (.var w13))],.normal,101⟩,none⟩:=by kernel_rfl
theorem p36_19 (s:ByteArray):walk (lookF FL) noSc 1000 x36_19 (mkT [3,0] [pQ,.string s]) [(100,some (.var w13))] 101 ⟨[],[],[],[]⟩ ⟨[2],[],[],[]⟩ ⟨[6],[],[3,0],[100]⟩=some ⟨⟨[iv 0],[],.normal,101⟩,some (x36_16,[.bl 0])⟩:=by kernel_rfl
theorem p36_l (s:ByteArray) (i:Nat):walk (lookF FL) noSc 1000 x36_16 (mkT [6,3,0] [.int .i64 (i:Int),pQ,.string s]) [(100,some (.var w13))] 101 ⟨[6],[],[3,0],[100]⟩ ⟨[2],[],[],[]⟩ ⟨[],[],[],[]⟩=bif decide ((i:Int)<13)then bif ((0+i*1).blt 13&&isS (w13.getD (0+i*1) undefd)&&true||false)&&((intRange i 13&&true||false)&&true)then bif (asS (w13.getD (0+i*1) undefd)).toList==s.toList then some ⟨⟨[some (true,.bool true)],[],.ret,101⟩,none⟩else some ⟨⟨[iv (IntKind.i64.wrap ((i:Int)+1))],[],.normal,101⟩,none⟩else none else some ⟨⟨[iv i],[],.exit 0,101⟩,none⟩:=by kernel_rfl
theorem p36_21 (s:ByteArray) (i:Nat):walk (lookF FL) noSc 1000 x36_21 (mkT [6,3,0] [.int .i64 (i:Int),pQ,.string s]) [(100,some (.var w13))] 101 ⟨[],[],[],[]⟩ ⟨[2],[],[],[]⟩ ⟨[],[],[],[]⟩=some ⟨⟨[some (true,.bool false)],[],.ret,101⟩,none⟩:=by kernel_rfl
def wN (i:Nat):ByteArray:=bs (wordsL.getD i [])
theorem w13_at {i:Nat} (h:i<13):w13.getD i undefd=.string (wN i):=by
 have hl:wordsL.length=13:=rfl
 unfold w13 wN
 rw[List.getD_eq_getElem?_getD,List.getD_eq_getElem?_getD,List.getElem?_map,List.getElem?_eq_getElem (by omega)];rfl
theorem inW_iff (s:ByteArray):inW 13 wdRow s=true ↔ ∃ i,i<13 ∧ wN i=s:=by
 unfold inW
 rw[Lib.containsS_iff,List.mem_map]
 constructor
 ·rintro⟨i,h1,h2⟩;exact⟨i,List.mem_range.1 h1,h2⟩
 ·rintro⟨i,h1,h2⟩;exact⟨i,List.mem_range.2 h1,h2⟩
theorem toL_inj {a b:ByteArray}:(a.toList==b.toList)=true ↔ a=b:=by
 rw[beq_iff_eq,toList_data,toList_data]
 constructor
 ·intro h
  have:a.data=b.data:=Array.toList_inj.1 h
  cases a;cases b;simp_all
 ·intro h;rw[h]
def S36 (s:ByteArray) (i:Nat):St:=⟨mkT [6,3,0] [.int .i64 (i:Int),pQ,.string s],mkH [(100,.var w13)],101⟩
theorem bis_w13 {P:Program}{σ:Nm}:BIs P σ (.var w13) (.var w13):=rfl
theorem b36 {s:ByteArray}:Body Tryd.prog 36 [.string s] [] (.bool (inW 13 wdRow s)) [] 100 0:=by
 refine body_of' mixed fx36 (by simp) fun E Q hP hn hcl hfin=>?_
 have hF0:FnsOK E.P (lookF FL) noSc:=hP▸FOK
 have lr:∀ {b:Bool},LeafTo E [2] ⟨[some (true,.bool b)],[],.ret,101⟩ ⟨mkT [2] [.bool b],[],100⟩:=fun {b} =>
  ⟨_,[],_,rfl,by rw[hn];rfl,by rw[hn];exact⟨rfl,trivial⟩,trivial⟩
 have hq:∀ {b:Bool},b=inW 13 wdRow s → Q .ret ⟨mkT [2] [.bool b],[],100⟩:=fun {b} h=>by
  subst h
  exact hfin _ _ (fin_of rfl trivial (by rw[hn]) rfl)
 refine xwp_seq (xwp_toEnd (s:=⟨_,_,_⟩) (cl_seqP hcl) hF0 1000 (p36_0 s) ⟨mkT [0] [.string s],[],100⟩ ⟨_,[],_,rfl,by rw[hn];rfl,by rw[hn];exact⟨rfl,trivial⟩,trivial⟩ ?_)
 refine xwp_seq (xwp_toEnd (s:=⟨_,_,_⟩) (cl_seqP hcl) hF0 1000 (p36_1 s) ⟨mkT [3,0] [pQ,.string s],mkH [(100,.var w13)],101⟩ ⟨_,[(100,.var w13)],_,rfl,by rw[hn];rfl,by rw[hn];exact⟨rfl,rfl,trivial⟩,by rw[hn];exact⟨bis_w13,trivial⟩⟩ ?_)
 refine xwp_seq (xwp_toLoop (s:=⟨_,_,_⟩) hF0 1000 (p36_19 s) (S36 s 0) ⟨_,[(100,.var w13)],_,rfl,by rw[hn];rfl,by rw[hn];exact⟨rfl,rfl,rfl,trivial⟩,by rw[hn];exact⟨bis_w13,trivial⟩⟩ ?_)
 let I:Nat → Prop:=fun i=>i ≤ 13 ∧ ∀ j,j<i → wN j≠s
 refine xwp_loopR (ι:=Nat) (S36 s) I (fun i=>13-i) 0 ⟨by omega,fun j h=>by omega⟩ fun i hi=>?_
 have hcr:=cl_round (S:=S36 s) (I:=I) (μ:=fun i=>13-i) (i:=i) (cl_ctx (cl_seqP (x:=x36_21) hcl) [.bl 0])
 obtain⟨h1,h2⟩:=hi
 have el:=p36_l s i
 by_cases hlt:i<13
 ·rw[Nat.zero_add,Nat.mul_one,decide_eq_true (show(i:Int)<13 by omega),lt_blt hlt,ir_nat,decide_eq_true hlt,w13_at hlt]at el
  cases hc:(wN i).toList==s.toList with
  |true =>
   have el:walk (lookF FL) noSc 1000 x36_16 (mkT [6,3,0] [.int .i64 (i:Int),pQ,.string s]) [(100,some (.var w13))] 101 ⟨[6],[],[3,0],[100]⟩ ⟨[2],[],[],[]⟩ ⟨[],[],[],[]⟩=bif (wN i).toList==s.toList then some ⟨⟨[some (true,.bool true)],[],.ret,101⟩,none⟩else _:=el
   rw[hc]at el
   exact xwp_toEnd (s:=S36 s i) hcr hF0 1000 el _ lr (hq ((inW_iff s).2 ⟨i,hlt,toL_inj.1 hc⟩).symm)
  |false =>
   have el:walk (lookF FL) noSc 1000 x36_16 (mkT [6,3,0] [.int .i64 (i:Int),pQ,.string s]) [(100,some (.var w13))] 101 ⟨[6],[],[3,0],[100]⟩ ⟨[2],[],[],[]⟩ ⟨[],[],[],[]⟩=bif (wN i).toList==s.toList then _ else some ⟨⟨[iv (IntKind.i64.wrap ((i:Int)+1))],[],.normal,101⟩,none⟩:=el
   rw[hc,wrap_i (by omega) (by omega)]at el
   refine xwp_toEnd (s:=S36 s i) hcr hF0 1000 el (S36 s (i+1)) ⟨_,[(100,.var w13)],_,rfl,by rw[hn];rfl,by rw[hn];exact⟨rfl,rfl,rfl,trivial⟩,by rw[hn];exact⟨bis_w13,trivial⟩⟩ ⟨i+1,⟨hlt,fun j hj=>?_⟩,by simp only;omega,Wk.refl _ _⟩
   by_cases e:j=i
   ·subst e;intro h;rw[toL_inj.2 h]at hc;cases hc
   ·exact h2 j (by omega)
 ·rw[decide_eq_false (show ¬ (i:Int)<13 by omega)]at el
  refine xwp_toEnd (s:=S36 s i) hcr hF0 1000 el (S36 s i) ⟨_,[(100,.var w13)],_,rfl,by rw[hn];rfl,by rw[hn];exact⟨rfl,rfl,rfl,trivial⟩,by rw[hn];exact⟨bis_w13,trivial⟩⟩ ?_
  show XWP E.toEnv x36_21 Q (S36 s i)
  refine xwp_toEnd (s:=S36 s i) hcl hF0 1000 (p36_21 s i) _ lr (hq ?_)
  cases hw:inW 13 wdRow s with
  |false=>rfl
  |true =>
   obtain⟨j,j1,j2⟩:=(inW_iff s).1 hw
   exact absurd j2 (h2 j (by omega))
theorem c36 (s:ByteArray) (n:Nat):ADet Tryd.prog 36 [.string s] [] (.bool (inW 13 wdRow s)) [] n 0 :=
 adet_of_body b36 [] [] rfl rfl trivial rfl rfl trivial rfl
def g36:List Value → Option Value
 |[.string s]=>some (Value.bool (inW 13 wdRow s))
 |_=>none
def con36:Con Tryd.prog:=pureC 36 g36 fun vs v n h=>by
 unfold g36 at h
 split at h
 ·cases h;exact c36 _ n
 ·cases h
end Go.X
