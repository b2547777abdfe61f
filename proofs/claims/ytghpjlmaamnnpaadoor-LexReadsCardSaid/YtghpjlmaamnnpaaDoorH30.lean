import Derived.Test.YtghpjlmaamnnpaaDoorH29
set_option linter.all false
namespace Go.X
open Go Go.Proofs
set_option linter.unusedVariables false
set_option linter.unusedSimpArgs false
def twL:List (List UInt8):=[[45,62],[60,60],[62,62],[60,61],[62,61],[61,61],[33,61],[38,38],[124,124]]
def tw9 (s:ByteArray) (k:Nat):Bool:=twL.any fun w=>stF s k (bs w)
theorem u8_eq (c:UInt8) (a:Int) (b:UInt8) (h:a=(b.toNat:Int)):((c.toNat:Int)==a)=(b==c):=by
 subst h
 rw[Bool.eq_iff_iff,beq_iff_eq,beq_iff_eq]
 constructor
 ·intro e;exact(UInt8.toNat_inj.1 (by omega)).symm
 ·intro e;rw[e]
theorem two_law {s:ByteArray}{k:Nat} (hk:k<s.size):(bif decide (((rest s k).size:Int)>1)then two17 (rest s k) (byteAt (rest s k) 0)else false)=tw9 s k:=by
 obtain⟨c,l,h1,h2,h3⟩:=dr_at hk
 have e0:byteAt (rest s k) 0=(c.toNat:Int):=by rw[byteAt_rest,Nat.add_zero,h3]
 rw[e0,rest_size]
 unfold tw9
 by_cases h:k+1<s.size
 ·obtain⟨d,l',g1,g2,g3⟩:=dr_at h
  have e1:byteAt (rest s k) 1=(d.toNat:Int):=by rw[byteAt_rest,g3]
  rw[decide_eq_true (show((s.size-k:Nat):Int)>1 by omega),cond_true]
  have hl:l=d :: l':=by rw[← h2,g1]
  have st:∀ a b:UInt8,stF s k (bs [a,b])=(a==c&&b==d):=fun a b=>by
   unfold stF
   rw[h1,hl]
   show((a==c)&&((b==d)&&_))=_
   simp
  unfold two17
  rw[e1]
  have hD:hasD (fun _=>true) (kv (c.toNat:Int) (d.toNat:Int))=twL.any fun w=>stF s k (bs w):=by
   simp only[twL,List.any,st,hasD,keq,kv,Bool.true_and]
   rw[u8_eq c 45 45 rfl,u8_eq c 60 60 rfl,u8_eq c 62 62 rfl,u8_eq c 61 61 rfl,u8_eq c 33 33 rfl,u8_eq c 38 38 rfl,u8_eq c 124 124 rfl,
    u8_eq d 60 60 rfl,u8_eq d 62 62 rfl,u8_eq d 61 61 rfl,u8_eq d 38 38 rfl,u8_eq d 124 124 rfl]
  rw[hD]
  cases twL.any fun w=>stF s k (bs w)<;>rfl
 ·rw[decide_eq_false (show ¬ ((s.size-k:Nat):Int)>1 by omega),cond_false]
  have hl:l=[]:=by rw[← h2];exact dr_nil h
  have st:∀ a b:UInt8,stF s k (bs [a,b])=false:=fun a b=>by
   unfold stF
   rw[h1,hl]
   show((a==c)&&false)=_
   simp
  simp only[twL,List.any,st,Bool.or_self]
def twN (i:Nat):ByteArray:=bs (twL.getD i [])
theorem tw9_hit {s:ByteArray}{k i:Nat} (hi:i<9) (h:stF s k (twN i)=true):tw9 s k=true:=by
 have hl:twL.length=9:=rfl
 unfold tw9
 rw[List.any_eq_true]
 refine⟨twL.getD i [],?_,h⟩
 rw[List.getD_eq_getElem?_getD,List.getElem?_eq_getElem (by omega)]
 exact List.getElem_mem _
theorem tw9_miss {s:ByteArray}{k:Nat} (h:∀ i,i<9 → stF s k (twN i)=false):tw9 s k=false:=by
 have h0:=h 0 (by omega);have h1:=h 1 (by omega);have h2:=h 2 (by omega);have h3:=h 3 (by omega);have h4:=h 4 (by omega)
 have h5:=h 5 (by omega);have h6:=h 6 (by omega);have h7:=h 7 (by omega);have h8:=h 8 (by omega)
 have z:tw9 s k=(stF s k (twN 0)||(stF s k (twN 1)||(stF s k (twN 2)||(stF s k (twN 3)||(stF s k (twN 4)||(stF s k (twN 5)||(stF s k (twN 6)||(stF s k (twN 7)||(stF s k (twN 8)||false))))))))):=rfl
 rw[z,h0,h1,h2,h3,h4,h5,h6,h7,h8];rfl
theorem one_hit {s:ByteArray}{k i:Nat} (hk:k<s.size) (hi:i<22) (h:byteAt one22 i=byteAt s k):decide (ixB one22 (byteAt s k) ≥ 0)=true:=by
 obtain⟨c,l,h1,h2,h3⟩:=dr_at hk
 have hl:one22.data.toList.length=22:=rfl
 rw[h3]at h ⊢
 refine decide_eq_true ?_
 unfold ixB
 have hc:(c.toNat:Int).toNat.toUInt8=c:=by simp
 rw[hc]
 have h4:=Lib.indexByte_ge one22.data.toList c
 by_cases hn:Lib.indexByte one22.data.toList c=-1
 ·refine absurd ?_ (Lib.indexByte_none hn i)
  rw[List.getElem?_eq_getElem (by omega)]
  congr 1
  apply UInt8.toNat_inj.1
  unfold byteAt at h
  rw[List.getD_eq_getElem?_getD,List.getElem?_eq_getElem (by omega)]at h
  exact Int.ofNat.inj h
 ·omega
theorem one_miss {s:ByteArray}{k:Nat} (hk:k<s.size) (h:∀ i,i<22 → byteAt one22 i≠byteAt s k):decide (ixB one22 (byteAt s k) ≥ 0)=false:=by
 obtain⟨c,l,h1,h2,h3⟩:=dr_at hk
 have hl:one22.data.toList.length=22:=rfl
 rw[h3]at h ⊢
 refine decide_eq_false fun hge=>?_
 unfold ixB at hge
 have hc:(c.toNat:Int).toNat.toUInt8=c:=by simp
 rw[hc]at hge
 obtain⟨o,ho⟩:∃ o:Nat,Lib.indexByte one22.data.toList c=o:=⟨_,(Int.toNat_of_nonneg hge).symm⟩
 have h4:=(Lib.indexByte_some ho).1
 have hlt:o<22:=by
  rcases Nat.lt_or_ge o 22 with h|h
  ·exact h
  ·rw[List.getElem?_eq_none (by omega)]at h4;cases h4
 refine h o hlt ?_
 unfold byteAt
 rw[List.getD_eq_getElem?_getD,h4];rfl
theorem ext_rest (s:ByteArray) (k n:Nat):(rest s k).extract 0 n=s.extract k (k+n):=by
 have:((rest s k).extract 0 n).data.toList=(s.extract k (k+n)).data.toList:=by
  rw[ext_list,ext_list,rest_list,List.drop_zero,Nat.sub_zero,Nat.add_sub_cancel_left]
 have h:((rest s k).extract 0 n).data=(s.extract k (k+n)).data:=Array.toList_inj.1 this
 cases h1:(rest s k).extract 0 n
 cases h2:s.extract k (k+n)
 rw[h1,h2]at h
 simp_all
theorem rmF_mean (s:ByteArray):(rmF s).2=!((meanF s).2 != 0):=by
 rw[mean_eq]
 unfold rmF
 cases meanL s.data.toList<;>rfl
def tkA (s:ByteArray) (k:Nat):Int × Int:=((tokF (rest s k)).1,bif (tokF (rest s k)).2==0 then 0 else(k:Int)+(tokF (rest s k)).2)
set_option linter.unusedVariables false
set_option linter.unusedSimpArgs false
def scU2:Short:=scOf [con35,con25,con36,con15,con26]
theorem FOKU2:FnsOK Tryd.prog (lookF FL) scU2:=fok FOK _
def g19l (c a i:Bool):Bool:=((c||!c)&&true||false)&&(((c&&!a||a)&&c||!c)&&((c&&!a&&true&&true||!(c&&!a))&&((i&&(c&&!a&&(c&&!a&&true))||!(c&&!a))&&((c&&true||!c)&&((c&&true&&true||!c)&&((i&&(c&&(c&&true))||!c)&&true))))))
theorem g19l_true:∀ c a i:Bool,(c=true → i=true) → g19l c a i=true:=by decide
def g19d (a i:Bool):Bool:=((!a||a)&&true||false)&&((!a&&true||!!a)&&((i&&(!a&&(!a&&true))||!!a)&&((i&&true||false)&&true)))
theorem g19d_true:∀ a:Bool,g19d a true=true:=by decide
def r19 (a b:Int) (n:Nat):Option Stop:=some ⟨⟨[some (true,.int .i64 a),some (true,.int .i64 b)],[],.ret,n⟩,none⟩
abbrev m19 (e k:Nat) (s:ByteArray):Tm:=mkT [6,1,0] [.int .i64 (e:Int),.int .i64 (k:Int),.string s]
def gt19:Option Stop:=some ⟨⟨[],[],.normal,100⟩,none⟩
def t9:List Value:=twL.map fun l=>.string (bs l)
section
variable (s:ByteArray) (k e i:Nat)
theorem p19_0:walk (lookF FL) noSc 1000 x19 (argTm 0 [.string s,.int .i64 (k:Int)]) [] 100 ⟨[],[],[],[]⟩ ⟨[4,5],[],[],[]⟩ ⟨[6,1,0],[],[],[]⟩=some ⟨⟨[iv k,iv k,some (true,.string s)],[],.normal,100⟩,some (x19_7,[.bl 0,.sq x19_94])⟩:=by kernel_rfl
theorem p19_l:walk (lookF FL) scU2 1000 x19_7 (m19 e k s) [] 100 ⟨[6],[],[1,0],[]⟩ ⟨[4,5],[],[],[]⟩ ⟨[],[],[],[]⟩=bif g19l (decide ((e:Int)<(s.size:Int))) (letR (byteAt s e)) (intRange e s.size)then bif bif decide ((e:Int)<(s.size:Int))then bif letR (byteAt s e)then true else digF (byteAt s e)else false then some ⟨⟨[iv (IntKind.i64.wrap ((e:Int)+1))],[],.normal,100⟩,none⟩else some ⟨⟨[iv e],[],.exit 0,100⟩,none⟩else none:=by kernel_rfl
theorem p19_26:walk (lookF FL) scU2 1000 x19_26 (m19 e k s) [] 100 ⟨[],[],[6,1,0],[]⟩ ⟨[4,5],[],[],[]⟩ ⟨[],[],[],[]⟩=bif (intRange k s.size&&true||false)&&true then bif letR (byteAt s k)then bif (decide (0 ≤ (k:Int))&&decide ((k:Int) ≤ (e:Int))&&decide ((e:Int) ≤ (s.size:Int))&&true||false)&&true then bif inW 13 wdRow (s.extract k e)then r19 4 e 100 else bif decide (IntKind.i64.wrap ((e:Int)-(k:Int))>32)then r19 0 0 100 else r19 1 e 100 else none else gt19 else none:=by kernel_rfl
theorem p19_30:walk (lookF FL) scU2 1000 x19_30 (m19 e k s) [] 100 ⟨[6],[],[1,0],[]⟩ ⟨[4,5],[],[],[]⟩ ⟨[],[],[],[]⟩=bif (intRange k s.size&&true||false)&&true then bif byteAt s k==39 then some ⟨⟨[iv (IntKind.i64.wrap ((k:Int)+3))],[],.normal,100⟩,none⟩else some ⟨⟨[iv e],[],.normal,100⟩,none⟩else none:=by kernel_rfl
theorem p19_49:walk (lookF FL) scU2 1000 x19_49 (m19 e k s) [] 100 ⟨[],[],[1,0],[]⟩ ⟨[4,5],[],[],[]⟩ ⟨[],[],[],[]⟩=bif g19d (digF (byteAt s k)) (intRange k s.size)then bif bif digF (byteAt s k)then true else byteAt s k==39 then bif decide ((e:Int)>(s.size:Int))then r19 0 0 100 else bif ((s.extract k e).size.blt 4611686018427387904||false)&&((decide (0 ≤ (k:Int))&&decide ((k:Int) ≤ (e:Int))&&decide ((e:Int) ≤ (s.size:Int))&&true||false)&&true)then bif !(rmF (s.extract k e)).2 then r19 0 0 100 else r19 2 e 100 else none else gt19 else none:=by kernel_rfl
theorem p19_50:walk (lookF FL) noSc 1000 (.region x19_50) (mkT [1,0] [.int .i64 (k:Int),.string s]) [] 100 ⟨[9],[.tmp 9],[1,0],[]⟩ ⟨[],[],[],[]⟩ ⟨[],[],[],[]⟩=some ⟨⟨[some (true,pQ)],[(100,some (.var t9))],.normal,101⟩,none⟩:=by kernel_rfl
theorem p19_68:walk (lookF FL) noSc 1000 x19_68 (mkT [9,1,0] [pQ,.int .i64 (k:Int),.string s]) [(100,some (.var t9))] 101 ⟨[],[],[],[]⟩ ⟨[4,5],[],[],[]⟩ ⟨[79],[],[9,1,0],[100]⟩=some ⟨⟨[iv 0],[],.normal,101⟩,some (x19_65,[.bl 2])⟩:=by kernel_rfl
theorem p19_l2:walk (lookF FL) scU2 1000 x19_65 (mkT [79,9,1,0] [.int .i64 (i:Int),pQ,.int .i64 (k:Int),.string s]) [(100,some (.var t9))] 101 ⟨[79],[],[9,1,0],[100]⟩ ⟨[4,5],[],[],[]⟩ ⟨[],[],[],[]⟩=bif decide ((i:Int)<9)then bif (k.ble s.size&&(s.size.blt 4611686018427387904&&(asS (t9.getD (0+i*1) undefd)).size.blt 4611686018427387904)||false)&&(((0+i*1).blt 9&&isS (t9.getD (0+i*1) undefd)&&true||false)&&((intRange i 9&&true||false)&&true))then bif stF s k (asS (t9.getD (0+i*1) undefd))then r19 3 (IntKind.i64.wrap ((k:Int)+2)) 101 else some ⟨⟨[iv (IntKind.i64.wrap ((i:Int)+1))],[],.normal,101⟩,none⟩else none else some ⟨⟨[iv i],[],.exit 2,101⟩,none⟩:=by kernel_rfl
theorem p19_89:walk (lookF FL) noSc 1000 x19_89 (mkT [79,9,1,0] [.int .i64 (i:Int),pQ,.int .i64 (k:Int),.string s]) [(100,some (.var t9))] 101 ⟨[],[],[],[]⟩ ⟨[4,5],[],[],[]⟩ ⟨[12,11],[],[1,0],[]⟩=some ⟨⟨[iv 0,some (true,.string one22)],[],.normal,101⟩,some (x19_82,[.bl 4,.sq x19_87])⟩:=by kernel_rfl
theorem p19_l3:walk (lookF FL) scU2 1000 x19_82 (mkT [12,11,1,0] [.int .i64 (i:Int),.string one22,.int .i64 (k:Int),.string s]) [] 101 ⟨[12],[],[11,1,0],[]⟩ ⟨[4,5],[],[],[]⟩ ⟨[],[],[],[]⟩=bif decide ((i:Int)<(one22.size:Int))then bif (intRange k s.size&&true||false)&&((intRange i one22.size&&true||false)&&true)then bif byteAt one22 i==byteAt s k then r19 3 (IntKind.i64.wrap ((k:Int)+1)) 101 else some ⟨⟨[iv (IntKind.i64.wrap ((i:Int)+1))],[],.normal,101⟩,none⟩else none else some ⟨⟨[iv i],[],.exit 4,101⟩,none⟩:=by kernel_rfl
theorem p19_87:walk (lookF FL) scU2 1000 x19_87 (mkT [12,11,1,0] [.int .i64 (i:Int),.string one22,.int .i64 (k:Int),.string s]) [] 101 ⟨[],[],[],[]⟩ ⟨[4,5],[],[],[]⟩ ⟨[],[],[],[]⟩=r19 0 0 101:=by kernel_rfl
end
theorem t9_at {i:Nat} (h:i<9):t9.getD i undefd=.string (twN i):=by
 have hl:twL.length=9:=rfl
 unfold t9 twN
 rw[List.getD_eq_getElem?_getD,List.getD_eq_getElem?_getD,List.getElem?_map,List.getElem?_eq_getElem (by omega)];rfl
theorem twN_size {i:Nat} (h:i<9):(twN i).size<4611686018427387904:=by
 have:∀ i:Fin 9,(twN i.val).size=2:=by decide
 rw[this ⟨i,h⟩];decide
def S19 (s:ByteArray) (k j:Nat):St:=⟨m19 j k s,[],100⟩
def T19 (s:ByteArray) (k i:Nat):St:=⟨mkT [79,9,1,0] [.int .i64 (i:Int),pQ,.int .i64 (k:Int),.string s],mkH [(100,.var t9)],101⟩
def U19 (s:ByteArray) (k i:Nat):St:=⟨mkT [12,11,1,0] [.int .i64 (i:Int),.string one22,.int .i64 (k:Int),.string s],[],101⟩
theorem span_pos {s:ByteArray}{k:Nat} (hk:k<s.size) (h:alnum (byteAt s k)=true):0<spanF (rest s k):=by
 unfold spanF
 rw[rest_size]
 obtain⟨f,hf⟩:∃ f,s.size-k=f+1:=⟨s.size-k-1,by omega⟩
 rw[hf,spanG]
 simp only[byteAt_rest,Nat.add_zero,h,cond_true]
 exact(spanG_le _ f 1).1
theorem bis_t9 {P:Program}{σ:Nm}:BIs P σ (.var t9) (.var t9):=rfl
theorem b19 {s:ByteArray}{k:Nat} (hs:s.size<4611686018427387904) (hk:k<s.size) :
  Body Tryd.prog 19 [.string s,.int .i64 (k:Int)] [] (.tuple ⟨[.int .i64 (tkA s k).1,.int .i64 (tkA s k).2]⟩) [] 100 0:=by
 refine body_of' mixed fx19 (by simp) fun E Q hP hn hcl hfin=>?_
 have hF0:FnsOK E.P (lookF FL) noSc:=hP▸FOK
 have hF2:FnsOK E.P (lookF FL) scU2:=hP▸FOKU2
 obtain⟨R,hR⟩:∃ R,tkA s k=R:=⟨_,rfl⟩
 rw[hR]at hfin
 have lr:∀ {a b:Int}{n:Nat},LeafTo E [4,5] ⟨[some (true,.int .i64 a),some (true,.int .i64 b)],[],.ret,n⟩ ⟨mkT [4,5] [.int .i64 a,.int .i64 b],[],100⟩:=fun {a b n} =>
  ⟨_,[],_,rfl,by rw[hn];rfl,by rw[hn];exact⟨rfl,rfl,trivial⟩,trivial⟩
 have hq:∀ {a b:Int},R=(a,b) → Q .ret ⟨mkT [4,5] [.int .i64 a,.int .i64 b],[],100⟩:=fun {a b} h=>by
  subst h
  exact hfin _ _ (fin_of rfl trivial (by rw[hn]) rfl)
 have c0:byteAt (rest s k) 0=byteAt s k:=by rw[byteAt_rest,Nat.add_zero]
 have irk:intRange (k:Int) s.size=true:=by rw[ir_nat];exact decide_eq_true hk
 unfold tkA tokF at hR
 rw[two_law hk,c0]at hR
 have lS:∀ {j:Nat}{x:Exit},LeafTo E [6,1,0] ⟨[iv j,iv k,some (true,.string s)],[],x,100⟩ (S19 s k j):=fun {j x} =>
  ⟨_,[],_,rfl,by rw[hn];rfl,by rw[hn];exact⟨rfl,rfl,rfl,trivial⟩,trivial⟩
 obtain⟨X,hX⟩:∃ X,spanF (rest s k)=X:=⟨_,rfl⟩
 have hXle:k+X ≤ s.size:=by have:=spanF_le (rest s k);rw[rest_size,hX]at this;omega
 rw[hX,ext_rest]at hR
 have signs:letF (byteAt s k)=false → digF (byteAt s k)=false → (byteAt s k==39)=false → XWP E.toEnv x19_91 Q ⟨mkT [1,0] [.int .i64 (k:Int),.string s],[],100⟩:=fun a1 a2 a3=>by
  rw[a1,a2,a3]at hR
  simp only[cond_false]at hR
  refine xwp_seq (xwp_toEnd (s:=⟨_,_,_⟩) (cl_seqP hcl) hF0 1000 (p19_50 s k) ⟨mkT [9,1,0] [pQ,.int .i64 (k:Int),.string s],mkH [(100,.var t9)],101⟩ ⟨_,[(100,.var t9)],_,rfl,by rw[hn];rfl,by rw[hn];exact⟨rfl,rfl,rfl,trivial⟩,by rw[hn];exact⟨bis_t9,trivial⟩⟩ ?_)
  refine xwp_seq (xwp_toLoop (s:=⟨_,_,_⟩) hF0 1000 (p19_68 s k) (T19 s k 0) ⟨_,[(100,.var t9)],_,rfl,by rw[hn];rfl,by rw[hn];exact⟨rfl,rfl,rfl,rfl,trivial⟩,by rw[hn];exact⟨bis_t9,trivial⟩⟩ ?_)
  let I:Nat → Prop:=fun i=>i ≤ 9 ∧ ∀ j,j<i → stF s k (twN j)=false
  refine xwp_loopR (ι:=Nat) (T19 s k) I (fun i=>9-i) 0 ⟨by omega,fun j h=>by omega⟩ fun i hi=>?_
  have hcr:=cl_round (S:=T19 s k) (I:=I) (μ:=fun i=>9-i) (i:=i) (cl_ctx (cl_seqP (x:=x19_89) hcl) [.bl 2])
  obtain⟨h1,h2⟩:=hi
  have el:=p19_l2 s k i
  by_cases hlt:i<9
  ·rw[Nat.zero_add,Nat.mul_one,decide_eq_true (show(i:Int)<9 by omega),lt_blt hlt,ir_nat,decide_eq_true hlt,t9_at hlt,le_ble (show k ≤ s.size by omega),lt_blt hs]at el
   have hz:(asS (.string (twN i))).size.blt 4611686018427387904=true:=lt_blt (twN_size hlt)
   rw[hz]at el
   have el:walk (lookF FL) scU2 1000 x19_65 (mkT [79,9,1,0] [.int .i64 (i:Int),pQ,.int .i64 (k:Int),.string s]) [(100,some (.var t9))] 101 ⟨[79],[],[9,1,0],[100]⟩ ⟨[4,5],[],[],[]⟩ ⟨[],[],[],[]⟩=bif stF s k (twN i)then r19 3 (IntKind.i64.wrap ((k:Int)+2)) 101 else some ⟨⟨[iv (IntKind.i64.wrap ((i:Int)+1))],[],.normal,101⟩,none⟩:=el
   cases hc:stF s k (twN i)with
   |true =>
    rw[hc,cond_true,wrap_i (by omega) (by omega)]at el
    rw[tw9_hit hlt hc]at hR
    exact xwp_toEnd (s:=T19 s k i) hcr hF2 1000 el _ lr (hq hR.symm)
   |false =>
    rw[hc,cond_false,wrap_i (by omega) (by omega)]at el
    refine xwp_toEnd (s:=T19 s k i) hcr hF2 1000 el (T19 s k (i+1)) ⟨_,[(100,.var t9)],_,rfl,by rw[hn];rfl,by rw[hn];exact⟨rfl,rfl,rfl,rfl,trivial⟩,by rw[hn];exact⟨bis_t9,trivial⟩⟩ ⟨i+1,⟨hlt,fun j hj=>?_⟩,by simp only;omega,Wk.refl _ _⟩
    by_cases e:j=i
    ·subst e;exact hc
    ·exact h2 j (by omega)
  ·rw[decide_eq_false (show ¬ (i:Int)<9 by omega)]at el
   have hi9:i=9:=by omega
   rw[tw9_miss (fun j hj=>h2 j (by omega))]at hR
   simp only[cond_false]at hR
   refine xwp_toEnd (s:=T19 s k i) hcr hF2 1000 el (T19 s k i) ⟨_,[(100,.var t9)],_,rfl,by rw[hn];rfl,by rw[hn];exact⟨rfl,rfl,rfl,rfl,trivial⟩,by rw[hn];exact⟨bis_t9,trivial⟩⟩ ?_
   show XWP E.toEnv x19_89 Q (T19 s k i)
   clear hcr el I
   refine xwp_toLoop (s:=T19 s k i) hF0 1000 (p19_89 s k i) (U19 s k 0) ⟨_,[],_,rfl,by rw[hn];rfl,by rw[hn];exact⟨rfl,rfl,rfl,rfl,trivial⟩,trivial⟩ ?_
   let I:Nat → Prop:=fun i=>i ≤ 22 ∧ ∀ j,j<i → byteAt one22 j≠byteAt s k
   have sz:one22.size=22:=rfl
   refine xwp_loopR (ι:=Nat) (U19 s k) I (fun i=>22-i) 0 ⟨by omega,fun j h=>by omega⟩ fun o ho=>?_
   have hcr:=cl_round (S:=U19 s k) (I:=I) (μ:=fun i=>22-i) (i:=o) (cl_ctx hcl [.bl 4,.sq x19_87])
   obtain⟨o1,o2⟩:=ho
   have el:=p19_l3 s k o
   rw[sz,irk,ir_nat]at el
   have lU:∀ {j:Nat}{x:Exit},LeafTo E [12,11,1,0] ⟨[iv j,some (true,.string one22),iv k,some (true,.string s)],[],x,101⟩ (U19 s k j):=fun {j x} =>
    ⟨_,[],_,rfl,by rw[hn];rfl,by rw[hn];exact⟨rfl,rfl,rfl,rfl,trivial⟩,trivial⟩
   by_cases hol:o<22
   ·rw[decide_eq_true (show(o:Int)<((22:Nat):Int) by omega),decide_eq_true hol]at el
    cases hc:byteAt one22 o==byteAt s k with
    |true =>
     rw[hc]at el
     simp only[Bool.and_self,Bool.or_false,cond_true]at el
     rw[wrap_i (by omega) (by omega)]at el
     rw[one_hit hk hol (eq_of_beq hc)]at hR
     exact xwp_toEnd (s:=U19 s k o) hcr hF2 1000 el _ lr (hq hR.symm)
    |false =>
     rw[hc]at el
     simp only[Bool.and_self,Bool.or_false,cond_true,cond_false]at el
     rw[wrap_i (by omega) (by omega)]at el
     refine xwp_toEnd (s:=U19 s k o) hcr hF2 1000 el (U19 s k (o+1)) lU ⟨o+1,⟨hol,fun j hj=>?_⟩,by simp only;omega,Wk.refl _ _⟩
     by_cases e:j=o
     ·subst e;intro h;rw[h]at hc;simp at hc
     ·exact o2 j (by omega)
   ·rw[decide_eq_false (show ¬ (o:Int)<((22:Nat):Int) by omega)]at el
    rw[one_miss hk (fun j hj=>o2 j (by omega))]at hR
    refine xwp_toEnd (s:=U19 s k o) hcr hF2 1000 el (U19 s k o) lU ?_
    show XWP E.toEnv x19_87 Q (U19 s k o)
    have e87:=p19_87 s k o
    unfold r19 at e87
    exact xwp_toEnd (q:=⟨[],[],[],[]⟩) (s:=U19 s k o) hcl hF2 1000 e87 _ lr (hq hR.symm)
 have rest94:XWP E.toEnv x19_94 Q (S19 s k (k+X)):=by
  have e26:=p19_26 s k (k+X)
  rw[irk,letR_eq]at e26
  cases hl:letF (byteAt s k)with
  |true =>
   have hX0:0<X:=by rw[← hX];exact span_pos hk (by unfold alnum;rw[hl];rfl)
   have hXz:((X:Int)==0)=false:=by rw[beq_eq_false_iff_ne];omega
   rw[hl,decide_eq_true (show 0 ≤ (k:Int) by omega),decide_eq_true (show(k:Int) ≤ ((k+X:Nat):Int) by omega),decide_eq_true (show((k+X:Nat):Int) ≤ (s.size:Int) by omega),wrap_i (by omega) (by omega),show((k+X:Nat):Int)-(k:Int)=(X:Int) by omega]at e26
   rw[hl]at hR
   simp only[cond_true]at hR
   have fin:∀ {a b:Int},R=(a,b) → walk (lookF FL) scU2 1000 x19_26 (m19 (k+X) k s) [] 100 ⟨[],[],[6,1,0],[]⟩ ⟨[4,5],[],[],[]⟩ ⟨[],[],[],[]⟩=r19 a b 100 → XWP E.toEnv x19_94 Q (S19 s k (k+X)):=fun {a b} hr e =>
    xwp_seq (xwp_toEnd (s:=S19 s k (k+X)) (cl_seqP hcl) hF2 1000 e _ lr (hq hr))
   cases hw:inW 13 wdRow (s.extract k (k+X))with
   |true =>
    rw[hw]at e26 hR
    simp only[cond_true,hXz,cond_false]at hR
    exact fin (by rw[← hR];rw[Prod.mk.injEq];exact⟨rfl,by omega⟩) e26
   |false =>
    rw[hw]at e26 hR
    cases hb:decide ((X:Int)>32)with
    |true =>
     rw[hb]at e26 hR
     exact fin hR.symm e26
    |false =>
     rw[hb]at e26 hR
     simp only[cond_true,hXz,cond_false]at hR
     exact fin (by rw[← hR];rw[Prod.mk.injEq];exact⟨rfl,by omega⟩) e26
  |false =>
   rw[hl]at e26
   refine xwp_seq (xwp_toEnd (s:=S19 s k (k+X)) (cl_seqP hcl) hF2 1000 e26 (S19 s k (k+X)) ⟨_,[],_,rfl,by rw[hn];rfl,by rw[hn];exact⟨rfl,rfl,rfl,trivial⟩,trivial⟩ ?_)
   have e30:=p19_30 s k (k+X)
   rw[irk]at e30
   cases hqt:byteAt s k==39 with
   |true =>
    have h39:=eq_of_beq hqt
    have hd:digF (byteAt s k)=false:=by rw[h39];rfl
    rw[hqt,wrap_i (by omega) (by omega)]at e30
    refine xwp_seq (xwp_toEnd (s:=S19 s k (k+X)) (cl_seqP hcl) hF2 1000 e30 (S19 s k (k+3)) lS ?_)
    have e49:=p19_49 s k (k+3)
    rw[irk,g19d_true,hd,hqt]at e49
    rw[hl,hd,hqt,ext_rest]at hR
    simp only[cond_true,cond_false]at hR e49
    by_cases hbig:k+3>s.size
    ·rw[decide_eq_true (show((k+3:Nat):Int)>(s.size:Int) by omega)]at e49
     have hm3:(min3 (rest s k)).toNat=s.size-k:=by unfold min3;rw[rest_size,if_pos (by omega)];omega
     have hne:((meanF (s.extract k (k+(min3 (rest s k)).toNat))).2 != 0)=true:=by
      cases hz:((meanF (s.extract k (k+(min3 (rest s k)).toNat))).2 != 0)with
      |true=>rfl
      |false =>
       rw[hm3,← ext_rest]at hz
       have:=mean_quote (s:=(rest s k).extract 0 (s.size-k)) (by rw[byteAt_ext _ (by omega),c0,h39]) (by simpa using hz)
       rw[ext_size _ (by rw[rest_size];omega)]at this
       omega
     rw[hne]at hR
     exact xwp_seq (xwp_toEnd (s:=S19 s k (k+3)) (cl_seqP hcl) hF2 1000 e49 _ lr (hq hR.symm))
    ·have hm3:(min3 (rest s k)).toNat=3:=by unfold min3;rw[rest_size,if_neg (by omega)];rfl
     have hsz:(s.extract k (k+3)).size=3:=by rw[ByteArray.size_extract];omega
     rw[decide_eq_false (show ¬ ((k+3:Nat):Int)>(s.size:Int) by omega),decide_eq_true (show 0 ≤ (k:Int) by omega),decide_eq_true (show(k:Int) ≤ ((k+3:Nat):Int) by omega),decide_eq_true (show((k+3:Nat):Int) ≤ (s.size:Int) by omega),lt_blt (show(s.extract k (k+3)).size<4611686018427387904 by omega),rmF_mean,Bool.not_not]at e49
     rw[hm3]at hR
     cases hz:((meanF (s.extract k (k+3))).2 != 0)with
     |true =>
      rw[hz]at hR e49
      exact xwp_seq (xwp_toEnd (s:=S19 s k (k+3)) (cl_seqP hcl) hF2 1000 e49 _ lr (hq hR.symm))
     |false =>
      rw[hz]at hR e49
      exact xwp_seq (xwp_toEnd (s:=S19 s k (k+3)) (cl_seqP hcl) hF2 1000 e49 _ lr (hq (by rw[← hR];rw[Prod.mk.injEq];exact⟨rfl,by show(k:Int)+3=_;omega⟩)))
   |false =>
    rw[hqt]at e30
    refine xwp_seq (xwp_toEnd (s:=S19 s k (k+X)) (cl_seqP hcl) hF2 1000 e30 (S19 s k (k+X)) lS ?_)
    have e49:=p19_49 s k (k+X)
    rw[irk,g19d_true,hqt]at e49
    cases hd:digF (byteAt s k)with
    |true =>
     have hX0:0<X:=by rw[← hX];exact span_pos hk (by unfold alnum;rw[hd,Bool.or_true])
     have hXz:((X:Int)==0)=false:=by rw[beq_eq_false_iff_ne];omega
     have hsz:(s.extract k (k+X)).size ≤ s.size:=by rw[ByteArray.size_extract];omega
     rw[hd,decide_eq_false (show ¬ ((k+X:Nat):Int)>(s.size:Int) by omega),decide_eq_true (show 0 ≤ (k:Int) by omega),decide_eq_true (show(k:Int) ≤ ((k+X:Nat):Int) by omega),decide_eq_true (show((k+X:Nat):Int) ≤ (s.size:Int) by omega),lt_blt (show(s.extract k (k+X)).size<4611686018427387904 by omega),rmF_mean,Bool.not_not]at e49
     rw[hl,hd]at hR
     simp only[cond_true,cond_false]at hR
     cases hz:((meanF (s.extract k (k+X))).2 != 0)with
     |true =>
      rw[hz]at hR e49
      exact xwp_seq (xwp_toEnd (s:=S19 s k (k+X)) (cl_seqP hcl) hF2 1000 e49 _ lr (hq hR.symm))
     |false =>
      rw[hz]at hR e49
      simp only[cond_true,hXz,cond_false]at hR
      exact xwp_seq (xwp_toEnd (s:=S19 s k (k+X)) (cl_seqP hcl) hF2 1000 e49 _ lr (hq (by rw[← hR];rw[Prod.mk.injEq];exact⟨rfl,by omega⟩)))
    |false =>
     rw[hd]at e49
     exact xwp_seq (xwp_toEnd (s:=S19 s k (k+X)) (cl_seqP hcl) hF2 1000 e49 ⟨mkT [1,0] [.int .i64 (k:Int),.string s],[],100⟩ ⟨_,[],_,rfl,by rw[hn];rfl,by rw[hn];exact⟨rfl,rfl,trivial⟩,trivial⟩ (signs hl hd hqt))
 let pr:Nat → Bool:=fun i=>alnum (byteAt (rest s k) i)
 let J:Nat → Prop:=fun j=>k ≤ j ∧ j ≤ s.size ∧ spanG pr (s.size-j) (j-k)=X
 have hJ0:J k:=⟨Nat.le_refl _,by omega,by rw[Nat.sub_self,← hX];unfold spanF;rw[rest_size]⟩
 refine xwp_toLoop (s:=⟨_,_,_⟩) hF0 1000 (p19_0 s k) (S19 s k k) ⟨_,[],_,rfl,by rw[hn];rfl,by rw[hn];exact⟨rfl,rfl,rfl,trivial⟩,trivial⟩ ?_
 refine xwp_loopR (ι:=Nat) (S19 s k) J (fun j=>s.size-j) k hJ0 fun j hj=>?_
 have hcr:=cl_round (S:=S19 s k) (I:=J) (μ:=fun j=>s.size-j) (i:=j) (cl_ctx hcl [.bl 0,.sq x19_94])
 obtain⟨j1,j2,j3⟩:=hj
 have el:=p19_l s k j
 rw[ir_nat,g19l_true _ _ _ (fun h=>by have:=of_decide_eq_true h;exact decide_eq_true (by omega)),cond_true,letR_eq]at el
 by_cases hlt:j<s.size
 ·obtain⟨f,hf⟩:∃ f,s.size-j=f+1:=⟨s.size-j-1,by omega⟩
  have hp:pr (j-k)=(letF (byteAt s j)||digF (byteAt s j)):=by
   show alnum (byteAt (rest s k) (j-k))=_
   rw[byteAt_rest,show k+(j-k)=j by omega];rfl
  rw[hf,spanG,hp]at j3
  rw[decide_eq_true (show(j:Int)<(s.size:Int) by omega),cond_true,show(bif letF (byteAt s j)then true else digF (byteAt s j))=(letF (byteAt s j)||digF (byteAt s j)) by cases letF (byteAt s j)<;>rfl]at el
  cases ha:(letF (byteAt s j)||digF (byteAt s j))with
  |true =>
   rw[ha,wrap_i (by omega) (by omega)]at el
   rw[ha,cond_true]at j3
   exact xwp_toEnd (s:=S19 s k j) hcr hF2 1000 el (S19 s k (j+1)) lS ⟨j+1,⟨by omega,hlt,by rw[show s.size-(j+1)=f by omega,show j+1-k=j-k+1 by omega];exact j3⟩,by simp only;omega,Wk.refl _ _⟩
  |false =>
   rw[ha]at el
   rw[ha,cond_false]at j3
   refine xwp_toEnd (s:=S19 s k j) hcr hF2 1000 el (S19 s k j) lS ?_
   rw[show k+X=j by omega]at rest94
   exact rest94
 ·rw[decide_eq_false (show ¬ (j:Int)<(s.size:Int) by omega)]at el
  rw[show s.size-j=0 by omega]at j3
  have j3:j-k=X:=j3
  refine xwp_toEnd (s:=S19 s k j) hcr hF2 1000 el (S19 s k j) lS ?_
  rw[show k+X=j by omega]at rest94
  exact rest94
theorem c19 {s:ByteArray}{k:Nat} (hs:s.size<4611686018427387904) (hk:k<s.size) (n:Nat):ADet Tryd.prog 19 [.string s,.int .i64 (k:Int)] [] (.tuple ⟨[.int .i64 (tkA s k).1,.int .i64 (tkA s k).2]⟩) [] n 0 :=
 adet_of_body (b19 hs hk) [] [] rfl rfl trivial rfl rfl trivial rfl
def con19:Con Tryd.prog where
 f:=19
 run:=fun vs h n=>match vs with
  |[.string s,.int .i64 (.ofNat k)]=>some ([],.tuple ⟨[.int .i64 (tkA s k).1,.int .i64 (tkA s k).2]⟩,[],0,Nat.blt k s.size&&Nat.blt s.size 4611686018427387904)
  |_=>none
 ok:=fun vs h n pre v upd news hx=>by
  split at hx
  ·simp only[Option.some.injEq,Prod.mk.injEq,Bool.and_eq_true]at hx
   obtain⟨rfl,rfl,rfl,rfl,h1,h2⟩:=hx
   rw[Nat.blt_eq]at h1 h2
   exact⟨fun id hid=>by simp[fstL]at hid,c19 h2 h1 n⟩
  ·cases hx
end Go.X
