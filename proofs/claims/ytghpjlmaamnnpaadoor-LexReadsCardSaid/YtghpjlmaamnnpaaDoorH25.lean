import Derived.Test.YtghpjlmaamnnpaaDoorH24
set_option linter.all false
namespace Go.X
open Go Go.Proofs
set_option linter.unusedVariables false
set_option linter.unusedSimpArgs false
def tokF (s:ByteArray):Int × Int :=
 bif letF (byteAt s 0)then bif inW 13 wdRow (s.extract 0 (spanF s))then(4,(spanF s:Int))else bif decide ((spanF s:Int)>32)then(0,0)else(1,(spanF s:Int))
 else bif digF (byteAt s 0)then bif (meanF (s.extract 0 (spanF s))).2 != 0 then(0,0)else(2,(spanF s:Int))
 else bif byteAt s 0==39 then bif (meanF (s.extract 0 (min3 s).toNat)).2 != 0 then(0,0)else(2,3)
 else bif bif decide ((s.size:Int)>1)then two17 s (byteAt s 0)else false then(3,2)
 else bif decide (ixB one22 (byteAt s 0) ≥ 0)then(3,1)else(0,0)
theorem spanG_le (p:Nat → Bool):∀ f k,k ≤ spanG p f k ∧ spanG p f k ≤ k+f
 |0,k=>⟨Nat.le_refl _,Nat.le_refl _⟩
 |f+1,k=>by
  have h:=spanG_le p f (k+1)
  unfold spanG
  cases p k with
  |true=>simp only[cond_true];omega
  |false=>simp only[cond_false];omega
theorem spanF_le (s:ByteArray):spanF s ≤ s.size:=by
 have:=(spanG_le (fun k=>alnum (byteAt s k)) s.size 0).2
 unfold spanF;omega
theorem byteAt_rng (s:ByteArray) (k:Nat):0 ≤ byteAt s k ∧ byteAt s k<256:=by
 unfold byteAt
 have h:=UInt8.toNat_lt (s.data.toList.getD k 0)
 omega
theorem key_kv {a b:Int} (ha:0 ≤ a ∧ a<256) (hb:0 ≤ b ∧ b<256):keyOf (TypeDesc.array 2 5) (kv a b)=true:=by
 show((decide (0 ≤ a)&&decide (a<256))&&(decide (0 ≤ b)&&decide (b<256)))=true
 rw[decide_eq_true ha.1,decide_eq_true ha.2,decide_eq_true hb.1,decide_eq_true hb.2];rfl
theorem min3_ok (s:ByteArray):0 ≤ min3 s ∧ min3 s ≤ (s.size:Int):=by
 unfold min3;split<;>omega
theorem gl_bs {P:Program}{π:List (Nat × Nat)}{G:Gv}:bsOK P (stayOr 100 π) (mkH (glH G)) (glH G):=⟨⟨rfl,rfl,rfl,rfl⟩,bis_tab,⟨rfl,rfl,rfl,rfl⟩,bis_tab,bis_tab,bis_tab,⟨rfl,rfl,rfl,rfl⟩,⟨rfl,rfl,rfl,rfl⟩,trivial⟩
def S17 (ks:List Nat) (vs:List Value) (G:Gv):St:=⟨mkT ks vs,mkH (glH G),100⟩
theorem ext_size (s:ByteArray){n:Nat} (h:n ≤ s.size):(s.extract 0 n).size=n:=by
 rw[ByteArray.size_extract];omega
theorem b17 {s:ByteArray}{G:Gv} (h0:0<s.size) (hs:s.size<35184372088832):Body Tryd.prog 17 [.string s] (mkH (glH G)) (.tuple ⟨[.int .i64 (tokF s).1,.int .i64 (tokF s).2]⟩) [] 100 0:=by
 refine body_of' mixed fx17 (by simp) fun E Q hP hn hcl hfin=>?_
 have hF:FnsOK E.P (lookF FL) scT3:=hP▸FOKT3
 have hsp:=spanF_le s
 have h3:=min3_ok s
 have lf:∀ {ks:List Nat}{vs:List Value}{l:Leaf},l.bs=mkH (glH G) → 100 ≤ l.n → tsOK (stayOr 100 (pis (glH G) (mkH (glH G)))) l.ts vs → LeafTo E ks l (S17 ks vs G):=fun hb hl ht =>
  ⟨_,glH G,_,rfl,by rw[hn,hb];rfl,by rw[hn,hb];exact ht,by rw[hn,hb];exact gl_bs⟩
 have fin:∀ {a b:Int},tokF s=(a,b) → Q .ret (S17 [2,3] [.int .i64 a,.int .i64 b] G):=fun h=>hfin _ _ (fin_of rfl ⟨rfl,rfl,rfl,rfl,rfl,rfl,rfl,rfl,trivial⟩ (by rw[hn];rfl) (by rw[h];rfl))
 refine xwp_seq (xwp_toEnd (s:=⟨_,_,_⟩) (cl_seqP hcl) hF 1000 (p17_0 s G) (S17 [0] [.string s] G) (lf rfl (Nat.le_refl _) ⟨rfl,trivial⟩) ?_)
 have e1:=p17_1 s G
 rw[show intRange 0 s.size=true from ir_lit 0 rfl h0]at e1
 refine xwp_seq (xwp_toEnd (s:=S17 [0] [.string s] G) (cl_seqP hcl) hF 1000 e1 (S17 [4,0] [.int .u8 (byteAt s 0),.string s] G) (lf rfl (Nat.le_refl _) ⟨rfl,rfl,trivial⟩) ?_)
 have hc:=byteAt_rng s 0
 generalize hcc:byteAt s 0=c at hc
 have hcb:=cl_blockP (id:=0) (cl_seqP (x:=x17_61) hcl)
 have leaf:∀ {x:XCode}{a b:Int}{n:Nat},100 ≤ n → W17 x s c G=some ⟨⟨[some (true,.int .i64 a),some (true,.int .i64 b)],[],.ret,n⟩,none⟩ → tokF s=(a,b) → XWP E.toEnv x (blockP 0 (seqP (XWP E.toEnv x17_61 Q) Q)) (S17 [4,0] [.int .u8 c,.string s] G):=fun hl e h =>
  xwp_toEnd (s:=S17 [4,0] [.int .u8 _,.string s] G) hcb hF 1000 e (S17 [2,3] [.int .i64 _,.int .i64 _] G) (lf rfl hl ⟨rfl,rfl,trivial⟩) (fin h)
 have leaf':∀ {x:XCode}{a b:Int}{n:Nat},100 ≤ n → W17 x s c G=some ⟨⟨[some (true,.int .i64 a),some (true,.int .i64 b)],[],.ret,n⟩,none⟩ → tokF s=(a,b) → XWP E.toEnv x Q (S17 [4,0] [.int .u8 c,.string s] G):=fun hl e h =>
  xwp_toEnd (s:=S17 [4,0] [.int .u8 _,.string s] G) hcl hF 1000 e (S17 [2,3] [.int .i64 _,.int .i64 _] G) (lf rfl hl ⟨rfl,rfl,trivial⟩) (fin h)
 refine xwp_seq (xwp_block ?_)
 have T:tokF s=bif letF c then bif inW 13 wdRow (s.extract 0 (spanF s))then(4,(spanF s:Int))else bif decide ((spanF s:Int)>32)then(0,0)else(1,(spanF s:Int))
   else bif digF c then bif (meanF (s.extract 0 (spanF s))).2 != 0 then(0,0)else(2,(spanF s:Int))
   else bif c==39 then bif (meanF (s.extract 0 (min3 s).toNat)).2 != 0 then(0,0)else(2,3)
   else bif bif decide ((s.size:Int)>1)then two17 s c else false then(3,2)
   else bif decide (ixB one22 c ≥ 0)then(3,1)else(0,0):=by rw[← hcc];rfl
 have g1:decide (0 ≤ (spanF s:Int))=true:=decide_eq_true (by omega)
 have g2:decide ((spanF s:Int) ≤ (s.size:Int))=true:=decide_eq_true (by omega)
 have g0:s.size.blt 9223372036854775807=true:=lt_blt (by omega)
 refine xwp_seq (xwp_toEnd (s:=S17 [4,0] [.int .u8 c,.string s] G) (cl_seqP hcb) hF 1000 (p17_2 s c G) (S17 [13,4,0] [.bool (letF c),.int .u8 c,.string s] G) (lf rfl (Nat.le_refl _) ⟨rfl,rfl,rfl,trivial⟩) ?_)
 have drop1:∀ {k:Nat}{v:Value},k≠4 → k≠0 → Wk E.toEnv (S17 [k,4,0] [v,.int .u8 c,.string s] G) (S17 [4,0] [.int .u8 c,.string s] G):=fun {k v} h4 h0 =>
  wk_look (fun q x h=>by
   show(bif Nat.beq k q then some (true,v)else look (mkT [4,0] [.int .u8 c,.string s]) q)=some x
   have h:look (mkT [4,0] [.int .u8 c,.string s]) q=some x:=h
   cases hb:Nat.beq k q with
   |false=>exact h
   |true =>
    have:=Nat.eq_of_beq_eq_true hb
    subst this
    have e4:Nat.beq 4 k=false:=by
     cases h:Nat.beq 4 k with
     |false=>rfl
     |true=>exact absurd (Nat.eq_of_beq_eq_true h).symm h4
    have e0:Nat.beq 0 k=false:=by
     cases h:Nat.beq 0 k with
     |false=>rfl
     |true=>exact absurd (Nat.eq_of_beq_eq_true h).symm h0
    simp only[mkT,look,e4,e0,cond_false]at h
    cases h) fun _=>rfl
 refine xwp_if (t:=letF c) rfl (fun hl=>XWP.wk (drop1 (by decide) (by decide)) ?_) (fun hl=>XWP.wk (drop1 (by decide) (by decide)) ?_)
 ·rw[hl,cond_true]at T
  have e:=p17_18 s c G
  rw[g0,g1,g2]at e
  simp only[Bool.true_or,Bool.and_self,cond_true]at e
  cases hw:inW 13 wdRow (s.extract 0 (spanF s))with
  |true=>rw[hw,cond_true]at T e;exact leaf (by decide) e T
  |false =>
   rw[hw,cond_false]at T e
   cases hm:decide ((spanF s:Int)>32)with
   |true=>rw[hm,cond_true]at T e;exact leaf (by decide) e T
   |false=>rw[hm,cond_false]at T e;exact leaf (by decide) e T
 rw[hl,cond_false]at T
 clear hl
 refine xwp_seq (xwp_toEnd (s:=S17 [4,0] [.int .u8 c,.string s] G) (cl_seqP hcb) hF 1000 (p17_19 s c G) (S17 [27,4,0] [.bool (digF c),.int .u8 c,.string s] G) (lf rfl (Nat.le_refl _) ⟨rfl,rfl,rfl,trivial⟩) ?_)
 refine xwp_if (t:=digF c) rfl (fun hl=>XWP.wk (drop1 (by decide) (by decide)) ?_) (fun hl=>XWP.wk (drop1 (by decide) (by decide)) ?_)
 ·rw[hl,cond_true]at T
  have e:=p17_31 s c G
  rw[g0,g1,g2,show(s.extract 0 (spanF s)).size.blt 35184372088832=true from lt_blt (by rw[ext_size s hsp];omega)]at e
  simp only[Bool.true_or,Bool.and_self,cond_true]at e
  cases hm:(meanF (s.extract 0 (spanF s))).2 != 0 with
  |true=>rw[hm,cond_true]at T e;exact leaf (by decide) e T
  |false=>rw[hm,cond_false]at T e;exact leaf (by decide) e T
 rw[hl,cond_false]at T
 clear hl
 refine xwp_seq (xwp_toEnd (s:=S17 [4,0] [.int .u8 c,.string s] G) (cl_seqP hcb) hF 1000 (p17_32 s c G) (S17 [42,4,0] [.bool (c==39),.int .u8 c,.string s] G) (lf rfl (Nat.le_refl _) ⟨rfl,rfl,rfl,trivial⟩) ?_)
 refine xwp_if (t:=c==39) rfl (fun hl=>XWP.wk (drop1 (by decide) (by decide)) ?_) (fun hl=>XWP.wk (drop1 (by decide) (by decide)) ?_)
 ·rw[hl,cond_true]at T
  have e:=p17_42 s c G
  rw[decide_eq_true h3.1,decide_eq_true h3.2,show(s.extract 0 (min3 s).toNat).size.blt 35184372088832=true from lt_blt (by rw[ext_size s (by omega)];omega)]at e
  simp only[Bool.true_or,Bool.and_self,cond_true]at e
  cases hm:(meanF (s.extract 0 (min3 s).toNat)).2 != 0 with
  |true=>rw[hm,cond_true]at T e;exact leaf (by decide) e T
  |false=>rw[hm,cond_false]at T e;exact leaf (by decide) e T
 rw[hl,cond_false]at T
 clear hl
 have one:(bif decide ((s.size:Int)>1)then two17 s c else false)=false → XWP E.toEnv x17_50 (blockP 0 (seqP (XWP E.toEnv x17_61 Q) Q)) (S17 [4,0] [.int .u8 c,.string s] G):=fun h=>by
  rw[h,cond_false]at T
  have e:=p17_50 s c G
  cases hm:decide (ixB one22 c ≥ 0)with
  |true=>rw[hm,cond_true]at T e;exact xwp_toEnd (s:=S17 [4,0] [.int .u8 _,.string s] G) hcb hF 1000 e (S17 [2,3] [.int .i64 _,.int .i64 _] G) (lf rfl (Nat.le_refl _) ⟨rfl,rfl,trivial⟩) (fin T)
  |false =>
   rw[hm,cond_false]at T e
   refine xwp_toEnd (s:=S17 [4,0] [.int .u8 _,.string s] G) hcb hF 1000 e (S17 [4,0] [.int .u8 c,.string s] G) (lf rfl (Nat.le_refl _) ⟨rfl,rfl,trivial⟩) ?_
   show XWP E.toEnv x17_61 Q (S17 [4,0] [.int .u8 c,.string s] G)
   exact leaf' (by decide) (p17_61 s c G) T
 cases hg:decide ((s.size:Int)>1)with
 |false =>
  have hx:=(congrArg (pvK [56,4,0] (gIds.map .id)) (sg2 s c G false hg)).trans (sgf s c G)
  rw[show((intRange 1 s.size&&false||true)&&true)=true by simp]at hx
  refine xwp_seq (xwp_drawK (s:=S17 [4,0] [.int .u8 c,.string s] G) (cl_seqP hcb) hF 10 [56,4,0] (gIds.map .id) hx (by kernel_rfl) (S17 [56,4,0] [.bool false,.int .u8 c,.string s] G) (lf rfl (Nat.le_refl _) ⟨rfl,rfl,rfl,trivial⟩) ?_)
  refine xwp_if (t:=false) rfl (fun hl=>by cases hl) (fun _=>XWP.wk (drop1 (by decide) (by decide)) (one (by rw[hg];rfl)))
 |true =>
  have hx:=(congrArg (pvK [56,4,0] (gIds.map .id)) (sg2 s c G true hg)).trans (sgt s c G)
  have h1:intRange 1 s.size=true:=ir_lit 1 rfl (by have:=of_decide_eq_true hg;omega)
  have h2:=key_kv hc (byteAt_rng s 1)
  rw[h1,h2]at hx
  refine xwp_seq (xwp_drawK (s:=S17 [4,0] [.int .u8 c,.string s] G) (cl_seqP hcb) hF 10 [56,4,0] (gIds.map .id) hx (by kernel_rfl) (S17 [56,4,0] [.bool (two17 s c),.int .u8 c,.string s] G) (lf rfl (show 100 ≤ 101 by decide) ⟨rfl,rfl,rfl,trivial⟩) ?_)
  refine xwp_if (t:=two17 s c) rfl (fun hl=>XWP.wk (drop1 (by decide) (by decide)) ?_) (fun hl=>XWP.wk (drop1 (by decide) (by decide)) (one (by rw[hg,hl];rfl)))
  rw[hg,hl]at T
  have e:=p17_45 s c G
  rw[h1,h2]at e
  have h3:hasD (fun _=>true) (kv c (byteAt s 1))=true:=by
   unfold two17 at hl
   cases hh:hasD (fun _=>true) (kv c (byteAt s 1))with
   |true=>rfl
   |false=>rw[hh]at hl;exact hl
  rw[h3]at e
  exact leaf (by decide) e T
theorem c17 {s:ByteArray}{G:Gv} (h0:0<s.size) (hs:s.size<35184372088832) (n:Nat):ADet Tryd.prog 17 [.string s] (mkH (glH G)) (.tuple ⟨[.int .i64 (tokF s).1,.int .i64 (tokF s).2]⟩) [] n 0 :=
 adet_of_body (b17 h0 hs) piG [] rfl rfl hs_gl rfl rfl ⟨⟨rfl,rfl,rfl,rfl⟩,bis_tab,⟨rfl,rfl,rfl,rfl⟩,bis_tab,bis_tab,bis_tab,⟨rfl,rfl,rfl,rfl⟩,⟨rfl,rfl,rfl,rfl⟩,trivial⟩ rfl
def con17:Con Tryd.prog where
 f:=17
 run:=fun vs h n=>match vs,getG h with
  |[.string s],some G=>some (mkH (glH G),.tuple ⟨[.int .i64 (tokF s).1,.int .i64 (tokF s).2]⟩,[],0,Nat.blt 0 s.size&&Nat.blt s.size 35184372088832)
  |_,_=>none
 ok:=fun vs h n pre v upd news hx=>by
  split at hx
  ·rename_i s G hg
   simp only[Option.some.injEq,Prod.mk.injEq,Bool.and_eq_true]at hx
   obtain⟨rfl,rfl,rfl,rfl,h0,hs⟩:=hx
   rw[Nat.blt_eq]at h0 hs
   exact⟨getG_ok hg,c17 h0 hs n⟩
  ·cases hx
def sc11:Short:=scOf [con16,con17]
theorem FOK11:FnsOK Tryd.prog (lookF FL) sc11:=fok FOK _
set_option linter.unusedVariables false
set_option linter.unusedSimpArgs false
structure Tk where
 kind:Int
 text:ByteArray
 at_:Nat
def tkRow (t:Tk):List Value:=[.int .i64 t.kind,.string t.text,.int .i64 (t.at_:Int)]
def newS (a n:Nat):Value:=.slice (some ⟨a,0,none⟩) n n
def tkB (n:Nat) (f:Nat → Tk):Blk:=.rows n 3 (fun j=>tkRow (f j)) true false
def iv (n:Int):Option (Bool × Value):=some (true,.int .i64 n)
def ret3 (v:Value) (p e:Int) (n:Nat) (bs:List (Nat × Option Blk)):Option Stop:=some ⟨⟨[some (true,v),iv p,iv e],bs,.ret,n⟩,none⟩
def gTk (s:ByteArray) (p:Nat):Bool:=(Nat.blt 0 (rest s p).size&&(rest s p).size.blt 35184372088832||false)&&((decide (0 ≤ (p:Int))&&decide ((p:Int) ≤ (s.size:Int))&&decide ((s.size:Int) ≤ (s.size:Int))&&true||false)&&true)
def qTk (s:ByteArray) (p:Nat):Int:=IntKind.i64.wrap ((p:Int)+(tokF (rest s p)).2)
def gAt (s:ByteArray) (p:Nat):Bool:=(decide (0 ≤ (p:Int))&&decide ((p:Int) ≤ qTk s p)&&decide (qTk s p ≤ (s.size:Int))&&true||false)&&true
def gApp (n:Nat):Bool:=!(n+1).ble n&&true&&(n.ble n&&(0+n).ble n)&&true&&decide ((n+1)*36 ≤ 1099511627776)&&true
def tkNew (s:ByteArray) (p:Nat):Nat → List Value:=fun j=>slab [.int .i64 (tokF (rest s p)).1,.string (s.extract p (qTk s p).toNat),.int .i64 (p:Int)] ((0+j)*3) 3
def tkEnd (p:Nat):Nat → List Value:=fun j=>slab [.int .i64 0,.string ⟨#[]⟩,.int .i64 (p:Int)] ((0+j)*3) 3
abbrev W11 (v:Value) (h:List (Nat × Blk)) (s:ByteArray) (p:Nat) (ok:Bool) (rs rs':List Ref):Option Stop:=walk (lookF FL) sc11 1000 x11_37 (mkT [6,7,5,0] [.int .i64 (p:Int),.bool ok,v,.string s]) (mkH h) 102 ⟨[5,6],rs,[0],gIds⟩ ⟨[2,3,4],rs',[],gIds⟩ ⟨[],[],[],[]⟩
theorem p11_0 (s:ByteArray) (G:Gv):walk (lookF FL) sc11 1000 x11 (argTm 0 [.string s]) (mkH (glH G)) 100 ⟨[],[],[],[]⟩ ⟨[2,3,4],[],[],gIds⟩ ⟨[6,7,5],[],[0],gIds⟩=bif decide ((s.size:Int)>8192)then ret3 (.slice none 0 0) 8192 3 100 []else bif (s.size.blt 4294967281&&true||false)&&true then
 some ⟨⟨[iv (gapG s s.size 0).1,some (true,.bool (gapG s s.size 0).2),some (true,.slice none 0 0)],[],.normal,100⟩,some (x11_39,[.bl 0])⟩else none:=by kernel_rfl
theorem p11_n (s:ByteArray) (G:Gv) (p:Nat) (ok:Bool):W11 (.slice none 0 0) (glH G) s p ok [.tmp 5] []=bif !ok then ret3 (.slice none 0 0) p 10 102 []else bif (p:Int)==(s.size:Int)then ret3 (newS 103 1) 0 0 104 []else bif gTk s p then
 bif (tokF (rest s p)).2==0 then ret3 (.slice none 0 0) p 10 102 []else bif decide (36 ≤ 1099511627776)&&true&&gAt s p then
  some ⟨⟨[some (true,newS 103 1),iv (qTk s p)],[(103,some (.rows 1 3 (rowCat (fun _=>[]) 0 0 (tkNew s p)) true false))],.normal,104⟩,none⟩else none else none:=by kernel_rfl
theorem p11_ne (s:ByteArray) (G:Gv) (p:Nat):W11 (.slice none 0 0) (glH G) s p true [.tmp 5] [.tmp 2]=bif (p:Int)==(s.size:Int)then ret3 (newS 103 1) 0 0 104 [(103,some (.rows 1 3 (rowCat (fun _=>[]) 0 0 (tkEnd p)) true false))]else bif gTk s p then
 bif (tokF (rest s p)).2==0 then none else bif decide (36 ≤ 1099511627776)&&true&&gAt s p then
  some ⟨⟨[some (true,newS 103 1),iv (qTk s p)],[(103,some (.rows 1 3 (rowCat (fun _=>[]) 0 0 (tkNew s p)) true false))],.normal,104⟩,none⟩else none else none:=by kernel_rfl
theorem p11_b (s:ByteArray) (G:Gv) (p:Nat) (ok:Bool) (n:Nat) (f:Nat → Tk):W11 (newS 101 n) ((101,tkB n f) :: glH G) s p ok [.tmp 5] []=bif !ok then ret3 (.slice none 0 0) p 10 102 []else bif (p:Int)==(s.size:Int)then bif gApp n&&true then ret3 (newS 103 (n+1)) 0 0 104 []else none else bif gTk s p then
 bif (tokF (rest s p)).2==0 then ret3 (.slice none 0 0) p 10 102 []else bif (n:Int)==2500 then ret3 (.slice none 0 0) p 3 102 []else bif gApp n&&gAt s p then
  some ⟨⟨[some (true,newS 103 (n+1)),iv (qTk s p)],[(103,some (.rows (n+1) 3 (rowCat (fun j=>tkRow (f j)) 0 n (tkNew s p)) true false))],.normal,104⟩,none⟩else none else none:=by kernel_rfl
theorem p11_be (s:ByteArray) (G:Gv) (p:Nat) (n:Nat) (f:Nat → Tk):W11 (newS 101 n) ((101,tkB n f) :: glH G) s p true [.tmp 5] [.tmp 2]=bif (p:Int)==(s.size:Int)then bif gApp n&&true then ret3 (newS 103 (n+1)) 0 0 104 [(103,some (.rows (n+1) 3 (rowCat (fun j=>tkRow (f j)) 0 n (tkEnd p)) true false))]else none else bif gTk s p then
 bif (tokF (rest s p)).2==0 then none else bif (n:Int)==2500 then none else bif gApp n&&gAt s p then
  some ⟨⟨[some (true,newS 103 (n+1)),iv (qTk s p)],[(103,some (.rows (n+1) 3 (rowCat (fun j=>tkRow (f j)) 0 n (tkNew s p)) true false))],.normal,104⟩,none⟩else none else none:=by kernel_rfl
theorem p11_gn (s:ByteArray) (G:Gv) (p:Nat) (v:Value):walk (lookF FL) sc11 1000 (.region x11_38) (mkT [5,6,0] [v,.int .i64 (p:Int),.string s]) (mkH (glH G)) 102 ⟨[6,7],[],[5,0],gIds⟩ ⟨[],[],[],[]⟩ ⟨[],[],[],[]⟩=bif (s.size.blt 4294967281&&p.ble s.size||false)&&true then
 some ⟨⟨[iv (gapG s s.size p).1,some (true,.bool (gapG s s.size p).2)],[],.normal,102⟩,none⟩else none:=by kernel_rfl
theorem p11_gb (s:ByteArray) (G:Gv) (p:Nat) (n:Nat) (f:Nat → Tk):walk (lookF FL) sc11 1000 (.region x11_38) (mkT [5,6,0] [newS 101 n,.int .i64 (p:Int),.string s]) (mkH ((101,tkB n f) :: glH G)) 102 ⟨[6,7],[],[5,0],101 :: gIds⟩ ⟨[],[],[],[]⟩ ⟨[],[],[],[]⟩=bif (s.size.blt 4294967281&&p.ble s.size||false)&&true then
 some ⟨⟨[iv (gapG s s.size p).1,some (true,.bool (gapG s s.size p).2)],[],.normal,102⟩,none⟩else none:=by kernel_rfl
set_option linter.unusedVariables false
set_option linter.unusedSimpArgs false
theorem ext_list (s:ByteArray) (a b:Nat):(s.extract a b).data.toList=(s.data.toList.drop a).take (b-a):=by
 simp[ByteArray.data_extract,Array.toList_extract,List.extract]
theorem byteAt_ext (s:ByteArray){n k:Nat} (h:k<n):byteAt (s.extract 0 n) k=byteAt s k:=by
 unfold byteAt
 rw[ext_list,List.drop_zero,Nat.sub_zero]
 simp[List.getD,List.getElem?_take,h]
theorem byteAt_rest (s:ByteArray) (k j:Nat):byteAt (rest s k) j=byteAt s (k+j):=by
 unfold byteAt
 rw[rest_list]
 simp[List.getD,List.getElem?_drop]
theorem ch3_size {s:ByteArray} (h:ch3 s=true):s.size=3:=by
 unfold ch3 at h
 cases hc:((s.size:Int)==3)with
 |true=>have:=eq_of_beq hc;omega
 |false=>rw[hc]at h;simp at h
theorem mean_quote {s:ByteArray} (h:byteAt s 0=39) (hm:(meanF s).2=0):s.size=3:=by
 cases hc:ch3 s with
 |true=>exact ch3_size hc
 |false =>
  have hb:bad s=true:=by
   unfold bad bad0
   rw[h]
   cases (s.toList==(ByteArray.mk #[]).toList)<;>rfl
  unfold meanF at hm
  rw[hc,hb]at hm
  have:(10:Int)=0:=hm
  exact absurd this (by decide)
theorem tokF_rng {s:ByteArray} (h0:0<s.size):0 ≤ (tokF s).2 ∧ (tokF s).2 ≤ (s.size:Int):=by
 have h1:=spanF_le s
 unfold tokF
 cases letF (byteAt s 0)with
 |true =>
  simp only[cond_true]
  cases inW 13 wdRow (s.extract 0 (spanF s))with
  |true=>simp only[cond_true];omega
  |false=>cases decide ((spanF s:Int)>32)<;>simp only[cond_true,cond_false]<;>omega
 |false =>
  cases digF (byteAt s 0)with
  |true =>
   simp only[cond_true,cond_false]
   cases (meanF (s.extract 0 (spanF s))).2 != 0<;>simp only[cond_true,cond_false]<;>omega
  |false =>
   simp only[cond_false]
   cases hq:byteAt s 0==39 with
   |true =>
    simp only[cond_true]
    cases hm:(meanF (s.extract 0 (min3 s).toNat)).2 != 0 with
    |true=>simp only[cond_true];omega
    |false =>
     simp only[cond_false]
     have h2:=min3_ok s
     have h3:0<(min3 s).toNat:=by unfold min3;split<;>omega
     have:=mean_quote (s:=s.extract 0 (min3 s).toNat) (by rw[byteAt_ext s h3];exact eq_of_beq hq) (by simpa using hm)
     rw[ext_size s (by omega)]at this
     omega
   |false =>
    simp only[cond_false]
    cases hg:decide ((s.size:Int)>1)with
    |true =>
     have:=of_decide_eq_true hg
     cases two17 s (byteAt s 0)<;>cases decide (ixB one22 (byteAt s 0) ≥ 0)<;>simp only[cond_true,cond_false]<;>omega
    |false=>cases decide (ixB one22 (byteAt s 0) ≥ 0)<;>simp only[cond_true,cond_false]<;>omega
theorem gapG_rng (s:ByteArray):∀ f k,k ≤ s.size → k ≤ (gapG s f k).1 ∧ (gapG s f k).1 ≤ s.size
 |0,k,h=>⟨Nat.le_refl _,h⟩
 |f+1,k,h=>by
  unfold gapG
  cases hk:Nat.blt k s.size with
  |false=>exact⟨Nat.le_refl _,h⟩
  |true =>
   have hlt:k<s.size:=by rw[← Nat.blt_eq];exact hk
   simp only[cond_true]
   cases blank (byteAt (rest s k) 0)with
   |true=>have:=gapG_rng s f (k+1) hlt;simp only[cond_true];omega
   |false =>
    simp only[cond_false]
    cases hp:hasP (rest s k) sl2 with
    |true =>
     simp only[cond_true]
     by_cases hn0:ixB (rest s k) 10<0
     ·rw[decide_eq_true hn0];have:=gapG_rng s f s.size (Nat.le_refl _);simp only[cond_true];omega
     ·rw[decide_eq_false hn0]
      obtain⟨o,ho,h3,h4⟩:=ixB_fit s k hp hn0
      have:=gapG_rng s f (k+(ixB (rest s k) 10).toNat) (by omega)
      simp only[cond_false];omega
    |false =>
     simp only[cond_false]
     cases hq:hasP (rest s k) slS with
     |true =>
      simp only[cond_true]
      by_cases hn0:ixS (rest (rest s k) 2) sSl<0
      ·rw[decide_eq_true hn0];exact⟨Nat.le_refl _,h⟩
      ·rw[decide_eq_false hn0]
       obtain⟨h3,h4⟩:=ixS_fit hn0
       rw[rest_size,rest_size]at h3
       have h5:=hasP_len hq
       rw[rest_size]at h5
       have h6:2 ≤ s.size-k:=h5
       have:=gapG_rng s f (k+(ixS (rest (rest s k) 2) sSl).toNat+4) (by omega)
       simp only[cond_false];omega
     |false=>exact⟨Nat.le_refl _,h⟩
def lexG (s:ByteArray):Nat → List Tk → Nat → Bool → Sum (Nat × Int) (List Tk)
 |0,_,p,_=>.inl (p,10)
 |f + 1,l,p,ok=>bif !ok then .inl (p,10)else bif Nat.beq p s.size then .inr (l++[⟨0,⟨#[]⟩,p⟩])else bif (tokF (rest s p)).2==0 then .inl (p,10)else bif Nat.beq l.length 2500 then .inl (p,3)else
    lexG s f (l++[⟨(tokF (rest s p)).1,s.extract p (p+(tokF (rest s p)).2.toNat),p⟩]) (gapG s s.size (p+(tokF (rest s p)).2.toNat)).1 (gapG s s.size (p+(tokF (rest s p)).2.toNat)).2
def lexF (s:ByteArray):Sum (Nat × Int) (List Tk):=bif decide ((s.size:Int)>8192)then .inl (8192,3)else lexG s (s.size+1) [] (gapG s s.size 0).1 (gapG s s.size 0).2
end Go.X
