import Derived.Test.YtkghggngmpmigaaD31
import Derived.Test.YtkghggngmpmigaaD30
set_option linter.all false
namespace Go.X
open Go Go.Proofs
theorem region_pre {P:Program}{N:Nat}{B:Base}{ce:CE} (hce:CEok P ce){hints:List (Nat × Nat)}{ops:Array Oper}{Q:Exit->Act->World->Prop} (js:List Nat) :
  ∀ (l:List XOper) (i:Nat) (rs:List Rec) (s:St) (a:Act) (w:World),
  (∀ (k:Nat) xo,l[k]?=some xo->∃ o,ops[i+k]?=some o/\compOper P N ops o=some xo) ->
  XR ce hints l i s.t s.h s.n rs->(∀ id,s.n<=id->id<newsOf rs s.n->B.ρ id=none)->(∃ k,newsOf rs s.n<=k/\B.ρ k=none)->Rel P N B s a w->(∀ a' w',Rel P N B ⟨putsOf rs s.t,updsOf rs s.h,newsOf rs s.n⟩ a' w'->wpOps P ops Q js a' w') ->
  wpOps P ops Q (List.range' i l.length++js) a w:=by
 intro l
 induction l with
 |nil =>
  intro i rs s a w _ hx _ _ hr hQ
  cases rs with
  |nil=>exact hQ a w hr
  |cons=>exact hx.elim
 |cons xo l ih =>
  intro i rs s a w hc hx hfr hsp hr hQ
  cases rs with
  |nil=>exact hx.elim
  |cons r rs =>
   obtain⟨hs,hx⟩:=hx
   obtain⟨hBn,ρ,hcore,hfree⟩:=hr
   obtain⟨o,ho,hco⟩:=hc 0 xo rfl
   rw[List.length_cons,List.range'_succ,List.cons_append,wpOps_cons]
   refine step_sound hce (by simpa using ho) hco hs (ρ:=ρ) (g:=hget s.h) (fun k _ b v hl=>hcore.tm k b v hl) hcore.rel (fun _ _=>rfl) (fun id h1 h2=>?_) ?_ ?_
   ·have hlt:id<newsOf (r :: rs) s.n:=Nat.lt_of_lt_of_le h2 (newsOf_le rs _)
    rw[hfree id h1];exact hfr id h1 hlt
   ·obtain⟨k,hk,hk'⟩:=hsp
    have h0:s.n+r.news<=newsOf (r :: rs) s.n:=newsOf_le rs _
    exact⟨k,by omega,by rw[hfree k (by omega)];exact hk'⟩
   intro ρ' w' u hgood hu
   refine ih (i+1) rs ⟨r.put++s.t,r.upd++s.h,s.n+r.news⟩ (a.put xo.dst u) w' (fun k xo' hk=>?_) hx (fun id h1 h2=>hfr id (by simp only at h1;omega) h2) hsp ?_ hQ
   ·have:=hc (k+1) xo' (by simpa using hk)
    rwa [Nat.add_assoc,Nat.add_comm 1 k]
   ·refine⟨by simp;omega,ρ',?_,fun id hid=>?_⟩
    ·have hput:=stepR_put hs
     refine Core.congr (hcore.step hgood hBn (tm_put (t:=s.t) (p:=r.put) (hcore.tm.mono hgood.le) hput (comp_dst hco) hcore.sz hu ?_ ?_)) (fun id=>hget_append _ _ _)
     ·intro k hk
      obtain⟨c,v,hp⟩:=hput
      rw[look_append,hp,hk,look_putT_eq]
     ·intro k hk
      obtain⟨c,v,hp⟩:=hput
      rw[look_append,hp,look_putT_ne hk]
    ·simp only at hid
     rw[<- hfree id (by omega)]
     cases hx:ρ id with
     |some l=>exact hgood.le id l hx
     |none =>
      cases hx':ρ' id with
      |none=>rfl
      |some l =>
       have:=hgood.new id hx (by rw[hx'];simp)
       omega
theorem ops_pre {E:FEnv}{F:Fns}{sc:Short} (hF:FnsOK E.P F sc) (k:Nat){ops:Array Oper}{l:List XOper}{i:Nat}{s:St}{t:Tm}{h:Hp}{n:Nat}{ok:Bool}{pr:Prop}{tr:List Foot} (js:List Nat) (hc:CmpAt E.P E.N ops i l)
  (hx:xrun (callE F sc (exec F sc k [])) [] l i s.t s.h s.n true True []=some ⟨t,h,n,ok,pr,tr⟩) (hok:ok=true){Q:Exit->Act->World->Prop}{a:Act}{w:World} (hr:E.rel s a w)
  (hQ:∀ a' w',E.rel ⟨t,h,n⟩ a' w'->wpOps E.P ops Q js a' w'):wpOps E.P ops Q (List.range' i l.length++js) a w:=by
 have hce:CEok E.P (callE F sc (exec F sc k [])):=callE_ok hF (exec_sound hF k)
 have hpr:=xrun_pr callE_pr hx trivial
 obtain⟨rs,h1,h2,h3,h4,h5⟩:=xrun_recs hce hx hok hpr
 simp only at h2 h3 h4
 subst h2;subst h3;subst h4
 exact region_pre hce js l i rs s a w (cmpAt_get hc) h1 (fun id h1 _=>E.dom id (Nat.le_trans hr.1 h1)) ⟨_,Nat.le_refl _,E.dom _ (Nat.le_trans hr.1 (newsOf_le rs s.n))⟩ hr hQ
theorem body_code {P:Program}{f n0 news N:Nat}{fn:Func}{c:Code}{rts:List Rx}{vs:List Value}{pre upd:Hp}{vv:Value} (hm:P.follows .mixedOrders=true) (hfn:P.funcs[f]?=some fn) (hb:fn.body=some c)
  (hrt : tmpRes P fn.results.toList = some rts) (hnm : (fn.name == "runtime.NumGoroutine") = false) (hN : fn.ntmps = N) (hlen : vs.length <= N)
  (hx:∀ ρ w hd a w',(envOf P N n0 pre hm ρ w hd).toEnv.rel ⟨argTm 0 vs,pre,n0⟩ a w'->c.wp P ((envOf P N n0 pre hm ρ w hd).toEnv.post (finP (envOf P N n0 pre hm ρ w hd).toEnv rts pre vv upd news)) a w'):Body P f vs pre vv upd n0 news:=by
 subst hN
 refine⟨by simp[plainFn,hfn,hb];simpa using hnm,fun ρ w cargs hvl hr hd=>?_⟩
 have hcl:cargs.size=vs.length:=by rw[hvl.length];simp
 refine calls_of_wp hfn hb (wp_mono (hx ρ w hd _ w ?_) ?_)
 ·refine⟨Nat.le_refl _,ρ,⟨fun k b u hl=>?_,?_,rfl,hr,Fr.refl _ _,fun k hk=>.inl hk,Le.refl _,fun id h0 h1=>absurd h0 h1⟩,fun _ _=>rfl⟩
  ·obtain⟨rfl,_,h2⟩:=argTm_look vs 0 k b u hl
   rw[Nat.sub_zero]at h2
   have hk:k<cargs.size:=by rw[hcl];exact lt_of_get h2
   refine⟨cargs[k],?_,fun _=>hvl.get h2 (by simp[hk]),fun e=>by cases e⟩
   simp[Array.getElem?_append,hk]
  ·simp[envOf];omega
 ·rintro e a w' ⟨s,⟨he,t,hwk,hres⟩,hrel⟩
  obtain⟨hBn,ρ',hcore,hfree⟩:=hwk a w' hrel
  obtain⟨cv,hrun,hv⟩:=results_run (P:=P) (w:=w') hrt hcore.tm hcore.rel hres
  have:a.defers=[]/\∃ v,(results fn a.tmps).run P w'=.ok v w'/\∃ ρ',GoodN P ρ (hget pre) w n0 upd news ρ' w'/\V ρ' vv v:=by
   refine⟨hcore.df,cv,hrun,ρ',⟨hcore.le,fun id h0 h1=>⟨hcore.new id h0 h1,?_⟩,hcore.rel.congr fun id=>(hget_append _ _ _).symm,hcore.fr,fun k hk=>hcore.own k ?_⟩,hv⟩
   ·rcases Nat.lt_or_ge id (n0+news)with h|h
    ·exact h
    ·exact absurd ((hfree id h).trans (hd id (by omega))) h1
   ·obtain⟨id,b,l,hb,hx⟩:=hk
    exact⟨id,b,l,by rw[hget_append];exact hb,hx⟩
  rcases he with rfl|rfl
  ·exact this
  ·exact this
def restF (q F o w:Int):Option Cand:=bif o != bits2 .and .u32 w 127 then none else
 bif (encF q (candF F w).rd (candF F w).rs1 (candF F w).rs2 (candF F w).imm).2==0&&(encF q (candF F w).rd (candF F w).rs1 (candF F w).rs2 (candF F w).imm).1==w then some (candF F w)else none
def tS (w:Int):Tm:=mkT [0,2,3,19] [.int .u32 w,.pointer (some ⟨100,0,some 0⟩),.int .i64 0,.pointer (some ⟨102,0,some 0⟩)]
def hS:Hp:=mkH [(100,var0)]
def S20 (w:Int):St:=⟨tS w,hS,103⟩
def t0 (q F o f3 f7 w:Int):Tm:=(22,true,.tuple ⟨[.int .i64 q,rowV F o f3 f7]⟩) :: (21,true,.bool true) :: (20,true,.tuple ⟨[.bool true,.int .i64 q,rowV F o f3 f7]⟩) :: tS w
def t4 (q F o f3 f7 w:Int):Tm:=(4,true,.int .i64 q) :: (5,true,.pointer (some ⟨103,0,some 0⟩)) :: (24,true,rowV F o f3 f7) :: (23,true,.int .i64 q) :: t0 q F o f3 f7 w
def h4 (F o f3 f7:Int):Hp:=(103,some (.var [.int .u8 F,.int .u32 o,.int .u32 f3,.int .u32 f7])) :: (103,some (.var [.int .u8 0,.int .u32 0,.int .u32 0,.int .u32 0])) :: hS
abbrev run3 (q F o f3 f7 w:Int):Option RS:=xrun (callE (lookF FL) scB (exec (lookF FL) scB 10 [])) [] r20_3 1 (t0 q F o f3 f7 w) hS 103 true True []
theorem run3_is (q F o f3 f7 w:Int):run3 q F o f3 f7 w=some ⟨t4 q F o f3 f7 w,h4 F o f3 f7,104,true,rsP (run3 q F o f3 f7 w),rsR (run3 q F o f3 f7 w)⟩:=by kernel_rfl
def leafC (q F o f3 f7 w:Int) (e:Exit):Leaf:=⟨[some (true,.int .u32 w),some (true,.pointer (some ⟨100,0,some 0⟩)),some (true,.int .i64 0),some (true,.pointer (some ⟨102,0,some 0⟩)),some (true,.int .i64 q),some (true,.pointer (some ⟨103,0,some 0⟩))],
 [(100,some var0),(103,some (.var [.int .u8 F,.int .u32 o,.int .u32 f3,.int .u32 f7]))],e,104⟩
theorem c20t (q F o f3 f7 w:Int):execC (lookF FL) scB 1000 y20_2 (t4 q F o f3 f7 w) (h4 F o f3 f7) 104 (prjK [0,2,3,19,4,5] [.id 100,.tmp 5]) =
  bif o != bits2 .and .u32 w 127 then some (leafC q F o f3 f7 w (.exit 1))else some (leafC q F o f3 f7 w .normal):=by kernel_rfl
def leafB (w:Int) (b:Blk) (e:Exit):Leaf:=⟨[some (true,.int .u32 w),some (true,.pointer (some ⟨100,0,some 0⟩)),some (true,.int .i64 0),some (true,.pointer (some ⟨102,0,some 0⟩))],[(100,some b)],e,104⟩
theorem b20' (q w:Int) (c:Cand):execC (lookF FL) scB 1000 y20_50 (tB w) (hB q c) 104 (prjK [0,2,3,19] [Ref.id 100])=bif (((encF q c.rd c.rs1 c.rs2 c.imm).snd==0||!(encF q c.rd c.rs1 c.rs2 c.imm).snd==0)&&true||false)&&(((encF q c.rd c.rs1 c.rs2 c.imm).snd==0&&((encF q c.rd c.rs1 c.rs2 c.imm).snd==0&&true)||!(encF q c.rd c.rs1 c.rs2 c.imm).snd==0)&&true)then bif bif (encF q c.rd c.rs1 c.rs2 c.imm).snd==0 then(encF q c.rd c.rs1 c.rs2 c.imm).fst==w else false then some (leafB w (iB q c.rd c.rs1 c.rs2 c.imm) .ret)else some (leafB w var0 .normal)else none:=by kernel_rfl
theorem b20 (q w:Int) (c:Cand):execC (lookF FL) scB 1000 y20_50 (tB w) (hB q c) 104 (prjK [0,2,3,19] [Ref.id 100]) =
  bif (encF q c.rd c.rs1 c.rs2 c.imm).2==0&&(encF q c.rd c.rs1 c.rs2 c.imm).1==w then some (leafB w (iB q c.rd c.rs1 c.rs2 c.imm) .ret)else some (leafB w var0 .normal):=by
 rw[b20']
 cases (encF q c.rd c.rs1 c.rs2 c.imm).snd==0<;>cases (encF q c.rd c.rs1 c.rs2 c.imm).fst==w<;>rfl
def A20 (q:Int) (c:Cand) (err:Int):St:=⟨mkT [2,3] [.pointer (some ⟨100,0,some 0⟩),.int .i64 err],mkH [(100,iB q c.rd c.rs1 c.rs2 c.imm)],103⟩
theorem c20e (q F o f3 f7 w:Int):execC (lookF FL) scB 1000 y20_2 (t4 q F o f3 f7 w) (h4 F o f3 f7) 104 (prjK [0,2,3,19] [.id 100]) =
  bif o != bits2 .and .u32 w 127 then some (leafB w var0 (.exit 1))else some (leafB w var0 .normal):=by kernel_rfl
theorem split20:y20=.seq y20_2 (seqL [.region y20_3,.region y20_4,y20_21,y20_35,y20_43] y20_50):=by kernel_rfl
def leafR (b:Blk) (e:Exit):Leaf:=⟨[some (true,.pointer (some ⟨100,0,some 0⟩)),some (true,.int .i64 0)],[(100,some b)],e,104⟩
theorem c20r' (q w:Int) (c:Cand):execC (lookF FL) scB 1000 y20_50 (tB w) (hB q c) 104 (prjK [2,3] [Ref.id 100])=bif (((encF q c.rd c.rs1 c.rs2 c.imm).snd==0||!(encF q c.rd c.rs1 c.rs2 c.imm).snd==0)&&true||false)&&(((encF q c.rd c.rs1 c.rs2 c.imm).snd==0&&((encF q c.rd c.rs1 c.rs2 c.imm).snd==0&&true)||!(encF q c.rd c.rs1 c.rs2 c.imm).snd==0)&&true)then bif bif (encF q c.rd c.rs1 c.rs2 c.imm).snd==0 then(encF q c.rd c.rs1 c.rs2 c.imm).fst==w else false then some (leafR (iB q c.rd c.rs1 c.rs2 c.imm) .ret)else some (leafR var0 .normal)else none:=by kernel_rfl
theorem c20r (q w:Int) (c:Cand):execC (lookF FL) scB 1000 y20_50 (tB w) (hB q c) 104 (prjK [2,3] [Ref.id 100]) =
  bif (encF q c.rd c.rs1 c.rs2 c.imm).2==0&&(encF q c.rd c.rs1 c.rs2 c.imm).1==w then some (leafR (iB q c.rd c.rs1 c.rs2 c.imm) .ret)else some (leafR var0 .normal):=by
 rw[c20r']
 cases (encF q c.rd c.rs1 c.rs2 c.imm).snd==0<;>cases (encF q c.rd c.rs1 c.rs2 c.imm).fst==w<;>rfl
section
variable (E':FEnv) (hP:E'.P=Try.prog) (hn:E'.B.n=103)
include hP hn
theorem lfS (w:Int) (e:Exit):LeafTo E' [0,2,3,19] (leafB w var0 e) (S20 w):=by
 refine⟨_,_,_,rfl,?_,?_,?_⟩<;>rw[hn]
 ·rfl
 ·exact⟨rfl,rfl,rfl,rfl,trivial⟩
 ·exact⟨rfl,trivial⟩
theorem lfC (q F o f3 f7 w:Int):LeafTo E' [0,2,3,19,4,5] (leafC q F o f3 f7 w .normal) ⟨tA q w,hA F o f3 f7,104⟩:=by
 refine⟨_,_,_,rfl,?_,?_,?_⟩<;>rw[hn]
 ·rfl
 ·exact⟨rfl,rfl,rfl,rfl,rfl,rfl,trivial⟩
 ·exact⟨rfl,rfl,trivial⟩
theorem lfA (q w:Int) (c:Cand) (n:Nat):LeafTo E' [0,2,3,19,6] (leafA q w c n) ⟨tB w,hB q c,104⟩:=by
 refine⟨_,_,_,rfl,?_,?_,?_⟩<;>rw[hn]
 ·rfl
 ·exact⟨rfl,rfl,rfl,rfl,rfl,trivial⟩
 ·exact⟨rfl,rfl,trivial⟩
theorem xround20 (q F o f3 f7 w:Int) (hF:isForm F=true) (T:MapEntry->Prop) (Qr:St->Prop) (e:MapEntry) (hT:restF q F o w=none->T e) (hQ:∀ c,restF q F o w=some c->Qr (A20 q c 0)) :
  XWP E'.toEnv y20 (roundK E' (S20 w) T Qr 1 e) ⟨t4 q F o f3 f7 w,h4 F o f3 f7,104⟩:=by
 have FO:FnsOK E'.P (lookF FL) scB:=hP▸FOKB
 rw[split20]
 cases ho:(o != bits2 .and .u32 w 127)with
 |true =>
  have he:=c20e q F o f3 f7 w
  rw[ho,cond_true]at he
  refine xwp_seq (xwp_tree FO 1000 [0,2,3,19] [.id 100] (s:=⟨_,_,_⟩) he fun t' h' hp=>?_)
  exact .inl ⟨.inr rfl,hT (by unfold restF;rw[ho,cond_true]),(lfS E' hP hn w _).wk hp⟩
 |false =>
  have he:=c20t q F o f3 f7 w
  rw[ho,cond_false]at he
  refine xwp_seqT FO 1000 [0,2,3,19,4,5] [.id 100,.tmp 5] (s:=⟨_,_,_⟩) he rfl _ (lfC E' hP hn q F o f3 f7 w) ?_
  obtain⟨n,_,hA⟩:=runA_is q F o f3 f7 w hF
  refine xwp_seqL FO 1000 [0,2,3,19,6] [.id 100,.tmp 6] _ (lfA E' hP hn q w _ n) ?_ hA
  cases hc:((encF q (candF F w).rd (candF F w).rs1 (candF F w).rs2 (candF F w).imm).2==0&&(encF q (candF F w).rd (candF F w).rs1 (candF F w).rs2 (candF F w).imm).1==w)with
  |true =>
   have hb:=c20r q w (candF F w)
   rw[hc,cond_true]at hb
   refine xwp_tree FO 1000 [2,3] [.id 100] (s:=⟨_,_,_⟩) hb fun t' h' hp=>?_
   refine .inr ⟨rfl,A20 q (candF F w) 0,LeafTo.wk (ks:=[2,3]) ⟨_,_,_,rfl,?_,?_,?_⟩ hp,hQ _ (by unfold restF;rw[ho,cond_false,hc,cond_true])⟩<;>rw[hn]
   ·rfl
   ·exact⟨rfl,rfl,trivial⟩
   ·exact⟨rfl,trivial⟩
  |false =>
   have hb:=b20 q w (candF F w)
   rw[hc,cond_false]at hb
   refine xwp_tree FO 1000 [0,2,3,19] [.id 100] (s:=⟨_,_,_⟩) hb fun t' h' hp=>?_
   exact .inl ⟨.inl rfl,hT (by unfold restF;rw[ho,cond_false,hc,cond_false]),(lfS E' hP hn w _).wk hp⟩
end
def dec1 (q w:Int):Option Cand:=restF q (rowOf (.int .i64 q)).1 (rowOf (.int .i64 q)).2.1 w
def firstD (w:Int):List (Int × Value)->Option (Int × Cand)
 |[]=>none
 |(q,_) :: l=>match dec1 q w with
  |some c=>some (q,c)
  |none=>firstD w l
def decF (w:Int):Option (Int × Cand):=firstD w shTab
def DecU (w:Int):Prop:=∀ q c,tabHas shTab (.int .i64 q)=true->dec1 q w=some c->decF w=some (q,c)
structure Ans where
 q:Int
 c:Cand
 err:Int
def decA (w:Int):Ans:=match decF w with
 |some (q,c)=>⟨q,c,0⟩
 |none=>⟨0,⟨0,0,0,0⟩,2⟩
def Ans.v (x:Ans):Value:=.tuple ⟨[i18 x.q x.c.rd x.c.rs1 x.c.rs2 x.c.imm,.int .i64 x.err]⟩
def Ans.b (x:Ans):Blk:=iB x.q x.c.rd x.c.rs1 x.c.rs2 x.c.imm
theorem firstD_none {w:Int}:∀ {l:List (Int × Value)},(∀ p∈l,dec1 p.1 w=none)->firstD w l=none
 |[],_=>rfl
 |(q,v) :: l,h=>by
  unfold firstD
  rw[h (q,v) (.head _)]
  exact firstD_none fun p hp=>h p (.tail _ hp)
theorem has_mem {q:Int}:∀ {l:List (Int × Value)},tabHas l (.int .i64 q)=true->∃ p∈l,p.1=q/\tabC l (.int .i64 q)=cells4 p.2
 |[],h=>by cases h
 |(k,v) :: l,h=>by
  simp only[tabHas,Bool.or_eq_true]at h
  simp only[tabC]
  cases hk:keq (.int .i64 q) (.int .i64 k)with
  |true=>exact⟨(k,v),.head _,by simp[keq]at hk;exact hk.symm,rfl⟩
  |false =>
   rw[hk]at h
   obtain⟨p,hp,h1,h2⟩:=has_mem (h.resolve_left (by simp))
   exact⟨p,.tail _ hp,h1,h2⟩
theorem mem_has {q:Int}:∀ {l:List (Int × Value)}{p:Int × Value},p∈l->p.1=q->tabHas l (.int .i64 q)=true
 |(k,v) :: l,p,h,e=>by
  simp only[tabHas,Bool.or_eq_true]
  rcases List.mem_cons.1 h with rfl|h
  ·left;simp only at e;subst e;simp[keq]
  ·exact .inr (mem_has h e)
theorem forms:(shTab.all fun p=>isForm (cells4 p.2).1)=true:=by kernel_rfl
theorem form_of {q:Int} (h:tabHas shTab (.int .i64 q)=true):isForm (rowOf (.int .i64 q)).1=true:=by
 obtain⟨p,hp,h1,h2⟩:=has_mem h
 unfold rowOf
 rw[h2]
 exact List.all_eq_true.1 forms p hp
theorem v_row {ρ:Rn}{a b c d:Int}{v:Value} (h:V ρ (rowV a b c d) v):v=rowV a b c d:=by
 obtain⟨ys,rfl,hx⟩:=v_agg (xs:=⟨[.int .u8 a,.int .u32 b,.int .u32 c,.int .u32 d]⟩) h
 obtain⟨l⟩:=ys
 match l,hx with
 |[_,_,_,_],⟨h1,h2,h3,h4,_⟩=>cases h1;cases h2;cases h3;cases h4;rfl
theorem row_v (ρ:Rn) (a b c d:Int):V ρ (rowV a b c d) (rowV a b c d):=VL.agg (xs:=⟨[.int .u8 a,.int .u32 b,.int .u32 c,.int .u32 d]⟩) (ys:=⟨[.int .u8 a,.int .u32 b,.int .u32 c,.int .u32 d]⟩) ⟨.int _ _,.int _ _,.int _ _,.int _ _,trivial⟩
theorem under3:Try.prog.underlying 3=some (.int .i64):=by kernel_rfl
theorem under106:Try.prog.underlying 101=some (.map 3 99):=by kernel_rfl
theorem key3 {q:Value} (h:keyOf (.int .i64) q=true):∃ n,q=.int .i64 n:=by
 cases q<;>simp[keyOf]at h
 subst h;exact⟨_,rfl⟩
theorem rows_of {ρ:Rn}{w:World}{l:L} (h:Holds Try.prog ρ w l shBlk):∃ es clock,w.heap[l.addr.block]?=some (.map es clock)/\Stamps es clock /\
  (∀ e∈es.toList,∃ q:Int,e.key=.int .i64 q/\tabHas shTab (.int .i64 q)=true/\e.val=rowV (rowOf (.int .i64 q)).1 (rowOf (.int .i64 q)).2.1 (rowOf (.int .i64 q)).2.2.1 (rowOf (.int .i64 q)).2.2.2) /\
  ∀ q:Int,tabHas shTab (.int .i64 q)=true->∃ e∈es.toList,e.key=.int .i64 q:=by
 obtain⟨d,z,es,clock,h1,h2,h3,h3',h4,⟨h5,hst⟩,h6,h7⟩:=h
 rw[under3]at h1
 cases h1
 refine⟨es,clock,h4,hst,fun e he=>?_,fun q hq=>?_⟩
 ·obtain⟨q,hq⟩:=key3 (h6 e he)
  obtain⟨g1,g2⟩:=entry_val hst h6 h7 he
  rw[hq]at g1 g2
  exact⟨q,hq,g1,v_row g2⟩
 ·have:=h7 (.int .i64 q) rfl
  cases hf:es.toList.find? (fun e=>keq (.int .i64 q) e.key)with
  |none=>rw[hf]at this;rw[hq]at this;cases this.1
  |some e =>
   have he:=List.mem_of_find?_eq_some hf
   have hk:=List.find?_some hf
   exact⟨e,he,((keq_eq rfl (h6 e he)).1 hk).symm⟩
theorem fn20:Try.prog.funcs[66]?=some Try.f66:=by kernel_rfl
theorem fb20:Try.f66.body=some body20:=by kernel_rfl
theorem rt20:tmpRes Try.prog Try.f66.results.toList=some rts20:=by kernel_rfl
theorem nm20 : (Try.f66.name == "runtime.NumGoroutine") = false := by kernel_rfl
theorem nt20:Try.f66.ntmps=124:=by kernel_rfl
theorem tmR_sub {ρ:Rn}{t:Tm}{tmps:Array Value} (h:TmR ρ t tmps):∀ {t':Tm},(∀ p∈t',look t p.1=some p.2)->TmR ρ t' tmps
 |[],_=>fun k b v hl=>by cases hl
 |(j,c,u) :: t',hs=>fun k b v hl=>by
  simp only[look]at hl
  cases hb:Nat.beq j k with
  |true =>
   rw[hb]at hl
   simp only[cond_true,Option.some.injEq,Prod.mk.injEq]at hl
   obtain⟨rfl,rfl⟩:=hl
   rw[<- Nat.eq_of_beq_eq_true hb]
   exact h j c u (hs _ (.head _))
  |false=>rw[hb]at hl;exact tmR_sub h (fun p hp=>hs p (.tail _ hp)) k b v hl
def t1 (w:Int):Tm:=[(3,true,.int .i64 0),(2,true,.pointer (some ⟨100,0,some 0⟩)),(0,true,.int .u32 w)]
def t2 (w:Int):Tm:=(18,true,.map (some 101)) :: t1 w
def h2:Hp:=(101,some shBlk) :: hS
theorem e20_0 (w:Int):exec (lookF FL) scB 10 [] (.region r20_0) (argTm 0 [.int .u32 w]) [] 100=some ⟨[],.normal,t1 w,hS,101,true⟩:=by kernel_rfl
abbrev run1 (w:Int):Option RS:=xrun (callE (lookF FL) scB (exec (lookF FL) scB 10 [])) [] r20_1 0 (t1 w) hS 101 true True []
theorem run1_is (w:Int):run1 w=some ⟨t2 w,h2,102,true,rsP (run1 w),rsR (run1 w)⟩:=by kernel_rfl
def tZ (w:Int):Tm:=(3,true,.int .i64 2) :: (123,true,i18 0 0 0 0 0) :: tS w
def hZ:Hp:=(100,some (iB 0 0 0 0 0)) :: hS
theorem e20_z (w:Int):exec (lookF FL) scB 10 [] z20 (tS w) hS 103=some ⟨[],.ret,tZ w,hZ,103,true⟩:=by kernel_rfl
theorem core_alloc {P:Program}{N:Nat}{B:Base}{ρ:Rn} {t t':Tm} {g g':G}{a:Act}{w:World}{it:Nat}{o:Obj} (h:Core P N B ρ t g a w) (hg:∀ id b,g' id=some b->g id=some b) (hi:ρ it=none) (hBi:B.n<=it)
  (hgi:g' it=none) (ht:∀ {tmps:Array Value},TmR (rset ρ it ⟨⟨w.heap.size,0,none⟩,0,0⟩) ((19,true,.pointer (some ⟨it,0,some 0⟩)) :: t) tmps->TmR (rset ρ it ⟨⟨w.heap.size,0,none⟩,0,0⟩) t' tmps) (h19:19<N) :
  Core P N B (rset ρ it ⟨⟨w.heap.size,0,none⟩,0,0⟩) t' g' (a.put (some 19) (.pointer (some ⟨w.heap.size,0,none⟩))) (w.alloc o):=by
 have hle:=le_rset (ρ:=ρ) ⟨⟨w.heap.size,0,none⟩,0,0⟩ hi
 have hback:∀ id b l,g' id=some b->rset ρ it ⟨⟨w.heap.size,0,none⟩,0,0⟩ id=some l->ρ id=some l:=fun id b l h1 h2=>by
  have:id≠it:=by rintro rfl;rw[hgi]at h1;cases h1
  rwa [rset_ne _ _ this]at h2
 have hold:∀ k,k<w.heap.size->(w.alloc o).heap[k]?=w.heap[k]?:=fun k hk=>heap_alloc_old w o hk
 have c1:Core P N B (rset ρ it ⟨⟨w.heap.size,0,none⟩,0,0⟩) t g' a (w.alloc o):={
  tm:=h.tm.mono hle
  sz:=h.sz
  df:=h.df
  rel := ⟨fun id b hb=>by
      obtain⟨l,hl,hh⟩:=h.rel.holds id b (hg id b hb)
      exact⟨l,hle id l hl,hh.stay hle fun ht=>hold _ (hh.lt ht)⟩,
   fun id b id' b' l l' h1 h2 h3 h4 h5 h6 h7=>h.rel.sep id b id' b' l l' (hg _ _ h1) (hg _ _ h2) h3 h4 h5 (hback id b l h1 h6) (hback id' b' l' h2 h7)⟩
  fr:=h.fr.trans ⟨rfl,rfl,rfl,by show w.heap.size<=(w.heap.push o).size;simp,fun k hk _=>hold k hk⟩
  own:=fun k ⟨id,b,l,h1,h2,h3,h4⟩=>h.own k ⟨id,b,l,hg _ _ h1,h2,hback id b l h1 h3,h4⟩
  le:=h.le.trans hle
  new:=fun id h0 h1=>by
   by_cases e:id=it
   ·rw[e];exact hBi
   ·rw[rset_ne _ _ e]at h1;exact h.new id h0 h1 }
 have c2:=core_put (d:=19) (v:=.pointer (some ⟨it,0,some 0⟩)) (c:=.pointer (some ⟨w.heap.size,0,none⟩)) c1 h19 (by
  have:=V.ptr (ρ:=rset ρ it ⟨⟨w.heap.size,0,none⟩,0,0⟩) (idx:=0) (fo:=0) (rset_same ρ it ⟨⟨w.heap.size,0,none⟩,0,0⟩)
  exact this)
 exact { c2 with tm:=ht c2.tm }
theorem fin20 {E:FEnv} (hn:E.B.n=100) (x:Ans) (t:Tm) (h:Hp) (ht:TmsOK (stayOr 100 [(100,100)]) t (mkT [2,3] [.pointer (some ⟨100,0,some 0⟩),.int .i64 x.err])) (hh:hget h 100=some x.b){e:Exit} (he:e=.ret) :
  finP E.toEnv rts20 [] x.v [(100,some x.b)] 1 e ⟨t,h,103⟩:=by
 refine⟨.inr he,mkT [2,3] [.pointer (some ⟨100,0,some 0⟩),.int .i64 x.err],?_,rfl⟩
 rw[hn]
 refine weak [(100,100)] ?_ ?_ ?_ ?_<;>rw[hn]
 ·rfl
 ·rfl
 ·exact ht
 ·simp only[HsOK,List.append_nil,natMem]
  refine⟨?_,trivial⟩
  show(match hget h 100 with|some b=>BIs _ _ x.b b|none=>False)
  rw[hh]
  exact rfl
theorem decA_some {w q:Int}{c:Cand} (h:decF w=some (q,c)):decA w=⟨q,c,0⟩:=by unfold decA;rw[h]
theorem decA_none {w:Int} (h:decF w=none):decA w=⟨0,⟨0,0,0,0⟩,2⟩:=by unfold decA;rw[h]
theorem bd20 (w:Int) (hu:DecU w):Body Try.prog 66 [.int .u32 w] [] (decA w).v [(100,some (decA w).b)] 100 1:=by
 refine body_code mixed fn20 fb20 rt20 nm20 nt20 (show 1<=124 by decide) fun ρ0 w0 hd a0 wd hr0=>?_
 let E:FEnv:=envOf Try.prog 124 100 [] mixed ρ0 w0 hd
 change body20.wp Try.prog (E.toEnv.post (finP E.toEnv rts20 [] (decA w).v [(100,some (decA w).b)] 1)) a0 wd
 rw[shape3]
 refine wp_seq (wp_mono ((xwp_exec (E:=E) (Q:=fun e s=>e=.normal/\s=⟨t1 w,hS,101⟩) FOKB 10 [] (s:=⟨argTm 0 [.int .u32 w],[],100⟩) (e20_0 w) rfl ⟨rfl,rfl⟩) _ comp20_0 a0 wd hr0) ?_)
 rintro e a1 w1 ⟨s1,⟨rfl,rfl⟩,hr1⟩
 refine wp_seq (wp_seq (wp_region ?_))
 rw[size20.1,show List.range 2=List.range' 0 r20_1.length++[1] from rfl]
 refine ops_pre (E:=E) FOKB 10 [1] cmp20_1 (s:=⟨t1 w,hS,101⟩) (run1_is w) rfl hr1 fun a2 w2 hr2=>?_
 obtain⟨hBn,ρ2,hcore,hfree⟩:=hr2
 obtain⟨l,hl,hh⟩:=hcore.rel.holds 101 shBlk rfl
 obtain⟨es,clock,hwb,hst,hrow,hall⟩:=rows_of hh
 obtain⟨x1,hx1,d1,p1,g1⟩:=opIs_some op20_1
 have hev:a2.eval (.tmp 18)=.map (some l.addr.block):=by
  have:=at_of hcore.tm (k:=18) (v:=.map (some 101)) rfl
  generalize a2.eval (.tmp 18)=c at this
  cases this with
  |map h=>rw[hl]at h;cases h;rfl
 have hexec:(execOp a2.eval x1).run Try.prog w2=.ok (.value (.pointer (some ⟨w2.heap.size,0,none⟩))) (w2.alloc (.mapIter (some l.addr.block) clock #[] clock)) :=
  exec_range p1 (by rw[hev];exact run_range_map w2 101 3 99 l.addr.block es clock under106 hwb)
 rw[wpOps_cons]
 refine wpOp_ok hx1 g1 hexec ?_
 rw[d1]
 have hi:ρ2 102=none:=by rw[hfree 102 (by simp)];exact hd 102 (by decide)
 have hg:∀ id b,hget hS id=some b->hget h2 id=some b:=fun id b hb=>by
  simp only[h2,hget]
  cases hx:Nat.beq 101 id with
  |true=>rw[<- Nat.eq_of_beq_eq_true hx]at hb;cases hb
  |false=>exact hb
 have hc3:=core_alloc (t':=tS w) (o:=.mapIter (some l.addr.block) clock #[] clock) (it:=102) hcore hg hi (show 100<=102 by decide) rfl (fun h=>tmR_sub h (by
  intro p hp
  simp only[tS,mkT,List.mem_cons,List.not_mem_nil,or_false]at hp
  rcases hp with rfl|rfl|rfl|rfl<;>rfl)) (show 19<124 by decide)
 have hlt:l.addr.block<w2.heap.size:=hh.lt trivial
 have hback:∀ id b m,hget hS id=some b->rset ρ2 102 ⟨⟨w2.heap.size,0,none⟩,0,0⟩ id=some m->ρ2 id=some m:=fun id b m h1 h2=>by
  have:id≠102:=by rintro rfl;cases h1
  rwa [rset_ne _ _ this]at h2
 have hRI:RI E (S20 w) 102 w2.heap.size l.addr.block es clock (fun e=>∀ q:Int,e.key=.int .i64 q->dec1 q w=none) _ _ _:=⟨_,#[],show 100<=103 by decide,hc3,fun id hid=>by
   have:id≠102:=by rintro rfl;simp[S20]at hid
   rw[rset_ne _ _ this]
   exact hfree id (by simp[S20]at hid ⊢;omega),rset_same _ _ _,heap_alloc_new _ _,by rw[heap_alloc_old _ _ hlt];exact hwb,
  fun id b m h1 h2 h3=>by
   obtain⟨m',hm',hx⟩:=hcore.rel.holds id b (hg id b h1)
   have:=hback id b m h1 h3
   rw[hm']at this;cases this
   have:=hx.lt h2
   omega,
  fun id b m h1 h2 h3=>hcore.rel.sep id b 101 shBlk m l (hg id b h1) rfl (by rintro rfl;cases h1) h2 trivial (hback id b m h1 h3) hl,
  rfl,fun x _ hs=>by simp at hs⟩
 show(Code.block 0 (.loop round20)).wp Try.prog _ _ _
 rw[shape4]
 refine wp_block (wp_mono (wp_rangeMap (E:=E) (S:=S20 w) (Qr:=fun s=>∃ q c,tabHas shTab (.int .i64 q)=true/\dec1 q w=some c/\s=A20 q c 0) FOKB 10 (l3:=r20_3) ⟨rfl,rfl⟩ rfl hcore.fr.size hst.2.1 hst.1 (show 22<124 by decide) op20_2 size20.2.1 cmp20_2 op20_3 size20.2.2 cmp20_3 comp20_r
  (fun e he ρ=>?_) (fun e he E' hP hN hn=>?_) hRI) ?_)
 ·obtain⟨q,h1,_,h2⟩:=hrow e he
  rw[h1,h2]
  exact⟨.int _ _,row_v _ _ _ _ _⟩
 ·obtain⟨q,h1,hq,h2⟩:=hrow e he
  rw[h1,h2]
  refine⟨_,_,_,_,_,run3_is q _ _ _ _ w,?_⟩
  exact xround20 E' hP hn q _ _ _ _ w (form_of hq) _ _ e (fun hx q' hq'=>by rw[h1]at hq';cases hq';exact hx) (fun c hc=>⟨q,c,hq,hc,rfl⟩)
 ·rintro e a4 w4 (⟨rfl,hr4,hT⟩|⟨rfl,s2,⟨q,c,hq,hc,rfl⟩,hr4⟩)
  ·show tail20.wp Try.prog _ a4 w4
   have hF:decF w=none:=firstD_none fun p hp=>by
    obtain⟨e,he,hk⟩:=hall p.1 (mem_has hp rfl)
    exact hT e he p.1 hk
   refine wp_mono ((xwp_exec (E:=E) (Q:=finP E.toEnv rts20 [] (decA w).v [(100,some (decA w).b)] 1) FOKB 10 [] (s:=S20 w) (e20_z w) rfl ?_) _ comp20_t a4 w4 hr4) fun _ _ _ h=>h
   rw[decA_none hF]
   exact fin20 rfl _ _ _ ⟨⟨rfl,rfl⟩,⟨rfl,rfl⟩,trivial⟩ rfl rfl
  ·refine⟨_,?_,hr4⟩
   rw[decA_some (hu q c hq hc)]
   exact fin20 rfl _ _ _ ⟨⟨rfl,rfl⟩,⟨rfl,rfl⟩,trivial⟩ rfl rfl
theorem c20 (w:Int) (hu:DecU w) (n:Nat):ADet Try.prog 66 [.int .u32 w] [] (decA w).v [(n,some (decA w).b)] n 1:=by
 refine adet_of_body (bd20 w hu) [] [(n,100)] ?_ rfl trivial rfl rfl ?_ ?_
 ·show(true&&(Nat.ble n n&&Nat.blt n (n+1)&&true)&&(!(Ans.b (decA w)).ro&&true)&&true)=true
  simp[lt_blt,Ans.b,iB,Blk.ro]
 ·simp only[List.append_nil,HsOK,natMem,asc,flip,Nat.beq_refl,cond_true,and_true,hget,List.nil_append,List.cons_append]
  exact rfl
 ·simp[namesOf,natMem,asc,flip,nodupB]
noncomputable def con20:Con Try.prog where
 f:=66
 run:=fun vs _ n=>match vs with
  |[.int .u32 w]=>some ([],(decA w).v,[(n,some (decA w).b)],1,decP (DecU w))
  |_=>none
 ok:=fun vs h n pre v upd news hx=>by
  split at hx
  ·rename_i w
   simp only[Option.some.injEq,Prod.mk.injEq]at hx
   obtain⟨rfl,rfl,rfl,rfl,hu⟩:=hx
   exact⟨fun id hid=>by simp[fstL]at hid,c20 w (of_decP hu) n⟩
  ·cases hx
def regs (x:Nat->Int):List Value:=[.int .u64 (x 0),.int .u64 (x 1),.int .u64 (x 2),.int .u64 (x 3),.int .u64 (x 4),.int .u64 (x 5),.int .u64 (x 6),.int .u64 (x 7),.int .u64 (x 8),.int .u64 (x 9),.int .u64 (x 10),.int .u64 (x 11),.int .u64 (x 12),.int .u64 (x 13),.int .u64 (x 14),.int .u64 (x 15),.int .u64 (x 16),.int .u64 (x 17),.int .u64 (x 18),.int .u64 (x 19),.int .u64 (x 20),.int .u64 (x 21),.int .u64 (x 22),.int .u64 (x 23),.int .u64 (x 24),.int .u64 (x 25),.int .u64 (x 26),.int .u64 (x 27),.int .u64 (x 28),.int .u64 (x 29),.int .u64 (x 30),.int .u64 (x 31)]
structure KM where
 n:Nat
 has:Value->Bool
def ans0:Ans:=⟨0,⟨0,0,0,0⟩,0⟩
def KM.ans (k:KM) (q:Value):Ans:=bif k.has q then decA (asI q)else ans0
def Ans.i (x:Ans):Value:=i18 x.q x.c.rd x.c.rs1 x.c.rs2 x.c.imm
def KM.blk (k:KM):Blk:=.map 83 60 k.n k.has (fun q=>(k.ans q).i)
structure MS where
 sz:Nat
 mem:Nat->Int
 x:Nat->Int
 pl:Int
 st:Int
 cd:Int
 kn:KM
def MS.memB (m:MS):Blk:=.rows m.sz 1 (fun j=>[.int .u8 (m.mem j)]) false false
def MS.mB (m:MS):Blk:=.var ([.slice (some ⟨90,0,none⟩) m.sz m.sz]++regs m.x++[.int .u64 m.pl,.int .i64 m.st,.int .u8 m.cd,.map (some 91)])
abbrev pM:Value:=.pointer (some ⟨92,0,some 0⟩)
abbrev pR:Value:=.pointer (some ⟨100,0,some 0⟩)
def MS.H (m:MS):List (Nat × Blk):=[(90,m.memB),(91,m.kn.blk),(92,m.mB)]
end Go.X
