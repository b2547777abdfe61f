import Derived.Test.YtnekegldodbgjaaM25
set_option linter.all false
namespace Go.X
open Go Go.Proofs
open Go.ChangeMaps (setBlock)
section
variable {E:FEnv}{F:Fns}{sc:Short}{S:St}{it r bm:Nat}{es:Array MapEntry}{clock:Nat}{T:MapEntry->Prop}{Qr:St->Prop}
theorem ext20 (F:Fns) (sc:Short) (t:Tm) (h:Hp) (n:Nat) (b:Bool) (vs:List Value) :
  xrun (callE F sc (exec F sc 1 [])) [] r20_2 1 ((20,true,.tuple ⟨.bool b :: vs⟩) :: t) h n true True []=some ⟨(21,true,.bool b) :: (20,true,.tuple ⟨.bool b :: vs⟩) :: t,h,n,true,
   rsP (xrun (callE F sc (exec F sc 1 [])) [] r20_2 1 ((20,true,.tuple ⟨.bool b :: vs⟩) :: t) h n true True []),rsR (xrun (callE F sc (exec F sc 1 [])) [] r20_2 1 ((20,true,.tuple ⟨.bool b :: vs⟩) :: t) h n true True [])⟩:=by kernel_rfl
theorem at_of {ρ:Rn}{t:Tm}{a:Act}{k:Nat}{v:Value} (h:TmR ρ t a.tmps) (hl:look t k=some (true,v)):V ρ v (a.eval (.tmp k)) :=
 ev_sound (t:=t) (x:=.tmp k) hl fun k _ v hl=>h.at hl
theorem tm_drop {ρ:Rn}{t:Tm}{tmps:Array Value}{d:Nat}{v:Value} (h:TmR ρ ((d,true,v) :: t) tmps) (hd:look t d=none):TmR ρ t tmps:=fun j b u hl=>by
 refine h j b u ?_
 simp only[look]
 cases hb:Nat.beq d j with
 |true=>rw[Nat.eq_of_beq_eq_true hb]at hd;rw[hd]at hl;cases hl
 |false=>exact hl
theorem wp_rangeMap (hF:FnsOK E.P F sc) (k:Nat){rest:Code}{y:XCode}{l3:List XOper}{i2 i3:Nat}{ops2 ops3:Array Oper}
  (hS2:look S.t 20=none/\look S.t 21=none) (hS:look S.t 19=some (true,.pointer (some ⟨it,0,some 0⟩))) (hr:E.B.w.heap.size<=r) (hnd:(es.toList.map (·.born)).Nodup) (hold:∀ x∈es.toList,x.born<clock) (hN:22<E.N)
  (o2:opIs ops2[0]?=some (some 20,.next (.tmp 19) false,none)) (z2:ops2.size=2) (c2:CmpAt E.P E.N ops2 1 r20_2)
  (o3:opIs ops3[0]?=some (some 22,.entry (.tmp 19),none)) (z3:ops3.size=l3.length+1) (c3:CmpAt E.P E.N ops3 1 l3) (hy:comp E.P E.N rest=some y)
  (hcl:∀ e∈es.toList,∀ ρ,V ρ e.key e.key/\V ρ e.val e.val)
  (round:∀ e∈es.toList,∀ E':FEnv,E'.P=E.P->E'.N=E.N->E'.B.n=S.n->∃ t h n pr tr,
   xrun (callE F sc (exec F sc k [])) [] l3 1 ((22,true,.tuple ⟨[e.key,e.val]⟩) :: (21,true,.bool true) :: (20,true,.tuple ⟨[.bool true,e.key,e.val]⟩) :: S.t) S.h S.n true True []=some ⟨t,h,n,true,pr,tr⟩/\XWP E'.toEnv y (roundK E' S T Qr 1 e) ⟨t,h,n⟩)
  {m:Nat}{a:Act}{w:World} (h:RI E S it r bm es clock T m a w) :
  (Code.loop (.seq (.region i2 ops2 false) (.seq (.cond (.tmp 21) .skip (.exit 0)) (.block 1 (.seq (.region i3 ops3 false) rest))))).wp E.P
   (fun e a w=>(e=.exit 0/\E.toEnv.rel S a w/\∀ x∈es.toList,T x)\/(e=.ret/\∃ s2,Qr s2/\E.toEnv.rel s2 a w)) a w:=by
 refine wp_loopC (R:=RI E S it r bm es clock T) (μ:=id) (fun m a w hR=>?_) m a w h
 obtain⟨ρ,seen,hBn,hcore,hfree,hit,hwr,hwb,nr,nb,hm,hT⟩:=hR
 have hrlt:r<w.heap.size:=by
  rcases Nat.lt_or_ge r w.heap.size with h|h
  ·exact h
  ·simp[Array.getElem?_eq_none h]at hwr
 have hev:a.eval (.tmp 19)=.pointer (some ⟨r,0,none⟩):=by
  have:=at_of hcore.tm hS
  generalize a.eval (.tmp 19)=c at this
  cases this with
  |ptr h=>rw[hit]at h;cases h;rfl
 obtain⟨x2,hx2,d2,p2,g2⟩:=opIs_some o2
 obtain⟨x3,hx3,d3,p3,g3⟩:=opIs_some o3
 refine wp_seq (wp_region ?_)
 rw[z2,show List.range 2=0 :: List.range' 1 r20_2.length from rfl,wpOps_cons]
 rcases run_next_at (P:=E.P) w x2.type r bm clock clock seen es clock hwr hwb hold (Nat.le_refl _)with⟨h0,hrun⟩|⟨e,he,w1,hw1,hrun⟩
 ·-- nothing is left
  have hexec:(execOp a.eval x2).run E.P w=.ok (.value (.tuple #[.bool false])) w:=exec_next p2 (by rw[hev];exact hrun)
  refine wpOp_ok hx2 g2 hexec ?_
  rw[d2]
  have hrel:E.toEnv.rel ⟨(20,true,.tuple ⟨[.bool false]⟩) :: S.t,S.h,S.n⟩ (a.put (some 20) (.tuple #[.bool false])) w :=
   ⟨hBn,ρ,core_put hcore (by omega) (VL.tuple (xs:=#[.bool false]) (ys:=#[.bool false]) ⟨.bool false,trivial⟩),hfree⟩
  refine ops_run hF 1 c2 (ext20 F sc S.t S.h S.n false []) rfl hrel fun a' w' hr'=>?_
  refine wp_seq (wp_cond (t:=false) ?_ (wp_exit ?_))
  ·obtain⟨_,ρ',hc',_⟩:=hr'
   exact v_bool (at_of hc'.tm (k:=21) rfl)
  ·refine .inl ⟨rfl,?_,fun x hx=>hT x hx (all_seen es seen h0 x hx)⟩
   obtain⟨q1,ρ',hc',q3⟩:=hr'
   exact⟨q1,ρ',{ hc' with tm:=tm_drop (tm_drop hc'.tm (by simp only[look];exact hS2.2)) hS2.1 },q3⟩
 ·-- one that is left
  obtain⟨hes,hns⟩:=mem_left he
  have hexec:(execOp a.eval x2).run E.P w=.ok (.value (.tuple #[.bool true,e.key,e.val])) (setBlock w1 r (.mapIter (some bm) clock (seen.push e.born) clock)):=exec_next p2 (by rw[hev];exact hrun)
  refine wpOp_ok hx2 g2 hexec ?_
  rw[d2]
  have hh1:w1.heap=w.heap:=by rcases hw1 with rfl|rfl<;>rfl
  have hcore1:=core_put (d:=20) (v:=.tuple ⟨[.bool true,e.key,e.val]⟩) (c:=.tuple #[.bool true,e.key,e.val]) (core_iter (o:=.mapIter (some bm) clock (seen.push e.born) clock) hcore hr nr hw1) (by omega)
   (VL.tuple (xs:=#[.bool true,e.key,e.val]) (ys:=#[.bool true,e.key,e.val]) ⟨.bool true,(hcl e hes ρ).1,(hcl e hes ρ).2,trivial⟩)
  have hr1:(setBlock w1 r (.mapIter (some bm) clock (seen.push e.born) clock)).heap[r]?=some (.mapIter (some bm) clock (seen.push e.born) clock):=setBlock_same _ _ _ (by rw[hh1];exact hrlt)
  have hbr:bm≠r:=by rintro rfl;rw[hwr]at hwb;cases hwb
  have hb1:(setBlock w1 r (.mapIter (some bm) clock (seen.push e.born) clock)).heap[bm]?=some (.map es clock):=by rw[setBlock_get _ _ _ _ hbr,hh1];exact hwb
  generalize setBlock w1 r (.mapIter (some bm) clock (seen.push e.born) clock)=w2 at hcore1 hr1 hb1
  generalize a.put (some 20) (.tuple #[.bool true,e.key,e.val])=a2 at hcore1
  have hlt1:r<w2.heap.size/\bm<w2.heap.size:=by
   constructor
   ·rcases Nat.lt_or_ge r w2.heap.size with h|h
    ·exact h
    ·simp[Array.getElem?_eq_none h]at hr1
   ·rcases Nat.lt_or_ge bm w2.heap.size with h|h
    ·exact h
    ·simp[Array.getElem?_eq_none h]at hb1
  have nOr:¬ Own ρ (hget S.h) r:=fun ⟨id,b,l,h1,h2,h3,h4⟩=>nr id b l h1 (touch_of_rw h2) h3 h4
  have nOb:¬ Own ρ (hget S.h) bm:=fun ⟨id,b,l,h1,h2,h3,h4⟩=>nb id b l h1 h2 h3 h4
  let E1:FEnv:=⟨⟨E.P,E.N,⟨ρ,S.n,Own ρ (hget S.h),w2⟩,E.mix⟩,fun id hid=>(hfree id hid).trans (E.dom id (Nat.le_trans hBn hid))⟩
  have keep:∀ {s:St} {a':Act} {w':World},E1.toEnv.rel s a' w'->w'.heap[r]?=some (.mapIter (some bm) clock (seen.push e.born) clock)/\w'.heap[bm]?=some (.map es clock):=by
   rintro s a' w' ⟨_,ρ',hc',_⟩
   exact⟨(hc'.fr.block r hlt1.1 nOr).trans hr1,(hc'.fr.block bm hlt1.2 nOb).trans hb1⟩
  have hrel:E1.toEnv.rel ⟨(20,true,.tuple ⟨[.bool true,e.key,e.val]⟩) :: S.t,S.h,S.n⟩ a2 w2 :=
   ⟨Nat.le_refl _,ρ,⟨hcore1.tm,hcore1.sz,hcore1.df,hcore1.rel,Fr.refl _ _,fun k hk=>.inl hk,Le.refl _,fun id h0 h1=>absurd h0 h1⟩,fun _ _=>rfl⟩
  refine ops_run (E:=E1) hF 1 c2 (ext20 F sc S.t S.h S.n true [e.key,e.val]) rfl hrel fun a3 w3 hr3=>?_
  obtain⟨hk3r,hk3b⟩:=keep hr3
  refine wp_seq (wp_cond (t:=true) ?_ (wp_skip (wp_block (wp_seq (wp_region ?_)))))
  ·obtain⟨_,ρ',hc',_⟩:=hr3
   exact v_bool (at_of hc'.tm (k:=21) rfl)
  rw[z3,show List.range (l3.length+1)=0 :: List.range' 1 l3.length from by rw[List.range_eq_range',List.range'_succ],wpOps_cons]
  obtain⟨q1,ρ3,hc3,q3⟩:=hr3
  have hev3:a3.eval (.tmp 19)=.pointer (some ⟨r,0,none⟩):=by
   have:=at_of hc3.tm (k:=19) (v:=.pointer (some ⟨it,0,some 0⟩)) (by simp only[look];exact hS)
   generalize a3.eval (.tmp 19)=c at this
   cases this with
   |ptr h=>rw[hc3.le it _ hit]at h;cases h;rfl
  have hexec3:(execOp a3.eval x3).run E.P w3=.ok (.value (.tuple #[e.key,e.val])) w3:=exec_entry p3 (by rw[hev3];exact run_entry_at w3 r bm clock seen es clock e hk3r hk3b hes hnd)
  refine wpOp_ok hx3 g3 hexec3 ?_
  rw[d3]
  have hc4:=core_put (d:=22) (v:=.tuple ⟨[e.key,e.val]⟩) (c:=.tuple #[e.key,e.val]) hc3 hN (VL.tuple (xs:=#[e.key,e.val]) (ys:=#[e.key,e.val]) ⟨(hcl e hes ρ3).1,(hcl e hes ρ3).2,trivial⟩)
  obtain⟨t,h,n,pr,tr,hx,hxw⟩:=round e hes E1 rfl rfl rfl
  refine ops_run (E:=E1) hF k c3 (s:=⟨_,S.h,S.n⟩) hx rfl ⟨q1,ρ3,hc4,q3⟩ fun a5 w5 hr5=>?_
  refine wp_mono (hxw rest hy a5 w5 hr5) ?_
  rintro e' a6 w6 ⟨s6,hq,hr6⟩
  rcases hq with⟨he',hTe,hwk⟩|⟨rfl,s2,hwk,hq2⟩
  ·have hr7:=hwk a6 w6 hr6
   have hnext:RI E S it r bm es clock T ((leftOf es (seen.push e.born)).size) a6 w6:=by
    obtain⟨hkr,hkb⟩:=keep hr7
    obtain⟨g1,ρ7,hc7,g3⟩:=hr7
    have hback:∀ id b l,hget S.h id=some b->ρ7 id=some l->ρ id=some l:=fun id b l h1 h2=>by
     obtain⟨l0,hl0,_⟩:=hcore.rel.holds id b h1
     rw[hc7.le id l0 hl0]at h2;cases h2;exact hl0
    refine⟨ρ7,seen.push e.born,hBn,core_comp hBn hcore1 hc7,fun id hid=>(g3 id hid).trans (hfree id hid),hc7.le it _ hit,hkr,hkb,
     fun id b l h1 h2 h3=>nr id b l h1 h2 (hback id b l h1 h3),fun id b l h1 h2 h3=>nb id b l h1 h2 (hback id b l h1 h3),rfl,fun x hx hs=>?_⟩
    rw[contains_push]at hs
    cases hc:seen.contains x.born with
    |true=>exact hT x hx hc
    |false =>
     rw[hc,Bool.false_or,beq_iff_eq]at hs
     have:x=e:=by
      obtain⟨i,hi⟩:=List.mem_iff_getElem?.1 hx
      obtain⟨j,hj⟩:=List.mem_iff_getElem?.1 hes
      have hij:i=j:=by
       have hil:i<(es.toList.map (·.born)).length:=by rw[List.length_map];exact(List.getElem?_eq_some_iff.1 hi).1
       refine(List.getElem?_inj hil hnd).1 ?_
       rw[List.getElem?_map,List.getElem?_map,hi,hj]
       simp[hs]
      subst hij
      rw[hi]at hj
      exact Option.some.inj hj
     rw[this];exact hTe
   have hlt:(leftOf es (seen.push e.born)).size<m:=by rw[<- hm];exact left_shrinks es seen e he
   rcases he' with rfl|rfl
   ·exact⟨_,hlt,hnext⟩
   ·exact⟨_,hlt,hnext⟩
  ·refine .inr ⟨rfl,s2,hq2,?_⟩
   obtain⟨g1,ρ7,hc7,g3⟩:=hwk a6 w6 hr6
   exact⟨Nat.le_trans hBn g1,ρ7,core_comp hBn hcore1 hc7,fun id hid=>(g3 id hid).trans (hfree id (Nat.le_trans g1 hid))⟩
end
end Go.X
namespace Go.X
open Go Go.Proofs
theorem region_pre {P:Program}{N:Nat}{B:Base}{ce:CE} (hce:CEok P ce){hints:List (Nat × Nat)}{ops:Array Oper}{Q:Exit->Act->World->Prop} (js:List Nat) :
  ∀ (l:List XOper) (i:Nat) (rs:List Rec) (s:St) (a:Act) (w:World),
  (∀ (k:Nat) xo,l[k]?=some xo->∃ o,ops[i+k]?=some o/\compOper P N ops o=some xo) ->
  XR ce hints l i s.t s.h s.n rs->(∀ id,s.n<=id->id<newsOf rs s.n->B.ρ id=none)->(∃ k,newsOf rs s.n<=k/\B.ρ k=none)->Rel P N B s a w->(∀ a' w',Rel P N B ⟨putsOf rs s.t,updsOf rs s.h,newsOf rs s.n⟩ a' w'->wpOps P ops Q js a' w') ->
  wpOps P ops Q (List.range' i l.length++js) a w:=by
 intro l
 induction l with
 |nil =>
  intro i rs s a w _ hx _ _ hr hQ
  cases rs with
  |nil=>exact hQ a w hr
  |cons=>exact hx.elim
 |cons xo l ih =>
  intro i rs s a w hc hx hfr hsp hr hQ
  cases rs with
  |nil=>exact hx.elim
  |cons r rs =>
   obtain⟨hs,hx⟩:=hx
   obtain⟨hBn,ρ,hcore,hfree⟩:=hr
   obtain⟨o,ho,hco⟩:=hc 0 xo rfl
   rw[List.length_cons,List.range'_succ,List.cons_append,wpOps_cons]
   refine step_sound hce (by simpa using ho) hco hs (ρ:=ρ) (g:=hget s.h) (fun k _ b v hl=>hcore.tm k b v hl) hcore.rel (fun _ _=>rfl) (fun id h1 h2=>?_) ?_ ?_
   ·have hlt:id<newsOf (r :: rs) s.n:=Nat.lt_of_lt_of_le h2 (newsOf_le rs _)
    rw[hfree id h1];exact hfr id h1 hlt
   ·obtain⟨k,hk,hk'⟩:=hsp
    have h0:s.n+r.news<=newsOf (r :: rs) s.n:=newsOf_le rs _
    exact⟨k,by omega,by rw[hfree k (by omega)];exact hk'⟩
   intro ρ' w' u hgood hu
   refine ih (i+1) rs ⟨r.put++s.t,r.upd++s.h,s.n+r.news⟩ (a.put xo.dst u) w' (fun k xo' hk=>?_) hx (fun id h1 h2=>hfr id (by simp only at h1;omega) h2) hsp ?_ hQ
   ·have:=hc (k+1) xo' (by simpa using hk)
    rwa [Nat.add_assoc,Nat.add_comm 1 k]
   ·refine⟨by simp;omega,ρ',?_,fun id hid=>?_⟩
    ·have hput:=stepR_put hs
     refine Core.congr (hcore.step hgood hBn (tm_put (t:=s.t) (p:=r.put) (hcore.tm.mono hgood.le) hput (comp_dst hco) hcore.sz hu ?_ ?_)) (fun id=>hget_append _ _ _)
     ·intro k hk
      obtain⟨c,v,hp⟩:=hput
      rw[look_append,hp,hk,look_putT_eq]
     ·intro k hk
      obtain⟨c,v,hp⟩:=hput
      rw[look_append,hp,look_putT_ne hk]
    ·simp only at hid
     rw[<- hfree id (by omega)]
     cases hx:ρ id with
     |some l=>exact hgood.le id l hx
     |none =>
      cases hx':ρ' id with
      |none=>rfl
      |some l =>
       have:=hgood.new id hx (by rw[hx'];simp)
       omega
theorem ops_pre {E:FEnv}{F:Fns}{sc:Short} (hF:FnsOK E.P F sc) (k:Nat){ops:Array Oper}{l:List XOper}{i:Nat}{s:St}{t:Tm}{h:Hp}{n:Nat}{ok:Bool}{pr:Prop}{tr:List Foot} (js:List Nat) (hc:CmpAt E.P E.N ops i l)
  (hx:xrun (callE F sc (exec F sc k [])) [] l i s.t s.h s.n true True []=some ⟨t,h,n,ok,pr,tr⟩) (hok:ok=true){Q:Exit->Act->World->Prop}{a:Act}{w:World} (hr:E.rel s a w)
  (hQ:∀ a' w',E.rel ⟨t,h,n⟩ a' w'->wpOps E.P ops Q js a' w'):wpOps E.P ops Q (List.range' i l.length++js) a w:=by
 have hce:CEok E.P (callE F sc (exec F sc k [])):=callE_ok hF (exec_sound hF k)
 have hpr:=xrun_pr callE_pr hx trivial
 obtain⟨rs,h1,h2,h3,h4,h5⟩:=xrun_recs hce hx hok hpr
 simp only at h2 h3 h4
 subst h2;subst h3;subst h4
 exact region_pre hce js l i rs s a w (cmpAt_get hc) h1 (fun id h1 _=>E.dom id (Nat.le_trans hr.1 h1)) ⟨_,Nat.le_refl _,E.dom _ (Nat.le_trans hr.1 (newsOf_le rs s.n))⟩ hr hQ
theorem body_code {P:Program}{f n0 news N:Nat}{fn:Func}{c:Code}{rts:List Rx}{vs:List Value}{pre upd:Hp}{vv:Value} (hm:P.follows .mixedOrders=true) (hfn:P.funcs[f]?=some fn) (hb:fn.body=some c)
  (hrt : tmpRes P fn.results.toList = some rts) (hnm : (fn.name == "runtime.NumGoroutine") = false) (hN : fn.ntmps = N) (hlen : vs.length <= N)
  (hx:∀ ρ w hd a w',(envOf P N n0 pre hm ρ w hd).toEnv.rel ⟨argTm 0 vs,pre,n0⟩ a w'->c.wp P ((envOf P N n0 pre hm ρ w hd).toEnv.post (finP (envOf P N n0 pre hm ρ w hd).toEnv rts pre vv upd news)) a w'):Body P f vs pre vv upd n0 news:=by
 subst hN
 refine⟨by simp[plainFn,hfn,hb];simpa using hnm,fun ρ w cargs hvl hr hd=>?_⟩
 have hcl:cargs.size=vs.length:=by rw[hvl.length];simp
 refine calls_of_wp hfn hb (wp_mono (hx ρ w hd _ w ?_) ?_)
 ·refine⟨Nat.le_refl _,ρ,⟨fun k b u hl=>?_,?_,rfl,hr,Fr.refl _ _,fun k hk=>.inl hk,Le.refl _,fun id h0 h1=>absurd h0 h1⟩,fun _ _=>rfl⟩
  ·obtain⟨rfl,_,h2⟩:=argTm_look vs 0 k b u hl
   rw[Nat.sub_zero]at h2
   have hk:k<cargs.size:=by rw[hcl];exact lt_of_get h2
   refine⟨cargs[k],?_,fun _=>hvl.get h2 (by simp[hk]),fun e=>by cases e⟩
   simp[Array.getElem?_append,hk]
  ·simp[envOf];omega
 ·rintro e a w' ⟨s,⟨he,t,hwk,hres⟩,hrel⟩
  obtain⟨hBn,ρ',hcore,hfree⟩:=hwk a w' hrel
  obtain⟨cv,hrun,hv⟩:=results_run (P:=P) (w:=w') hrt hcore.tm hcore.rel hres
  have:a.defers=[]/\∃ v,(results fn a.tmps).run P w'=.ok v w'/\∃ ρ',GoodN P ρ (hget pre) w n0 upd news ρ' w'/\V ρ' vv v:=by
   refine⟨hcore.df,cv,hrun,ρ',⟨hcore.le,fun id h0 h1=>⟨hcore.new id h0 h1,?_⟩,hcore.rel.congr fun id=>(hget_append _ _ _).symm,hcore.fr,fun k hk=>hcore.own k ?_⟩,hv⟩
   ·rcases Nat.lt_or_ge id (n0+news)with h|h
    ·exact h
    ·exact absurd ((hfree id h).trans (hd id (by omega))) h1
   ·obtain⟨id,b,l,hb,hx⟩:=hk
    exact⟨id,b,l,by rw[hget_append];exact hb,hx⟩
  rcases he with rfl|rfl
  ·exact this
  ·exact this
def restF (q F o w:Int):Option Cand:=bif o != bits2 .and .u32 w 127 then none else
 bif (encF q (candF F w).rd (candF F w).rs1 (candF F w).rs2 (candF F w).imm).2==0&&(encF q (candF F w).rd (candF F w).rs1 (candF F w).rs2 (candF F w).imm).1==w then some (candF F w)else none
def tS (w:Int):Tm:=mkT [0,2,3,19] [.int .u32 w,.pointer (some ⟨100,0,some 0⟩),.int .i64 0,.pointer (some ⟨102,0,some 0⟩)]
def hS:Hp:=mkH [(100,var0)]
def S20 (w:Int):St:=⟨tS w,hS,103⟩
def t0 (q F o f3 f7 w:Int):Tm:=(22,true,.tuple ⟨[.int .i64 q,rowV F o f3 f7]⟩) :: (21,true,.bool true) :: (20,true,.tuple ⟨[.bool true,.int .i64 q,rowV F o f3 f7]⟩) :: tS w
def t4 (q F o f3 f7 w:Int):Tm:=(4,true,.int .i64 q) :: (5,true,.pointer (some ⟨103,0,some 0⟩)) :: (24,true,rowV F o f3 f7) :: (23,true,.int .i64 q) :: t0 q F o f3 f7 w
def h4 (F o f3 f7:Int):Hp:=(103,some (.var [.int .u8 F,.int .u32 o,.int .u32 f3,.int .u32 f7])) :: (103,some (.var [.int .u8 0,.int .u32 0,.int .u32 0,.int .u32 0])) :: hS
abbrev run3 (q F o f3 f7 w:Int):Option RS:=xrun (callE (lookF FL) scB (exec (lookF FL) scB 10 [])) [] r20_3 1 (t0 q F o f3 f7 w) hS 103 true True []
theorem run3_is (q F o f3 f7 w:Int):run3 q F o f3 f7 w=some ⟨t4 q F o f3 f7 w,h4 F o f3 f7,104,true,rsP (run3 q F o f3 f7 w),rsR (run3 q F o f3 f7 w)⟩:=by kernel_rfl
def leafC (q F o f3 f7 w:Int) (e:Exit):Leaf:=⟨[some (true,.int .u32 w),some (true,.pointer (some ⟨100,0,some 0⟩)),some (true,.int .i64 0),some (true,.pointer (some ⟨102,0,some 0⟩)),some (true,.int .i64 q),some (true,.pointer (some ⟨103,0,some 0⟩))],
 [(100,some var0),(103,some (.var [.int .u8 F,.int .u32 o,.int .u32 f3,.int .u32 f7]))],e,104⟩
theorem c20t (q F o f3 f7 w:Int):execC (lookF FL) scB 1000 y20_2 (t4 q F o f3 f7 w) (h4 F o f3 f7) 104 (prjK [0,2,3,19,4,5] [.id 100,.tmp 5]) =
  bif o != bits2 .and .u32 w 127 then some (leafC q F o f3 f7 w (.exit 1))else some (leafC q F o f3 f7 w .normal):=by kernel_rfl
def leafB (w:Int) (b:Blk) (e:Exit):Leaf:=⟨[some (true,.int .u32 w),some (true,.pointer (some ⟨100,0,some 0⟩)),some (true,.int .i64 0),some (true,.pointer (some ⟨102,0,some 0⟩))],[(100,some b)],e,104⟩
theorem b20' (q w:Int) (c:Cand):execC (lookF FL) scB 1000 y20_50 (tB w) (hB q c) 104 (prjK [0,2,3,19] [Ref.id 100])=bif (((encF q c.rd c.rs1 c.rs2 c.imm).snd==0||!(encF q c.rd c.rs1 c.rs2 c.imm).snd==0)&&true||false)&&(((encF q c.rd c.rs1 c.rs2 c.imm).snd==0&&((encF q c.rd c.rs1 c.rs2 c.imm).snd==0&&true)||!(encF q c.rd c.rs1 c.rs2 c.imm).snd==0)&&true)then bif bif (encF q c.rd c.rs1 c.rs2 c.imm).snd==0 then(encF q c.rd c.rs1 c.rs2 c.imm).fst==w else false then some (leafB w (iB q c.rd c.rs1 c.rs2 c.imm) .ret)else some (leafB w var0 .normal)else none:=by kernel_rfl
theorem b20 (q w:Int) (c:Cand):execC (lookF FL) scB 1000 y20_50 (tB w) (hB q c) 104 (prjK [0,2,3,19] [Ref.id 100]) =
  bif (encF q c.rd c.rs1 c.rs2 c.imm).2==0&&(encF q c.rd c.rs1 c.rs2 c.imm).1==w then some (leafB w (iB q c.rd c.rs1 c.rs2 c.imm) .ret)else some (leafB w var0 .normal):=by
 rw[b20']
 cases (encF q c.rd c.rs1 c.rs2 c.imm).snd==0<;>cases (encF q c.rd c.rs1 c.rs2 c.imm).fst==w<;>rfl
def A20 (q:Int) (c:Cand) (err:Int):St:=⟨mkT [2,3] [.pointer (some ⟨100,0,some 0⟩),.int .i64 err],mkH [(100,iB q c.rd c.rs1 c.rs2 c.imm)],103⟩
theorem c20e (q F o f3 f7 w:Int):execC (lookF FL) scB 1000 y20_2 (t4 q F o f3 f7 w) (h4 F o f3 f7) 104 (prjK [0,2,3,19] [.id 100]) =
  bif o != bits2 .and .u32 w 127 then some (leafB w var0 (.exit 1))else some (leafB w var0 .normal):=by kernel_rfl
theorem split20:y20=.seq y20_2 (seqL [.region y20_3,.region y20_4,y20_21,y20_35,y20_43] y20_50):=by kernel_rfl
def leafR (b:Blk) (e:Exit):Leaf:=⟨[some (true,.pointer (some ⟨100,0,some 0⟩)),some (true,.int .i64 0)],[(100,some b)],e,104⟩
theorem c20r' (q w:Int) (c:Cand):execC (lookF FL) scB 1000 y20_50 (tB w) (hB q c) 104 (prjK [2,3] [Ref.id 100])=bif (((encF q c.rd c.rs1 c.rs2 c.imm).snd==0||!(encF q c.rd c.rs1 c.rs2 c.imm).snd==0)&&true||false)&&(((encF q c.rd c.rs1 c.rs2 c.imm).snd==0&&((encF q c.rd c.rs1 c.rs2 c.imm).snd==0&&true)||!(encF q c.rd c.rs1 c.rs2 c.imm).snd==0)&&true)then bif bif (encF q c.rd c.rs1 c.rs2 c.imm).snd==0 then(encF q c.rd c.rs1 c.rs2 c.imm).fst==w else false then some (leafR (iB q c.rd c.rs1 c.rs2 c.imm) .ret)else some (leafR var0 .normal)else none:=by kernel_rfl
theorem c20r (q w:Int) (c:Cand):execC (lookF FL) scB 1000 y20_50 (tB w) (hB q c) 104 (prjK [2,3] [Ref.id 100]) =
  bif (encF q c.rd c.rs1 c.rs2 c.imm).2==0&&(encF q c.rd c.rs1 c.rs2 c.imm).1==w then some (leafR (iB q c.rd c.rs1 c.rs2 c.imm) .ret)else some (leafR var0 .normal):=by
 rw[c20r']
 cases (encF q c.rd c.rs1 c.rs2 c.imm).snd==0<;>cases (encF q c.rd c.rs1 c.rs2 c.imm).fst==w<;>rfl
section
variable (E':FEnv) (hP:E'.P=Try.prog) (hn:E'.B.n=103)
include hP hn
theorem lfS (w:Int) (e:Exit):LeafTo E' [0,2,3,19] (leafB w var0 e) (S20 w):=by
 refine⟨_,_,_,rfl,?_,?_,?_⟩<;>rw[hn]
 ·rfl
 ·exact⟨rfl,rfl,rfl,rfl,trivial⟩
 ·exact⟨rfl,trivial⟩
theorem lfC (q F o f3 f7 w:Int):LeafTo E' [0,2,3,19,4,5] (leafC q F o f3 f7 w .normal) ⟨tA q w,hA F o f3 f7,104⟩:=by
 refine⟨_,_,_,rfl,?_,?_,?_⟩<;>rw[hn]
 ·rfl
 ·exact⟨rfl,rfl,rfl,rfl,rfl,rfl,trivial⟩
 ·exact⟨rfl,rfl,trivial⟩
theorem lfA (q w:Int) (c:Cand) (n:Nat):LeafTo E' [0,2,3,19,6] (leafA q w c n) ⟨tB w,hB q c,104⟩:=by
 refine⟨_,_,_,rfl,?_,?_,?_⟩<;>rw[hn]
 ·rfl
 ·exact⟨rfl,rfl,rfl,rfl,rfl,trivial⟩
 ·exact⟨rfl,rfl,trivial⟩
theorem xround20 (q F o f3 f7 w:Int) (hF:isForm F=true) (T:MapEntry->Prop) (Qr:St->Prop) (e:MapEntry) (hT:restF q F o w=none->T e) (hQ:∀ c,restF q F o w=some c->Qr (A20 q c 0)) :
  XWP E'.toEnv y20 (roundK E' (S20 w) T Qr 1 e) ⟨t4 q F o f3 f7 w,h4 F o f3 f7,104⟩:=by
 have FO:FnsOK E'.P (lookF FL) scB:=hP▸FOKB
 rw[split20]
 cases ho:(o != bits2 .and .u32 w 127)with
 |true =>
  have he:=c20e q F o f3 f7 w
  rw[ho,cond_true]at he
  refine xwp_seq (xwp_tree FO 1000 [0,2,3,19] [.id 100] (s:=⟨_,_,_⟩) he fun t' h' hp=>?_)
  exact .inl ⟨.inr rfl,hT (by unfold restF;rw[ho,cond_true]),(lfS E' hP hn w _).wk hp⟩
 |false =>
  have he:=c20t q F o f3 f7 w
  rw[ho,cond_false]at he
  refine xwp_seqT FO 1000 [0,2,3,19,4,5] [.id 100,.tmp 5] (s:=⟨_,_,_⟩) he rfl _ (lfC E' hP hn q F o f3 f7 w) ?_
  obtain⟨n,_,hA⟩:=runA_is q F o f3 f7 w hF
  refine xwp_seqL FO 1000 [0,2,3,19,6] [.id 100,.tmp 6] _ (lfA E' hP hn q w _ n) ?_ hA
  cases hc:((encF q (candF F w).rd (candF F w).rs1 (candF F w).rs2 (candF F w).imm).2==0&&(encF q (candF F w).rd (candF F w).rs1 (candF F w).rs2 (candF F w).imm).1==w)with
  |true =>
   have hb:=c20r q w (candF F w)
   rw[hc,cond_true]at hb
   refine xwp_tree FO 1000 [2,3] [.id 100] (s:=⟨_,_,_⟩) hb fun t' h' hp=>?_
   refine .inr ⟨rfl,A20 q (candF F w) 0,LeafTo.wk (ks:=[2,3]) ⟨_,_,_,rfl,?_,?_,?_⟩ hp,hQ _ (by unfold restF;rw[ho,cond_false,hc,cond_true])⟩<;>rw[hn]
   ·rfl
   ·exact⟨rfl,rfl,trivial⟩
   ·exact⟨rfl,trivial⟩
  |false =>
   have hb:=b20 q w (candF F w)
   rw[hc,cond_false]at hb
   refine xwp_tree FO 1000 [0,2,3,19] [.id 100] (s:=⟨_,_,_⟩) hb fun t' h' hp=>?_
   exact .inl ⟨.inl rfl,hT (by unfold restF;rw[ho,cond_false,hc,cond_false]),(lfS E' hP hn w _).wk hp⟩
end
def dec1 (q w:Int):Option Cand:=restF q (rowOf (.int .i64 q)).1 (rowOf (.int .i64 q)).2.1 w
def firstD (w:Int):List (Int × Value)->Option (Int × Cand)
 |[]=>none
 |(q,_) :: l=>match dec1 q w with
  |some c=>some (q,c)
  |none=>firstD w l
def decF (w:Int):Option (Int × Cand):=firstD w shTab
def DecU (w:Int):Prop:=∀ q c,tabHas shTab (.int .i64 q)=true->dec1 q w=some c->decF w=some (q,c)
structure Ans where
 q:Int
 c:Cand
 err:Int
def decA (w:Int):Ans:=match decF w with
 |some (q,c)=>⟨q,c,0⟩
 |none=>⟨0,⟨0,0,0,0⟩,2⟩
def Ans.v (x:Ans):Value:=.tuple ⟨[i18 x.q x.c.rd x.c.rs1 x.c.rs2 x.c.imm,.int .i64 x.err]⟩
def Ans.b (x:Ans):Blk:=iB x.q x.c.rd x.c.rs1 x.c.rs2 x.c.imm
theorem firstD_none {w:Int}:∀ {l:List (Int × Value)},(∀ p∈l,dec1 p.1 w=none)->firstD w l=none
 |[],_=>rfl
 |(q,v) :: l,h=>by
  unfold firstD
  rw[h (q,v) (.head _)]
  exact firstD_none fun p hp=>h p (.tail _ hp)
theorem has_mem {q:Int}:∀ {l:List (Int × Value)},tabHas l (.int .i64 q)=true->∃ p∈l,p.1=q/\tabC l (.int .i64 q)=cells4 p.2
 |[],h=>by cases h
 |(k,v) :: l,h=>by
  simp only[tabHas,Bool.or_eq_true]at h
  simp only[tabC]
  cases hk:keq (.int .i64 q) (.int .i64 k)with
  |true=>exact⟨(k,v),.head _,by simp[keq]at hk;exact hk.symm,rfl⟩
  |false =>
   rw[hk]at h
   obtain⟨p,hp,h1,h2⟩:=has_mem (h.resolve_left (by simp))
   exact⟨p,.tail _ hp,h1,h2⟩
theorem mem_has {q:Int}:∀ {l:List (Int × Value)}{p:Int × Value},p∈l->p.1=q->tabHas l (.int .i64 q)=true
 |(k,v) :: l,p,h,e=>by
  simp only[tabHas,Bool.or_eq_true]
  rcases List.mem_cons.1 h with rfl|h
  ·left;simp only at e;subst e;simp[keq]
  ·exact .inr (mem_has h e)
theorem forms:(shTab.all fun p=>isForm (cells4 p.2).1)=true:=by kernel_rfl
theorem form_of {q:Int} (h:tabHas shTab (.int .i64 q)=true):isForm (rowOf (.int .i64 q)).1=true:=by
 obtain⟨p,hp,h1,h2⟩:=has_mem h
 unfold rowOf
 rw[h2]
 exact List.all_eq_true.1 forms p hp
theorem v_row {ρ:Rn}{a b c d:Int}{v:Value} (h:V ρ (rowV a b c d) v):v=rowV a b c d:=by
 obtain⟨ys,rfl,hx⟩:=v_agg (xs:=⟨[.int .u8 a,.int .u32 b,.int .u32 c,.int .u32 d]⟩) h
 obtain⟨l⟩:=ys
 match l,hx with
 |[_,_,_,_],⟨h1,h2,h3,h4,_⟩=>cases h1;cases h2;cases h3;cases h4;rfl
theorem row_v (ρ:Rn) (a b c d:Int):V ρ (rowV a b c d) (rowV a b c d):=VL.agg (xs:=⟨[.int .u8 a,.int .u32 b,.int .u32 c,.int .u32 d]⟩) (ys:=⟨[.int .u8 a,.int .u32 b,.int .u32 c,.int .u32 d]⟩) ⟨.int _ _,.int _ _,.int _ _,.int _ _,trivial⟩
theorem under3:Try.prog.underlying 3=some (.int .i64):=by kernel_rfl
theorem under106:Try.prog.underlying 106=some (.map 3 104):=by kernel_rfl
theorem key3 {q:Value} (h:keyOf (.int .i64) q=true):∃ n,q=.int .i64 n:=by
 cases q<;>simp[keyOf]at h
 subst h;exact⟨_,rfl⟩
theorem rows_of {ρ:Rn}{w:World}{l:L} (h:Holds Try.prog ρ w l shBlk):∃ es clock,w.heap[l.addr.block]?=some (.map es clock)/\Stamps es clock /\
  (∀ e∈es.toList,∃ q:Int,e.key=.int .i64 q/\tabHas shTab (.int .i64 q)=true/\e.val=rowV (rowOf (.int .i64 q)).1 (rowOf (.int .i64 q)).2.1 (rowOf (.int .i64 q)).2.2.1 (rowOf (.int .i64 q)).2.2.2) /\
  ∀ q:Int,tabHas shTab (.int .i64 q)=true->∃ e∈es.toList,e.key=.int .i64 q:=by
 obtain⟨d,z,es,clock,h1,h2,h3,h3',h4,⟨h5,hst⟩,h6,h7⟩:=h
 rw[under3]at h1
 cases h1
 refine⟨es,clock,h4,hst,fun e he=>?_,fun q hq=>?_⟩
 ·obtain⟨q,hq⟩:=key3 (h6 e he)
  obtain⟨g1,g2⟩:=entry_val hst h6 h7 he
  rw[hq]at g1 g2
  exact⟨q,hq,g1,v_row g2⟩
 ·have:=h7 (.int .i64 q) rfl
  cases hf:es.toList.find? (fun e=>keq (.int .i64 q) e.key)with
  |none=>rw[hf]at this;rw[hq]at this;cases this.1
  |some e =>
   have he:=List.mem_of_find?_eq_some hf
   have hk:=List.find?_some hf
   exact⟨e,he,((keq_eq rfl (h6 e he)).1 hk).symm⟩
theorem fn20:Try.prog.funcs[20]?=some Try.f20:=by kernel_rfl
theorem fb20:Try.f20.body=some body20:=by kernel_rfl
theorem rt20:tmpRes Try.prog Try.f20.results.toList=some rts20:=by kernel_rfl
theorem nm20 : (Try.f20.name == "runtime.NumGoroutine") = false := by kernel_rfl
theorem nt20:Try.f20.ntmps=124:=by kernel_rfl
theorem tmR_sub {ρ:Rn}{t:Tm}{tmps:Array Value} (h:TmR ρ t tmps):∀ {t':Tm},(∀ p∈t',look t p.1=some p.2)->TmR ρ t' tmps
 |[],_=>fun k b v hl=>by cases hl
 |(j,c,u) :: t',hs=>fun k b v hl=>by
  simp only[look]at hl
  cases hb:Nat.beq j k with
  |true =>
   rw[hb]at hl
   simp only[cond_true,Option.some.injEq,Prod.mk.injEq]at hl
   obtain⟨rfl,rfl⟩:=hl
   rw[<- Nat.eq_of_beq_eq_true hb]
   exact h j c u (hs _ (.head _))
  |false=>rw[hb]at hl;exact tmR_sub h (fun p hp=>hs p (.tail _ hp)) k b v hl
def t1 (w:Int):Tm:=[(3,true,.int .i64 0),(2,true,.pointer (some ⟨100,0,some 0⟩)),(0,true,.int .u32 w)]
def t2 (w:Int):Tm:=(18,true,.map (some 101)) :: t1 w
def h2:Hp:=(101,some shBlk) :: hS
theorem e20_0 (w:Int):exec (lookF FL) scB 10 [] (.region r20_0) (argTm 0 [.int .u32 w]) [] 100=some ⟨[],.normal,t1 w,hS,101,true⟩:=by kernel_rfl
abbrev run1 (w:Int):Option RS:=xrun (callE (lookF FL) scB (exec (lookF FL) scB 10 [])) [] r20_1 0 (t1 w) hS 101 true True []
theorem run1_is (w:Int):run1 w=some ⟨t2 w,h2,102,true,rsP (run1 w),rsR (run1 w)⟩:=by kernel_rfl
def tZ (w:Int):Tm:=(3,true,.int .i64 2) :: (123,true,i18 0 0 0 0 0) :: tS w
def hZ:Hp:=(100,some (iB 0 0 0 0 0)) :: hS
theorem e20_z (w:Int):exec (lookF FL) scB 10 [] z20 (tS w) hS 103=some ⟨[],.ret,tZ w,hZ,103,true⟩:=by kernel_rfl
theorem core_alloc {P:Program}{N:Nat}{B:Base}{ρ:Rn} {t t':Tm} {g g':G}{a:Act}{w:World}{it:Nat}{o:Obj} (h:Core P N B ρ t g a w) (hg:∀ id b,g' id=some b->g id=some b) (hi:ρ it=none) (hBi:B.n<=it)
  (hgi:g' it=none) (ht:∀ {tmps:Array Value},TmR (rset ρ it ⟨⟨w.heap.size,0,none⟩,0,0⟩) ((19,true,.pointer (some ⟨it,0,some 0⟩)) :: t) tmps->TmR (rset ρ it ⟨⟨w.heap.size,0,none⟩,0,0⟩) t' tmps) (h19:19<N) :
  Core P N B (rset ρ it ⟨⟨w.heap.size,0,none⟩,0,0⟩) t' g' (a.put (some 19) (.pointer (some ⟨w.heap.size,0,none⟩))) (w.alloc o):=by
 have hle:=le_rset (ρ:=ρ) ⟨⟨w.heap.size,0,none⟩,0,0⟩ hi
 have hback:∀ id b l,g' id=some b->rset ρ it ⟨⟨w.heap.size,0,none⟩,0,0⟩ id=some l->ρ id=some l:=fun id b l h1 h2=>by
  have:id≠it:=by rintro rfl;rw[hgi]at h1;cases h1
  rwa [rset_ne _ _ this]at h2
 have hold:∀ k,k<w.heap.size->(w.alloc o).heap[k]?=w.heap[k]?:=fun k hk=>heap_alloc_old w o hk
 have c1:Core P N B (rset ρ it ⟨⟨w.heap.size,0,none⟩,0,0⟩) t g' a (w.alloc o):={
  tm:=h.tm.mono hle
  sz:=h.sz
  df:=h.df
  rel := ⟨fun id b hb=>by
      obtain⟨l,hl,hh⟩:=h.rel.holds id b (hg id b hb)
      exact⟨l,hle id l hl,hh.stay hle fun ht=>hold _ (hh.lt ht)⟩,
   fun id b id' b' l l' h1 h2 h3 h4 h5 h6 h7=>h.rel.sep id b id' b' l l' (hg _ _ h1) (hg _ _ h2) h3 h4 h5 (hback id b l h1 h6) (hback id' b' l' h2 h7)⟩
  fr:=h.fr.trans ⟨rfl,rfl,rfl,by show w.heap.size<=(w.heap.push o).size;simp,fun k hk _=>hold k hk⟩
  own:=fun k ⟨id,b,l,h1,h2,h3,h4⟩=>h.own k ⟨id,b,l,hg _ _ h1,h2,hback id b l h1 h3,h4⟩
  le:=h.le.trans hle
  new:=fun id h0 h1=>by
   by_cases e:id=it
   ·rw[e];exact hBi
   ·rw[rset_ne _ _ e]at h1;exact h.new id h0 h1 }
 have c2:=core_put (d:=19) (v:=.pointer (some ⟨it,0,some 0⟩)) (c:=.pointer (some ⟨w.heap.size,0,none⟩)) c1 h19 (by
  have:=V.ptr (ρ:=rset ρ it ⟨⟨w.heap.size,0,none⟩,0,0⟩) (idx:=0) (fo:=0) (rset_same ρ it ⟨⟨w.heap.size,0,none⟩,0,0⟩)
  exact this)
 exact { c2 with tm:=ht c2.tm }
theorem fin20 {E:FEnv} (hn:E.B.n=100) (x:Ans) (t:Tm) (h:Hp) (ht:TmsOK (stayOr 100 [(100,100)]) t (mkT [2,3] [.pointer (some ⟨100,0,some 0⟩),.int .i64 x.err])) (hh:hget h 100=some x.b){e:Exit} (he:e=.ret) :
  finP E.toEnv rts20 [] x.v [(100,some x.b)] 1 e ⟨t,h,103⟩:=by
 refine⟨.inr he,mkT [2,3] [.pointer (some ⟨100,0,some 0⟩),.int .i64 x.err],?_,rfl⟩
 rw[hn]
 refine weak [(100,100)] ?_ ?_ ?_ ?_<;>rw[hn]
 ·rfl
 ·rfl
 ·exact ht
 ·simp only[HsOK,List.append_nil,natMem]
  refine⟨?_,trivial⟩
  show(match hget h 100 with|some b=>BIs _ _ x.b b|none=>False)
  rw[hh]
  exact rfl
end Go.X
