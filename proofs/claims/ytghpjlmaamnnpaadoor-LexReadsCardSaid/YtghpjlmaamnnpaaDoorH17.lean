import Derived.Test.YtghpjlmaamnnpaaDoorH16
set_option linter.all false
namespace Go.X
open Go
abbrev Fns:=FuncId → Option (Nat × List Rx × XCode)
abbrev Short:=FuncId → List Value → Hp → Nat → Option (Hp × Value × Hp × Nat × Bool)
inductive Br where
 |go (k:Nat) (b:Bool)
 |halt (k:Nat)
def nextO:List Br → List Br × Option (Option Bool)
 |[]=>([],none)
 | .go 0 u :: o=>(o,some (some u))
 | .go (k+1) u :: o=>(.go k u :: o,none)
 | .halt 0 :: o=>(o,some none)
 | .halt (k+1) :: o=>(.halt k :: o,none)
structure Ex where
 o:List Br
 e:Exit
 t:Tm
 h:Hp
 n:Nat
 ok:Bool
def finE:Exit → Bool
 | .normal|.ret=>true
 |_=>false
def mkCR (h u:Hp) (v:Value) (news:Nat) (ok:Bool):Option CR:=some ⟨h,v,u,news,ok&&(updRW u&&(!u.isEmpty||Nat.beq news 0)),True⟩
def callE (F:Fns) (sc:Short) (run:XCode → Tm → Hp → Nat → Option Ex):CE:=fun _ f vs h n =>
 match sc f vs h n with
 |some (pre,v,upd,news,ok)=>some ⟨pre,v,upd,news,ok,True⟩
 |none=>match F f with
  |some (N,rts,x)=>match run x (argTm 0 vs) h n with
   |some ⟨_,e,t,h',n',ok⟩=>match resV t h' rts with
    |some v=>mkCR h (h'.take (h'.length-h.length)) v (n'-n) (ok&&(finE e&&Nat.ble vs.length N))
    |none=>none
   |none=>none
  |none=>none
def exec (F:Fns) (sc:Short):Nat → List Br → XCode → Tm → Hp → Nat → Option Ex
 |0,_,_,_,_,_=>none
 |k+1,o,x,t,h,n=>match x with
  | .skip=>some ⟨o,.normal,t,h,n,true⟩
  | .region l=>match xrun (callE F sc (exec F sc k [])) [] l 0 t h n true True []with
   |some ⟨t,h,n,ok,_,_⟩=>some ⟨o,.normal,t,h,n,ok⟩
   |none=>none
  | .draw l ord=>match xrun (callE F sc (exec F sc k [])) [] l 0 t h n true True []with
   |some ⟨t,h,n,ok,_,tr⟩=>some ⟨o,.normal,t,h,n,ok&&heapOK ord tr⟩
   |none=>none
  | .seq a b=>match exec F sc k o a t h n with
   |some ⟨o,.normal,t,h,n,ok⟩=>match exec F sc k o b t h n with
    |some ⟨o,e,t,h,n,ok'⟩=>some ⟨o,e,t,h,n,ok&&ok'⟩
    |none=>none
   |r=>r
  | .cnd c a b=>match nextO o with
   |(o,none)=>match ev t c with
    |some (true,.bool true)=>exec F sc k o a t h n
    |some (true,.bool false)=>exec F sc k o b t h n
    |_=>none
   |(o,some none)=>match ev t c with
    |some (c1,v)=>some ⟨o,.goto 0,[(0,c1,v)],h,n,false⟩
    |none=>none
   |(o,some (some u))=>match ev t c with
    |some (c1,.bool v)=>match u with
     |true=>match exec F sc k o a t h n with
      |some ⟨o,e,t,h,n,ok⟩=>some ⟨o,e,t,h,n,(c1&&v)&&ok⟩
      |none=>none
     |false=>match exec F sc k o b t h n with
      |some ⟨o,e,t,h,n,ok⟩=>some ⟨o,e,t,h,n,(c1&&!v)&&ok⟩
      |none=>none
    |_=>none
  | .block id a=>match exec F sc k o a t h n with
   |some ⟨o,.exit id',t,h,n,ok⟩=>cond (Nat.beq id' id) (some ⟨o,.normal,t,h,n,ok⟩) (some ⟨o,.exit id',t,h,n,ok⟩)
   |r=>r
  | .loop a=>match exec F sc k o a t h n with
   |some ⟨o,.normal,t,h,n,ok⟩=>match exec F sc k o (.loop a) t h n with
    |some ⟨o,e,t,h,n,ok'⟩=>some ⟨o,e,t,h,n,ok&&ok'⟩
    |none=>none
   |r=>r
  | .exit id=>some ⟨o,.exit id,t,h,n,true⟩
  | .ret=>some ⟨o,.ret,t,h,n,true⟩
theorem xrun_pr {ce:CE} (hce:∀ i f vs h n pre v upd news ok pr,ce i f vs h n=some ⟨pre,v,upd,news,ok,pr⟩ → pr){hints:List (Nat × Nat)}:∀ {os:List XOper}{i:Nat}{t:Tm}{h:Hp}{n:Nat}{ok:Bool}{pr:Prop}{tr:List Foot}{s:RS},
  xrun ce hints os i t h n ok pr tr=some s → pr → s.pr:=by
 have he:∀ {hint i k t h n rd v upd news ok pr},eff ce hint i k t h n=some ⟨rd,v,upd,news,ok,pr⟩ → pr:=by
  intro hint i k t h n rd v upd news ok pr he
  have call:∀ f c vs,effC ce i f c vs h n=some ⟨rd,v,upd,news,ok,pr⟩ → pr:=by
   intro f c vs hc
   unfold effC at hc
   split at hc
   ·rename_i hh
    simp only[Option.some.injEq,Eff.mk.injEq]at hc
    obtain⟨rfl,rfl,rfl,rfl,rfl,rfl⟩:=hc
    exact hce _ _ _ _ _ _ _ _ _ _ _ hh
   ·cases hc
  cases k with
  |op o =>
   simp only[eff,effX]at he
   repeat' split at he
   all_goals first
    |(cases he;done)
    |(simp only[Option.some.injEq,Eff.mk.injEq]at he
      obtain⟨rfl,rfl,rfl,rfl,rfl,rfl⟩:=he
      trivial)
  |pick c a b =>
   simp only[eff]at he
   repeat' split at he
   all_goals first
    |(cases he;done)
    |(simp only[Option.some.injEq,Eff.mk.injEq]at he
      obtain⟨rfl,rfl,rfl,rfl,rfl,rfl⟩:=he
      trivial)
  |callF f xs =>
   simp only[eff]at he
   split at he
   ·exact call _ _ _ he
   ·cases he
  |callV x xs =>
   simp only[eff]at he
   split at he
   ·exact call _ _ _ he
   ·cases he
 intro os
 induction os with
 |nil =>
  intro i t h n ok pr tr s hx hpr
  simp only[xrun,Option.some.injEq]at hx;subst hx
  exact hpr
 |cons o os ih =>
  intro i t h n ok pr tr s hx hpr
  simp only[xrun]at hx
  split at hx
  ·split at hx
   ·rename_i hh
    split at hx
    ·exact ih hx ⟨hpr,fun _=>he hh⟩
    ·exact ih hx ⟨hpr,fun _=>he hh⟩
   ·rename_i hh
    split at hx
    ·exact ih hx ⟨hpr,he hh⟩
    ·exact ih hx ⟨hpr,he hh⟩
    ·exact ih hx hpr
    ·exact ih hx hpr
   ·split at hx
    ·exact ih hx hpr
    ·exact ih hx hpr
    ·cases hx
  ·cases hx
theorem xrun_log {ce:CE}{hints:List (Nat × Nat)}:∀ {os:List XOper}{i:Nat}{t:Tm}{h:Hp}{n:Nat}{ok:Bool}{pr:Prop}{tr:List Foot}{s:RS},
  xrun ce hints os i t h n ok pr tr=some s → (∃ u,s.h=u++h) ∧ n ≤ s.n:=by
 intro os
 induction os with
 |nil =>
  intro i t h n ok pr tr s hx
  simp only[xrun,Option.some.injEq]at hx;subst hx
  exact⟨⟨[],rfl⟩,Nat.le_refl _⟩
 |cons o os ih =>
  intro i t h n ok pr tr s hx
  simp only[xrun]at hx
  repeat' split at hx
  all_goals first
   |(cases hx;done)
   |(obtain⟨⟨u,hu⟩,hn⟩:=ih hx
     first
      |exact⟨⟨u,hu⟩,hn⟩
      |exact⟨⟨u++_,by rw[hu,List.append_assoc]⟩,by omega⟩)
theorem exec_log {F:Fns}{sc:Short}:∀ (k:Nat){o:List Br}{x:XCode}{t:Tm}{h:Hp}{n:Nat}{r:Ex},exec F sc k o x t h n=some r → (∃ u,r.h=u++h) ∧ n ≤ r.n:=by
 intro k
 induction k with
 |zero=>intro o x t h n r he;cases he
 |succ k ih =>
  intro o x t h n r he
  have two:∀ {a b:XCode}{r:Ex},(match exec F sc k o a t h n with
    |some ⟨o,.normal,t,h,n,ok⟩=>match exec F sc k o b t h n with
     |some ⟨o,e,t,h,n,ok'⟩=>some (⟨o,e,t,h,n,ok&&ok'⟩:Ex)
     |none=>none
    |r=>r)=some r → (∃ u,r.h=u++h) ∧ n ≤ r.n:=by
   intro a b r he
   split at he
   ·rename_i h1
    obtain⟨⟨u1,hu1⟩,hn1⟩:=ih h1
    split at he
    ·rename_i h2
     obtain⟨⟨u2,hu2⟩,hn2⟩:=ih h2
     simp only[Option.some.injEq]at he;subst he
     simp only at hu1 hu2 hn1 hn2 ⊢
     exact⟨⟨u2++u1,by rw[hu2,hu1,List.append_assoc]⟩,by omega⟩
    ·cases he
   ·exact ih he
  simp only[exec]at he
  cases x with
  |skip=>simp at he;subst he;exact⟨⟨[],rfl⟩,Nat.le_refl _⟩
  |exit id=>simp at he;subst he;exact⟨⟨[],rfl⟩,Nat.le_refl _⟩
  |ret=>simp at he;subst he;exact⟨⟨[],rfl⟩,Nat.le_refl _⟩
  |region l =>
   simp only at he
   split at he
   ·rename_i hx;simp at he;subst he;exact xrun_log hx
   ·cases he
  |draw l ord =>
   simp only at he
   split at he
   ·rename_i hx;simp at he;subst he;exact xrun_log hx
   ·cases he
  |seq a b=>exact two he
  |loop a=>exact two he
  |cnd c a b =>
   simp only at he
   split at he
   ·split at he
    ·exact ih he
    ·exact ih he
    ·cases he
   ·split at he
    ·simp only[Option.some.injEq]at he;subst he;exact⟨⟨[],rfl⟩,Nat.le_refl _⟩
    ·cases he
   ·split at he
    ·split at he
     ·split at he
      ·rename_i hx;simp only[Option.some.injEq]at he;subst he;have:=ih hx;exact this
      ·cases he
     ·split at he
      ·rename_i hx;simp only[Option.some.injEq]at he;subst he;have:=ih hx;exact this
      ·cases he
    ·cases he
  |block id a =>
   simp only at he
   split at he
   ·rename_i o1 id' t1 h1 n1 ok1 hx
    have:=ih hx
    cases hb:Nat.beq id' id with
    |true=>rw[hb]at he;simp at he;subst he;exact this
    |false=>rw[hb]at he;simp at he;subst he;exact this
   ·exact ih he
structure FnsOK (P:Program) (F:Fns) (sc:Short):Prop where
 mix:P.follows .mixedOrders=true
 fn:∀ f y,F f=some y → fnx P f=some y
 sc:∀ f vs h n pre v upd news,sc f vs h n=some (pre,v,upd,news,true) → (∀ id∈fstL pre,hget h id=hget pre id) ∧ ADet P f vs pre v upd n news
theorem frame_core {P:Program} {ρ ρ':Rn}{g:G} {w w':World}{pre upd:Hp}{n news:Nat} (hr:RelH P ρ g w) (hg:∀ id∈fstL pre,g id=hget pre id) (hle:Le ρ ρ')
  (hnew:∀ id,ρ id=none → ρ' id≠none → n ≤ id ∧ id<n+news) (hrel:RelH P ρ' (hget (upd++pre)) w') (hownup:∀ k,Own ρ' (hget (upd++pre)) k → Own ρ (hget pre) k ∨ w.heap.size ≤ k)
  (hfr:Fr (Own ρ (hget pre)) w w') (hrw:updRW upd=true):GoodN P ρ g w n upd news ρ' w':=by
 have hgp:∀ id b,hget pre id=some b → g id=some b:=fun id b hb=>by rw[hg id (hget_fst hb)];exact hb
 have howng:∀ k,Own ρ (hget pre) k → Own ρ g k:=fun k ⟨id,b,l,hb,hx⟩=>⟨id,b,l,hgp id b hb,hx⟩
 have hin:∀ id,(id∈fstL upd ∨ id∈fstL pre) → gapply g upd id=hget (upd++pre) id:=fun id hid=>by
  by_cases hu:id∈fstL upd
  ·rw[hget_append];exact gapply_in hu
  ·rw[gapply_nin hu,hget_nin hu,hg id (hid.resolve_left hu)]
 have hout:∀ id,¬ (id∈fstL upd ∨ id∈fstL pre) → gapply g upd id=g id:=fun id hid=>gapply_nin fun hu=>hid (.inl hu)
 have hρold:∀ id b l,g id=some b → ρ' id=some l → ρ id=some l:=fun id b l hb hl=>by
  obtain⟨l0,hl0,_⟩:=hr.holds id b hb
  rw[hle id l0 hl0]at hl;cases hl;exact hl0
 have hstay:∀ id b l,¬ (id∈fstL upd ∨ id∈fstL pre) → g id=some b → ρ id=some l → b.touch → ¬ Own ρ (hget pre) l.addr.block:=by
  rintro id b l hno hb hl ht ⟨id3,b3,l3,hb3,hro3,hl3,he⟩
  refine hr.sep id3 b3 id b l3 l (hgp _ _ hb3) hb (fun e=>hno (.inr ?_)) hro3 ht hl3 hl he
  rw[← e];exact hget_fst hb3
 have hlt:∀ id b l,g id=some b → ρ id=some l → b.touch → l.addr.block<w.heap.size:=fun id b l hb hl ht=>by
  obtain⟨l0,hl0,hh⟩:=hr.holds id b hb
  rw[hl]at hl0;cases hl0
  exact hh.lt ht
 refine⟨hle,hnew,⟨fun id b hb=>?_,fun id1 b1 id2 b2 l1 l2 hb1 hb2 hne hro ht hl1 hl2=>?_⟩,?_,fun k hk=>?_⟩
 ·by_cases hi:id∈fstL upd ∨ id∈fstL pre
  ·rw[hin id hi]at hb;exact hrel.holds id b hb
  ·rw[hout id hi]at hb
   obtain⟨l,hl,hh⟩:=hr.holds id b hb
   refine⟨l,hle id l hl,hh.stay hle fun ht=>?_⟩
   exact hfr.block _ (hh.lt ht) fun ho=>hstay id b l hi hb hl ht ho
 ·by_cases hi1:id1∈fstL upd ∨ id1∈fstL pre
  ·by_cases hi2:id2∈fstL upd ∨ id2∈fstL pre
   ·rw[hin _ hi1]at hb1;rw[hin _ hi2]at hb2
    exact hrel.sep id1 b1 id2 b2 l1 l2 hb1 hb2 hne hro ht hl1 hl2
   ·rw[hin _ hi1]at hb1;rw[hout _ hi2]at hb2
    have hl2':=hρold _ _ _ hb2 hl2
    rcases hownup _ ⟨id1,b1,l1,hb1,hro,hl1,rfl⟩with h|h
    ·intro he;rw[he]at h;exact hstay id2 b2 l2 hi2 hb2 hl2' ht h
    ·have:=hlt id2 b2 l2 hb2 hl2' ht;omega
  ·rw[hout _ hi1]at hb1
   have hl1':=hρold _ _ _ hb1 hl1
   by_cases hi2:id2∈fstL upd ∨ id2∈fstL pre
   ·by_cases hu2:id2∈fstL upd
    ·have hro2:b2.ro=false:=by
      rw[hin _ hi2,hget_in' hu2]at hb2
      exact updRW_get hrw hb2
     rw[hin _ hi2]at hb2
     rcases hownup _ ⟨id2,b2,l2,hb2,hro2,hl2,rfl⟩with h|h
     ·intro he;rw[← he]at h;exact hstay id1 b1 l1 hi1 hb1 hl1' (touch_of_rw hro) h
     ·have:=hlt id1 b1 l1 hb1 hl1' (touch_of_rw hro);omega
    ·rw[gapply_nin hu2]at hb2
     exact hr.sep id1 b1 id2 b2 l1 l2 hb1 hb2 hne hro ht hl1' (hρold _ _ _ hb2 hl2)
   ·rw[hout _ hi2]at hb2
    exact hr.sep id1 b1 id2 b2 l1 l2 hb1 hb2 hne hro ht hl1' (hρold _ _ _ hb2 hl2)
 ·exact⟨hfr.os,hfr.tape,hfr.output,hfr.size,fun k hk hn=>hfr.block k hk fun ho=>hn (howng _ ho)⟩
 ·obtain⟨id,b,l,hb,hro,hl,rfl⟩:=hk
  by_cases hi:id∈fstL upd ∨ id∈fstL pre
  ·rw[hin id hi]at hb
   rcases hownup _ ⟨id,b,l,hb,hro,hl,rfl⟩with h|h
   ·exact .inl (howng _ h)
   ·exact .inr h
  ·rw[hout id hi]at hb
   exact .inl ⟨id,b,l,hb,hro,hρold _ _ _ hb hl,rfl⟩
def ExecOK (P:Program) (F:Fns) (sc:Short) (k:Nat):Prop:=∀ (o:List Br) (x:XCode) (t:Tm) (h:Hp) (n:Nat) (r:Ex),exec F sc k o x t h n=some r → r.ok=true → ∀ (E:Env),E.P=P →
 (∀ id,n ≤ id → id<r.n → E.B.ρ id=none) → (∃ k,r.n ≤ k ∧ E.B.ρ k=none) → XWP E x (fun e s=>e=r.e ∧ s=⟨r.t,r.h,r.n⟩) ⟨t,h,n⟩ ∧ ∀ a,x=.loop a → LWP E a (fun e s=>e=r.e ∧ s=⟨r.t,r.h,r.n⟩) ⟨t,h,n⟩
theorem callE_okO {P:Program}{F:Fns}{sc:Short} (hF:FnsOK P F sc){k:Nat} (ih:ExecOK P F sc k) (o:List Br):CEok P (callE F sc (exec F sc k o)):=by
 intro i f vs h n pre v upd news ok pr hc hok hpr
 unfold callE at hc
 split at hc
 ·rename_i pre' v' upd' news' ok' hs
  simp only[Option.some.injEq,CR.mk.injEq]at hc
  obtain⟨rfl,rfl,rfl,rfl,rfl,rfl⟩:=hc
  subst hok
  exact hF.sc _ _ _ _ _ _ _ _ hs
 split at hc
 ·rename_i N rts x hf
  split at hc
  ·rename_i o' e t h' n' ok' hex
   split at hc
   ·rename_i v' hres
    simp only[mkCR,Option.some.injEq,CR.mk.injEq]at hc
    obtain⟨rfl,rfl,hu,hnews,rfl,rfl⟩:=hc
    simp only[Bool.and_eq_true]at hok
    obtain⟨⟨hok1,hfin,hlen⟩,hrw,hemp⟩:=hok
    obtain⟨⟨u,hu'⟩,hnn⟩:=exec_log k hex
    simp only at hu' hnn
    have hupd:h'=upd++h:=by
     rw[← hu,hu',List.length_append,Nat.add_sub_cancel,List.take_left']
     rfl
    rw[hu,hnews]at hemp
    rw[hu]at hrw
    have hfx:=hF.fn _ _ hf
    unfold fnx at hfx
    split at hfx
    ·rename_i fn hfn
     split at hfx
     ·rename_i c rts' hb hrt
      split at hfx
      ·rename_i x' hcm
       cases hnm : (fn.name == "runtime.NumGoroutine") with
       |true=>rw[hnm]at hfx;cases hfx
       |false =>
       rw[hnm]at hfx
       simp only[cond_false,Option.some.injEq,Prod.mk.injEq]at hfx
       obtain⟨rfl,rfl,rfl⟩:=hfx
       refine⟨fun _ _=>rfl,by simp[plainFn,hfn,hb];simpa using hnm,fun e=>?_,fun ρ g w cargs hvl hr hg hfree hsp=>?_⟩
       ·subst e;simpa using hemp
       have hrp:RelH P ρ (hget h) w:=hr.sub fun id b hb=>by rw[hg id (hget_fst hb)];exact hb
       let E:Env:=⟨P,fn.ntmps,⟨ρ,n,Own ρ (hget h),w⟩,hF.mix⟩
       have hle:=ble_le hlen
       have hcl:cargs.size=vs.length:=by rw[hvl.length];simp
       have hw:=(ih o x' (argTm 0 vs) h n _ hex hok1 E rfl (fun id h1 h2=>hfree id h1 (by simp only at h2;omega)) (by obtain⟨k,h1,h2⟩:=hsp;exact⟨k,by simp only;omega,h2⟩)).1 c hcm
        { tmps:=cargs++Array.replicate (fn.ntmps-cargs.size) undef,defers:=[] } w ?_
       ·refine calls_of_wp hfn hb (wp_mono hw ?_)
        rintro e' a w' ⟨s,⟨he,hs⟩,hrel⟩
        subst hs
        obtain⟨hBn,ρ',hcore,hfree'⟩:=hrel
        simp only at hcore hfree' he
        obtain⟨cv,hrun,hv⟩:=results_run (P:=P) (w:=w') hrt hcore.tm hcore.rel hres
        have hgood:GoodN P ρ g w n upd news ρ' w':=by
         refine frame_core hr hg hcore.le (fun id h0 h1=>⟨hcore.new id h0 h1,?_⟩) (hcore.rel.congr fun id=>by rw[hupd]) (fun k hk=>hcore.own k (by rw[hupd];exact hk)) hcore.fr hrw
         rcases Nat.lt_or_ge id n' with hh|hh
         ·omega
         ·exact absurd ((hfree' id hh).trans h0) h1
        have:a.defers=[] ∧ ∃ v,(results fn a.tmps).run P w'=.ok v w' ∧ ∃ ρ',GoodN P ρ g w n upd news ρ' w' ∧ V ρ' v' v:=⟨hcore.df,cv,hrun,ρ',hgood,hv⟩
        subst he
        cases e' with
        |normal=>exact this
        |ret=>exact this
        |_=>cases hfin
       ·refine⟨Nat.le_refl _,ρ,⟨fun j b u hl=>?_,?_,rfl,hrp,Fr.refl _ _,fun k hk=>.inl hk,Le.refl _,fun id h0 h1=>absurd h0 h1⟩,fun _ _=>rfl⟩
        ·obtain⟨rfl,_,h2⟩:=argTm_look vs 0 j b u hl
         rw[Nat.sub_zero]at h2
         have hj:j<cargs.size:=by rw[hcl];exact lt_of_get h2
         refine⟨cargs[j],?_,fun _=>hvl.get h2 (by simp[hj]),fun e=>by cases e⟩
         simp[Array.getElem?_append,hj]
        ·simp[E];omega
      ·cases hfx
     ·cases hfx
    ·cases hfx
   ·cases hc
  ·cases hc
 ·cases hc
theorem callE_ok {P:Program}{F:Fns}{sc:Short} (hF:FnsOK P F sc){k:Nat} (ih:ExecOK P F sc k):CEok P (callE F sc (exec F sc k [])):=callE_okO hF ih []
theorem callE_pr {F:Fns}{sc:Short}{run:XCode → Tm → Hp → Nat → Option Ex}:∀ i f vs h n pre v upd news ok pr,callE F sc run i f vs h n=some ⟨pre,v,upd,news,ok,pr⟩ → pr:=by
 intro i f vs h n pre v upd news ok pr hc
 unfold callE at hc
 repeat' split at hc
 all_goals first
  |(cases hc;done)
  |(simp only[mkCR,Option.some.injEq,CR.mk.injEq]at hc
    obtain⟨rfl,rfl,hu,hnews,rfl,rfl⟩:=hc
    trivial)
  |(simp only[Option.some.injEq,CR.mk.injEq]at hc
    obtain⟨rfl,rfl,hu,hnews,rfl,rfl⟩:=hc
    trivial)
theorem exec_sound {P:Program}{F:Fns}{sc:Short} (hF:FnsOK P F sc):∀ k,ExecOK P F sc k:=by
 intro k
 induction k with
 |zero=>intro o x t h n r he;cases he
 |succ k ih =>
  intro o x t h n r he hok E hEP hfr hsp
  have hce:CEok E.P (callE F sc (exec F sc k [])):=by rw[hEP];exact callE_ok hF ih
  have two:∀ {a b:XCode}{r:Ex},r.ok=true → (∀ id,n ≤ id → id<r.n → E.B.ρ id=none) → (∃ k,r.n ≤ k ∧ E.B.ρ k=none) → (match exec F sc k o a t h n with
    |some ⟨o,.normal,t,h,n,ok⟩=>match exec F sc k o b t h n with
     |some ⟨o,e,t,h,n,ok'⟩=>some (⟨o,e,t,h,n,ok&&ok'⟩:Ex)
     |none=>none
    |r=>r)=some r → XWP E a (seqP (fun s=>XWP E b (fun e s=>e=r.e ∧ s=⟨r.t,r.h,r.n⟩) s ∧ ∀ y,b=.loop y → LWP E y (fun e s=>e=r.e ∧ s=⟨r.t,r.h,r.n⟩) s) (fun e s=>e=r.e ∧ s=⟨r.t,r.h,r.n⟩)) ⟨t,h,n⟩:=by
   intro a b r hok hfr hsp he
   split at he
   ·rename_i o1 t1 h1 n1 ok1 hx1
    split at he
    ·rename_i o2 e2 t2 h2 n2 ok2 hx2
     simp only[Option.some.injEq]at he;subst he
     simp only[Bool.and_eq_true]at hok
     have hn1:=(exec_log k hx1).2
     have hn2:=(exec_log k hx2).2
     simp only at hn1 hn2 hfr hsp
     refine(ih o a t h n _ hx1 hok.1 E hEP (fun id h1 h2=>hfr id h1 (by simp only at h2;omega)) (by obtain⟨j,hj,hj'⟩:=hsp;exact⟨j,by simp only;omega,hj'⟩)).1.mono ?_
     rintro e s ⟨rfl,rfl⟩
     exact ih o1 b t1 h1 n1 _ hx2 hok.2 E hEP (fun id h1 h2=>hfr id (by omega) h2) hsp
    ·cases he
   ·rename_i hne
    refine(ih o a t h n r he hok E hEP hfr hsp).1.mono ?_
    rintro e s ⟨rfl,rfl⟩
    cases hre:r.e with
    |normal =>
     obtain⟨o',e',t',h',n',ok'⟩:=r
     simp only at hre;subst hre
     exact absurd he (hne _ _ _ _ _)
    |_=>exact⟨rfl,rfl⟩
  simp only[exec]at he
  cases x with
  |skip=>simp at he;subst he;exact⟨xwp_skip ⟨rfl,rfl⟩,nofun⟩
  |exit id=>simp at he;subst he;exact⟨xwp_exit ⟨rfl,rfl⟩,nofun⟩
  |ret=>simp at he;subst he;exact⟨xwp_ret ⟨rfl,rfl⟩,nofun⟩
  |region l =>
   refine⟨?_,nofun⟩
   simp only at he
   split at he
   ·rename_i hx
    simp only[Option.some.injEq]at he;subst he
    exact xwp_regionG _ hce [] hx hok (xrun_pr callE_pr hx trivial) hfr hsp ⟨rfl,rfl⟩
   ·cases he
  |draw l ord =>
   refine⟨?_,nofun⟩
   simp only at he
   split at he
   ·rename_i hx
    simp only[Option.some.injEq]at he;subst he
    simp only[Bool.and_eq_true]at hok
    exact xwp_drawG _ hce [] hx hok.2 hok.1 (xrun_pr callE_pr hx trivial) hfr hsp ⟨rfl,rfl⟩
   ·cases he
  |seq a b =>
   refine⟨xwp_seq ((two hok hfr hsp he).mono fun e s hs=>?_),nofun⟩
   cases e<;>first|exact hs.1|exact hs
  |loop a =>
   have h2:LWP E a (fun e s=>e=r.e ∧ s=⟨r.t,r.h,r.n⟩) ⟨t,h,n⟩:=lwp_step ((two (a:=a) (b:=.loop a) hok hfr hsp he).mono fun e s hs=>by
    cases e<;>first|exact hs.2 a rfl|exact hs)
   exact⟨xwp_of_lwp h2,fun y hy=>by cases hy;exact h2⟩
  |cnd c a b =>
   refine⟨?_,nofun⟩
   simp only at he
   split at he
   ·split at he
    ·rename_i hev;exact xwp_cnd hev (ih _ a t h n r he hok E hEP hfr hsp).1
    ·rename_i hev;exact xwp_cnd hev (ih _ b t h n r he hok E hEP hfr hsp).1
    ·cases he
   ·split at he
    ·simp only[Option.some.injEq]at he;subst he;cases hok
    ·cases he
   ·split at he
    ·rename_i c1 v hev
     split at he
     ·split at he
      ·rename_i hx
       simp only[Option.some.injEq]at he;subst he
       simp only[Bool.and_eq_true]at hok
       obtain⟨⟨rfl,rfl⟩,hok⟩:=hok
       exact xwp_cnd hev (ih _ a t h n _ hx hok E hEP hfr hsp).1
      ·cases he
     ·split at he
      ·rename_i hx
       simp only[Option.some.injEq]at he;subst he
       simp only[Bool.and_eq_true,Bool.not_eq_true']at hok
       obtain⟨⟨rfl,rfl⟩,hok⟩:=hok
       exact xwp_cnd hev (ih _ b t h n _ hx hok E hEP hfr hsp).1
      ·cases he
    ·cases he
  |block id a =>
   refine⟨xwp_block ?_,nofun⟩
   simp only at he
   split at he
   ·rename_i o1 id' t1 h1 n1 ok1 hx
    cases hb:Nat.beq id' id with
    |true =>
     rw[hb]at he;simp at he;subst he
     refine(ih o a t h n _ hx hok E hEP hfr hsp).1.mono ?_
     rintro e s ⟨rfl,rfl⟩
     simp[blockP,hb]
    |false =>
     rw[hb]at he;simp at he;subst he
     refine(ih o a t h n _ hx hok E hEP hfr hsp).1.mono ?_
     rintro e s ⟨rfl,rfl⟩
     simp[blockP,hb]
   ·rename_i hne
    refine(ih o a t h n r he hok E hEP hfr hsp).1.mono ?_
    rintro e s ⟨rfl,rfl⟩
    cases hre:r.e with
    |exit j =>
     obtain⟨o',e',t',h',n',ok'⟩:=r
     simp only at hre;subst hre
     exact absurd he (hne _ _ _ _ _ _)
    |_=>exact⟨rfl,rfl⟩
theorem xwp_exec {E:FEnv}{Q:Post}{s:St}{F:Fns}{sc:Short} (hF:FnsOK E.P F sc) (k:Nat) (o:List Br){x:XCode} {o':List Br}{e:Exit}{t:Tm}{h:Hp}{n:Nat}{ok:Bool} (he:exec F sc k o x s.t s.h s.n=some ⟨o',e,t,h,n,ok⟩) (hok:ok=true) (hQ:Q e ⟨t,h,n⟩):XWP E.toEnv x Q s:=fun c hc a w hr=>by
 have hn:=(exec_log k he).2
 have hBn:E.B.n ≤ s.n:=hr.1
 simp only at hn
 exact(exec_sound hF k o x s.t s.h s.n _ he hok E.toEnv rfl (fun id h1 _=>E.dom id (by omega)) ⟨n,Nat.le_refl _,E.dom n (by omega)⟩).1.mono (by rintro e' s' ⟨rfl,rfl⟩;exact hQ) c hc a w hr
end Go.X
