import Derived.Test.YtghpjlmaamnnpaaDoorH15
set_option linter.all false
namespace Go.X
open Go
def Body (P:Program) (f:FuncId) (vs:List Value) (pre:Hp) (v:Value) (upd:Hp) (n0 news:Nat):Prop :=
 plainFn P f=true ∧
 ∀ ρ w cargs,VL ρ vs cargs.toList → RelH P ρ (hget pre) w → (∀ id,n0 ≤ id → ρ id=none) →
  Calls P f cargs w fun
   | .returned c,w'=>∃ ρ',GoodN P ρ (hget pre) w n0 upd news ρ' w' ∧ V ρ' v c
   |_,_=>False
theorem asc_mem {π:List (Nat × Nat)}{a b:Nat} (h:asc π a=some b):(a,b)∈π:=by
 induction π with
 |nil=>cases h
 |cons p π ih =>
  obtain⟨x,y⟩:=p
  simp only[asc]at h
  cases hb:Nat.beq x a with
  |true=>rw[hb]at h;simp at h;subst h;rw[Nat.eq_of_beq_eq_true hb];exact .head _
  |false=>rw[hb]at h;exact .tail _ (ih h)
theorem asc_append {π π':List (Nat × Nat)}{a:Nat}:asc (π++π') a=(match asc π a with|some b=>some b|none=>asc π' a):=by
 induction π with
 |nil=>rfl
 |cons p π ih =>
  obtain⟨x,y⟩:=p
  simp only[List.cons_append,asc]
  cases Nat.beq x a<;>simp[ih]
def flip:List (Nat × Nat) → List (Nat × Nat)
 |[]=>[]
 |(a,b) :: l=>(b,a) :: flip l
theorem flip_mem {π:List (Nat × Nat)}{a b:Nat} (h:(a,b)∈flip π):(b,a)∈π:=by
 induction π with
 |nil=>cases h
 |cons p π ih =>
  obtain⟨x,y⟩:=p
  rcases List.mem_cons.1 h with e|e
  ·cases e;exact .head _
  ·exact .tail _ (ih e)
def isSomeEq (o:Option Nat) (b:Nat):Bool :=
 match o with
 |some x=>Nat.beq x b
 |none=>false
def updRW:Hp → Bool
 |[]=>true
 |(_,some b) :: l=>!b.ro&&updRW l
 |(_,none) :: l=>updRW l
theorem updRW_get:∀ {u:Hp}{id:Nat}{b:Blk},updRW u=true → hget u id=some b → b.ro=false
 |[],_,_,_,h=>by cases h
 |(k,ob) :: u,id,b,hu,h=>by
  simp only[hget]at h
  cases hb:Nat.beq k id with
  |true =>
   rw[hb]at h;simp at h;subst h
   simp only[updRW,Bool.and_eq_true,Bool.not_eq_true']at hu
   exact hu.1
  |false =>
   rw[hb]at h
   refine updRW_get (u:=u) ?_ h
   cases ob<;>simp only[updRW,Bool.and_eq_true]at hu
   ·exact hu
   ·exact hu.2
theorem hget_fst {u:Hp}{id:Nat}{b:Blk} (h:hget u id=some b):id∈fstL u:=by
 induction u with
 |nil=>cases h
 |cons x u ih =>
  obtain⟨k,ob⟩:=x
  simp only[hget]at h
  cases hb:Nat.beq k id with
  |true=>rw[Nat.eq_of_beq_eq_true hb];exact .head _
  |false=>rw[hb]at h;exact .tail _ (ih h)
theorem hget_in' {u h:Hp}{id:Nat} (hn:id∈fstL u):hget (u++h) id=hget u id:=by
 have:=hget_in (u:=u) (h:=h) (h':=[]) hn
 rwa [List.append_nil]at this
def namesOK (π ν:List (Nat × Nat)) (n0 n news:Nat) (upd:Hp):Bool :=
 (π.all fun p=>Nat.blt p.1 n0&&isSomeEq (asc π p.1) p.2)&&(ν.all fun p=>Nat.ble n p.1&&Nat.blt p.1 (n+news))&&updRW upd&&(!upd.isEmpty||Nat.beq news 0)
theorem adet_of_body {P:Program}{f:FuncId}{vs0:List Value}{pre0:Hp}{v0:Value}{upd0:Hp}{n0 news0:Nat} (h:Body P f vs0 pre0 v0 upd0 n0 news0)
  {vs:List Value}{pre:Hp}{v:Value}{upd:Hp}{n news:Nat} (π ν:List (Nat × Nat)) (hk:namesOK π ν n0 n news upd=true)
  (hvs:rnL (asc π) vs0=vs) (hpre:HsOK P (asc π) (hget pre) [] pre0) (hpn:nodupB (namesOf (asc π) [] pre0)=true)
  (hv:rn (asc (ν++flip π)) v=v0) (hupd:HsOK P (asc (ν++flip π)) (hget (upd0++pre0)) [] (upd++pre)) (hun:nodupB (namesOf (asc (ν++flip π)) [] (upd++pre))=true) :
  ADet P f vs pre v upd n news:=by
 simp only[namesOK,Bool.and_eq_true]at hk
 obtain⟨⟨⟨hπ,hν⟩,hrw⟩,hnn⟩:=hk
 refine⟨h.1,fun e=>?_,?_⟩
 ·subst e
  simpa using hnn
 intro ρ g w cargs hvl hr hg hfree _
 have hgp:∀ id b,hget pre id=some b → g id=some b:=fun id b hb=>by rw[hg id (hget_fst hb)];exact hb
 have hrp:RelH P ρ (hget pre) w:=hr.sub hgp
 have hG0:=gis_of hpre hpn
 have hG1:=gis_of hupd hun
 have hπ':∀ a b,(a,b)∈π → a<n0 ∧ asc π a=some b:=fun a b hab=>by
  have:=List.all_eq_true.1 hπ (a,b) hab
  simp only[Bool.and_eq_true]at this
  refine⟨blt_lt this.1,?_⟩
  have h2:=this.2
  unfold isSomeEq at h2
  split at h2
  ·rename_i x hx;rw[hx,Nat.eq_of_beq_eq_true h2]
  ·cases h2
 have hν':∀ a b,(a,b)∈ν → n ≤ a ∧ a<n+news:=fun a b hab=>by
  have:=List.all_eq_true.1 hν (a,b) hab
  simp only[Bool.and_eq_true]at this
  exact⟨ble_le this.1,blt_lt this.2⟩
 refine(h.2 (bindR ρ (asc π)) w cargs ?_ (hrp.rename hG0) ?_).mono ?_
 ·subst hvs
  exact renL_vl (fun v c=>ren_v 4 v c) hvl
 ·intro id hid
  have:asc π id=none:=by
   cases hx:asc π id with
   |none=>rfl
   |some x=>have:=(hπ' _ _ (asc_mem hx)).1;omega
  simp[bindR,this]
 intro e w' hR
 cases e with
 |panicked _=>exact hR.elim
 |outgrown=>exact hR.elim
 |returned c =>
 obtain⟨ρ1,hgood,hv1⟩:=hR
 let κ:=asc (ν++flip π)
 let ρ':Rn:=fun id=>match ρ id with
  |some l=>some l
  |none=>(asc ν id).bind ρ1
 have hle:Le ρ ρ':=fun id l hl=>by simp only[ρ',hl]
 have hκ:Le (bindR ρ1 κ) ρ':=by
  intro id l hl
  simp only[bindR,κ,asc_append]at hl
  cases hx:asc ν id with
  |some j =>
   rw[hx]at hl
   simp only[Option.bind_some]at hl
   have hnone:ρ id=none:=by
    have:=hν' _ _ (asc_mem hx)
    exact hfree id this.1 this.2
   simp only[ρ',hnone,hx,Option.bind_some,hl]
  |none =>
   rw[hx]at hl
   simp only at hl
   cases hy:asc (flip π) id with
   |none=>rw[hy]at hl;cases hl
   |some j =>
    rw[hy]at hl
    simp only[Option.bind_some]at hl
    obtain⟨hj,haj⟩:=hπ' j id (flip_mem (asc_mem hy))
    cases hz:ρ id with
    |some l0 =>
     have h0:bindR ρ (asc π) j=some l0:=by simp[bindR,haj,hz]
     have:=hgood.le j l0 h0
     rw[hl]at this;cases this
     simp only[ρ',hz]
    |none =>
     have h0:bindR ρ (asc π) j=none:=by simp[bindR,haj,hz]
     have:=hgood.new j h0 (by rw[hl];simp)
     omega
 have hrel1:RelH P (bindR ρ1 κ) (hget (upd++pre)) w':=by
  have h1:RelH P ρ1 (hget (upd0++pre0)) w':=hgood.rel.congr fun id=>(hget_append _ _ _)
  exact h1.rename hG1
 have hrel:RelH P ρ' (hget (upd++pre)) w':=hrel1.up hκ
 have hownpre:∀ k,Own (bindR ρ (asc π)) (hget pre0) k → Own ρ (hget pre) k:=fun k hk=>Own.rename hG0 hk
 have hownup:∀ k,Own ρ' (hget (upd++pre)) k → Own ρ (hget pre) k ∨ w.heap.size ≤ k:=fun k hk=>by
  have h1:=Own.rename hG1 (Own.down hrel1 hκ hk)
  have h2:Own ρ1 (gapply (hget pre0) upd0) k:=by
   obtain⟨id,b,l,hb,hx⟩:=h1
   exact⟨id,b,l,by rw[← hget_append];exact hb,hx⟩
  rcases hgood.own k h2 with h|h
  ·exact .inl (hownpre k h)
  ·exact .inr h
 have howng:∀ k,Own ρ (hget pre) k → Own ρ g k:=fun k ⟨id,b,l,hb,hx⟩=>⟨id,b,l,hgp id b hb,hx⟩
 have hin:∀ id,(id∈fstL upd ∨ id∈fstL pre) → gapply g upd id=hget (upd++pre) id:=fun id hid=>by
  by_cases hu:id∈fstL upd
  ·rw[hget_append];exact gapply_in hu
  ·rw[gapply_nin hu,hget_nin hu,hg id (hid.resolve_left hu)]
 have hout:∀ id,¬ (id∈fstL upd ∨ id∈fstL pre) → gapply g upd id=g id:=fun id hid=>gapply_nin fun hu=>hid (.inl hu)
 have hρold:∀ id b l,g id=some b → ρ' id=some l → ρ id=some l:=fun id b l hb hl=>by
  obtain⟨l0,hl0,_⟩:=hr.holds id b hb
  rw[hle id l0 hl0]at hl;cases hl;exact hl0
 have hstay:∀ id b l,¬ (id∈fstL upd ∨ id∈fstL pre) → g id=some b → ρ id=some l → b.touch → ¬ Own ρ (hget pre) l.addr.block:=by
  rintro id b l hno hb hl ht ⟨id3,b3,l3,hb3,hro3,hl3,he⟩
  refine hr.sep id3 b3 id b l3 l (hgp _ _ hb3) hb (fun e=>hno (.inr ?_)) hro3 ht hl3 hl he
  rw[← e];exact hget_fst hb3
 have hlt:∀ id b l,g id=some b → ρ id=some l → b.touch → l.addr.block<w.heap.size:=fun id b l hb hl ht=>by
  obtain⟨l0,hl0,hh⟩:=hr.holds id b hb
  rw[hl]at hl0;cases hl0
  exact hh.lt ht
 refine⟨ρ',⟨hle,fun id h0 h1=>?_,⟨fun id b hb=>?_,fun id1 b1 id2 b2 l1 l2 hb1 hb2 hne hro ht hl1 hl2=>?_⟩,?_,fun k hk=>?_⟩,(ren_v 4 v c (by rw[show ren κ 4 v=v0 from hv];exact hv1)).mono hκ⟩
 ·simp only[ρ',h0]at h1
  cases hx:asc ν id with
  |none=>rw[hx]at h1;exact absurd rfl h1
  |some j=>exact hν' _ _ (asc_mem hx)
 ·by_cases hi:id∈fstL upd ∨ id∈fstL pre
  ·rw[hin id hi]at hb;exact hrel.holds id b hb
  ·rw[hout id hi]at hb
   obtain⟨l,hl,hh⟩:=hr.holds id b hb
   refine⟨l,hle id l hl,hh.stay hle fun ht=>?_⟩
   exact hgood.fr.block _ (hh.lt ht) fun ho=>hstay id b l hi hb hl ht (hownpre _ ho)
 ·by_cases hi1:id1∈fstL upd ∨ id1∈fstL pre
  ·by_cases hi2:id2∈fstL upd ∨ id2∈fstL pre
   ·rw[hin _ hi1]at hb1;rw[hin _ hi2]at hb2
    exact hrel.sep id1 b1 id2 b2 l1 l2 hb1 hb2 hne hro ht hl1 hl2
   ·rw[hin _ hi1]at hb1;rw[hout _ hi2]at hb2
    have hl2':=hρold _ _ _ hb2 hl2
    rcases hownup _ ⟨id1,b1,l1,hb1,hro,hl1,rfl⟩with h|h
    ·intro he;rw[he]at h;exact hstay id2 b2 l2 hi2 hb2 hl2' ht h
    ·have:=hlt id2 b2 l2 hb2 hl2' ht;omega
  ·rw[hout _ hi1]at hb1
   have hl1':=hρold _ _ _ hb1 hl1
   by_cases hi2:id2∈fstL upd ∨ id2∈fstL pre
   ·by_cases hu2:id2∈fstL upd
    ·have hro2:b2.ro=false:=by
      rw[hin _ hi2,hget_in' hu2]at hb2
      exact updRW_get hrw hb2
     rw[hin _ hi2]at hb2
     rcases hownup _ ⟨id2,b2,l2,hb2,hro2,hl2,rfl⟩with h|h
     ·intro he;rw[← he]at h;exact hstay id1 b1 l1 hi1 hb1 hl1' (touch_of_rw hro) h
     ·have:=hlt id1 b1 l1 hb1 hl1' (touch_of_rw hro);omega
    ·rw[gapply_nin hu2]at hb2
     exact hr.sep id1 b1 id2 b2 l1 l2 hb1 hb2 hne hro ht hl1' (hρold _ _ _ hb2 hl2)
   ·rw[hout _ hi2]at hb2
    exact hr.sep id1 b1 id2 b2 l1 l2 hb1 hb2 hne hro ht hl1' (hρold _ _ _ hb2 hl2)
 ·exact⟨hgood.fr.os,hgood.fr.tape,hgood.fr.output,hgood.fr.size,fun k hk hn=>hgood.fr.block k hk fun ho=>hn (howng _ (hownpre _ ho))⟩
 ·obtain⟨id,b,l,hb,hro,hl,rfl⟩:=hk
  by_cases hi:id∈fstL upd ∨ id∈fstL pre
  ·rw[hin id hi]at hb
   rcases hownup _ ⟨id,b,l,hb,hro,hl,rfl⟩with h|h
   ·exact .inl (howng _ h)
   ·exact .inr h
  ·rw[hout id hi]at hb
   exact .inl ⟨id,b,l,hb,hro,hρold _ _ _ hb hl,rfl⟩
abbrev Rx:=Nat × Option (LK × Nat)
def tmpRes (P:Program):List ResultVar → Option (List Rx)
 |[]=>some []
 | .tmp t :: l=>match tmpRes P l with
  |some m=>some ((t,none) :: m)
  |none=>none
 | .cell a t :: l=>match tmpRes P l,lkT P t,sizeT P t with
  |some m,some g,some n=>some ((a,some (g,n)) :: m)
  |_,_,_=>none
def fnx (P:Program) (f:FuncId):Option (Nat × List Rx × XCode) :=
 match P.funcs[f]? with
 |some fn=>match fn.body,tmpRes P fn.results.toList with
  |some c,some rts=>match comp P fn.ntmps c with
   | some x => cond (fn.name == "runtime.NumGoroutine") none (some (fn.ntmps, rts, x))
   |none=>none
  |_,_=>none
 |none=>none
def resOne (t:Tm) (h:Hp):Rx → Option Value
 |(k,none)=>match look t k with
  |some (true,v)=>some v
  |_=>none
 |(k,some (g,n))=>match look t k with
  |some (true,p)=>match hgets h (ptrId [p])with
   |some bs=>match aLoad g n [p] bs with
    |some ⟨v,_,_,true⟩=>some v
    |_=>none
   |none=>none
  |_=>none
def resL (t:Tm) (h:Hp):List Rx → Option (List Value)
 |[]=>some []
 |k :: l=>match resOne t h k,resL t h l with
  |some v,some vs=>some (v :: vs)
  |_,_=>none
def resV (t:Tm) (h:Hp) (rts:List Rx):Option Value :=
 match resL t h rts with
 |some [v]=>some v
 |some vs=>some (.tuple ⟨vs⟩)
 |none=>none
def argTm:Nat → List Value → Tm
 |_,[]=>[]
 |i,v :: vs=>(i,true,v) :: argTm (i+1) vs
def finP (E:Env) (rts:List Rx) (pre:Hp) (v:Value) (upd:Hp) (news:Nat):Post:=fun e s =>
 (e=.normal ∨ e=.ret) ∧ ∃ t,Wk E s ⟨t,upd++pre,E.B.n+news⟩ ∧ resV t (upd++pre) rts=some v
theorem load_val {P:Program}{ρ:Rn}{g:G}{w:World}{t k:Nat}{lk:LK}{vs:List Value}{bs:List Blk}{c:Value}{r:Res}
  (h1:lkT P t=some lk) (h2:sizeT P t=some k) (ha:aLoad lk k vs bs=some r) (hok:r.ok=true) (hv:VL ρ vs [c]) (hr:RelH P ρ g w) (hb:GL g (ptrId vs) bs) :
  ∃ u,(asAddr c >>= loadVar t).run P w=.ok u w ∧ V ρ r.v u:=by
 replace h1:=lkT_agg h1
 have key:∀ {id idx fo:Nat}{b:Blk}{cs:List Value}{dyn ok:Bool},V ρ (.pointer (some ⟨id,idx,some fo⟩)) c → g id=some b →
   (ok=true → RowIs b idx cs) → readAt lk k dyn cs fo ok=some r → ∃ u,(asAddr c >>= loadVar t).run P w=.ok u w ∧ V ρ r.v u:=by
  intro id idx fo b cs dyn ok hp hg hrow hra
  obtain⟨l,hl,rfl⟩:=v_ptr hp
  obtain⟨hok',hag,hna⟩:=readAt_some hra hok
  have hrow:=hrow hok'
  obtain⟨l',hl',hh⟩:=hr.holds _ _ hg
  rw[hl]at hl';cases hl'
  have hS:(asAddr (.pointer (some (l.addr.add (idx*l.stride+fo)))) >>= loadVar t).run P w =
    (loadVar t (l.addr.add (idx*l.stride+fo))).run P w:=by simp[asAddr]
  rw[hS]
  cases hla:lk.isAgg with
  |true =>
   rw[hla]at h1
   obtain⟨hle,hrv⟩:=hag hla
   obtain⟨us,hus,hvl⟩:=run_loadCells_VL (P:=P) (ρ:=ρ) (w:=w) (a:=l.addr.add (idx*l.stride+fo)) (k:=k) (slab_length hle) (fun o v ho=>by
    rw[addr_add_add,Nat.add_assoc]
    exact row_cell hh hrow (slab_get ho))
   refine⟨.agg us,by simp[loadVar,isAgg_run h1,sizeOf_run h2,hus],?_⟩
   simp only[rv,Option.some.injEq]at hrv
   rw[← hrv]
   exact VL.agg hvl
  |false =>
   rw[hla]at h1
   obtain⟨hlt,hrv⟩:=hna hla
   obtain⟨u,hu,hvu⟩:=row_cell hh hrow (getElem?_of_getD hlt)
   refine⟨u,by simp[loadVar,isAgg_run h1,hu],?_⟩
   simp only[rv,Option.some.injEq]at hrv
   rw[← hrv]
   exact hvu
 rw[aLoad_eq]at ha
 unfold aLoad0 at ha
 split at ha
 ·simp only[ptrId,GL,VL,and_true]at hb hv
  exact key hv hb (fun _=>.inl rfl) ha
 ·simp only[ptrId,GL,VL,and_true]at hb hv
  exact key hv hb (fun _=>.inl rfl) ha
 ·simp only[ptrId,GL,VL,and_true]at hb hv
  exact key hv hb (fun hk=>.inr ⟨_,_,_,_,_,rfl,blt_lt hk,rfl⟩) ha
 ·cases ha
theorem results_run {P:Program}{w:World}{fn:Func}{rts:List Rx} (hr:tmpRes P fn.results.toList=some rts){ρ:Rn}{t:Tm}{h:Hp}{tmps:Array Value} (ht:TmR ρ t tmps) (hh:RelH P ρ (hget h) w)
  {v:Value} (hv:resV t h rts=some v):∃ c,(results fn tmps).run P w=.ok c w ∧ V ρ v c:=by
 have key:∀ (F:ResultVar → Sem Value),(∀ k,F (.tmp k)=pure (tmps.getD k undef)) → (∀ a t,F (.cell a t)=(asAddr (tmps.getD a undef) >>= loadVar t)) → ∀ (l:List ResultVar) (rts:List Rx) (vs:List Value),tmpRes P l=some rts → resL t h rts=some vs →
   ∃ cs,(l.mapM F).run P w=.ok cs w ∧ VL ρ vs cs:=by
  intro F hF hC l
  induction l with
  |nil=>intro rts vs h h';simp[tmpRes]at h;subst h;simp[resL]at h';subst h';exact⟨[],rfl,trivial⟩
  |cons r l ih =>
   intro rts vs h1 h2
   cases r with
   |cell a ty =>
    simp only[tmpRes]at h1
    cases hl:tmpRes P l with
    |none=>simp[hl]at h1
    |some m =>
     cases hg:lkT P ty with
     |none=>simp[hl,hg]at h1
     |some gg =>
      cases hs:sizeT P ty with
      |none=>simp[hl,hg,hs]at h1
      |some nn =>
       simp[hl,hg,hs]at h1;subst h1
       simp only[resL]at h2
       cases ho:resOne t h (a,some (gg,nn))with
       |none=>simp[ho]at h2
       |some v =>
        cases hrl:resL t h m with
        |none=>simp[ho,hrl]at h2
        |some us =>
         simp[ho,hrl]at h2;subst h2
         obtain⟨cs,hcs,hvl⟩:=ih m us hl hrl
         simp only[resOne]at ho
         split at ho
         ·rename_i p hlk
          split at ho
          ·rename_i bs hbs
           split at ho
           ·rename_i v' u1 u2 hal
            simp at ho;subst ho
            obtain⟨c,hc,hvc⟩:=ht.at hlk
            obtain⟨u,hu,hvu⟩:=load_val (w:=w) hg hs hal rfl (c:=c) ⟨hvc,trivial⟩ hh (gl_of_hgets hbs fun _ _=>rfl)
            refine⟨u :: cs,?_,hvu,hvl⟩
            have hc':tmps.getD a undef=c:=by simp[hc]
            rw[List.mapM_cons,hC,hc',Sem.run_bind,hu]
            simp only[Result.andThen,Sem.run_bind,hcs]
            rfl
           ·cases ho
          ·cases ho
         ·cases ho
   |tmp k =>
    simp only[tmpRes]at h1
    cases hl:tmpRes P l with
    |none=>simp[hl]at h1
    |some m =>
     simp[hl]at h1;subst h1
     simp only[resL]at h2
     cases ho:resOne t h (k,none)with
     |none=>simp[ho]at h2
     |some v =>
      cases hrl:resL t h m with
      |none=>simp[ho,hrl]at h2
      |some us =>
       simp[ho,hrl]at h2;subst h2
       obtain⟨cs,hcs,hvl⟩:=ih m us hl hrl
       simp only[resOne]at ho
       split at ho
       ·rename_i v' hlk
        simp at ho;subst ho
        obtain⟨c,hc,hvc⟩:=ht.at hlk
        refine⟨c :: cs,?_,hvc,hvl⟩
        have hc':tmps.getD k undef=c:=by simp[hc]
        rw[List.mapM_cons,hF,hc',pure_bind,Sem.run_bind,hcs]
        rfl
       ·cases ho
 unfold resV at hv
 cases hl:resL t h rts with
 |none=>simp[hl]at hv
 |some vs =>
  have hrun:∀ cs,VL ρ vs cs → (∃ c,Result.ok (if h:cs.length=1 then cs[0]else .tuple ⟨cs⟩) w=.ok c w ∧ V ρ v c):=by
   intro cs hvl
   refine⟨_,rfl,?_⟩
   rw[hl]at hv
   have hlen:=hvl.length
   match vs,cs,hvl,hv with
   |[],[],_,hv=>simp at hv;subst hv;exact VL.tuple (xs:=#[]) (ys:=#[]) trivial
   |[v0],[c0],hvl,hv=>simp at hv;subst hv;simpa using hvl.1
   |v0 :: v1 :: vs,c0 :: c1 :: cs,hvl,hv =>
    simp at hv;subst hv
    rw[dif_neg (by simp)]
    exact VL.tuple hvl
  unfold results
  rw[Array.mapM_eq_mapM_toList]
  rw[map_eq_pure_bind,bind_assoc,Sem.run_bind]
  generalize hM:List.mapM (m:=Sem) _ fn.results.toList=M
  obtain⟨cs,hcs,hvl⟩:∃ cs,M.run P w=.ok cs w ∧ VL ρ vs cs:=by
   rw[← hM]
   refine key _ ?_ ?_ _ _ _ hr hl
   ·intro k;rfl
   ·intro a t;rfl
  rw[hcs]
  obtain⟨c,h1,h2⟩:=hrun cs hvl
  refine⟨c,?_,h2⟩
  rw[← h1]
  simp
theorem argTm_look:∀ (vs:List Value) (i k:Nat) b v,look (argTm i vs) k=some (b,v) → b=true ∧ i ≤ k ∧ vs[k-i]?=some v
 |[],i,k,b,v,h=>by cases h
 |u :: vs,i,k,b,v,h=>by
  simp only[argTm,look]at h
  cases hb:Nat.beq i k with
  |true =>
   rw[hb]at h;simp at h;obtain⟨rfl,rfl⟩:=h
   have:=Nat.eq_of_beq_eq_true hb
   subst this;simp
  |false =>
   rw[hb]at h
   obtain⟨h0,h1,h2⟩:=argTm_look vs (i+1) k b v h
   have hk:k-i=(k-(i+1))+1:=by omega
   exact⟨h0,by omega,by rw[hk];simpa using h2⟩
def envOf (P:Program) (N n0:Nat) (pre:Hp) (hm:P.follows .mixedOrders=true) (ρ:Rn) (w:World) (hd:∀ id,n0 ≤ id → ρ id=none):FEnv:=⟨⟨P,N,⟨ρ,n0,Own ρ (hget pre),w⟩,hm⟩,hd⟩
theorem body_of {P:Program}{f N n0 news:Nat}{rts:List Rx}{x:XCode}{vs:List Value}{pre upd:Hp}{vv:Value} (hm:P.follows .mixedOrders=true) (hf:fnx P f=some (N,rts,x)) (hlen:vs.length ≤ N)
  (hx:∀ ρ w hd,XWP (envOf P N n0 pre hm ρ w hd).toEnv x (finP (envOf P N n0 pre hm ρ w hd).toEnv rts pre vv upd news) ⟨argTm 0 vs,pre,n0⟩):Body P f vs pre vv upd n0 news:=by
 unfold fnx at hf
 split at hf
 ·rename_i fn hfn
  split at hf
  ·rename_i c rts' hb hrt
   split at hf
   ·rename_i x' hc
    cases hnm : (fn.name == "runtime.NumGoroutine") with
    |true=>rw[hnm]at hf;cases hf
    |false =>
     rw[hnm]at hf
     simp only[cond_false,Option.some.injEq,Prod.mk.injEq]at hf
     obtain⟨rfl,rfl,rfl⟩:=hf
     refine⟨by simp[plainFn,hfn,hb];simpa using hnm,fun ρ w cargs hvl hr hd=>?_⟩
     have hcl:cargs.size=vs.length:=by rw[hvl.length];simp
     refine calls_of_wp hfn hb (wp_mono (hx ρ w hd c hc _ w ?_) ?_)
     ·refine⟨Nat.le_refl _,ρ,⟨fun k b u hl=>?_,?_,rfl,hr,Fr.refl _ _,fun k hk=>.inl hk,Le.refl _,fun id h0 h1=>absurd h0 h1⟩,fun _ _=>rfl⟩
      ·obtain⟨rfl,_,h2⟩:=argTm_look vs 0 k b u hl
       rw[Nat.sub_zero]at h2
       have hk:k<cargs.size:=by rw[hcl];exact lt_of_get h2
       refine⟨cargs[k],?_,fun _=>hvl.get h2 (by simp[hk]),fun e=>by cases e⟩
       simp[Array.getElem?_append,hk]
      ·simp[envOf];omega
     ·rintro e a w' ⟨s,⟨he,t,hwk,hres⟩,hrel⟩
      obtain⟨hBn,ρ',hcore,hfree⟩:=hwk a w' hrel
      obtain⟨cv,hrun,hv⟩:=results_run (P:=P) (w:=w') hrt hcore.tm hcore.rel hres
      have:a.defers=[] ∧ ∃ v,(results fn a.tmps).run P w'=.ok v w' ∧ ∃ ρ',GoodN P ρ (hget pre) w n0 upd news ρ' w' ∧ V ρ' vv v:=by
       refine⟨hcore.df,cv,hrun,ρ',⟨hcore.le,fun id h0 h1=>⟨hcore.new id h0 h1,?_⟩,hcore.rel.congr fun id=>(hget_append _ _ _).symm,hcore.fr,fun k hk=>hcore.own k ?_⟩,hv⟩
       ·rcases Nat.lt_or_ge id (n0+news)with h|h
        ·exact h
        ·exact absurd ((hfree id h).trans (hd id (by omega))) h1
       ·obtain⟨id,b,l,hb,hx⟩:=hk
        exact⟨id,b,l,by rw[hget_append];exact hb,hx⟩
      rcases he with rfl|rfl
      ·exact this
      ·exact this
   ·cases hf
  ·cases hf
 ·cases hf
end Go.X
