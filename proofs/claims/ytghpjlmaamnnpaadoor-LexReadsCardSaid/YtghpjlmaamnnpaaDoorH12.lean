import Derived.Test.YtghpjlmaamnnpaaDoorH11
set_option linter.all false
namespace Go.X
open Go
structure Rec where
 put:Tm
 upd:List (Nat × Option Blk)
 rd:List Nat
 n:Nat
 news:Nat
def StepR (ce:CE) (hints:List (Nat × Nat)) (o:XOper) (i:Nat) (t:Tm) (h:Hp) (n:Nat) (r:Rec):Prop :=
 r.n=n ∧ ∃ g,gd t o.guard=some (true,g) ∧
  ((g=false ∧ (∃ c v,r.put=putT [] o.dst c v ∧ (c=true → v=undefd)) ∧ r.upd=[] ∧ r.news=0 ∧ r.rd=[]) ∨
   (∃ v ok pr,eff ce (hintOf hints i) i o.k t h n=some ⟨r.rd,v,r.upd,r.news,ok,pr⟩ ∧ (g=true ∧ ok=true ∧ pr) ∧ r.put=putT [] o.dst true v ∧ (r.upd=[] → r.news=0)))
def XR (ce:CE) (hints:List (Nat × Nat)):List XOper → Nat → Tm → Hp → Nat → List Rec → Prop
 |[],_,_,_,_,[]=>True
 |o :: os,i,t,h,n,r :: rs=>StepR ce hints o i t h n r ∧ XR ce hints os (i+1) (r.put++t) (r.upd++h) (n+r.news) rs
 |_,_,_,_,_,_=>False
def putsOf:List Rec → Tm → Tm
 |[],t=>t
 |r :: rs,t=>putsOf rs (r.put++t)
def updsOf:List Rec → Hp → Hp
 |[],h=>h
 |r :: rs,h=>updsOf rs (r.upd++h)
def newsOf:List Rec → Nat → Nat
 |[],n=>n
 |r :: rs,n=>newsOf rs (n+r.news)
def TrOf:List Rec → Nat → List Foot → Prop
 |[],_,_=>True
 |r :: rs,i,tr=>((r.rd=[] ∧ r.upd=[]) ∨ ⟨i,r.rd,fstL r.upd⟩∈tr) ∧ TrOf rs (i+1) tr
theorem putT_append (t:Tm) (d:Option Nat) (c:Bool) (v:Value):putT [] d c v++t=putT t d c v:=by cases d<;>rfl
theorem eff_nu {P:Program}{ce:CE} (hce:CEok P ce){hint i:Nat}{k:XK}{t:Tm}{h:Hp}{n:Nat} {rd v upd news ok pr} (he:eff ce hint i k t h n=some ⟨rd,v,upd,news,ok,pr⟩)
  (hok:ok=true) (hpr:pr) (hu:upd=[]):news=0:=by
 have call:∀ f c vs,effC ce i f c vs h n=some ⟨rd,v,upd,news,ok,pr⟩ → news=0:=by
  intro f c vs hc
  unfold effC at hc
  split at hc
  ·rename_i pre v' upd' news' ok' pr' hh
   simp only[Option.some.injEq,Eff.mk.injEq]at hc
   obtain⟨rfl,rfl,rfl,rfl,rfl,rfl⟩:=hc
   simp only[Bool.and_eq_true]at hok
   exact(hce _ _ _ _ _ _ _ _ _ _ _ hh hok.2 hpr).2.2.1 hu
  ·cases hc
 cases k with
 |op o =>
  simp only[eff,effX]at he
  split at he
  ·split at he
   ·split at he
    ·rename_i hh
     simp only[Option.some.injEq,Eff.mk.injEq]at he
     obtain⟨rfl,rfl,rfl,rfl,rfl,rfl⟩:=he
     exact act_nu _ hh hu
    ·cases he
   ·cases he
  ·cases he
 |pick c a b =>
  simp only[eff]at he
  repeat' split at he
  all_goals first
   |(cases he;done)
   |(simp only[Option.some.injEq,Eff.mk.injEq]at he;exact he.2.2.2.1.symm)
 |callF f xs =>
  simp only[eff]at he
  split at he
  ·exact call _ _ _ he
  ·cases he
 |callV x xs =>
  simp only[eff]at he
  split at he
  ·exact call _ _ _ he
  ·cases he
theorem xrun_mono {ce:CE}{hints:List (Nat × Nat)}:∀ {os:List XOper}{i:Nat}{t:Tm}{h:Hp}{n:Nat}{ok:Bool}{pr:Prop}{tr:List Foot}{s:RS},
  xrun ce hints os i t h n ok pr tr=some s → s.ok=true → s.pr → ok=true ∧ pr ∧ ∀ f∈tr,f∈s.tr:=by
 intro os
 induction os with
 |nil =>
  intro i t h n ok pr tr s hx hok hpr
  simp only[xrun,Option.some.injEq]at hx;subst hx
  exact⟨hok,hpr,fun _ h=>h⟩
 |cons o os ih =>
  intro i t h n ok pr tr s hx hok hpr
  simp only[xrun]at hx
  repeat' split at hx
  all_goals first
   |cases hx;done
   |(have:=ih hx hok hpr
     simp only[Bool.and_eq_true]at this
     refine⟨(by first|exact this.1.2.2|exact this.1.2),?_,fun f hf=>this.2.2 f ?_⟩
     ·first
       |exact this.2.1.1
       |exact this.2.1
     ·first
       |exact hf
       |exact List.mem_cons_of_mem _ hf)
theorem xrun_recs {P:Program}{ce:CE} (hce:CEok P ce){hints:List (Nat × Nat)}:∀ {os:List XOper}{i:Nat}{t:Tm}{h:Hp}{n:Nat}{ok:Bool}{pr:Prop}{tr:List Foot}{s:RS},
  xrun ce hints os i t h n ok pr tr=some s → s.ok=true → s.pr →
  ∃ rs,XR ce hints os i t h n rs ∧ s.t=putsOf rs t ∧ s.h=updsOf rs h ∧ s.n=newsOf rs n ∧ TrOf rs i s.tr:=by
 intro os
 induction os with
 |nil =>
  intro i t h n ok pr tr s hx hok hpr
  simp only[xrun,Option.some.injEq]at hx;subst hx
  exact⟨[],trivial,rfl,rfl,rfl,trivial⟩
 |cons o os ih =>
  intro i t h n ok pr tr s hx hok hpr
  simp only[xrun]at hx
  cases hg:gd t o.guard with
  |none=>simp[hg]at hx
  |some cg =>
   obtain⟨c,g⟩:=cg
   simp only[hg]at hx
   have skip:∀ {ok':Bool} {pr':Prop} {tr':List Foot} {c':Bool}{v:Value},g=false → c=true → (c'=true → v=undefd) → xrun ce hints os (i+1) (putT t o.dst c' v) h n ok' pr' tr'=some s →
     ∃ rs,XR ce hints (o :: os) i t h n rs ∧ s.t=putsOf rs t ∧ s.h=updsOf rs h ∧ s.n=newsOf rs n ∧ TrOf rs i s.tr:=by
    intro ok' pr' tr' c' v h0 hc hv hx
    obtain⟨rs,h1,h2,h3,h4,h5⟩:=ih hx hok hpr
    refine⟨⟨putT [] o.dst c' v,[],[],n,0⟩ :: rs,⟨⟨rfl,g,by rw[hg,hc],.inl ⟨h0,⟨c',v,rfl,hv⟩,rfl,rfl,rfl⟩⟩,?_⟩,?_,h3,h4,⟨.inl ⟨rfl,rfl⟩,h5⟩⟩
    ·simp only[putT_append];exact h1
    ·simp only[putsOf,putT_append];exact h2
   have run:∀ {rd v upd news ok1 pr1} {ok':Bool} {pr':Prop} {tr':List Foot},eff ce (hintOf hints i) i o.k t h n=some ⟨rd,v,upd,news,ok1,pr1⟩ →
     g=true → c=true → (ok1=true ∧ pr1) → (upd=[] → news=0) → ⟨i,rd,fstL upd⟩∈tr' →
     xrun ce hints os (i+1) (putT t o.dst true v) (upd++h) (n+news) ok' pr' tr'=some s →
     ∃ rs,XR ce hints (o :: os) i t h n rs ∧ s.t=putsOf rs t ∧ s.h=updsOf rs h ∧ s.n=newsOf rs n ∧ TrOf rs i s.tr:=by
    intro rd v upd news ok1 pr1 ok' pr' tr' he hg1 hc h1' hu htr hx
    obtain⟨hok',hpr',htr'⟩:=xrun_mono hx hok hpr
    obtain⟨rs,h1,h2,h3,h4,h5⟩:=ih hx hok hpr
    refine⟨⟨putT [] o.dst true v,upd,rd,n,news⟩ :: rs,⟨⟨rfl,g,by rw[hg,hc],.inr ⟨v,ok1,pr1,he,⟨hg1,h1'⟩,rfl,hu⟩⟩,?_⟩,?_,h3,h4,⟨.inr (htr' _ htr),h5⟩⟩
    ·simp only[putT_append];exact h1
    ·simp only[putsOf,putT_append];exact h2
   have skipN:∀ {ok':Bool} {pr':Prop} {tr':List Foot},g=false → (ok'=true → c=true) → (match o.dst with
     |some d=>xrun ce hints os (i+1) ((d,true,undefd) :: t) h n ok' pr' tr'
     |none=>xrun ce hints os (i+1) t h n ok' pr' tr')=some s →
     ∃ rs,XR ce hints (o :: os) i t h n rs ∧ s.t=putsOf rs t ∧ s.h=updsOf rs h ∧ s.n=newsOf rs n ∧ TrOf rs i s.tr:=by
    intro ok' pr' tr' h0 hc hx
    have hx:xrun ce hints os (i+1) (putT t o.dst true undefd) h n ok' pr' tr'=some s:=by
     revert hx;cases o.dst<;>exact id
    exact skip h0 (hc (xrun_mono hx hok hpr).1) (fun _=>rfl) hx
   cases he:eff ce (hintOf hints i) i o.k t h n with
   |none =>
    simp only[he]at hx
    cases g with
    |true=>simp at hx
    |false =>
     refine skipN (ok':=c&&ok) (pr':=pr) (tr':=tr) rfl (fun e=>by simp at e;exact e.1) ?_
     revert hx;cases o.dst<;>exact id
   |some E =>
    obtain⟨rd,v,upd,news,ok1,pr1⟩:=E
    simp only[he]at hx
    cases upd with
    |nil =>
     have hx2:xrun ce hints os (i+1) (putT t o.dst g v) h n ((ok1||!g)&&(c&&ok)) (pr ∧ (g=true → pr1)) (⟨i,rd,[]⟩ :: tr)=some s:=by
      revert hx;cases o.dst<;>exact id
     obtain⟨hok',hpr',htr'⟩:=xrun_mono hx2 hok hpr
     simp only[Bool.and_eq_true,Bool.or_eq_true,Bool.not_eq_true']at hok'
     cases g with
     |false=>exact skip rfl hok'.2.1 (fun e=>by cases e) hx2
     |true =>
      have hok1:ok1=true:=by simpa using hok'.1
      have hnews:news=0:=eff_nu hce he hok1 (hpr'.2 rfl) rfl
      subst hnews
      exact run he rfl hok'.2.1 ⟨hok1,hpr'.2 rfl⟩ (fun _=>rfl) (.head _) hx2
    |cons b upd =>
     cases g with
     |false =>
      refine skipN (ok':=c&&ok) (pr':=pr) (tr':=tr) rfl (fun e=>by simp at e;exact e.1) ?_
      revert hx;cases o.dst<;>exact id
     |true =>
      have hx:xrun ce hints os (i+1) (putT t o.dst true v) ((b :: upd)++h) (n+news) (ok1&&(c&&ok)) (pr ∧ pr1) (⟨i,rd,fstL (b :: upd)⟩ :: tr)=some s:=by
       revert hx;cases o.dst<;>exact id
      obtain⟨hok',hpr',htr'⟩:=xrun_mono hx hok hpr
      simp only[Bool.and_eq_true]at hok'
      exact run he rfl hok'.2.1 ⟨hok'.1,hpr'.2⟩ (fun e=>by cases e) (.head _) hx
end Go.X
namespace Go.X
open Go
theorem gl_of_hgets {h:Hp}{g:G}:∀ {ids:List Nat}{bs:List Blk},hgets h ids=some bs → (∀ id∈ids,g id=hget h id) → GL g ids bs
 |[],bs,hh,_=>by simp[hgets]at hh;subst hh;trivial
 |id :: ids,bs,hh,hg=>by
  simp only[hgets]at hh
  cases h1:hget h id with
  |none=>simp[h1]at hh
  |some b =>
   cases h2:hgets h ids with
   |none=>simp[h1,h2]at hh
   |some bs' =>
    simp[h1,h2]at hh;subst hh
    exact⟨by rw[hg id (.head _),h1],gl_of_hgets h2 fun k hk=>hg k (.tail _ hk)⟩
theorem enter_run {P:Program}{f:FuncId} (h:plainFn P f=true) (args:Array Value) (w:World):(callFunc f args).run P w=.ok (.enter f args) w:=by
 unfold plainFn at h
 cases hf:P.funcs[f]? with
 |none=>simp[hf]at h
 |some fn =>
  simp only[hf,Bool.and_eq_true,Bool.not_eq_true']at h
  obtain⟨h1,h2⟩:=h
  unfold callFunc
  have hb:fn.body.isNone=false:=by
   cases hbb:fn.body with
   |none=>simp[hbb]at h1
   |some c=>rfl
  have hp:(program:Sem Program).run P w=.ok P w:=rfl
  have h2' : ¬ fn.name = "runtime.NumGoroutine" := by simpa using h2
  have hb':¬ fn.body=none:=fun e=>by simp[e]at h1
  simp[hf,h2',hb']
theorem opdsOf_map {a:Act}{xs:Array Operand}:(xs.map a.eval).toList=xs.toList.map a.eval:=by simp
theorem look_putT {d:Option Nat}{c b:Bool} {v v':Value}{k:Nat} (h:look (putT [] d c v) k=some (b,v')):d=some k ∧ c=b ∧ v=v':=by
 cases d with
 |none=>cases h
 |some d =>
  simp only[putT,look]at h
  cases hb:Nat.beq d k with
  |false=>simp[hb]at h
  |true =>
   simp[hb]at h
   exact⟨by rw[Nat.eq_of_beq_eq_true hb],h.1,h.2⟩
theorem step_sound {P:Program}{N:Nat}{ce:CE} (hce:CEok P ce){hints:List (Nat × Nat)}{ops:Array Oper}{j:Nat}{o:Oper}{xo:XOper} (hoj:ops[j]?=some o) (hco:compOper P N ops o=some xo)
  {i:Nat}{t:Tm}{h:Hp}{n:Nat}{r:Rec} (hs:StepR ce hints xo i t h n r){ρ:Rn}{g:G}{w:World}{a:Act}
  (ht:∀ k∈xo.looks,∀ b v,look t k=some (b,v) → ∃ c,a.tmps[k]?=some c ∧ TV ρ b v c)
  (hr:RelH P ρ g w) (hg:∀ id∈r.rd,g id=hget h id) (hn:∀ id,n ≤ id → id<n+r.news → ρ id=none) (hfree:∃ k,n+r.news ≤ k ∧ ρ k=none)
  {K:Act → World → Prop}{Q:Exit → Act → World → Prop}
  (hK:∀ ρ' w' u,GoodN P ρ g w n r.upd r.news ρ' w' → (∀ d b v,xo.dst=some d → look r.put d=some (b,v) → TV ρ' b v u) → K (a.put xo.dst u) w') :
  wpOp P ops Q j K a w:=by
 unfold compOper at hco
 cases hk:compK P o.op with
 |none=>simp[hk]at hco
 |some k =>
 simp only[hk]at hco
 cases hd:o.dst.all fun d=>Nat.blt d N with
 |false=>simp[hd]at hco
 |true =>
 simp only[hd]at hco
 obtain⟨hrn,gb,hgd,hs⟩:=hs
 have hdst:xo.dst=o.dst ∧ xo.k=k ∧ Region.wanted o (yielded ops a.tmps)=gb:=by
  cases hgu:o.guard with
  |none =>
   simp only[hgu,Option.some.injEq]at hco
   subst hco
   simp only[gd,Option.some.injEq,Prod.mk.injEq,true_and]at hgd
   exact⟨rfl,rfl,by simp[Region.wanted,hgu,hgd]⟩
  |some jw =>
   obtain⟨jj,want⟩:=jw
   simp only[hgu]at hco
   cases hdd:(ops[jj]?).bind (·.dst)with
   |none=>simp[hdd]at hco
   |some d =>
    simp only[hdd,Option.some.injEq]at hco
    subst hco
    refine⟨rfl,rfl,?_⟩
    simp only[gd]at hgd
    split at hgd
    ·rename_i c b hl
     simp only[Option.some.injEq,Prod.mk.injEq]at hgd
     have hgd:=hgd.2
     obtain⟨cv,hc1,hc2,hc3⟩:=ht d (by simp[XOper.looks]) _ _ hl
     simp only[Region.wanted,hgu]
     rw[← hgd]
     cases c with
     |true =>
      have:=v_bool (hc2 rfl)
      subst this
      have hy:yielded ops a.tmps jj=some b:=by simp[yielded,hdd,hc1]
      rw[hy]
      cases b<;>cases want<;>rfl
     |false =>
      have:=hc3 rfl
      subst this
      have hy:yielded ops a.tmps jj=none:=by simp[yielded,hdd,hc1,undef]
      rw[hy]
      cases want<;>rfl
    ·rename_i c xs hl
     simp only[Option.some.injEq,Prod.mk.injEq,true_and]at hgd
     obtain⟨cv,hc1,hc2,hc3⟩:=ht d (by simp[XOper.looks]) _ _ hl
     have hcv:∃ ys,cv=.tuple ys:=by
      cases c with
      |true=>obtain⟨ys,h,_⟩:=v_tuple (hc2 rfl);exact⟨ys,h⟩
      |false=>exact⟨#[],hc3 rfl⟩
     obtain⟨ys,rfl⟩:=hcv
     have hy:yielded ops a.tmps jj=none:=by simp[yielded,hdd,hc1]
     simp only[Region.wanted,hgu,hy,← hgd]
     cases want<;>rfl
    ·cases hgd
 obtain⟨hd1,hk1,hw⟩:=hdst
 unfold wpOp
 simp only[hoj,hw]
 rcases hs with⟨h0,⟨c',v',hput,hun⟩,hupd,hnews,hrd⟩|⟨v,ok,pr,he,⟨hgt,hok,hpr⟩,hput,hnu⟩
 ·rw[h0]
  simp only[Bool.false_eq_true,if_false]
  rw[← hd1]
  refine hK ρ w undef ⟨Le.refl _,fun _ h1 h2=>absurd h1 h2,by rw[hupd];exact hr,Fr.refl _ _,fun k hk=>by rw[hupd]at hk;exact .inl hk⟩ ?_
  intro d b v hd2 hl
  rw[hput]at hl
  obtain⟨_,hc,hv⟩:=look_putT hl
  subst hv;subst hc
  refine⟨fun hc=>?_,fun _=>rfl⟩
  rw[hun hc]
  exact VL.tuple (xs:=#[]) (ys:=#[]) trivial
 ·rw[hgt]
  simp only[if_true]
  refine .inl ?_
  have hput':∀ {ρ':Rn}{u:Value},V ρ' v u → ∀ d b v',xo.dst=some d → look r.put d=some (b,v') → TV ρ' b v' u:=by
   intro ρ' u hv d b v' hd2 hl
   rw[hput]at hl
   obtain⟨_,rfl,rfl⟩:=look_putT hl
   exact⟨fun _=>hv,fun e=>by cases e⟩
  have call:∀ f vs (cargs:Array Value),effC ce i f true vs h n=some ⟨r.rd,v,r.upd,r.news,ok,pr⟩ → VL ρ vs cargs.toList → (execOp a.eval o)=callFunc f cargs → o.wp P a w K Q:=by
   intro f vs cargs hc hvl hex
   unfold effC at hc
   split at hc
   ·rename_i pre v2 upd news ok' pr' hh
    simp only[Option.some.injEq,Eff.mk.injEq]at hc
    obtain⟨hrd,rfl,hupd,hnews,rfl,rfl⟩:=hc
    simp only[Bool.true_and]at hok
    obtain⟨hpre,hpl,_,hdet⟩:=hce _ _ _ _ _ _ _ _ _ _ _ hh hok hpr
    unfold Oper.wp
    rw[hex,enter_run hpl,Oper.upon_enter]
    refine(hdet ρ g w cargs hvl hr (fun id hid=>by rw[hg id (by rw[← hrd];exact hid),hpre id hid]) (by rw[hnews];exact hn) (by rw[hnews];exact hfree)).mono ?_
    intro e w' hR
    cases e with
    |returned c =>
     obtain⟨ρ',hgood,hv⟩:=hR
     show K (a.put o.dst c) w'
     rw[← hd1]
     exact hK ρ' w' c (by rw[← hupd,← hnews];exact hgood) (hput' hv)
    |panicked _=>exact hR.elim
    |outgrown=>exact hR.elim
   ·cases hc
  have htt:∀ k∈xo.looks,∀ v,look t k=some (true,v) → ∃ c,a.tmps[k]?=some c ∧ V ρ v c:=fun k hk v hl=>by
   obtain⟨c,h1,h2⟩:=ht k hk true v hl
   exact⟨c,h1,h2.1 rfl⟩
  have hks:∀ x∈slotsOf k.opds,x∈xo.looks:=by
   intro x hx
   unfold XOper.looks
   rw[hk1]
   exact List.mem_append_right _ hx
  rw[hk1]at he
  cases k with
  |op x =>
   have hcop:compOp P o.op=some x:=by
    unfold compK at hk
    split at hk
    ·revert hk;cases plainFn P _<;>simp
    ·cases hk
    ·cases hk
    ·cases hc2:compOp P o.op with
     |none=>simp[hc2]at hk
     |some y=>simp[hc2]at hk;rw[hk]
   simp only[eff,effX]at he
   cases hev:evs t x.opds with
   |none=>simp[hev]at he
   |some cv =>
    obtain⟨c,vs⟩:=cv
    simp only[hev]at he
    cases hbs:hgets h (x.need vs)with
    |none=>simp[hbs]at he
    |some bs =>
     simp only[hbs]at he
     cases hact:x.act vs bs n (hintOf hints i)with
     |none=>simp[hact]at he
     |some res =>
      obtain⟨v2,upd,news,ok2⟩:=res
      simp only[hact,Option.some.injEq,Eff.mk.injEq]at he
      obtain⟨hrd,rfl,hupd,hnews,rfl,rfl⟩:=he
      simp only[Bool.and_eq_true]at hok
      obtain⟨hok2,rfl⟩:=hok
      have hvl:VL ρ vs (x.opds.map a.eval):=evs_sound hev fun kk hkk v hl=>htt kk (hks kk hkk) v hl
      have hgl:GL g (x.need vs) bs:=gl_of_hgets hbs fun id hid=>hg id (by rw[← hrd];exact hid)
      obtain⟨m,hm,hactm,hmn⟩:∃ m,ρ m=none ∧ x.act vs bs m (hintOf hints i)=some ⟨v2,upd,news,ok2⟩ ∧ (news=0 ∨ m=n):=by
       by_cases h0:news=0
       ·obtain⟨m,_,hm⟩:=hfree
        exact⟨m,hm,act_name hact h0,.inl h0⟩
       ·exact⟨n,hn n (Nat.le_refl _) (by rw[← hnews];omega),hact,.inr rfl⟩
      have hrun:=op_sound (dst:=o.dst) (type:=o.type) (pos:=o.pos) (after:=o.after) (guard:=o.guard) hcop hactm hok2 hvl hr hm hgl
      obtain⟨ρ',w',hgood,hres⟩:=hrun
      have hgn:GoodN P ρ g w n upd news ρ' w':=by
       refine⟨hgood.le,fun id h0 h1=>?_,hgood.rel,hgood.fr,hgood.own⟩
       obtain⟨e1,e2⟩:=hgood.new id h0 h1
       rcases hmn with h|h
       ·simp only at e2;omega
       ·simp only at e2;omega
      rw[← hd1]at hres
      unfold Oper.wp
      rcases hres with⟨c,hrun,hv⟩|⟨hrun,hv⟩
      ·have hrun':(execOp a.eval o).run P w=.ok (.value c) w':=by rw[← hrun,hd1]
       rw[hrun',Oper.upon_value,← hd1]
       exact hK ρ' w' c (by rw[← hupd,← hnews];exact hgn) (hput' hv)
      ·have hrun':(execOp a.eval o).run P w=.ok .skip w':=by rw[← hrun,hd1]
       rw[hrun',Oper.upon_skip,← hd1]
       refine hK ρ' w' undef (by rw[← hupd,← hnews];exact hgn) (hput' ?_)
       simp only at hv
       rw[hv]
       exact VL.tuple (xs:=#[]) (ys:=#[]) trivial
  |pick pc pa pb =>
   have hop:o.op=.pick pc pa pb:=by
    unfold compK at hk
    split at hk
    ·revert hk;cases plainFn P _<;>simp
    ·cases hk
    ·rename_i hop;simp only[Option.some.injEq,XK.pick.injEq]at hk;obtain⟨rfl,rfl,rfl⟩:=hk;exact hop
    ·cases hc2:compOp P o.op with
     |none=>simp[hc2]at hk
     |some y=>simp[hc2]at hk
   simp only[eff]at he
   split at he
   ·rename_i c1 p c2 va c3 vb hev1 hev2 hev3
    split at he
    ·rename_i v2 _ _ _ hpk
     simp only[Option.some.injEq,Eff.mk.injEq]at he
     obtain⟨hrd,rfl,hupd,hnews,rfl,rfl⟩:=he
     simp only[Bool.and_eq_true]at hok
     obtain⟨hs1,hs2,rfl⟩:=hok
     have hin:∀ x,x∈[pc,pa,pb] → ∀ kk,x=.tmp kk → kk∈xo.looks:=fun x hx kk e=>hks kk (mem_slots (by subst e;exact hx))
     have hc1:a.eval pc=.bool p:=v_bool (ev_sound hev1 fun kk e v hl=>htt kk (hin pc (by simp) kk e) v hl)
     have hv:V ρ v2 (if p=true then a.eval pa else a.eval pb):=by
      have h2:c2=true → V ρ va (a.eval pa):=fun e=>ev_sound (by rw[hev2,e]) fun kk e v hl=>htt kk (hin pa (by simp) kk e) v hl
      have h3:c3=true → V ρ vb (a.eval pb):=fun e=>ev_sound (by rw[hev3,e]) fun kk e v hl=>htt kk (hin pb (by simp) kk e) v hl
      simp only[aPick]at hpk
      split at hpk
      ·simp only[rv,Option.some.injEq,Res.mk.injEq]at hpk
       rw[← hpk.1]
       cases p with
       |true=>simpa using h2 (by simpa using hs1)
       |false=>simpa using h3 (by simpa using hs2)
      ·simp only[rv,Option.some.injEq,Res.mk.injEq]at hpk
       rw[← hpk.1]
       cases p with
       |true=>simpa using h2 (by simpa using hs1)
       |false=>simpa using h3 (by simpa using hs2)
     unfold Oper.wp
     have hrun:(execOp a.eval o).run P w=.ok (.value (if p=true then a.eval pa else a.eval pb)) w:=by
      unfold execOp
      rw[hop]
      simp[hc1,asBool]
     rw[hrun,Oper.upon_value,← hd1]
     refine hK ρ w _ ⟨Le.refl _,fun _ h1 h2=>absurd h1 h2,?_,Fr.refl _ _,fun k hk=>?_⟩ (hput' hv)
     ·rw[← hupd];exact hr
     ·rw[← hupd]at hk;exact .inl hk
    ·cases he
   ·cases he
  |callF f xs =>
   simp only[eff]at he
   cases hev:evs t xs with
   |none=>simp[hev]at he
   |some cv =>
    obtain⟨c,vs⟩:=cv
    simp only[hev]at he
    have hc:c=true:=by
     unfold effC at he
     split at he
     ·simp only[Option.some.injEq,Eff.mk.injEq]at he
      obtain⟨_,_,_,_,rfl,_⟩:=he
      simp only[Bool.and_eq_true]at hok
      exact hok.1
     ·cases he
    subst hc
    have hvl:VL ρ vs (xs.map a.eval):=evs_sound hev fun kk hkk v hl=>htt kk (hks kk hkk) v hl
    unfold compK at hk
    split at hk
    ·rename_i args ats hop
     revert hk
     cases plainFn P _ with
     |false=>simp
     |true =>
      simp only[cond_true,Option.some.injEq,XK.callF.injEq]
      rintro⟨rfl,rfl⟩
      refine call _ vs (args.map a.eval) he (by rw[opdsOf_map];exact hvl) ?_
      unfold execOp
      rw[hop]
      simp[Go.resolve,Deferred.ofValue,invoke,Act.eval]
    ·cases hk
    ·cases hk
    ·rename_i hne
     cases hc2:compOp P o.op with
     |none=>simp[hc2]at hk
     |some y=>simp[hc2]at hk
  |callV x xs =>
   simp only[eff]at he
   split at he
   ·rename_i c1 f fs cs c2 vs hev1 hev2
    have hc:c1=true ∧ c2=true:=by
     unfold effC at he
     split at he
     ·simp only[Option.some.injEq,Eff.mk.injEq]at he
      obtain⟨_,_,_,_,rfl,_⟩:=he
      simp only[Bool.and_eq_true]at hok
      exact hok.1
     ·cases he
    obtain⟨rfl,rfl⟩:=hc
    have hvl:VL ρ vs (xs.map a.eval):=evs_sound hev2 fun kk hkk v hl=>htt kk (hks kk (by cases x<;>simp[XK.opds,slotsOf,hkk])) v hl
    have hvx:V ρ (.func (.func f) fs cs) (a.eval x):=ev_sound hev1 fun kk e v hl=>htt kk (hks kk (by subst e;simp[XK.opds,slotsOf])) v hl
    obtain⟨fs',cs',hx',hf1,hf2⟩:∃ fs' cs',a.eval x=.func (.func f) fs' cs' ∧ VL ρ fs.toList fs'.toList ∧ VL ρ cs.toList cs'.toList:=by
     generalize a.eval x=e at hvx
     cases hvx with
     |func h1 h2 h3 h4=>exact⟨_,_,rfl,VL.of_get (by simpa using h1) (by simpa using h2),VL.of_get (by simpa using h3) (by simpa using h4)⟩
    simp only[Bool.and_true]at he
    unfold compK at hk
    split at hk
    ·revert hk;cases plainFn P _<;>simp
    ·rename_i x' args ats _ hop
     simp only[Option.some.injEq,XK.callV.injEq]at hk
     obtain⟨rfl,rfl⟩:=hk
     refine call f _ (fs'++args.map a.eval++cs') he ?_ ?_
     ·simp only[Array.toList_append,opdsOf_map]
      exact(hf1.append hvl).append hf2
     ·unfold execOp
      rw[hop]
      simp[Go.resolve,Deferred.ofValue,invoke,hx']
    ·cases hk
    ·cases hc2:compOp P o.op with
     |none=>simp[hc2]at hk
     |some y=>simp[hc2]at hk
   ·cases he
end Go.X
namespace Go.X
open Go
structure Base where
 ρ:Rn
 n:Nat
 O:Nat → Prop
 w:World
structure Core (P:Program) (N:Nat) (B:Base) (ρ:Rn) (t:Tm) (g:G) (a:Act) (w:World):Prop where
 tm:TmR ρ t a.tmps
 sz:a.tmps.size=N
 df:a.defers=[]
 rel:RelH P ρ g w
 fr:Fr B.O B.w w
 own:∀ k,Own ρ g k → B.O k ∨ B.w.heap.size ≤ k
 le:Le B.ρ ρ
 new:∀ id,B.ρ id=none → ρ id≠none → B.n ≤ id
theorem Core.drew {P:Program}{N:Nat}{B:Base}{ρ:Rn}{t:Tm}{g:G}{a:Act}{w:World} (h:Core P N B ρ t g a w):Core P N B ρ t g a { w with drawn:=w.drawn+1 } :=
 { h with rel:=h.rel.world rfl,fr:=h.fr.trans ⟨rfl,rfl,rfl,Nat.le_refl _,fun _ _ _=>rfl⟩ }
theorem put_size (a:Act) (d:Option Tmp) (u:Value):(a.put d u).tmps.size=a.tmps.size:=by cases d<;>simp[Act.put]
theorem put_defers (a:Act) (d:Option Tmp) (u:Value):(a.put d u).defers=a.defers:=by cases d<;>rfl
theorem Core.step {P:Program}{N:Nat}{B:Base} {ρ ρ':Rn} {t t':Tm}{g:G}{a:Act} {w w':World}{n news:Nat}{upd:List (Nat × Option Blk)}{d:Option Nat}{u:Value}
  (h:Core P N B ρ t g a w) (hg:GoodN P ρ g w n upd news ρ' w') (hn:B.n ≤ n) (htm:TmR ρ' t' (a.put d u).tmps):Core P N B ρ' t' (gapply g upd) (a.put d u) w' where
 tm:=htm
 sz:=by rw[put_size];exact h.sz
 df:=by rw[put_defers];exact h.df
 rel:=hg.rel
 fr:=h.fr.then hg.fr fun i hi ho=>by
  rcases h.own i ho with h|h
  ·exact h
  ·omega
 own:=fun k hk=>by
  rcases hg.own k hk with h1|h1
  ·exact h.own k h1
  ·exact .inr (Nat.le_trans h.fr.size h1)
 le:=h.le.trans hg.le
 new:=fun id h0 h1=>by
  by_cases hx:ρ id=none
  ·exact Nat.le_trans hn (hg.new id hx h1).1
  ·exact h.new id h0 hx
theorem Core.congr {P:Program}{N:Nat}{B:Base}{ρ:Rn}{t:Tm} {g g':G}{a:Act}{w:World} (h:Core P N B ρ t g a w) (hg:∀ id,g' id=g id):Core P N B ρ t g' a w :=
 { h with rel:=h.rel.congr hg,own:=fun k hk=>h.own k (by obtain⟨id,b,l,h1,h2⟩:=hk;exact⟨id,b,l,by rw[← hg id];exact h1,h2⟩) }
structure St where
 t:Tm
 h:Hp
 n:Nat
def Rel (P:Program) (N:Nat) (B:Base) (s:St) (a:Act) (w:World):Prop :=
 B.n ≤ s.n ∧ ∃ ρ,Core P N B ρ s.t (hget s.h) a w ∧ ∀ id,s.n ≤ id → ρ id=B.ρ id
def Comps (P:Program) (N:Nat) (ops:Array Oper) (l:List XOper):Prop :=
 l.length=ops.size ∧ ∀ (k:Nat) xo,l[k]?=some xo → ∃ o,ops[k]?=some o ∧ compOper P N ops o=some xo
theorem mapM_get {α β:Type}{f:α → Option β}:∀ {l:List α}{m:List β},l.mapM f=some m → m.length=l.length ∧ ∀ (k:Nat) y,m[k]?=some y → ∃ x,l[k]?=some x ∧ f x=some y
 |[],m,h=>by simp at h;subst h;exact⟨rfl,fun k y hy=>by simp at hy⟩
 |x :: l,m,h=>by
  rw[List.mapM_cons]at h
  cases hx:f x with
  |none=>simp[hx]at h
  |some y =>
   cases hl:l.mapM f with
   |none=>simp[hx,hl]at h
   |some m' =>
    simp[hx,hl]at h;subst h
    obtain⟨h1,h2⟩:=mapM_get hl
    refine⟨by simp[h1],fun k z hz=>?_⟩
    cases k with
    |zero=>simp at hz;subst hz;exact⟨x,rfl,hx⟩
    |succ k=>simp at hz ⊢;exact h2 k z hz
theorem comps_of_mapM {P:Program}{N:Nat}{ops:Array Oper}{l:List XOper} (h:ops.toList.mapM (compOper P N ops)=some l):Comps P N ops l:=by
 obtain⟨h1,h2⟩:=mapM_get h
 exact⟨by simpa using h1,fun k xo hk=>by obtain⟨o,ho,hc⟩:=h2 k xo hk;exact⟨o,by simpa using ho,hc⟩⟩
theorem comp_dst {P:Program}{N:Nat}{ops:Array Oper}{o:Oper}{xo:XOper} (h:compOper P N ops o=some xo):∀ d,xo.dst=some d → d<N:=by
 unfold compOper at h
 cases hk:compK P o.op with
 |none=>simp[hk]at h
 |some k =>
  simp only[hk]at h
  cases hd:o.dst.all fun d=>Nat.blt d N with
  |false=>simp[hd]at h
  |true =>
   simp only[hd]at h
   have:xo.dst=o.dst:=by
    split at h
    ·simp at h;subst h;rfl
    ·split at h
     ·simp at h;subst h;rfl
     ·cases h
   intro d hd'
   rw[this]at hd'
   rw[hd']at hd
   simpa using blt_lt hd
theorem look_append (p t:Tm) (k:Nat):look (p++t) k=(match look p k with|some x=>some x|none=>look t k):=by
 induction p with
 |nil=>rfl
 |cons x p ih =>
  obtain⟨j,c,v⟩:=x
  simp only[List.cons_append,look]
  cases Nat.beq j k<;>simp[ih]
theorem stepR_put {ce:CE}{hints:List (Nat × Nat)}{xo:XOper}{i:Nat}{t:Tm}{h:Hp}{n:Nat}{r:Rec} (hs:StepR ce hints xo i t h n r):∃ c v,r.put=putT [] xo.dst c v:=by
 obtain⟨_,g,_,hs⟩:=hs
 rcases hs with⟨_,⟨c,v,h,_⟩,_⟩|⟨v,_,_,_,_,h,_⟩
 ·exact⟨c,v,h⟩
 ·exact⟨_,v,h⟩
theorem look_putT_ne {d:Option Nat}{c:Bool}{v:Value}{k:Nat} (h:d≠some k):look (putT [] d c v) k=none:=by
 cases d with
 |none=>rfl
 |some d =>
  simp only[putT,look]
  cases hb:Nat.beq d k with
  |false=>rfl
  |true=>exact absurd (by rw[Nat.eq_of_beq_eq_true hb]) h
theorem look_putT_eq {c:Bool}{v:Value}{k:Nat}:look (putT [] (some k) c v) k=some (c,v):=by simp[putT,look]
theorem tm_put {ρ':Rn} {t t':Tm}{a:Act}{d:Option Nat}{u:Value}{p:Tm}{N:Nat} (ht:TmR ρ' t a.tmps) (hp:∃ c v,p=putT [] d c v) (hd:∀ k,d=some k → k<N) (hsz:a.tmps.size=N)
  (hu:∀ k b v,d=some k → look p k=some (b,v) → TV ρ' b v u) (h1:∀ k,d=some k → look t' k=look p k) (h2:∀ k,d≠some k → look t' k=look t k):TmR ρ' t' (a.put d u).tmps:=by
 intro k b v hl
 by_cases e:d=some k
 ·subst e
  rw[h1 k rfl]at hl
  refine⟨u,?_,hu k b v rfl hl⟩
  have:k<a.tmps.size:=by rw[hsz];exact hd k rfl
  simp[Act.put,this]
 ·rw[h2 k e]at hl
  obtain⟨c,hc,hv⟩:=ht k b v hl
  refine⟨c,?_,hv⟩
  cases d with
  |none=>exact hc
  |some d =>
   have hne:d≠k:=fun h=>e (by rw[h])
   simp[Act.put,Array.getElem?_setIfInBounds_ne hne,hc]
theorem newsOf_le:∀ (rs:List Rec) (n:Nat),n ≤ newsOf rs n
 |[],n=>Nat.le_refl n
 |r :: rs,n=>Nat.le_trans (Nat.le_add_right n r.news) (newsOf_le rs _)
theorem region_plain {P:Program}{N:Nat}{B:Base}{ce:CE} (hce:CEok P ce){hints:List (Nat × Nat)}{ops:Array Oper}{Q:Exit → Act → World → Prop} :
  ∀ (l:List XOper) (i:Nat) (rs:List Rec) (s:St) (a:Act) (w:World),
  (∀ (k:Nat) xo,l[k]?=some xo → ∃ o,ops[i+k]?=some o ∧ compOper P N ops o=some xo) →
  XR ce hints l i s.t s.h s.n rs → (∀ id,s.n ≤ id → id<newsOf rs s.n → B.ρ id=none) → (∃ k,newsOf rs s.n ≤ k ∧ B.ρ k=none) → Rel P N B s a w → (∀ a' w',Rel P N B ⟨putsOf rs s.t,updsOf rs s.h,newsOf rs s.n⟩ a' w' → Q .normal a' w') →
  wpOps P ops Q (List.range' i l.length) a w:=by
 intro l
 induction l with
 |nil =>
  intro i rs s a w _ hx _ _ hr hQ
  cases rs with
  |nil=>exact hQ a w hr
  |cons=>exact hx.elim
 |cons xo l ih =>
  intro i rs s a w hc hx hfr hsp hr hQ
  cases rs with
  |nil=>exact hx.elim
  |cons r rs =>
   obtain⟨hs,hx⟩:=hx
   obtain⟨hBn,ρ,hcore,hfree⟩:=hr
   obtain⟨o,ho,hco⟩:=hc 0 xo rfl
   rw[List.length_cons,List.range'_succ,wpOps_cons]
   refine step_sound hce (by simpa using ho) hco hs (ρ:=ρ) (g:=hget s.h) (fun k _ b v hl=>hcore.tm k b v hl) hcore.rel (fun _ _=>rfl) (fun id h1 h2=>?_) ?_ ?_
   ·have hlt:id<newsOf (r :: rs) s.n:=Nat.lt_of_lt_of_le h2 (newsOf_le rs _)
    rw[hfree id h1];exact hfr id h1 hlt
   ·obtain⟨k,hk,hk'⟩:=hsp
    have h0:s.n+r.news ≤ newsOf (r :: rs) s.n:=newsOf_le rs _
    exact⟨k,by omega,by rw[hfree k (by omega)];exact hk'⟩
   intro ρ' w' u hgood hu
   refine ih (i+1) rs ⟨r.put++s.t,r.upd++s.h,s.n+r.news⟩ (a.put xo.dst u) w' (fun k xo' hk=>?_) hx (fun id h1 h2=>hfr id (by simp only at h1;omega) h2) hsp ?_ hQ
   ·have:=hc (k+1) xo' (by simpa using hk)
    rwa [Nat.add_assoc,Nat.add_comm 1 k]
   ·refine⟨by simp;omega,ρ',?_,fun id hid=>?_⟩
    ·have hput:=stepR_put hs
     refine Core.congr (hcore.step hgood hBn (tm_put (t:=s.t) (p:=r.put) (hcore.tm.mono hgood.le) hput (comp_dst hco) hcore.sz hu ?_ ?_)) (fun id=>hget_append _ _ _)
     ·intro k hk
      obtain⟨c,v,hp⟩:=hput
      rw[look_append,hp,hk,look_putT_eq]
     ·intro k hk
      obtain⟨c,v,hp⟩:=hput
      rw[look_append,hp,look_putT_ne hk]
    ·simp only at hid
     rw[← hfree id (by omega)]
     cases hx:ρ id with
     |some l=>exact hgood.le id l hx
     |none =>
      cases hx':ρ' id with
      |none=>rfl
      |some l =>
       have:=hgood.new id hx (by rw[hx'];simp)
       omega
end Go.X
