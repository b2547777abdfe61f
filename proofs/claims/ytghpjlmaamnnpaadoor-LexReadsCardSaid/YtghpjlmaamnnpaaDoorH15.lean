import Derived.Test.YtghpjlmaamnnpaaDoorH14
set_option linter.all false
namespace Go.X
open Go
def SubH (h:Hp):Hp → Prop
 |[]=>True
 |(id,b) :: p=>hget h id=b ∧ SubH h p
theorem subH_get {h:Hp}:∀ {p:Hp},SubH h p → ∀ id∈fstL p,hget h id=hget p id
 |[],_,_,h=>by cases h
 |(k,b) :: p,hs,id,hm=>by
  simp only[hget]
  cases hb:Nat.beq k id with
  |true=>rw[← Nat.eq_of_beq_eq_true hb];exact hs.1
  |false =>
   simp only[fstL,List.mem_cons]at hm
   refine subH_get hs.2 id (hm.resolve_left fun e=>?_)
   subst e;simp at hb
structure CallT where
 i:Nat
 pre:Hp
 v:Value
 upd:Hp
 news:Nat
def callAt:List CallT → Nat → Option CallT
 |[],_=>none
 |c :: l,i=>cond (Nat.beq c.i i) (some c) (callAt l i)
def ceOf (P:Program) (tbl:List CallT):CE:=fun i f vs h n=>match callAt tbl i with
 |some ⟨_,pre,v,upd,news⟩=>some ⟨pre,v,upd,news,true,SubH h pre ∧ ADet P f vs pre v upd n news⟩
 |none=>none
theorem ceOf_ok (P:Program) (tbl:List CallT):CEok P (ceOf P tbl):=by
 intro i f vs h n pre v upd news ok pr hc hok hpr
 unfold ceOf at hc
 split at hc
 ·simp only[Option.some.injEq,CR.mk.injEq]at hc
  obtain⟨rfl,rfl,rfl,rfl,rfl,rfl⟩:=hc
  exact⟨subH_get hpr.1,hpr.2⟩
 ·cases hc
structure Env where
 P:Program
 N:Nat
 B:Base
 mix:P.follows .mixedOrders=true
structure FEnv extends Env where
 dom:∀ id,B.n ≤ id → B.ρ id=none
abbrev Post:=Exit → St → Prop
def Env.rel (E:Env) (s:St) (a:Act) (w:World):Prop:=Rel E.P E.N E.B s a w
def Env.post (E:Env) (Q:Post):Exit → Act → World → Prop:=fun e a w=>∃ s,Q e s ∧ E.rel s a w
def XWP (E:Env) (x:XCode) (Q:Post) (s:St):Prop:=∀ c,comp E.P E.N c=some x → ∀ a w,E.rel s a w → c.wp E.P (E.post Q) a w
def Wk (E:Env) (s s':St):Prop:=∀ a w,E.rel s a w → E.rel s' a w
theorem Wk.refl (E:Env) (s:St):Wk E s s:=fun _ _ h=>h
theorem Wk.trans {E:Env} {s s' s'':St} (h:Wk E s s') (h':Wk E s' s''):Wk E s s'':=fun a w r=>h' a w (h a w r)
def TmsOK (σ:Nm) (t:Tm):Tm → Prop
 |[]=>True
 |(k,c,v) :: t'=>(c=true ∧ look t k=some (true,rn σ v)) ∧ TmsOK σ t t'
theorem tmsOK_get {σ:Nm}{t:Tm}:∀ {t':Tm},TmsOK σ t t' → ∀ k b v,look t' k=some (b,v) → b=true ∧ look t k=some (true,rn σ v)
 |[],_,k,b,v,h=>by cases h
 |(j,c,u) :: t',ht,k,b,v,h=>by
  simp only[look]at h
  cases hb:Nat.beq j k with
  |false=>rw[hb]at h;exact tmsOK_get ht.2 k b v h
  |true =>
   rw[hb]at h
   simp only[cond_true,Option.some.injEq,Prod.mk.injEq]at h
   obtain⟨rfl,rfl⟩:=h
   rw[← Nat.eq_of_beq_eq_true hb]
   exact ht.1
theorem asc_lt {π:List (Nat × Nat)}{k:Nat} (h:(π.all fun p=>Nat.blt p.1 k)=true){id x:Nat} (hx:asc π id=some x):id<k:=by
 induction π with
 |nil=>cases hx
 |cons p π ih =>
  obtain⟨a,b⟩:=p
  simp only[List.all_cons,Bool.and_eq_true]at h
  simp only[asc]at hx
  cases hb:Nat.beq a id with
  |true=>rw[← Nat.eq_of_beq_eq_true hb];exact blt_lt h.1
  |false=>rw[hb]at hx;exact ih h.2 hx
theorem lt_blt {a b:Nat} (h:a<b):Nat.blt a b=true:=by simp[Nat.blt];omega
theorem weak {E:FEnv} {s s':St} (π:List (Nat × Nat)) (hn:(Nat.ble E.B.n s'.n&&π.all fun p=>Nat.blt p.1 s'.n)=true) (hd:nodupB (namesOf (stayOr E.B.n π) [] s'.h)=true)
  (ht:TmsOK (stayOr E.B.n π) s.t s'.t) (hh:HsOK E.P (stayOr E.B.n π) (hget s.h) [] s'.h):Wk E.toEnv s s':=by
 intro a w hr
 simp only[Bool.and_eq_true]at hn
 obtain⟨hBn,ρ,hc,hfree⟩:=hr
 have hg:=gis_of hh hd
 refine⟨ble_le hn.1,bindR ρ (stayOr E.B.n π),?_,fun id hid=>?_⟩
 ·refine⟨fun k b v hl=>?_,hc.sz,hc.df,hc.rel.rename hg,hc.fr,fun k hk=>hc.own k (Own.rename hg hk),fun id l hl=>?_,fun id h0 h1=>?_⟩
  ·obtain⟨rfl,hl'⟩:=tmsOK_get ht k b v hl
   obtain⟨c,hcc,hv⟩:=hc.tm.at hl'
   exact⟨c,hcc,fun _=>ren_v _ _ _ hv,fun e=>by cases e⟩
  ·have hlt:id<E.B.n:=by
    rcases Nat.lt_or_ge id E.B.n with h|h
    ·exact h
    ·rw[E.dom id h]at hl;cases hl
   have:stayOr E.B.n π id=some id:=by simp[stayOr,lt_blt hlt]
   simp[bindR,this,hc.le id l hl]
  ·rcases Nat.lt_or_ge id E.B.n with h|h
   ·have:stayOr E.B.n π id=some id:=by simp[stayOr,lt_blt h]
    simp only[bindR,this,Option.bind_some]at h1
    exact hc.new id h0 h1
   ·exact h
 ·have h1:stayOr E.B.n π id=none:=by
   have hb:Nat.blt id E.B.n=false:=by
    cases hx:Nat.blt id E.B.n with
    |false=>rfl
    |true=>have:=blt_lt hx;have:=ble_le hn.1;omega
   simp only[stayOr,hb,cond_false]
   cases hx:asc π id with
   |none=>rfl
   |some x=>have:=asc_lt hn.2 hx;omega
  rw[E.dom id (Nat.le_trans (ble_le hn.1) hid)]
  simp[bindR,h1]
theorem comp_region {P:Program}{N:Nat}{c:Code}{l:List XOper} (h:comp P N c=some (.region l)):∃ id ops,c=.region id ops false ∧ Comps P N ops l:=by
 cases c<;>try simp only[comp]at h
 all_goals try (cases h;done)
 case region id ops d =>
  cases d with
  |true =>
   simp only[comp]at h
   split at h
   ·revert h;cases (ordOK _ _&&_)<;>simp
   ·cases h
  |false =>
   simp only[comp]at h
   cases hm:ops.toList.mapM (compOper P N ops)with
   |none=>simp[hm]at h
   |some l'=>simp[hm]at h;subst h;exact⟨id,ops,rfl,comps_of_mapM hm⟩
 case seq a b=>split at h<;>cases h
 case cond a b=>split at h<;>cases h
 case block a=>cases hx:comp P N a<;>simp[hx]at h
 case loop a=>cases hx:comp P N a<;>simp[hx]at h
theorem comp_draw {P:Program}{N:Nat}{c:Code}{l:List XOper}{ord:List (List Nat)} (h:comp P N c=some (.draw l ord)) :
  ∃ id ops,c=.region id ops true ∧ Comps P N ops l ∧ ordOK ops.toList ord=true ∧ topoOK ops.toList=true ∧ slotOK l 0 ord=true:=by
 cases c<;>try simp only[comp]at h
 all_goals try (cases h;done)
 case region id ops d =>
  cases d with
  |true =>
   simp only[comp]at h
   split at h
   ·rename_i _ l' hm
    revert h
    generalize ordOf ops.toList=ord'
    cases hk:(ordOK ops.toList ord'&&(topoOK ops.toList&&slotOK l' 0 ord'))with
    |false=>simp
    |true =>
     simp only[cond_true,Option.some.injEq,XCode.draw.injEq]
     rintro⟨rfl,rfl⟩
     simp only[Bool.and_eq_true]at hk
     exact⟨id,ops,rfl,comps_of_mapM hm,hk.1,hk.2.1,hk.2.2⟩
   ·cases h
  |false =>
   simp only[comp]at h
   cases hm:ops.toList.mapM (compOper P N ops)<;>simp[hm]at h
 case seq a b=>split at h<;>cases h
 case cond a b=>split at h<;>cases h
 case block a=>cases hx:comp P N a<;>simp[hx]at h
 case loop a=>cases hx:comp P N a<;>simp[hx]at h
theorem comp_seq {P:Program}{N:Nat}{c:Code}{x y:XCode} (h:comp P N c=some (.seq x y)):∃ a b,c=.seq a b ∧ comp P N a=some x ∧ comp P N b=some y:=by
 cases c<;>try simp only[comp]at h
 all_goals try (cases h;done)
 case region id ops d =>
  cases d<;>simp only[comp]at h
  ·cases hm:ops.toList.mapM (compOper P N ops)<;>simp[hm]at h
  ·split at h
   ·revert h;cases (ordOK _ _&&_)<;>simp
   ·cases h
 case seq a b =>
  split at h
  ·rename_i ha hb;simp at h;obtain⟨rfl,rfl⟩:=h;exact⟨a,b,rfl,ha,hb⟩
  ·cases h
 case cond a b=>split at h<;>cases h
 case block a=>cases hx:comp P N a<;>simp[hx]at h
 case loop a=>cases hx:comp P N a<;>simp[hx]at h
theorem comp_cnd {P:Program}{N:Nat}{c:Code}{o:Operand}{x y:XCode} (h:comp P N c=some (.cnd o x y)):∃ a b,c=.cond o a b ∧ comp P N a=some x ∧ comp P N b=some y:=by
 cases c<;>try simp only[comp]at h
 all_goals try (cases h;done)
 case region id ops d =>
  cases d<;>simp only[comp]at h
  ·cases hm:ops.toList.mapM (compOper P N ops)<;>simp[hm]at h
  ·split at h
   ·revert h;cases (ordOK _ _&&_)<;>simp
   ·cases h
 case seq a b=>split at h<;>cases h
 case cond o' a b =>
  split at h
  ·rename_i ha hb;simp at h;obtain⟨rfl,rfl,rfl⟩:=h;exact⟨a,b,rfl,ha,hb⟩
  ·cases h
 case block a=>cases hx:comp P N a<;>simp[hx]at h
 case loop a=>cases hx:comp P N a<;>simp[hx]at h
theorem comp_block {P:Program}{N:Nat}{c:Code}{id:Nat}{x:XCode} (h:comp P N c=some (.block id x)):∃ a,c=.block id a ∧ comp P N a=some x:=by
 cases c<;>try simp only[comp]at h
 all_goals try (cases h;done)
 case region id ops d =>
  cases d<;>simp only[comp]at h
  ·cases hm:ops.toList.mapM (compOper P N ops)<;>simp[hm]at h
  ·split at h
   ·revert h;cases (ordOK _ _&&_)<;>simp
   ·cases h
 case seq a b=>split at h<;>cases h
 case cond a b=>split at h<;>cases h
 case block a=>cases hx:comp P N a<;>simp[hx]at h;obtain⟨rfl,rfl⟩:=h;exact⟨a,rfl,hx⟩
 case loop a=>cases hx:comp P N a<;>simp[hx]at h
theorem comp_loop {P:Program}{N:Nat}{c:Code}{x:XCode} (h:comp P N c=some (.loop x)):∃ a,c=.loop a ∧ comp P N a=some x:=by
 cases c<;>try simp only[comp]at h
 all_goals try (cases h;done)
 case region id ops d =>
  cases d<;>simp only[comp]at h
  ·cases hm:ops.toList.mapM (compOper P N ops)<;>simp[hm]at h
  ·split at h
   ·revert h;cases (ordOK _ _&&_)<;>simp
   ·cases h
 case seq a b=>split at h<;>cases h
 case cond a b=>split at h<;>cases h
 case block a=>cases hx:comp P N a<;>simp[hx]at h
 case loop a=>cases hx:comp P N a<;>simp[hx]at h;subst h;exact⟨a,rfl,hx⟩
theorem comp_skip {P:Program}{N:Nat}{c:Code} (h:comp P N c=some .skip):c=.skip ∨ ∃ l,c=.label l:=by
 cases c<;>try simp only[comp]at h
 all_goals try (cases h;done)
 case skip=>exact .inl rfl
 case label l=>exact .inr ⟨l,rfl⟩
 case region id ops d =>
  cases d<;>simp only[comp]at h
  ·cases hm:ops.toList.mapM (compOper P N ops)<;>simp[hm]at h
  ·split at h
   ·revert h;cases (ordOK _ _&&_)<;>simp
   ·cases h
 case seq a b=>split at h<;>cases h
 case cond a b=>split at h<;>cases h
 case block a=>cases hx:comp P N a<;>simp[hx]at h
 case loop a=>cases hx:comp P N a<;>simp[hx]at h
theorem comp_exit {P:Program}{N:Nat}{c:Code}{id:Nat} (h:comp P N c=some (.exit id)):c=.exit id:=by
 cases c<;>try simp only[comp]at h
 all_goals try (cases h;done)
 case exit=>simp at h;subst h;rfl
 case region id ops d =>
  cases d<;>simp only[comp]at h
  ·cases hm:ops.toList.mapM (compOper P N ops)<;>simp[hm]at h
  ·split at h
   ·revert h;cases (ordOK _ _&&_)<;>simp
   ·cases h
 case seq a b=>split at h<;>cases h
 case cond a b=>split at h<;>cases h
 case block a=>cases hx:comp P N a<;>simp[hx]at h
 case loop a=>cases hx:comp P N a<;>simp[hx]at h
theorem comp_ret {P:Program}{N:Nat}{c:Code} (h:comp P N c=some .ret):c=.ret:=by
 cases c<;>try simp only[comp]at h
 all_goals try (cases h;done)
 case ret=>rfl
 case region id ops d =>
  cases d<;>simp only[comp]at h
  ·cases hm:ops.toList.mapM (compOper P N ops)<;>simp[hm]at h
  ·split at h
   ·revert h;cases (ordOK _ _&&_)<;>simp
   ·cases h
 case seq a b=>split at h<;>cases h
 case cond a b=>split at h<;>cases h
 case block a=>cases hx:comp P N a<;>simp[hx]at h
 case loop a=>cases hx:comp P N a<;>simp[hx]at h
section
variable {E:Env}{Q:Post}{s:St}
theorem XWP.mono {x:XCode} {Q':Post} (h:XWP E x Q s) (hq:∀ e s,Q e s → Q' e s):XWP E x Q' s :=
 fun c hc a w hr=>wp_mono (h c hc a w hr) fun _ _ _ ⟨s,hs,hr⟩=>⟨s,hq _ s hs,hr⟩
theorem XWP.wk {x:XCode} {s':St} (hw:Wk E s s') (h:XWP E x Q s'):XWP E x Q s:=fun c hc a w hr=>h c hc a w (hw a w hr)
theorem xwp_skip (h:Q .normal s):XWP E .skip Q s:=fun c hc a w hr=>by
 rcases comp_skip hc with rfl|⟨l,rfl⟩
 ·exact wp_skip ⟨s,h,hr⟩
 ·exact wp_label ⟨s,h,hr⟩
theorem xwp_exit {id:Nat} (h:Q (.exit id) s):XWP E (.exit id) Q s:=fun c hc a w hr=>by
 rw[comp_exit hc];exact wp_exit ⟨s,h,hr⟩
theorem xwp_ret (h:Q .ret s):XWP E .ret Q s:=fun c hc a w hr=>by
 rw[comp_ret hc];exact wp_ret ⟨s,h,hr⟩
def seqP (K:St → Prop) (Q:Post):Post:=fun e s=>match e with
 | .normal=>K s
 |e=>Q e s
theorem xwp_seq {x y:XCode} (h:XWP E x (seqP (XWP E y Q) Q) s):XWP E (.seq x y) Q s:=fun c hc a w hr=>by
 obtain⟨ca,cb,rfl,ha,hb⟩:=comp_seq hc
 refine wp_seq (wp_mono (h ca ha a w hr) ?_)
 rintro e a' w' ⟨s',hs,hr'⟩
 cases e with
 |normal=>exact hs cb hb a' w' hr'
 |_=>exact⟨s',hs,hr'⟩
theorem xwp_cnd {o:Operand}{x y:XCode}{t:Bool} (hev:ev s.t o=some (true,.bool t)) (h:XWP E (cond t x y) Q s):XWP E (.cnd o x y) Q s:=fun c hc a w hr=>by
 obtain⟨ca,cb,rfl,ha,hb⟩:=comp_cnd hc
 have hv:a.eval o=.bool t:=by
  obtain⟨_,ρ,hcore,_⟩:=hr
  exact v_bool (ev_sound hev fun k _ v hl=>hcore.tm.at hl)
 refine wp_cond hv ?_
 cases t with
 |true=>exact h ca ha a w hr
 |false=>exact h cb hb a w hr
theorem xwp_if {o:Operand}{x y:XCode}{t:Bool} (hev:ev s.t o=some (true,.bool t)) (h1:t=true → XWP E x Q s) (h2:t=false → XWP E y Q s):XWP E (.cnd o x y) Q s:=by
 refine xwp_cnd hev ?_
 cases t with
 |true=>exact h1 rfl
 |false=>exact h2 rfl
def blockP (id:Nat) (Q:Post):Post:=fun e s=>match e with
 | .exit id'=>cond (Nat.beq id' id) (Q .normal s) (Q (.exit id') s)
 |e=>Q e s
theorem xwp_block {id:Nat}{x:XCode} (h:XWP E x (blockP id Q) s):XWP E (.block id x) Q s:=fun c hc a w hr=>by
 obtain⟨ca,rfl,ha⟩:=comp_block hc
 refine wp_block (wp_mono (h ca ha a w hr) ?_)
 rintro e a' w' ⟨s',hs,hr'⟩
 cases e with
 |exit id' =>
  simp only[Exit.inBlock,blockP]at hs ⊢
  by_cases e:id'=id
  ·subst e
   simp at hs ⊢
   exact⟨s',hs,hr'⟩
  ·have hb:Nat.beq id' id=false:=by
    cases hb:Nat.beq id' id with
    |false=>rfl
    |true=>exact absurd (Nat.eq_of_beq_eq_true hb) e
   simp[hb]at hs
   simp[e]
   exact⟨s',hs,hr'⟩
 |_=>exact⟨s',hs,hr'⟩
theorem xwp_loop {x:XCode}{ι:Type} (S:ι → St) (I:ι → Prop) (μ:ι → Nat) (k0:ι) (h0:Wk E s (S k0)) (hI:I k0)
  (round:∀ k,I k → XWP E x (seqP (fun s'=>∃ k',I k' ∧ μ k'<μ k ∧ Wk E s' (S k')) Q) (S k)):XWP E (.loop x) Q s:=fun c hc a w hr=>by
 obtain⟨ca,rfl,ha⟩:=comp_loop hc
 suffices h:∀ n k a w,μ k=n → I k → E.rel (S k) a w → (Code.loop ca).wp E.P (E.post Q) a w from h _ k0 a w rfl hI (h0 a w hr)
 clear hr a w
 intro n
 have hm:∀ m,∀ k a w,μ k=m → I k → E.rel (S k) a w → ∀ (b:Frame) (kk:List Item) (cs:List Frame),∃ e a' w',E.post Q e a' w' ∧ Arrives E.P (lone (b.at a (.code ca :: .inLoop ca :: kk)) cs w) b kk cs e a' w':=by
  intro m
  induction m using Nat.strongRecOn with
  |_ m ih =>
   intro k a w hk hIk hr b kk cs
   obtain⟨e,a₁,w₁,⟨s1,hq,hr1⟩,harr⟩:=round k hIk ca ha a w hr b (.inLoop ca :: kk) cs
   cases e with
   |normal =>
    obtain⟨k',hI',hlt,hwk⟩:=hq
    obtain⟨e₂,a₂,w₂,hq₂,harr₂⟩:=ih (μ k') (hk▸hlt) k' a₁ w₁ rfl hI' (hwk _ _ hr1) b kk cs
    exact⟨e₂,a₂,w₂,hq₂,.of_steps (Steps.trans harr (.one step_inLoop)) harr₂⟩
   |exit id=>exact⟨_,a₁,w₁,⟨s1,hq,hr1⟩,.pass (x:=.inLoop ca) rfl (fun _ _=>.inl (by simp)) harr⟩
   |goto l=>exact⟨_,a₁,w₁,⟨s1,hq,hr1⟩,.pass (x:=.inLoop ca) rfl (fun _ _=>.inl (by simp)) harr⟩
   |ret=>exact⟨_,a₁,w₁,⟨s1,hq,hr1⟩,.pass (x:=.inLoop ca) rfl (fun _ _=>.inl (by simp)) harr⟩
   |panic ch=>exact⟨_,a₁,w₁,⟨s1,hq,hr1⟩,.pass (x:=.inLoop ca) rfl (fun _ _=>.inl (by simp)) harr⟩
   |outgrown=>exact⟨_,a₁,w₁,⟨s1,hq,hr1⟩,.pass (x:=.inLoop ca) rfl (fun _ _=>.inl (by simp)) harr⟩
 intro k a w hk hIk hr b kk cs
 obtain⟨e,a',w',hq,harr⟩:=hm n k a w hk hIk hr b kk cs
 exact⟨e,a',w',hq,.of_steps (.one step_loop) harr⟩
def LWP (E:Env) (x:XCode) (Q:Post) (s:St):Prop:=∀ c,comp E.P E.N c=some x → ∀ a w,E.rel s a w → ∀ (b:Frame) (kk:List Item) (cs:List Frame),
 ∃ e a' w',E.post Q e a' w' ∧ Arrives E.P (lone (b.at a (.code c :: .inLoop c :: kk)) cs w) b kk cs e a' w'
theorem xwp_of_lwp {x:XCode} (h:LWP E x Q s):XWP E (.loop x) Q s:=fun c hc a w hr=>by
 obtain⟨ca,rfl,ha⟩:=comp_loop hc
 intro b kk cs
 obtain⟨e,a',w',hq,harr⟩:=h ca ha a w hr b kk cs
 exact⟨e,a',w',hq,.of_steps (.one step_loop) harr⟩
theorem lwp_step {x:XCode} (h:XWP E x (seqP (LWP E x Q) Q) s):LWP E x Q s:=fun ca ha a w hr b kk cs=>by
 obtain⟨e,a₁,w₁,⟨s1,hq,hr1⟩,harr⟩:=h ca ha a w hr b (.inLoop ca :: kk) cs
 cases e with
 |normal =>
  obtain⟨e,a',w',hq',harr'⟩:=hq ca ha a₁ w₁ hr1 b kk cs
  exact⟨e,a',w',hq',.of_steps (Steps.trans harr (.one step_inLoop)) harr'⟩
 |exit id=>exact⟨_,a₁,w₁,⟨s1,hq,hr1⟩,.pass (x:=.inLoop ca) rfl (fun _ _=>.inl (by simp)) harr⟩
 |goto l=>exact⟨_,a₁,w₁,⟨s1,hq,hr1⟩,.pass (x:=.inLoop ca) rfl (fun _ _=>.inl (by simp)) harr⟩
 |ret=>exact⟨_,a₁,w₁,⟨s1,hq,hr1⟩,.pass (x:=.inLoop ca) rfl (fun _ _=>.inl (by simp)) harr⟩
 |panic ch=>exact⟨_,a₁,w₁,⟨s1,hq,hr1⟩,.pass (x:=.inLoop ca) rfl (fun _ _=>.inl (by simp)) harr⟩
 |outgrown=>exact⟨_,a₁,w₁,⟨s1,hq,hr1⟩,.pass (x:=.inLoop ca) rfl (fun _ _=>.inl (by simp)) harr⟩
theorem xwp_regionG {l:List XOper} (ce:CE) (hce:CEok E.P ce) (hints:List (Nat × Nat)){t:Tm}{h:Hp}{n:Nat}{ok:Bool}{pr:Prop}{tr:List Foot}
  (hx:xrun ce hints l 0 s.t s.h s.n true True []=some ⟨t,h,n,ok,pr,tr⟩) (hok:ok=true) (hpr:pr) (hfr:∀ id,s.n ≤ id → id<n → E.B.ρ id=none) (hsp:∃ k,n ≤ k ∧ E.B.ρ k=none) (hQ:Q .normal ⟨t,h,n⟩):XWP E (.region l) Q s:=fun c hc a w hr=>by
 obtain⟨id,ops,rfl,hcs⟩:=comp_region hc
 obtain⟨rs,h1,h2,h3,h4,h5⟩:=xrun_recs hce hx hok hpr
 simp only at h2 h3 h4
 subst h2;subst h3;subst h4
 refine wp_region ?_
 have:=region_plain (Q:=E.post Q) hce (ops:=ops) l 0 rs s a w (fun k xo hk=>by simpa using hcs.2 k xo hk) h1 hfr hsp hr (fun a' w' hr'=>⟨_,hQ,hr'⟩)
 rw[hcs.1]at this
 rwa [List.range_eq_range']
theorem xwp_drawG {l:List XOper}{ord:List (List Nat)} (ce:CE) (hce:CEok E.P ce) (hints:List (Nat × Nat)){t:Tm}{h:Hp}{n:Nat}{ok:Bool}{pr:Prop}{tr:List Foot}
  (hx:xrun ce hints l 0 s.t s.h s.n true True []=some ⟨t,h,n,ok,pr,tr⟩) (htr:heapOK ord tr=true) (hok:ok=true) (hpr:pr) (hfr:∀ id,s.n ≤ id → id<n → E.B.ρ id=none) (hsp:∃ k,n ≤ k ∧ E.B.ρ k=none) (hQ:Q .normal ⟨t,h,n⟩):XWP E (.draw l ord) Q s:=fun c hc a w hr=>by
 obtain⟨id,ops,rfl,hcs,ho,htp,hso⟩:=comp_draw hc
 obtain⟨rs,h1,h2,h3,h4,h5⟩:=xrun_recs hce hx hok hpr
 simp only at h2 h3 h4
 subst h2;subst h3;subst h4
 refine region_draw E.mix hce hcs ho htp (sOrd_of hso) (hOrd_of h5 htr) h1 hfr hsp hr (fun a' w' hr'=>⟨_,hQ,hr'⟩)
end
section
variable {E:FEnv}{Q:Post}{s:St}
end
end Go.X
