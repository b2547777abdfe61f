import Derived.Test.YtkghggngmpmigaaD17
set_option linter.all false
namespace Go.X
open Go
inductive Cx where
 |sq (y:XCode)
 |bl (id:Nat)
def execS {α:Type} (F:Fns) (sc:Short):Nat->XCode->List Cx->Tm->Hp->Nat->(Exit->Tm->Hp->Nat->Option α)->(XCode->List Cx->Tm->Hp->Nat->Option α)->Option α
 |0,_,_,_,_,_,_,_=>none
 |k+1,x,c,t,h,n,K,KL=>match x with
  | .skip=>K .normal t h n
  | .region l=>match xrun (callE F sc (exec F sc k [])) [] l 0 t h n true True []with
   |some ⟨t,h,n,ok,_,_⟩=>match ok with
    |true=>K .normal t h n
    |false=>none
   |none=>none
  | .draw l ord=>match xrun (callE F sc (exec F sc k [])) [] l 0 t h n true True []with
   |some ⟨t,h,n,ok,_,tr⟩=>match ok with
    |true=>match heapOK ord tr with
     |true=>K .normal t h n
     |false=>none
    |false=>none
   |none=>none
  | .seq a b=>execS F sc k a (.sq b :: c) t h n (fun e t h n=>match e with
   | .normal=>execS F sc k b c t h n K KL
   |e=>K e t h n) KL
  | .cnd o a b=>match ev t o with
   |some (true,.bool v)=>match v with
    |true=>execS F sc k a c t h n K KL
    |false=>execS F sc k b c t h n K KL
   |_=>none
  | .block id a=>execS F sc k a (.bl id :: c) t h n (fun e t h n=>match e with
   | .exit id'=>cond (Nat.beq id' id) (K .normal t h n) (K (.exit id') t h n)
   |e=>K e t h n) KL
  | .loop a=>KL a c t h n
  | .exit id=>K (.exit id) t h n
  | .ret=>K .ret t h n
def ctxP (E:Env):List Cx->Post->Post
 |[],Q=>Q
 | .sq y :: c,Q=>seqP (XWP E y (ctxP E c Q)) (ctxP E c Q)
 | .bl id :: c,Q=>blockP id (ctxP E c Q)
theorem cl_seqP {E:Env}{x:XCode}{Q:Post} (h:Cl E Q):Cl E (seqP (XWP E x Q) Q):=fun e a b hw hq=>by
 cases e with
 |normal=>exact XWP.wk hw hq
 |_=>exact h _ _ _ hw hq
theorem cl_blockP {E:Env}{id:Nat}{Q:Post} (h:Cl E Q):Cl E (blockP id Q):=fun e a b hw hq=>by
 cases e with
 |exit id' =>
  simp only[blockP]at hq ⊢
  cases hb:Nat.beq id' id with
  |true=>rw[hb]at hq;exact h _ _ _ hw hq
  |false=>rw[hb]at hq;exact h _ _ _ hw hq
 |_=>exact h _ _ _ hw hq
theorem cl_ctx {E:Env}{Q:Post} (h:Cl E Q):∀ c,Cl E (ctxP E c Q)
 |[]=>h
 | .sq _ :: c=>cl_seqP (cl_ctx h c)
 | .bl _ :: c=>cl_blockP (cl_ctx h c)
structure Pj where
 ks:List Nat
 rs:List Ref
 uk:List Nat
 ui:List Nat
abbrev j0_:Pj:=⟨[],[],[],[]⟩
def keptT (t0 t:Tm) (uk:List Nat):Bool:=uk.all fun k=>!natMem k ((t.take (t.length-t0.length)).map (·.1))
def keptH (h0 h:Hp) (ui:List Nat):Bool:=ui.all fun i=>!natMem i (fstL (h.take (h.length-h0.length)))
def prjF (p:Pj) (t0:Tm) (h0:Hp):Exit->Tm->Hp->Nat->Option Leaf:=fun e t h n =>
 match refBs t h p.rs with
 |some bs=>match keptT t0 t p.uk&&keptH h0 h p.ui with
  |true=>some ⟨p.ks.map (look t),bs,e,n⟩
  |false=>none
 |none=>none
def ext (p:Pj) (t0:Tm) (h0:Hp) (l:Leaf):Leaf:=⟨l.ts++p.uk.map (look t0),l.bs++p.ui.map (fun i=>(i,hget h0 i)),l.e,l.n⟩
theorem look_app {u t:Tm}{k:Nat} (h:natMem k (u.map (·.1))=false):look (u++t) k=look t k:=by
 induction u with
 |nil=>rfl
 |cons x u ih =>
  obtain⟨a,b,v⟩:=x
  simp only[List.map_cons,natMem,Bool.or_eq_false_iff]at h
  simp only[List.cons_append,look,h.1,cond_false]
  exact ih h.2
theorem hget_nin' {u h:Hp}{k:Nat} (hn:natMem k (fstL u)=false):hget (u++h) k=hget h k:=by
 induction u with
 |nil=>rfl
 |cons x u ih =>
  obtain⟨a,b⟩:=x
  simp only[fstL,natMem,Bool.or_eq_false_iff]at hn
  simp only[List.cons_append,hget,hn.1,cond_false]
  exact ih hn.2
theorem refBs_app {t:Tm}{h:Hp}:∀ {rs:List Ref}{bs:List (Nat × Option Blk)} (ui:List Nat),refBs t h rs=some bs->refBs t h (rs++ui.map .id)=some (bs++ui.map fun i=>(i,hget h i))
 |[],bs,ui,hx=>by
  simp only[refBs,Option.some.injEq]at hx;subst hx
  simp only[List.nil_append]
  induction ui with
  |nil=>rfl
  |cons i ui ih=>simp only[List.map_cons,refBs,refId,ih]
 |r :: rs,bs,ui,hx=>by
  simp only[refBs]at hx
  split at hx
  ·rename_i id m h1 h2
   simp only[Option.some.injEq]at hx;subst hx
   simp only[List.cons_append,refBs,h1,refBs_app ui h2]
  ·cases hx
theorem prjF_ext {p:Pj}{t0 t:Tm}{h0 h:Hp}{e:Exit}{n:Nat}{l:Leaf} (hp:prjF p t0 h0 e t h n=some l) (ht:∃ u,t=u++t0) (hh:∃ u,h=u++h0) :
  prjK (p.ks++p.uk) (p.rs++p.ui.map .id) e t h n=some (ext p t0 h0 l)/\l.e=e/\l.n=n:=by
 unfold prjF at hp
 split at hp
 ·rename_i bs hbs
  split at hp
  ·rename_i hk
   simp only[Bool.and_eq_true]at hk
   simp only[Option.some.injEq]at hp;subst hp
   obtain⟨u,rfl⟩:=ht
   obtain⟨v,rfl⟩:=hh
   have h1:p.uk.map (look (u++t0))=p.uk.map (look t0):=List.map_congr_left fun k hkm=>by
    have:=List.all_eq_true.1 hk.1 k hkm
    rw[List.length_append,Nat.add_sub_cancel,List.take_left' rfl]at this
    exact look_app (by simpa using this)
   have h2:(p.ui.map fun i=>(i,hget (v++h0) i))=p.ui.map fun i=>(i,hget h0 i):=List.map_congr_left fun k hkm=>by
    have:=List.all_eq_true.1 hk.2 k hkm
    rw[List.length_append,Nat.add_sub_cancel,List.take_left' rfl]at this
    rw[hget_nin' (by simpa using this)]
   refine⟨?_,rfl,rfl⟩
   unfold prjK
   rw[refBs_app p.ui hbs]
   simp only[ext,List.map_append,h1,h2]
  ·cases hp
 ·cases hp
theorem xrun_logT {ce:CE}{hints:List (Nat × Nat)}:∀ {os:List XOper}{i:Nat}{t:Tm}{h:Hp}{n:Nat}{ok:Bool}{pr:Prop}{tr:List Foot}{s:RS},
  xrun ce hints os i t h n ok pr tr=some s->∃ u,s.t=u++t:=by
 intro os
 induction os with
 |nil =>
  intro i t h n ok pr tr s hx
  simp only[xrun,Option.some.injEq]at hx;subst hx
  exact⟨[],rfl⟩
 |cons o os ih =>
  intro i t h n ok pr tr s hx
  simp only[xrun]at hx
  repeat' split at hx
  all_goals first
   |(cases hx;done)
   |(obtain⟨u,hu⟩:=ih hx
     first
      |exact⟨u,hu⟩
      |exact⟨u++[_],by rw[hu,List.append_assoc];rfl⟩)
theorem execS_sound {α:Type}{E:FEnv}{F:Fns}{sc:Short} (hF:FnsOK E.P F sc){Q:Post}{r:α}:∀ (k:Nat){x:XCode}{c:List Cx}{t:Tm}{h:Hp}{n:Nat}{K:Exit->Tm->Hp->Nat->Option α}{KL:XCode->List Cx->Tm->Hp->Nat->Option α},
  execS F sc k x c t h n K KL=some r->(∀ e t' h' n',(∃ u,t'=u++t)->(∃ u,h'=u++h)->K e t' h' n'=some r->ctxP E.toEnv c Q e ⟨t',h',n'⟩)->(∀ a c t' h' n',(∃ u,t'=u++t)->(∃ u,h'=u++h)->KL a c t' h' n'=some r->XWP E.toEnv (.loop a) (ctxP E.toEnv c Q) ⟨t',h',n'⟩) ->
  XWP E.toEnv x (ctxP E.toEnv c Q) ⟨t,h,n⟩:=by
 have app:∀ {β:Type}{a b c:List β},(∃ u,a=u++b)->(∃ u,b=u++c)->∃ u,a=u++c:=by
  rintro β a b c ⟨u,rfl⟩ ⟨v,rfl⟩
  exact⟨u++v,by rw[List.append_assoc]⟩
 intro k
 induction k with
 |zero=>intro x c t h n K KL he;cases he
 |succ k ih =>
  intro x c t h n K KL he hK hL
  cases x with
  |skip=>exact xwp_skip (hK _ _ _ _ ⟨[],rfl⟩ ⟨[],rfl⟩ he)
  |exit id=>exact xwp_exit (hK _ _ _ _ ⟨[],rfl⟩ ⟨[],rfl⟩ he)
  |ret=>exact xwp_ret (hK _ _ _ _ ⟨[],rfl⟩ ⟨[],rfl⟩ he)
  |region l =>
   simp only[execS]at he
   split at he
   ·rename_i t1 h1 n1 ok pr tr hx
    cases ok with
    |true=>exact xwp_exec hF (k+1) [] (by simp only[exec,hx]:exec F sc (k+1) [] (.region l) t h n=some ⟨[],.normal,t1,h1,n1,true⟩) rfl (hK _ _ _ _ (xrun_logT hx) (xrun_log hx).1 he)
    |false=>cases he
   ·cases he
  |draw l ord =>
   simp only[execS]at he
   split at he
   ·rename_i t1 h1 n1 ok pr tr hx
    cases ok with
    |true =>
     simp only at he
     cases hh:heapOK ord tr with
     |true=>rw[hh]at he;exact xwp_exec hF (k+1) [] (by simp only[exec,hx,hh,Bool.and_self]:exec F sc (k+1) [] (.draw l ord) t h n=some ⟨[],.normal,t1,h1,n1,true⟩) rfl (hK _ _ _ _ (xrun_logT hx) (xrun_log hx).1 he)
     |false=>rw[hh]at he;cases he
    |false=>cases he
   ·cases he
  |seq a b =>
   simp only[execS]at he
   refine xwp_seq (ih (c:=.sq b :: c) he (fun e t1 h1 n1 p1 p2 hk=>?_) hL)
   cases e with
   |normal=>exact ih hk (fun e t' h' n' q1 q2=>hK e t' h' n' (app q1 p1) (app q2 p2)) (fun a c t' h' n' q1 q2=>hL a c t' h' n' (app q1 p1) (app q2 p2))
   |_=>exact hK _ _ _ _ p1 p2 hk
  |block id a =>
   simp only[execS]at he
   refine xwp_block (ih (c:=.bl id :: c) he (fun e t1 h1 n1 p1 p2 hk=>?_) hL)
   cases e with
   |exit id' =>
    simp only[ctxP,blockP]at hk ⊢
    cases hb:Nat.beq id' id with
    |true=>rw[hb]at hk;exact hK _ _ _ _ p1 p2 hk
    |false=>rw[hb]at hk;exact hK _ _ _ _ p1 p2 hk
   |_=>exact hK _ _ _ _ p1 p2 hk
  |loop a=>exact hL _ _ _ _ _ ⟨[],rfl⟩ ⟨[],rfl⟩ he
  |cnd o a b =>
   simp only[execS]at he
   split at he
   ·rename_i v hev
    cases v with
    |true=>exact xwp_cnd hev (ih he hK hL)
    |false=>exact xwp_cnd hev (ih he hK hL)
   ·cases he
structure Stop where
 l:Leaf
 lp:Option (XCode × List Cx)
def pjOf (p r:Pj):Exit->Pj
 | .ret=>r
 |_=>p
def stopN (p r:Pj) (t0:Tm) (h0:Hp):Exit->Tm->Hp->Nat->Option Stop:=fun e t h n =>
 match prjF (pjOf p r e) t0 h0 e t h n with
 |some l=>some ⟨l,none⟩
 |none=>none
def stopL (p:Pj) (t0:Tm) (h0:Hp):XCode->List Cx->Tm->Hp->Nat->Option Stop:=fun a c t h n =>
 match prjF p t0 h0 .normal t h n with
 |some l=>some ⟨l,some (a,c)⟩
 |none=>none
abbrev walk (F:Fns) (sc:Short) (k:Nat) (x:XCode) (t:Tm) (h:Hp) (n:Nat) (p r q:Pj):Option Stop:=execS F sc k x [] t h n (stopN p r t h) (stopL q t h)
section
variable {E:FEnv}{Q:Post}{s:St}{F:Fns}{sc:Short}{x:XCode}{p r q:Pj}{l:Leaf}
theorem xwp_toEnd (hcl:Cl E.toEnv Q) (hF:FnsOK E.P F sc) (k:Nat) (he:walk F sc k x s.t s.h s.n p r q=some ⟨l,none⟩) (s':St) (hl:LeafTo E ((pjOf p r l.e).ks++(pjOf p r l.e).uk) (ext (pjOf p r l.e) s.t s.h l) s') (hQ:Q l.e s'):XWP E.toEnv x Q s:=by
 refine execS_sound hF k (c:=[]) he (fun e t h n hp hq hk=>?_) (fun a c t h n _ _ hk=>?_)
 ·unfold stopN at hk
  split at hk
  ·rename_i l' hpr
   simp only[Option.some.injEq,Stop.mk.injEq,and_true]at hk;subst hk
   obtain⟨h1,h2,h3⟩:=prjF_ext hpr hp hq
   subst h2;subst h3
   exact hcl _ _ _ (hl.wk h1) hQ
  ·cases hk
 ·unfold stopL at hk
  split at hk
  ·simp only[Option.some.injEq,Stop.mk.injEq]at hk;cases hk.2
  ·cases hk
theorem xwp_toLoop {a:XCode}{c:List Cx} (hF:FnsOK E.P F sc) (k:Nat) (he:walk F sc k x s.t s.h s.n p r q=some ⟨l,some (a,c)⟩) (s':St) (hl:LeafTo E (q.ks++q.uk) (ext q s.t s.h l) s') (hQ:XWP E.toEnv (.loop a) (ctxP E.toEnv c Q) s'):XWP E.toEnv x Q s:=by
 refine execS_sound hF k (c:=[]) he (fun e t h n _ _ hk=>?_) (fun a' c' t h n hp hq hk=>?_)
 ·unfold stopN at hk
  split at hk
  ·simp only[Option.some.injEq,Stop.mk.injEq]at hk;cases hk.2
  ·cases hk
 ·unfold stopL at hk
  split at hk
  ·rename_i l' hpr
   simp only[Option.some.injEq,Stop.mk.injEq,Prod.mk.injEq]at hk
   obtain⟨rfl,rfl,rfl⟩:=hk
   exact XWP.wk (hl.wk (prjF_ext hpr hp hq).1) hQ
  ·cases hk
end
def roundP {ι:Type} (E:Env) (S:ι->St) (I:ι->Prop) (μ:ι->Nat) (i:ι) (Q:Post):Post:=fun e s'=>match e with
 | .normal=>∃ i',I i'/\μ i'<μ i/\Wk E s' (S i')
 |e=>Q e s'
theorem cl_round {ι:Type}{E:Env}{S:ι->St}{I:ι->Prop}{μ:ι->Nat}{i:ι}{Q:Post} (h:Cl E Q):Cl E (roundP E S I μ i Q):=fun e a b hw hq=>by
 cases e with
 |normal=>obtain⟨i',h1,h2,h3⟩:=hq;exact⟨i',h1,h2,hw.trans h3⟩
 |_=>exact h _ _ _ hw hq
theorem xwp_loopR {E:Env}{Q:Post}{x:XCode}{ι:Type} (S:ι->St) (I:ι->Prop) (μ:ι->Nat) (i0:ι) (hI:I i0)
  (round:∀ i,I i->XWP E x (roundP E S I μ i Q) (S i)):XWP E (.loop x) Q (S i0) :=
 xwp_loop S I μ i0 (Wk.refl _ _) hI fun i hi=>(round i hi).mono fun e s hs=>by cases e<;>exact hs
theorem body_of' {P:Program}{f N n0 news:Nat}{rts:List Rx}{x:XCode}{vs:List Value}{pre upd:Hp}{vv:Value} (hm:P.follows .mixedOrders=true) (hf:fnx P f=some (N,rts,x)) (hlen:vs.length<=N)
  (hx:∀ (E:FEnv) (Q:Post),E.P=P->E.B.n=n0->Cl E.toEnv Q->(∀ e s,finP E.toEnv rts pre vv upd news e s->Q e s)->XWP E.toEnv x Q ⟨argTm 0 vs,pre,n0⟩):Body P f vs pre vv upd n0 news :=
 body_of hm hf hlen fun ρ w hd=>hx (envOf P N n0 pre hm ρ w hd) _ rfl rfl cl_fin fun _ _ h=>h
theorem bn:(∀ b:Bool,(b||!b)=true)/\(∀ b:Bool,(!b||b)=true)/\(∀ b:Bool,(b&&true)=b)/\(∀ b:Bool,(true&&b)=b)/\(∀ b:Bool,(b||false)=b)/\(∀ b:Bool,(false||b)=b)/\(∀ b:Bool,(b||true)=true) /\
  (∀ b:Bool,(true||b)=true)/\(∀ b:Bool,(b&&false)=false)/\(∀ b:Bool,(false&&b)=false)/\(∀ b:Bool,(!!b)=b)/\((!true)=false)/\((!false)=true)/\(∀ b:Bool,(b&&b)=b)/\(∀ b:Bool,(b||b)=b) /\
  (∀ c b:Bool,(bif c then true else b)=(c||b))/\(∀ c b:Bool,(bif c then b else false)=(c&&b))/\(∀ c b:Bool,(bif c then false else b)=(!c&&b))/\(∀ c b:Bool,(bif c then b else true)=(!c||b)) /\
  (∀ a b:Nat,Nat.blt a b=decide (a<b))/\(∀ a b:Nat,Nat.ble a b=decide (a<=b))/\(∀ k n:Nat,intRange (k:Int) n=decide (k<n))/\(∀ k n:Nat,decide ((k:Int)<(n:Int))=decide (k<n))/\(∀ k n:Nat,decide ((k:Int)<=(n:Int))=decide (k<=n)) /\
  (∀ k:Nat,((k:Int).toNat)=k)/\(∀ k:Nat,0+k=k) :=
 ⟨Bool.or_not_self,Bool.not_or_self,Bool.and_true,Bool.true_and,Bool.or_false,Bool.false_or,Bool.or_true,Bool.true_or,Bool.and_false,Bool.false_and,Bool.not_not,rfl,rfl,Bool.and_self,Bool.or_self,
  fun c b=>by cases c<;>rfl,fun c b=>by cases c<;>simp,fun c b=>by cases c<;>simp,fun c b=>by cases c<;>simp,blt_dec,ble_dec,ir_nat,lt_nat,le_nat,Int.toNat_natCast,Nat.zero_add⟩
theorem bc {α:Type}:(∀ a b:α,(bif true then a else b)=a)/\(∀ a b:α,(bif false then a else b)=b)/\(∀ (c:Bool) (a:α),(bif c then a else a)=a) :=
 ⟨fun _ _=>rfl,fun _ _=>rfl,fun c a=>by cases c<;>rfl⟩
end Go.X
namespace Go.X
open Go
theorem natMem_mem {k:Nat}:∀ {l:List Nat},natMem k l=true->k∈l
 |[],h=>by cases h
 |a :: l,h=>by
  simp only[natMem,Bool.or_eq_true]at h
  rcases h with h|h
  ·have:=Nat.eq_of_beq_eq_true h;subst this;exact List.mem_cons_self
  ·exact List.mem_cons_of_mem _ (natMem_mem h)
theorem relH_ro {P:Program} {ρ ρ':Rn}{pre pre0 upd:Hp} {w w':World} (hr:RelH P ρ (hget pre) w) (h2:∀ id b,hget pre id=some b->b.ro=false->hget pre0 id=some b)
  (hle:Le ρ ρ') (hrel:RelH P ρ' (hget (upd++pre0)) w') (hfr:Fr (Own ρ (hget pre)) w w') (hown:∀ k,Own ρ' (hget (upd++pre0)) k->Own ρ (hget pre) k\/w.heap.size<=k) :
  RelH P ρ' (hget (upd++pre)) w':=by
 have key:∀ id b,hget (upd++pre) id=some b->hget (upd++pre0) id=some b\/(b.ro=true/\hget pre id=some b):=by
  intro id b h
  cases hm:natMem id (fstL upd)with
  |true=>exact .inl (by rw[hget_in (h:=pre0) (h':=pre) (natMem_mem hm)];exact h)
  |false =>
   rw[hget_nin' hm]at h ⊢
   cases hb:b.ro with
   |false=>exact .inl (h2 id b h hb)
   |true=>exact .inr ⟨rfl,h⟩
 have base:∀ id b,hget pre id=some b->b.ro=true->∃ l,ρ id=some l/\Holds P ρ w l b/\(b.touch->¬ Own ρ (hget pre) l.addr.block):=by
  intro id b h hb
  obtain⟨l,hl,hh⟩:=hr.holds id b h
  refine⟨l,hl,hh,fun ht=>?_⟩
  rintro⟨id2,b2,l2,g2,r2,p2,e2⟩
  refine hr.sep id2 b2 id b l2 l g2 h ?_ r2 ht p2 hl e2
  rintro rfl
  rw[h]at g2;cases g2;rw[hb]at r2;cases r2
 refine⟨fun id b h=>?_,fun id b id' b' l l' h h' hne hro ht hl hl'=>?_⟩
 ·rcases key id b h with h|⟨hb,h⟩
  ·exact hrel.holds id b h
  ·obtain⟨l,hl,hh,hno⟩:=base id b h hb
   exact⟨l,hle _ _ hl,hh.stay hle fun ht=>hfr.block _ (hh.lt ht) (hno ht)⟩
 ·have h0:hget (upd++pre0) id=some b:=by
   rcases key id b h with h|⟨hb,_⟩
   ·exact h
   ·rw[hro]at hb;cases hb
  rcases key id' b' h' with h'|⟨hb,h'⟩
  ·exact hrel.sep id b id' b' l l' h0 h' hne hro ht hl hl'
  ·obtain⟨m,hm,hh,hno⟩:=base id' b' h' hb
   have:m=l':=by have:=hle _ _ hm;rw[hl']at this;exact(Option.some.inj this).symm
   subst this
   rcases hown _ ⟨id,b,l,h0,hro,hl,rfl⟩with ho|hs
   ·intro e;rw[e]at ho;exact hno ht ho
   ·have:=hh.lt ht;omega
theorem body_of_ro {P:Program}{f N n0 news:Nat}{rts:List Rx}{x:XCode}{vs:List Value}{pre upd:Hp}{vv:Value} (pre0:Hp) (hm:P.follows .mixedOrders=true) (hf:fnx P f=some (N,rts,x)) (hlen:vs.length<=N)
  (h2:∀ id b,hget pre id=some b->b.ro=false->hget pre0 id=some b)
  (hx:∀ (E:FEnv) (Q:Post),E.P=P->E.B.n=n0->Cl E.toEnv Q->(∀ e s,finP E.toEnv rts pre0 vv upd news e s->Q e s)->XWP E.toEnv x Q ⟨argTm 0 vs,pre,n0⟩):Body P f vs pre vv upd n0 news:=by
 unfold fnx at hf
 split at hf
 ·rename_i fn hfn
  split at hf
  ·rename_i c rts' hb hrt
   split at hf
   ·rename_i x' hc
    cases hnm : (fn.name == "runtime.NumGoroutine") with
    |true=>rw[hnm]at hf;cases hf
    |false =>
     rw[hnm]at hf
     simp only[cond_false,Option.some.injEq,Prod.mk.injEq]at hf
     obtain⟨rfl,rfl,rfl⟩:=hf
     refine⟨by simp[plainFn,hfn,hb];simpa using hnm,fun ρ w cargs hvl hr hd=>?_⟩
     have hcl:cargs.size=vs.length:=by rw[hvl.length];simp
     refine calls_of_wp hfn hb (wp_mono (hx (envOf P _ n0 pre hm ρ w hd) _ rfl rfl cl_fin (fun _ _ h=>h) c hc _ w ?_) ?_)
     ·refine⟨Nat.le_refl _,ρ,⟨fun k b u hl=>?_,?_,rfl,hr,Fr.refl _ _,fun k hk=>.inl hk,Le.refl _,fun id h0 h1=>absurd h0 h1⟩,fun _ _=>rfl⟩
      ·obtain⟨rfl,_,h2⟩:=argTm_look vs 0 k b u hl
       rw[Nat.sub_zero]at h2
       have hk:k<cargs.size:=by rw[hcl];exact lt_of_get h2
       refine⟨cargs[k],?_,fun _=>hvl.get h2 (by simp[hk]),fun e=>by cases e⟩
       simp[Array.getElem?_append,hk]
      ·have hl:=hlen
       rw[<- hcl]at hl
       simp[envOf]
       exact Nat.add_sub_of_le hl
     ·rintro e a w' ⟨s,⟨he,t,hwk,hres⟩,hrel⟩
      obtain⟨hBn,ρ',hcore,hfree⟩:=hwk a w' hrel
      obtain⟨cv,hrun,hv⟩:=results_run (P:=P) (w:=w') hrt hcore.tm hcore.rel hres
      have hR:=relH_ro hr h2 hcore.le hcore.rel hcore.fr hcore.own
      have:a.defers=[]/\∃ v,(results fn a.tmps).run P w'=.ok v w'/\∃ ρ',GoodN P ρ (hget pre) w n0 upd news ρ' w'/\V ρ' vv v:=by
       refine⟨hcore.df,cv,hrun,ρ',⟨hcore.le,fun id h0 h1=>⟨hcore.new id h0 h1,?_⟩,hR.congr fun id=>(hget_append _ _ _).symm,hcore.fr,fun k hk=>?_⟩,hv⟩
       ·rcases Nat.lt_or_ge id (n0+news)with h|h
        ·exact h
        ·exact absurd ((hfree id h).trans (hd id (by omega))) h1
       ·obtain⟨id,b,l,hb,hro,hl,hx⟩:=hk
        cases hm:natMem id (fstL upd)with
        |true=>exact hcore.own k ⟨id,b,l,by rw[hget_in (h:=pre0) (h':=pre) (natMem_mem hm),hget_append];exact hb,hro,hl,hx⟩
        |false =>
         rw[<- hget_append,hget_nin' hm]at hb
         exact hcore.own k ⟨id,b,l,by rw[hget_nin' hm];exact h2 id b hb hro,hro,hl,hx⟩
      rcases he with rfl|rfl
      ·exact this
      ·exact this
   ·cases hf
  ·cases hf
 ·cases hf
end Go.X
