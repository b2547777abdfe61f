import Derived.Test.YtghpjlmaamnnpaaDoorH17
set_option linter.all false
namespace Go.X
open Go
def execC {α:Type} (F:Fns) (sc:Short):Nat → XCode → Tm → Hp → Nat → (Exit → Tm → Hp → Nat → Option α) → Option α
 |0,_,_,_,_,_=>none
 |k+1,x,t,h,n,K=>match x with
  | .skip=>K .normal t h n
  | .region l=>match xrun (callE F sc (exec F sc k [])) [] l 0 t h n true True []with
   |some ⟨t,h,n,ok,_,_⟩=>match ok with
    |true=>K .normal t h n
    |false=>none
   |none=>none
  | .draw l ord=>match xrun (callE F sc (exec F sc k [])) [] l 0 t h n true True []with
   |some ⟨t,h,n,ok,_,tr⟩=>match ok with
    |true=>match heapOK ord tr with
     |true=>K .normal t h n
     |false=>none
    |false=>none
   |none=>none
  | .seq a b=>execC F sc k a t h n fun e t h n=>match e with
   | .normal=>execC F sc k b t h n K
   |e=>K e t h n
  | .cnd c a b=>match ev t c with
   |some (true,.bool v)=>match v with
    |true=>execC F sc k a t h n K
    |false=>execC F sc k b t h n K
   |_=>none
  | .block id a=>execC F sc k a t h n fun e t h n=>match e with
   | .exit id'=>cond (Nat.beq id' id) (K .normal t h n) (K (.exit id') t h n)
   |e=>K e t h n
  | .loop a=>execC F sc k a t h n fun e t h n=>match e with
   | .normal=>execC F sc k (.loop a) t h n K
   |e=>K e t h n
  | .exit id=>K (.exit id) t h n
  | .ret=>K .ret t h n
theorem execC_some {α:Type}{F:Fns}{sc:Short}:∀ (k:Nat){x:XCode}{t:Tm}{h:Hp}{n:Nat}{K:Exit → Tm → Hp → Nat → Option α}{r:α},execC F sc k x t h n K=some r →
  ∃ e t' h' n',exec F sc k [] x t h n=some ⟨[],e,t',h',n',true⟩ ∧ K e t' h' n'=some r:=by
 intro k
 induction k with
 |zero=>intro x t h n K r he;cases he
 |succ k ih =>
  intro x t h n K r he
  cases x with
  |skip=>exact⟨_,_,_,_,rfl,he⟩
  |exit id=>exact⟨_,_,_,_,rfl,he⟩
  |ret=>exact⟨_,_,_,_,rfl,he⟩
  |region l =>
   simp only[execC]at he
   split at he
   ·rename_i t1 h1 n1 ok pr tr hx
    cases ok with
    |true=>exact⟨_,_,_,_,by simp only[exec,hx],he⟩
    |false=>cases he
   ·cases he
  |draw l ord =>
   simp only[execC]at he
   split at he
   ·rename_i t1 h1 n1 ok pr tr hx
    cases ok with
    |true =>
     simp only at he
     cases hh:heapOK ord tr with
     |true=>rw[hh]at he;exact⟨_,_,_,_,by simp only[exec,hx,hh,Bool.and_self],he⟩
     |false=>rw[hh]at he;cases he
    |false=>cases he
   ·cases he
  |seq a b =>
   simp only[execC]at he
   obtain⟨e,t1,h1,n1,hx,hk⟩:=ih he
   cases e with
   |normal =>
    obtain⟨e,t2,h2,n2,hx2,hk2⟩:=ih hk
    exact⟨_,_,_,_,by simp only[exec,hx,hx2,Bool.and_self],hk2⟩
   |_=>exact⟨_,_,_,_,by simp only[exec,hx],hk⟩
  |loop a =>
   simp only[execC]at he
   obtain⟨e,t1,h1,n1,hx,hk⟩:=ih he
   cases e with
   |normal =>
    obtain⟨e,t2,h2,n2,hx2,hk2⟩:=ih hk
    exact⟨_,_,_,_,by simp only[exec,hx,hx2,Bool.and_self],hk2⟩
   |_=>exact⟨_,_,_,_,by simp only[exec,hx],hk⟩
  |block id a =>
   simp only[execC]at he
   obtain⟨e,t1,h1,n1,hx,hk⟩:=ih he
   cases e with
   |exit id' =>
    simp only at hk
    cases hb:Nat.beq id' id with
    |true=>rw[hb]at hk;exact⟨_,_,_,_,by simp only[exec,hx,hb,cond_true],hk⟩
    |false=>rw[hb]at hk;exact⟨_,_,_,_,by simp only[exec,hx,hb,cond_false],hk⟩
   |_=>exact⟨_,_,_,_,by simp only[exec,hx],hk⟩
  |cnd c a b =>
   simp only[execC]at he
   split at he
   ·rename_i v hev
    cases v with
    |true =>
     obtain⟨e,t1,h1,n1,hx,hk⟩:=ih he
     exact⟨_,_,_,_,by simp only[exec,nextO,hev,hx],hk⟩
    |false =>
     obtain⟨e,t1,h1,n1,hx,hk⟩:=ih he
     exact⟨_,_,_,_,by simp only[exec,nextO,hev,hx],hk⟩
   ·cases he
inductive Ref where
 |id (n:Nat)
 |tmp (k:Nat)
 |cell (n j:Nat)
def valId:Value → Option Nat
 | .slice (some ⟨id,_,_⟩) _ _=>some id
 | .pointer (some ⟨id,_,_⟩)=>some id
 | .map (some id)=>some id
 |_=>none
def refId (t:Tm) (h:Hp):Ref → Option Nat
 | .id n=>some n
 | .tmp k=>match look t k with
  |some (_,v)=>valId v
  |none=>none
 | .cell n j=>match hget h n with
  |some (.var cs)=>valId (cs.getD j undefd)
  |_=>none
structure Leaf where
 ts:List (Option (Bool × Value))
 bs:List (Nat × Option Blk)
 e:Exit
 n:Nat
def refBs (t:Tm) (h:Hp):List Ref → Option (List (Nat × Option Blk))
 |[]=>some []
 |r :: l=>match refId t h r,refBs t h l with
  |some id,some m=>some ((id,hget h id) :: m)
  |_,_=>none
def prjK (ks:List Nat) (rs:List Ref):Exit → Tm → Hp → Nat → Option Leaf:=fun e t h n =>
 match refBs t h rs with
 |some bs=>some ⟨ks.map (look t),bs,e,n⟩
 |none=>none
def mkT:List Nat → List Value → Tm
 |k :: ks,v :: vs=>(k,true,v) :: mkT ks vs
 |_,_=>[]
def mkH:List (Nat × Blk) → Hp
 |[]=>[]
 |(id,b) :: l=>(id,some b) :: mkH l
def pis:List (Nat × Blk) → List (Nat × Option Blk) → List (Nat × Nat)
 |(a,_) :: l,(b,_) :: m=>(a,b) :: pis l m
 |_,_=>[]
def tsOK (σ:Nm):List (Option (Bool × Value)) → List Value → Prop
 |[],[]=>True
 |a :: l,v :: m=>a=some (true,rn σ v) ∧ tsOK σ l m
 |_,_=>False
def bsOK (P:Program) (σ:Nm):List (Nat × Option Blk) → List (Nat × Blk) → Prop
 |[],[]=>True
 |(_,some b) :: l,(_,b') :: m=>BIs P σ b' b ∧ bsOK P σ l m
 |_,_=>False
def chkN (n0 n1:Nat) (hs:List (Nat × Blk)) (bs:List (Nat × Option Blk)):Bool :=
 Nat.ble n0 n1&&((pis hs bs).all fun p=>Nat.blt p.1 n1&&cond (Nat.blt p.1 n0) (Nat.beq p.1 p.2) true)&&nodupB (bs.map (·.1))&&nodupB (hs.map (·.1))
theorem tmsOK_of {σ:Nm}{t:Tm}:∀ {ks:List Nat}{vs:List Value},tsOK σ (ks.map (look t)) vs → TmsOK σ t (mkT ks vs)
 |[],[],_=>trivial
 |[],_ :: _,h=>h.elim
 |_ :: _,[],h=>h.elim
 |_ :: _,_ :: _,h=>⟨⟨rfl,h.1⟩,tmsOK_of h.2⟩
theorem refBs_get {t:Tm}{h:Hp}:∀ {rs:List Ref}{bs:List (Nat × Option Blk)},refBs t h rs=some bs → ∀ p∈bs,hget h p.1=p.2
 |[],bs,hx,p,hp=>by simp[refBs]at hx;subst hx;cases hp
 |r :: rs,bs,hx,p,hp=>by
  simp only[refBs]at hx
  split at hx
  ·rename_i id m h1 h2
   simp only[Option.some.injEq]at hx;subst hx
   rcases List.mem_cons.1 hp with rfl|hp
   ·rfl
   ·exact refBs_get h2 p hp
  ·cases hx
theorem hsOK_of {P:Program}{σ:Nm}{h:Hp}:∀ {hs:List (Nat × Blk)}{bs:List (Nat × Option Blk)}{seen:List Nat},bsOK P σ bs hs → (∀ p∈bs,hget h p.1=p.2) → (∀ p∈pis hs bs,σ p.1=some p.2) →
  HsOK P σ (hget h) seen (mkH hs)
 |[],_,_,_,_,_=>trivial
 |_ :: _,[],_,hb,_,_=>by cases hb
 |(a,b') :: hs,(c,none) :: bs,seen,hb,_,_=>by cases hb
 |(a,b') :: hs,(c,some b) :: bs,seen,hb,hg,hp=>by
  refine⟨?_,hsOK_of hb.2 (fun p hp=>hg p (.tail _ hp)) (fun p h=>hp p (.tail _ h))⟩
  have h1:=hp (a,c) (.head _)
  have h2:=hg (c,some b) (.head _)
  simp only at h1 h2
  cases natMem a seen with
  |true=>trivial
  |false=>simp only[h1,h2];exact hb.1
theorem names_pis {P:Program}{σ:Nm}:∀ {hs:List (Nat × Blk)}{bs:List (Nat × Option Blk)}{seen:List Nat},bsOK P σ bs hs → (∀ p∈pis hs bs,σ p.1=some p.2) → nodupB (hs.map (·.1))=true → (∀ x∈seen,x ∉ hs.map (·.1)) →
  namesOf σ seen (mkH hs)=bs.map (·.1)
 |[],[],_,_,_,_,_=>rfl
 |[],(_,none) :: _,_,hb,_,_,_=>by simp[bsOK]at hb
 |[],(_,some _) :: _,_,hb,_,_,_=>by simp[bsOK]at hb
 |_ :: _,[],_,hb,_,_,_=>by cases hb
 |(a,b') :: hs,(c,none) :: bs,seen,hb,_,_,_=>by cases hb
 |(a,b') :: hs,(c,some b) :: bs,seen,hb,hp,hn,hs'=>by
  have h1:=hp (a,c) (.head _)
  simp only at h1
  simp only[List.map_cons,nodupB,Bool.and_eq_true,Bool.not_eq_true']at hn
  have hm:natMem a seen=false:=by
   cases hx:natMem a seen with
   |false=>rfl
   |true=>exact absurd (.head _) (hs' a (natMem_iff.1 hx))
  simp only[mkH,namesOf,hm,h1,List.map_cons]
  refine congrArg _ (names_pis hb.2 (fun p h=>hp p (.tail _ h)) hn.2 fun x hx hx'=>?_)
  rcases List.mem_cons.1 hx with rfl|hx
  ·rw[natMem_iff.2 hx']at hn;cases hn.1
  ·exact hs' x hx (.tail _ hx')
theorem asc_of_mem:∀ {π:List (Nat × Nat)}{p:Nat × Nat},p∈π → nodupB (π.map (·.1))=true → asc π p.1=some p.2
 |q :: π,p,h,hn=>by
  obtain⟨a,b⟩:=q
  simp only[List.map_cons,nodupB,Bool.and_eq_true,Bool.not_eq_true']at hn
  simp only[asc]
  rcases List.mem_cons.1 h with rfl|h
  ·simp
  ·cases hb:Nat.beq a p.1 with
   |true =>
    have:=Nat.eq_of_beq_eq_true hb
    rw[natMem_iff.2 (by rw[this];exact List.mem_map.2 ⟨p,h,rfl⟩)]at hn
    cases hn.1
   |false=>exact asc_of_mem h hn.2
theorem pis_fst:∀ {hs:List (Nat × Blk)}{bs:List (Nat × Option Blk)},nodupB (hs.map (·.1))=true → nodupB ((pis hs bs).map (·.1))=true
 |[],bs,_=>by simp[pis,nodupB]
 |(a,b) :: hs,[],_=>by simp[pis,nodupB]
 |(a,b) :: hs,(c,d) :: bs,h=>by
  simp only[List.map_cons,nodupB,Bool.and_eq_true,Bool.not_eq_true']at h
  simp only[pis,List.map_cons,nodupB,Bool.and_eq_true,Bool.not_eq_true']
  refine⟨?_,pis_fst h.2⟩
  cases hx:natMem a ((pis hs bs).map (·.1))with
  |false=>rfl
  |true =>
   have:=natMem_iff.1 hx
   have key:∀ {hs:List (Nat × Blk)}{bs:List (Nat × Option Blk)},a∈(pis hs bs).map (·.1) → a∈hs.map (·.1):=by
    intro hs
    induction hs with
    |nil=>intro bs h;simp[pis]at h
    |cons x hs ih =>
     intro bs h
     obtain⟨u,v⟩:=x
     cases bs with
     |nil=>simp[pis]at h
     |cons y bs =>
      obtain⟨s,t⟩:=y
      simp only[pis,List.map_cons,List.mem_cons]at h ⊢
      exact h.imp id ih
   rw[natMem_iff.2 (key this)]at h
   cases h.1
theorem wk_leaf {E:FEnv}{ks:List Nat}{rs:List Ref}{e:Exit}{t:Tm}{h:Hp}{n:Nat}{l:Leaf} (hp:prjK ks rs e t h n=some l) (vs:List Value) (hs:List (Nat × Blk)) (n1:Nat)
  (hc:chkN E.B.n n1 hs l.bs=true) (ht:tsOK (stayOr E.B.n (pis hs l.bs)) l.ts vs) (hb:bsOK E.P (stayOr E.B.n (pis hs l.bs)) l.bs hs):Wk E.toEnv ⟨t,h,n⟩ ⟨mkT ks vs,mkH hs,n1⟩:=by
 unfold prjK at hp
 split at hp
 ·rename_i bs hbs
  simp only[Option.some.injEq]at hp;subst hp
  simp only[chkN,Bool.and_eq_true]at hc
  obtain⟨⟨⟨h1,h2⟩,h3⟩,h4⟩:=hc
  have hσ:∀ p∈pis hs bs,stayOr E.B.n (pis hs bs) p.1=some p.2:=fun p hp=>by
   have:=List.all_eq_true.1 h2 p hp
   simp only[Bool.and_eq_true]at this
   simp only[stayOr]
   cases hb:Nat.blt p.1 E.B.n with
   |true =>
    rw[hb]at this
    simp only[cond_true]at this ⊢
    rw[Nat.eq_of_beq_eq_true this.2]
   |false=>exact asc_of_mem hp (pis_fst h4)
  refine weak (pis hs bs) ?_ ?_ (tmsOK_of ht) (hsOK_of hb (refBs_get hbs) hσ)
  ·simp only[h1,Bool.true_and]
   exact List.all_eq_true.2 fun p hp=>by
    have:=List.all_eq_true.1 h2 p hp
    simp only[Bool.and_eq_true]at this
    exact this.1
  ·rw[names_pis hb hσ h4 (fun _ h=>by cases h)]
   exact h3
 ·cases hp
theorem finE_or {e:Exit} (h:finE e=true):e=.normal ∨ e=.ret:=by
 cases e<;>first|exact .inl rfl|exact .inr rfl|cases h
def SubB (g:Hp):List Nat → Hp → Prop
 |_,[]=>True
 |seen,(id,ob) :: h=>(match natMem id seen,ob with
  |false,some b=>hget g id=some b
  |_,_=>True) ∧ SubB g (id :: seen) h
theorem subB_get {g:Hp}:∀ {h:Hp}{seen:List Nat},SubB g seen h → ∀ id b,id ∉ seen → hget h id=some b → hget g id=some b
 |[],_,_,_,_,_,h=>by cases h
 |(k,ob) :: h,seen,hs,id,b,hn,hg=>by
  simp only[hget]at hg
  cases hb:Nat.beq k id with
  |true =>
   rw[hb]at hg
   simp only[cond_true]at hg
   have:=Nat.eq_of_beq_eq_true hb
   subst this
   subst hg
   have h1:=hs.1
   cases hm:natMem k seen with
   |true=>exact absurd (natMem_iff.1 hm) hn
   |false=>rw[hm]at h1;exact h1
  |false =>
   rw[hb]at hg
   refine subB_get hs.2 id b (fun hx=>?_) hg
   rcases List.mem_cons.1 hx with rfl|hx
   ·simp at hb
   ·exact hn hx
theorem wk_sub {E:Env}{t:Tm} {h h':Hp}{n:Nat} (hs:∀ id b,hget h' id=some b → hget h id=some b):Wk E ⟨t,h,n⟩ ⟨t,h',n⟩:=fun a w hr=>by
 obtain⟨h1,ρ,hc,hf⟩:=hr
 exact⟨h1,ρ,⟨hc.tm,hc.sz,hc.df,hc.rel.sub hs,hc.fr,fun k ⟨id,b,l,hb,hx⟩=>hc.own k ⟨id,b,l,hs id b hb,hx⟩,hc.le,hc.new⟩,hf⟩
def looks (t:Tm):List Nat → Option (List Value)
 |[]=>some []
 |k :: ks=>match look t k,looks t ks with
  |some (true,v),some vs=>some (v :: vs)
  |_,_=>none
def valK (ks:List Nat):Exit → Tm → Hp → Nat → Option (List Value):=fun e t _ _ =>
 match finE e with
 |true=>looks t ks
 |false=>none
theorem looks_ts {σ:Nm}{t:Tm}:∀ {ks:List Nat}{vs:List Value},looks t ks=some vs → rnL σ vs=vs → TmsOK σ t (mkT ks vs)
 |[],vs,h,_=>by cases h;trivial
 |k :: ks,vs,h,hr=>by
  simp only[looks]at h
  split at h
  ·rename_i v us h1 h2
   cases h
   simp only[renL,List.cons.injEq]at hr
   exact⟨⟨rfl,by rw[hr.1];exact h1⟩,looks_ts h2 hr.2⟩
  ·cases h
theorem adet_tree {P:Program}{F:Fns}{sc:Short} (hF:FnsOK P F sc) (k:Nat){f N:Nat}{rts:List Rx}{x:XCode}{vs:List Value} (hf:fnx P f=some (N,rts,x)) (hlen:vs.length ≤ N)
  (ks:List Nat){vals:List Value} (he:execC F sc k x (argTm 0 vs) [] 100 (valK ks)=some vals){v:Value} (hr:resV (mkT ks vals) [] rts=some v)
  (h1:rnL (stayOr 100 []) vals=vals) (hvs:rnL (asc []) vs=vs) (hv:rn (asc []) v=v) (n:Nat):ADet P f vs [] v [] n 0:=by
 refine adet_of_body (vs0:=vs) (pre0:=[]) (v0:=v) (upd0:=[]) (n0:=100) (news0:=0) ?_ [] [] rfl hvs trivial rfl hv trivial rfl
 refine body_of hF.mix hf hlen fun ρ w hd=>?_
 obtain⟨e,t,h,n',hx,hk⟩:=execC_some k he
 unfold valK at hk
 split at hk
 ·rename_i hfin
  refine xwp_exec (E:=envOf P N 100 [] hF.mix ρ w hd) hF k [] hx rfl ⟨finE_or hfin,mkT ks vals,?_,hr⟩
  exact weak [] rfl rfl (looks_ts hk h1) trivial
 ·cases hk
structure Con (P:Program) where
 f:FuncId
 run:List Value → Hp → Nat → Option (Hp × Value × Hp × Nat × Bool)
 ok:∀ vs h n pre v upd news,run vs h n=some (pre,v,upd,news,true) → (∀ id∈fstL pre,hget h id=hget pre id) ∧ ADet P f vs pre v upd n news
def scOf {P:Program}:List (Con P) → Short
 |[],_,_,_,_=>none
 |c :: l,f,vs,h,n=>cond (Nat.beq c.f f) (c.run vs h n) (scOf l f vs h n)
theorem scOf_ok {P:Program}:∀ {l:List (Con P)} {f vs h n pre v upd news},scOf l f vs h n=some (pre,v,upd,news,true) → (∀ id∈fstL pre,hget h id=hget pre id) ∧ ADet P f vs pre v upd n news
 |[],_,_,_,_,_,_,_,_,h=>by cases h
 |c :: l,f,vs,h,n,pre,v,upd,news,hx=>by
  simp only[scOf]at hx
  cases hb:Nat.beq c.f f with
  |true =>
   rw[hb]at hx
   rw[← Nat.eq_of_beq_eq_true hb]
   exact c.ok _ _ _ _ _ _ _ hx
  |false=>rw[hb]at hx;exact scOf_ok hx
theorem fok {P:Program}{F:Fns}{sc:Short} (h:FnsOK P F sc) (l:List (Con P)):FnsOK P F (scOf l):=⟨h.mix,h.fn,fun _ _ _ _ _ _ _ _ hx=>scOf_ok hx⟩
def pureC {P:Program} (f:FuncId) (g:List Value → Option Value) (h:∀ vs v n,g vs=some v → ADet P f vs [] v [] n 0):Con P where
 f:=f
 run:=fun vs _ _=>match g vs with
  |some v=>some ([],v,[],0,true)
  |none=>none
 ok:=fun vs hp n pre v upd news hx=>by
  split at hx
  ·rename_i v' hv
   simp only[Option.some.injEq,Prod.mk.injEq,and_true]at hx
   obtain⟨rfl,rfl,rfl,rfl⟩:=hx
   exact⟨fun id hid=>by simp[fstL]at hid,h _ _ _ hv⟩
  ·cases hx
theorem blt_dec (a b:Nat):Nat.blt a b=decide (a<b):=by
 cases h:Nat.blt a b with
 |true=>have:=blt_lt h;simp[this]
 |false =>
  have:¬ a<b:=fun hl=>by rw[lt_blt hl]at h;cases h
  simp[this]
theorem ble_dec (a b:Nat):Nat.ble a b=decide (a ≤ b):=by
 cases h:Nat.ble a b with
 |true=>have:=ble_le h;simp[this]
 |false =>
  have:¬ a ≤ b:=fun hl=>by rw[Nat.ble_eq_true_of_le hl]at h;cases h
  simp[this]
theorem ir_nat (k n:Nat):intRange (k:Int) n=decide (k<n):=by
 simp[intRange]
theorem lt_nat (k n:Nat):decide ((k:Int)<(n:Int))=decide (k<n):=by simp
def LeafTo (E:FEnv) (ks:List Nat) (l:Leaf) (s:St):Prop :=
 ∃ vs hs n1,s=⟨mkT ks vs,mkH hs,n1⟩ ∧ chkN E.B.n n1 hs l.bs=true ∧ tsOK (stayOr E.B.n (pis hs l.bs)) l.ts vs ∧ bsOK E.P (stayOr E.B.n (pis hs l.bs)) l.bs hs
theorem LeafTo.wk {E:FEnv}{ks:List Nat}{rs:List Ref}{e:Exit}{t:Tm}{h:Hp}{n:Nat}{l:Leaf}{s:St} (hl:LeafTo E ks l s) (hp:prjK ks rs e t h n=some l):Wk E.toEnv ⟨t,h,n⟩ s:=by
 obtain⟨vs,hs,n1,rfl,h1,h2,h3⟩:=hl
 exact wk_leaf hp vs hs n1 h1 h2 h3
def Cl (E:Env) (Q:Post):Prop:=∀ e a b,Wk E a b → Q e b → Q e a
theorem cl_fin {E:Env}{rts:List Rx}{pre upd:Hp}{v:Value}{news:Nat}:Cl E (finP E rts pre v upd news):=fun _ _ _ hw ⟨h1,t,h2,h3⟩=>⟨h1,t,hw.trans h2,h3⟩
theorem fin_of {E:Env}{s:St}{rts:List Rx}{pre upd:Hp}{v:Value}{news:Nat}{e:Exit} (he:finE e=true) (hsub:SubB s.h [] (upd++pre)) (hn:s.n=E.B.n+news) (hr:resV s.t (upd++pre) rts=some v):finP E rts pre v upd news e s:=by
 obtain⟨t,h,n⟩:=s
 simp only at hsub hn hr
 subst hn
 exact⟨finE_or he,t,wk_sub fun id b h=>subB_get hsub id b (fun h=>by cases h) h,hr⟩
noncomputable def decP (p:Prop):Bool:=@decide p (Classical.propDecidable p)
theorem decP_true {p:Prop} (h:p):decP p=true:=by unfold decP;exact @decide_eq_true p (Classical.propDecidable p) h
theorem of_decP {p:Prop} (h:decP p=true):p:=by unfold decP at h;exact @of_decide_eq_true p (Classical.propDecidable p) h
end Go.X
