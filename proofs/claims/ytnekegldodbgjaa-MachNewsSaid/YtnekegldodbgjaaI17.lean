import Derived.Test.YtnekegldodbgjaaI16
set_option linter.all false
namespace Go.X
open Go


def execC {α : Type} (F : Fns) (sc : Short) : Nat -> XCode -> Tm -> Hp -> Nat -> (Exit -> Tm -> Hp -> Nat -> Option α) -> Option α
  | 0, _, _, _, _, _ => none
  | k + 1, x, t, h, n, K => match x with
    | .skip => K .normal t h n
    | .region l => match xrun (callE F sc (exec F sc k [])) [] l 0 t h n true True [] with
      | some ⟨t, h, n, ok, _, _⟩ => match ok with
        | true => K .normal t h n
        | false => none
      | none => none
    | .draw l ord => match xrun (callE F sc (exec F sc k [])) [] l 0 t h n true True [] with
      | some ⟨t, h, n, ok, _, tr⟩ => match ok with
        | true => match heapOK ord tr with
          | true => K .normal t h n
          | false => none
        | false => none
      | none => none
    | .seq a b => execC F sc k a t h n fun e t h n => match e with
      | .normal => execC F sc k b t h n K
      | e => K e t h n
    | .cnd c a b => match ev t c with
      | some (true, .bool v) => match v with
        | true => execC F sc k a t h n K
        | false => execC F sc k b t h n K
      | _ => none
    | .block id a => execC F sc k a t h n fun e t h n => match e with
      | .exit id' => cond (Nat.beq id' id) (K .normal t h n) (K (.exit id') t h n)
      | e => K e t h n
    | .loop a => execC F sc k a t h n fun e t h n => match e with
      | .normal => execC F sc k (.loop a) t h n K
      | e => K e t h n
    | .exit id => K (.exit id) t h n
    | .ret => K .ret t h n

theorem execC_some {α : Type} {F : Fns} {sc : Short} : ∀ (k : Nat) {x : XCode} {t : Tm} {h : Hp} {n : Nat} {K : Exit -> Tm -> Hp -> Nat -> Option α} {r : α}, execC F sc k x t h n K = some r ->
    ∃ e t' h' n', exec F sc k [] x t h n = some ⟨[], e, t', h', n', true⟩ /\ K e t' h' n' = some r := by
  intro k
  induction k with
  | zero => intro x t h n K r he; cases he
  | succ k ih =>
    intro x t h n K r he
    cases x with
    | skip => exact ⟨_, _, _, _, rfl, he⟩
    | exit id => exact ⟨_, _, _, _, rfl, he⟩
    | ret => exact ⟨_, _, _, _, rfl, he⟩
    | region l =>
      simp only [execC] at he
      split at he
      · rename_i t1 h1 n1 ok pr tr hx
        cases ok with
        | true => exact ⟨_, _, _, _, by simp only [exec, hx], he⟩
        | false => cases he
      · cases he
    | draw l ord =>
      simp only [execC] at he
      split at he
      · rename_i t1 h1 n1 ok pr tr hx
        cases ok with
        | true =>
          simp only at he
          cases hh : heapOK ord tr with
          | true => rw [hh] at he; exact ⟨_, _, _, _, by simp only [exec, hx, hh, Bool.and_self], he⟩
          | false => rw [hh] at he; cases he
        | false => cases he
      · cases he
    | seq a b =>
      simp only [execC] at he
      obtain ⟨e, t1, h1, n1, hx, hk⟩ := ih he
      cases e with
      | normal =>
        obtain ⟨e, t2, h2, n2, hx2, hk2⟩ := ih hk
        exact ⟨_, _, _, _, by simp only [exec, hx, hx2, Bool.and_self], hk2⟩
      | _ => exact ⟨_, _, _, _, by simp only [exec, hx], hk⟩
    | loop a =>
      simp only [execC] at he
      obtain ⟨e, t1, h1, n1, hx, hk⟩ := ih he
      cases e with
      | normal =>
        obtain ⟨e, t2, h2, n2, hx2, hk2⟩ := ih hk
        exact ⟨_, _, _, _, by simp only [exec, hx, hx2, Bool.and_self], hk2⟩
      | _ => exact ⟨_, _, _, _, by simp only [exec, hx], hk⟩
    | block id a =>
      simp only [execC] at he
      obtain ⟨e, t1, h1, n1, hx, hk⟩ := ih he
      cases e with
      | exit id' =>
        simp only at hk
        cases hb : Nat.beq id' id with
        | true => rw [hb] at hk; exact ⟨_, _, _, _, by simp only [exec, hx, hb, cond_true], hk⟩
        | false => rw [hb] at hk; exact ⟨_, _, _, _, by simp only [exec, hx, hb, cond_false], hk⟩
      | _ => exact ⟨_, _, _, _, by simp only [exec, hx], hk⟩
    | cnd c a b =>
      simp only [execC] at he
      split at he
      · rename_i v hev
        cases v with
        | true =>
          obtain ⟨e, t1, h1, n1, hx, hk⟩ := ih he
          exact ⟨_, _, _, _, by simp only [exec, nextO, hev, hx], hk⟩
        | false =>
          obtain ⟨e, t1, h1, n1, hx, hk⟩ := ih he
          exact ⟨_, _, _, _, by simp only [exec, nextO, hev, hx], hk⟩
      · cases he


inductive Ref where
  | id (n : Nat)
  | tmp (k : Nat)
  | cell (n j : Nat)
def valId : Value -> Option Nat
  | .slice (some ⟨id, _, _⟩) _ _ => some id
  | .pointer (some ⟨id, _, _⟩) => some id
  | .map (some id) => some id
  | _ => none
def refId (t : Tm) (h : Hp) : Ref -> Option Nat
  | .id n => some n
  | .tmp k => match look t k with
    | some (_, v) => valId v
    | none => none
  | .cell n j => match hget h n with
    | some (.var cs) => valId (cs.getD j undefd)
    | _ => none

structure Leaf where
  ts : List (Option (Bool × Value))
  bs : List (Nat × Option Blk)
  e : Exit
  n : Nat

def refBs (t : Tm) (h : Hp) : List Ref -> Option (List (Nat × Option Blk))
  | [] => some []
  | r :: l => match refId t h r, refBs t h l with
    | some id, some m => some ((id, hget h id) :: m)
    | _, _ => none

def prjK (ks : List Nat) (rs : List Ref) : Exit -> Tm -> Hp -> Nat -> Option Leaf := fun e t h n =>
  match refBs t h rs with
  | some bs => some ⟨ks.map (look t), bs, e, n⟩
  | none => none

def mkT : List Nat -> List Value -> Tm
  | k :: ks, v :: vs => (k, true, v) :: mkT ks vs
  | _, _ => []
def mkH : List (Nat × Blk) -> Hp
  | [] => []
  | (id, b) :: l => (id, some b) :: mkH l

def pis : List (Nat × Blk) -> List (Nat × Option Blk) -> List (Nat × Nat)
  | (a, _) :: l, (b, _) :: m => (a, b) :: pis l m
  | _, _ => []

def tsOK (σ : Nm) : List (Option (Bool × Value)) -> List Value -> Prop
  | [], [] => True
  | a :: l, v :: m => a = some (true, rn σ v) /\ tsOK σ l m
  | _, _ => False
def bsOK (P : Program) (σ : Nm) : List (Nat × Option Blk) -> List (Nat × Blk) -> Prop
  | [], [] => True
  | (_, some b) :: l, (_, b') :: m => BIs P σ b' b /\ bsOK P σ l m
  | _, _ => False

def chkN (n0 n1 : Nat) (hs : List (Nat × Blk)) (bs : List (Nat × Option Blk)) : Bool :=
  Nat.ble n0 n1 && ((pis hs bs).all fun p => Nat.blt p.1 n1 && cond (Nat.blt p.1 n0) (Nat.beq p.1 p.2) true) && nodupB (bs.map (·.1)) && nodupB (hs.map (·.1))

theorem tmsOK_of {σ : Nm} {t : Tm} : ∀ {ks : List Nat} {vs : List Value}, tsOK σ (ks.map (look t)) vs -> TmsOK σ t (mkT ks vs)
  | [], [], _ => trivial
  | [], _ :: _, h => h.elim
  | _ :: _, [], h => h.elim
  | _ :: _, _ :: _, h => ⟨⟨rfl, h.1⟩, tmsOK_of h.2⟩

theorem refBs_get {t : Tm} {h : Hp} : ∀ {rs : List Ref} {bs : List (Nat × Option Blk)}, refBs t h rs = some bs -> ∀ p ∈ bs, hget h p.1 = p.2
  | [], bs, hx, p, hp => by simp [refBs] at hx; subst hx; cases hp
  | r :: rs, bs, hx, p, hp => by
    simp only [refBs] at hx
    split at hx
    · rename_i id m h1 h2
      simp only [Option.some.injEq] at hx; subst hx
      rcases List.mem_cons.1 hp with rfl | hp
      · rfl
      · exact refBs_get h2 p hp
    · cases hx

theorem hsOK_of {P : Program} {σ : Nm} {h : Hp} : ∀ {hs : List (Nat × Blk)} {bs : List (Nat × Option Blk)} {seen : List Nat}, bsOK P σ bs hs -> (∀ p ∈ bs, hget h p.1 = p.2) -> (∀ p ∈ pis hs bs, σ p.1 = some p.2) ->
    HsOK P σ (hget h) seen (mkH hs)
  | [], _, _, _, _, _ => trivial
  | _ :: _, [], _, hb, _, _ => by cases hb
  | (a, b') :: hs, (c, none) :: bs, seen, hb, _, _ => by cases hb
  | (a, b') :: hs, (c, some b) :: bs, seen, hb, hg, hp => by
    refine ⟨?_, hsOK_of hb.2 (fun p hp => hg p (.tail _ hp)) (fun p h => hp p (.tail _ h))⟩
    have h1 := hp (a, c) (.head _)
    have h2 := hg (c, some b) (.head _)
    simp only at h1 h2
    cases natMem a seen with
    | true => trivial
    | false => simp only [h1, h2]; exact hb.1

theorem names_pis {P : Program} {σ : Nm} : ∀ {hs : List (Nat × Blk)} {bs : List (Nat × Option Blk)} {seen : List Nat}, bsOK P σ bs hs -> (∀ p ∈ pis hs bs, σ p.1 = some p.2) -> nodupB (hs.map (·.1)) = true -> (∀ x ∈ seen, x ∉ hs.map (·.1)) ->
    namesOf σ seen (mkH hs) = bs.map (·.1)
  | [], [], _, _, _, _, _ => rfl
  | [], (_, none) :: _, _, hb, _, _, _ => by simp [bsOK] at hb
  | [], (_, some _) :: _, _, hb, _, _, _ => by simp [bsOK] at hb
  | _ :: _, [], _, hb, _, _, _ => by cases hb
  | (a, b') :: hs, (c, none) :: bs, seen, hb, _, _, _ => by cases hb
  | (a, b') :: hs, (c, some b) :: bs, seen, hb, hp, hn, hs' => by
    have h1 := hp (a, c) (.head _)
    simp only at h1
    simp only [List.map_cons, nodupB, Bool.and_eq_true, Bool.not_eq_true'] at hn
    have hm : natMem a seen = false := by
      cases hx : natMem a seen with
      | false => rfl
      | true => exact absurd (.head _) (hs' a (natMem_iff.1 hx))
    simp only [mkH, namesOf, hm, h1, List.map_cons]
    refine congrArg _ (names_pis hb.2 (fun p h => hp p (.tail _ h)) hn.2 fun x hx hx' => ?_)
    rcases List.mem_cons.1 hx with rfl | hx
    · rw [natMem_iff.2 hx'] at hn; cases hn.1
    · exact hs' x hx (.tail _ hx')

theorem asc_of_mem : ∀ {π : List (Nat × Nat)} {p : Nat × Nat}, p ∈ π -> nodupB (π.map (·.1)) = true -> asc π p.1 = some p.2
  | q :: π, p, h, hn => by
    obtain ⟨a, b⟩ := q
    simp only [List.map_cons, nodupB, Bool.and_eq_true, Bool.not_eq_true'] at hn
    simp only [asc]
    rcases List.mem_cons.1 h with rfl | h
    · simp
    · cases hb : Nat.beq a p.1 with
      | true =>
        have := Nat.eq_of_beq_eq_true hb
        rw [natMem_iff.2 (by rw [this]; exact List.mem_map.2 ⟨p, h, rfl⟩)] at hn
        cases hn.1
      | false => exact asc_of_mem h hn.2

theorem pis_fst : ∀ {hs : List (Nat × Blk)} {bs : List (Nat × Option Blk)}, nodupB (hs.map (·.1)) = true -> nodupB ((pis hs bs).map (·.1)) = true
  | [], bs, _ => by simp [pis, nodupB]
  | (a, b) :: hs, [], _ => by simp [pis, nodupB]
  | (a, b) :: hs, (c, d) :: bs, h => by
    simp only [List.map_cons, nodupB, Bool.and_eq_true, Bool.not_eq_true'] at h
    simp only [pis, List.map_cons, nodupB, Bool.and_eq_true, Bool.not_eq_true']
    refine ⟨?_, pis_fst h.2⟩
    cases hx : natMem a ((pis hs bs).map (·.1)) with
    | false => rfl
    | true =>
      have := natMem_iff.1 hx
      have key : ∀ {hs : List (Nat × Blk)} {bs : List (Nat × Option Blk)}, a ∈ (pis hs bs).map (·.1) -> a ∈ hs.map (·.1) := by
        intro hs
        induction hs with
        | nil => intro bs h; simp [pis] at h
        | cons x hs ih =>
          intro bs h
          obtain ⟨u, v⟩ := x
          cases bs with
          | nil => simp [pis] at h
          | cons y bs =>
            obtain ⟨s, t⟩ := y
            simp only [pis, List.map_cons, List.mem_cons] at h ⊢
            exact h.imp id ih
      rw [natMem_iff.2 (key this)] at h
      cases h.1

theorem wk_leaf {E : FEnv} {ks : List Nat} {rs : List Ref} {e : Exit} {t : Tm} {h : Hp} {n : Nat} {l : Leaf} (hp : prjK ks rs e t h n = some l) (vs : List Value) (hs : List (Nat × Blk)) (n1 : Nat)
    (hc : chkN E.B.n n1 hs l.bs = true) (ht : tsOK (stayOr E.B.n (pis hs l.bs)) l.ts vs) (hb : bsOK E.P (stayOr E.B.n (pis hs l.bs)) l.bs hs) : Wk E.toEnv ⟨t, h, n⟩ ⟨mkT ks vs, mkH hs, n1⟩ := by
  unfold prjK at hp
  split at hp
  · rename_i bs hbs
    simp only [Option.some.injEq] at hp; subst hp
    simp only [chkN, Bool.and_eq_true] at hc
    obtain ⟨⟨⟨h1, h2⟩, h3⟩, h4⟩ := hc
    have hσ : ∀ p ∈ pis hs bs, stayOr E.B.n (pis hs bs) p.1 = some p.2 := fun p hp => by
      have := List.all_eq_true.1 h2 p hp
      simp only [Bool.and_eq_true] at this
      simp only [stayOr]
      cases hb : Nat.blt p.1 E.B.n with
      | true =>
        rw [hb] at this
        simp only [cond_true] at this ⊢
        rw [Nat.eq_of_beq_eq_true this.2]
      | false => exact asc_of_mem hp (pis_fst h4)
    refine weak (pis hs bs) ?_ ?_ (tmsOK_of ht) (hsOK_of hb (refBs_get hbs) hσ)
    · simp only [h1, Bool.true_and]
      exact List.all_eq_true.2 fun p hp => by
        have := List.all_eq_true.1 h2 p hp
        simp only [Bool.and_eq_true] at this
        exact this.1
    · rw [names_pis hb hσ h4 (fun _ h => by cases h)]
      exact h3
  · cases hp

theorem xwp_tree {E : FEnv} {Q : Post} {s : St} {F : Fns} {sc : Short} (hF : FnsOK E.P F sc) (k : Nat) {x : XCode} (ks : List Nat) (rs : List Ref) {l : Leaf}
    (he : execC F sc k x s.t s.h s.n (prjK ks rs) = some l) (hQ : ∀ t' h', prjK ks rs l.e t' h' l.n = some l -> Q l.e ⟨t', h', l.n⟩) : XWP E.toEnv x Q s := by
  obtain ⟨e, t, h, n, hx, hk⟩ := execC_some k he
  have h2 : e = l.e /\ n = l.n := by
    unfold prjK at hk
    split at hk
    · simp only [Option.some.injEq] at hk; subst hk; exact ⟨rfl, rfl⟩
    · cases hk
  obtain ⟨rfl, rfl⟩ := h2
  exact xwp_exec hF k [] hx rfl (hQ t h hk)

theorem finE_or {e : Exit} (h : finE e = true) : e = .normal \/ e = .ret := by
  cases e <;> first | exact .inl rfl | exact .inr rfl | cases h

def SubB (g : Hp) : List Nat -> Hp -> Prop
  | _, [] => True
  | seen, (id, ob) :: h => (match natMem id seen, ob with
    | false, some b => hget g id = some b
    | _, _ => True) /\ SubB g (id :: seen) h
theorem subB_get {g : Hp} : ∀ {h : Hp} {seen : List Nat}, SubB g seen h -> ∀ id b, id ∉ seen -> hget h id = some b -> hget g id = some b
  | [], _, _, _, _, _, h => by cases h
  | (k, ob) :: h, seen, hs, id, b, hn, hg => by
    simp only [hget] at hg
    cases hb : Nat.beq k id with
    | true =>
      rw [hb] at hg
      simp only [cond_true] at hg
      have := Nat.eq_of_beq_eq_true hb
      subst this
      subst hg
      have h1 := hs.1
      cases hm : natMem k seen with
      | true => exact absurd (natMem_iff.1 hm) hn
      | false => rw [hm] at h1; exact h1
    | false =>
      rw [hb] at hg
      refine subB_get hs.2 id b (fun hx => ?_) hg
      rcases List.mem_cons.1 hx with rfl | hx
      · simp at hb
      · exact hn hx

theorem wk_sub {E : Env} {t : Tm} {h h' : Hp} {n : Nat} (hs : ∀ id b, hget h' id = some b -> hget h id = some b) : Wk E ⟨t, h, n⟩ ⟨t, h', n⟩ := fun a w hr => by
  obtain ⟨h1, ρ, hc, hf⟩ := hr
  exact ⟨h1, ρ, ⟨hc.tm, hc.sz, hc.df, hc.rel.sub hs, hc.fr, fun k ⟨id, b, l, hb, hx⟩ => hc.own k ⟨id, b, l, hs id b hb, hx⟩, hc.le, hc.new⟩, hf⟩

def looks (t : Tm) : List Nat -> Option (List Value)
  | [] => some []
  | k :: ks => match look t k, looks t ks with
    | some (true, v), some vs => some (v :: vs)
    | _, _ => none
def valK (ks : List Nat) : Exit -> Tm -> Hp -> Nat -> Option (List Value) := fun e t _ _ =>
  match finE e with
  | true => looks t ks
  | false => none

theorem looks_ts {σ : Nm} {t : Tm} : ∀ {ks : List Nat} {vs : List Value}, looks t ks = some vs -> rnL σ vs = vs -> TmsOK σ t (mkT ks vs)
  | [], vs, h, _ => by cases h; trivial
  | k :: ks, vs, h, hr => by
    simp only [looks] at h
    split at h
    · rename_i v us h1 h2
      cases h
      simp only [renL, List.cons.injEq] at hr
      exact ⟨⟨rfl, by rw [hr.1]; exact h1⟩, looks_ts h2 hr.2⟩
    · cases h

theorem adet_tree {P : Program} {F : Fns} {sc : Short} (hF : FnsOK P F sc) (k : Nat) {f N : Nat} {rts : List Rx} {x : XCode} {vs : List Value} (hf : fnx P f = some (N, rts, x)) (hlen : vs.length <= N)
    (ks : List Nat) {vals : List Value} (he : execC F sc k x (argTm 0 vs) [] 100 (valK ks) = some vals) {v : Value} (hr : resV (mkT ks vals) [] rts = some v)
    (h1 : rnL (stayOr 100 []) vals = vals) (hvs : rnL (asc []) vs = vs) (hv : rn (asc []) v = v) (n : Nat) : ADet P f vs [] v [] n 0 := by
  refine adet_of_body (vs0 := vs) (pre0 := []) (v0 := v) (upd0 := []) (n0 := 100) (news0 := 0) ?_ [] [] rfl hvs trivial rfl hv trivial rfl
  refine body_of hF.mix hf hlen fun ρ w hd => ?_
  obtain ⟨e, t, h, n', hx, hk⟩ := execC_some k he
  unfold valK at hk
  split at hk
  · rename_i hfin
    refine xwp_exec (E := envOf P N 100 [] hF.mix ρ w hd) hF k [] hx rfl ⟨finE_or hfin, mkT ks vals, ?_, hr⟩
    exact weak [] rfl rfl (looks_ts hk h1) trivial
  · cases hk

structure Con (P : Program) where
  f : FuncId
  run : List Value -> Hp -> Nat -> Option (Hp × Value × Hp × Nat × Bool)
  ok : ∀ vs h n pre v upd news, run vs h n = some (pre, v, upd, news, true) -> (∀ id ∈ fstL pre, hget h id = hget pre id) /\ ADet P f vs pre v upd n news

def scOf {P : Program} : List (Con P) -> Short
  | [], _, _, _, _ => none
  | c :: l, f, vs, h, n => cond (Nat.beq c.f f) (c.run vs h n) (scOf l f vs h n)

theorem scOf_ok {P : Program} : ∀ {l : List (Con P)} {f vs h n pre v upd news}, scOf l f vs h n = some (pre, v, upd, news, true) -> (∀ id ∈ fstL pre, hget h id = hget pre id) /\ ADet P f vs pre v upd n news
  | [], _, _, _, _, _, _, _, _, h => by cases h
  | c :: l, f, vs, h, n, pre, v, upd, news, hx => by
    simp only [scOf] at hx
    cases hb : Nat.beq c.f f with
    | true =>
      rw [hb] at hx
      rw [<- Nat.eq_of_beq_eq_true hb]
      exact c.ok _ _ _ _ _ _ _ hx
    | false => rw [hb] at hx; exact scOf_ok hx
theorem fok {P : Program} {F : Fns} {sc : Short} (h : FnsOK P F sc) (l : List (Con P)) : FnsOK P F (scOf l) := ⟨h.mix, h.fn, fun _ _ _ _ _ _ _ _ hx => scOf_ok hx⟩

def pureC {P : Program} (f : FuncId) (g : List Value -> Option Value) (h : ∀ vs v n, g vs = some v -> ADet P f vs [] v [] n 0) : Con P where
  f := f
  run := fun vs _ _ => match g vs with
    | some v => some ([], v, [], 0, true)
    | none => none
  ok := fun vs hp n pre v upd news hx => by
    split at hx
    · rename_i v' hv
      simp only [Option.some.injEq, Prod.mk.injEq, and_true] at hx
      obtain ⟨rfl, rfl, rfl, rfl⟩ := hx
      exact ⟨fun id hid => by simp [fstL] at hid, h _ _ _ hv⟩
    · cases hx

theorem cc_tt {α : Type} (c : Bool) (a b d : α) : (bif c then (bif c then a else b) else d) = bif c then a else d := by cases c <;> rfl
theorem cc_ff {α : Type} (c : Bool) (a b d : α) : (bif c then a else (bif c then b else d)) = bif c then a else d := by cases c <;> rfl
theorem cond_ctx {α : Type} {c c' : Bool} {a a' b b' : α} (h : c = c') (ha : c' = true -> a = a') (hb : c' = false -> b = b') : (bif c then a else b) = bif c' then a' else b' := by
  subst h
  cases c with
  | true => exact ha rfl
  | false => exact hb rfl
theorem blt_dec (a b : Nat) : Nat.blt a b = decide (a < b) := by
  cases h : Nat.blt a b with
  | true => have := blt_lt h; simp [this]
  | false =>
    have : ¬ a < b := fun hl => by rw [lt_blt hl] at h; cases h
    simp [this]
theorem ble_dec (a b : Nat) : Nat.ble a b = decide (a <= b) := by
  cases h : Nat.ble a b with
  | true => have := ble_le h; simp [this]
  | false =>
    have : ¬ a <= b := fun hl => by rw [Nat.ble_eq_true_of_le hl] at h; cases h
    simp [this]
theorem ir_nat (k n : Nat) : intRange (k : Int) n = decide (k < n) := by
  simp [intRange]
def LeafTo (E : FEnv) (ks : List Nat) (l : Leaf) (s : St) : Prop :=
  ∃ vs hs n1, s = ⟨mkT ks vs, mkH hs, n1⟩ /\ chkN E.B.n n1 hs l.bs = true /\ tsOK (stayOr E.B.n (pis hs l.bs)) l.ts vs /\ bsOK E.P (stayOr E.B.n (pis hs l.bs)) l.bs hs
theorem LeafTo.wk {E : FEnv} {ks : List Nat} {rs : List Ref} {e : Exit} {t : Tm} {h : Hp} {n : Nat} {l : Leaf} {s : St} (hl : LeafTo E ks l s) (hp : prjK ks rs e t h n = some l) : Wk E.toEnv ⟨t, h, n⟩ s := by
  obtain ⟨vs, hs, n1, rfl, h1, h2, h3⟩ := hl
  exact wk_leaf hp vs hs n1 h1 h2 h3

theorem xwp_seqT {E : FEnv} {Q : Post} {s : St} {F : Fns} {sc : Short} (hF : FnsOK E.P F sc) (k : Nat) {x y : XCode} (ks : List Nat) (rs : List Ref) {l : Leaf}
    (he : execC F sc k x s.t s.h s.n (prjK ks rs) = some l) (hn : l.e = .normal) (s' : St) (hl : LeafTo E ks l s') (hQ : XWP E.toEnv y Q s') : XWP E.toEnv (.seq x y) Q s :=
  xwp_seq (xwp_tree hF k ks rs he fun _ _ hp => by rw [hn] at hp ⊢; exact XWP.wk (hl.wk hp) hQ)

def Cl (E : Env) (Q : Post) : Prop := ∀ e a b, Wk E a b -> Q e b -> Q e a
theorem cl_fin {E : Env} {rts : List Rx} {pre upd : Hp} {v : Value} {news : Nat} : Cl E (finP E rts pre v upd news) := fun _ _ _ hw ⟨h1, t, h2, h3⟩ => ⟨h1, t, hw.trans h2, h3⟩
theorem Cl.out {E : Env} {Q : Post} (h : Cl E Q) {x : XCode} {s : St} (hx : XWP E x (wkP E Q) s) : XWP E x Q s := hx.mono fun e _ ⟨_, hw, hq⟩ => h e _ _ hw hq

def seqL : List XCode -> XCode -> XCode
  | [], y => y
  | x :: l, y => .seq x (seqL l y)
def execL {α : Type} (F : Fns) (sc : Short) (k : Nat) : List XCode -> Tm -> Hp -> Nat -> (Exit -> Tm -> Hp -> Nat -> Option α) -> Option α
  | [], t, h, n, K => K .normal t h n
  | x :: l, t, h, n, K => execC F sc k x t h n fun e t h n => match e with
    | .normal => execL F sc k l t h n K
    | _ => none
theorem xwp_seqL {E : FEnv} {Q : Post} {F : Fns} {sc : Short} (hF : FnsOK E.P F sc) (k : Nat) {y : XCode} (ks : List Nat) (rs : List Ref) {l : Leaf} (s' : St) (hl : LeafTo E ks l s') (hQ : XWP E.toEnv y Q s') :
    ∀ {xs : List XCode} {t : Tm} {h : Hp} {n : Nat}, execL F sc k xs t h n (prjK ks rs) = some l -> XWP E.toEnv (seqL xs y) Q ⟨t, h, n⟩
  | [], t, h, n, he => by
    have h2 : l.e = .normal /\ l.n = n := by
      simp only [execL, prjK] at he
      split at he
      · simp only [Option.some.injEq] at he; subst he; exact ⟨rfl, rfl⟩
      · cases he
    exact XWP.wk (hl.wk he) hQ
  | x :: xs, t, h, n, he => by
    obtain ⟨e, t', h', n', hx, hk⟩ := execC_some k he
    refine xwp_seq (xwp_exec hF k [] hx rfl ?_)
    cases e with
    | normal => exact xwp_seqL hF k ks rs s' hl hQ hk
    | _ => cases hk
theorem fin_of {E : Env} {s : St} {rts : List Rx} {pre upd : Hp} {v : Value} {news : Nat} {e : Exit} (he : finE e = true) (hsub : SubB s.h [] (upd ++ pre)) (hn : s.n = E.B.n + news) (hr : resV s.t (upd ++ pre) rts = some v) : finP E rts pre v upd news e s := by
  obtain ⟨t, h, n⟩ := s
  simp only at hsub hn hr
  subst hn
  exact ⟨finE_or he, t, wk_sub fun id b h => subB_get hsub id b (fun h => by cases h) h, hr⟩
noncomputable def decP (p : Prop) : Bool := @decide p (Classical.propDecidable p)
theorem decP_true {p : Prop} (h : p) : decP p = true := by unfold decP; exact @decide_eq_true p (Classical.propDecidable p) h
theorem of_decP {p : Prop} (h : decP p = true) : p := by unfold decP at h; exact @of_decide_eq_true p (Classical.propDecidable p) h
end Go.X
namespace Go.X
open Go


inductive Cx where
  | sq (y : XCode)
  | bl (id : Nat)

def execS {α : Type} (F : Fns) (sc : Short) : Nat -> XCode -> List Cx -> Tm -> Hp -> Nat -> (Exit -> Tm -> Hp -> Nat -> Option α) -> (XCode -> List Cx -> Tm -> Hp -> Nat -> Option α) -> Option α
  | 0, _, _, _, _, _, _, _ => none
  | k + 1, x, c, t, h, n, K, KL => match x with
    | .skip => K .normal t h n
    | .region l => match xrun (callE F sc (exec F sc k [])) [] l 0 t h n true True [] with
      | some ⟨t, h, n, ok, _, _⟩ => match ok with
        | true => K .normal t h n
        | false => none
      | none => none
    | .draw l ord => match xrun (callE F sc (exec F sc k [])) [] l 0 t h n true True [] with
      | some ⟨t, h, n, ok, _, tr⟩ => match ok with
        | true => match heapOK ord tr with
          | true => K .normal t h n
          | false => none
        | false => none
      | none => none
    | .seq a b => execS F sc k a (.sq b :: c) t h n (fun e t h n => match e with
      | .normal => execS F sc k b c t h n K KL
      | e => K e t h n) KL
    | .cnd o a b => match ev t o with
      | some (true, .bool v) => match v with
        | true => execS F sc k a c t h n K KL
        | false => execS F sc k b c t h n K KL
      | _ => none
    | .block id a => execS F sc k a (.bl id :: c) t h n (fun e t h n => match e with
      | .exit id' => cond (Nat.beq id' id) (K .normal t h n) (K (.exit id') t h n)
      | e => K e t h n) KL
    | .loop a => KL a c t h n
    | .exit id => K (.exit id) t h n
    | .ret => K .ret t h n

def ctxP (E : Env) : List Cx -> Post -> Post
  | [], Q => Q
  | .sq y :: c, Q => seqP (XWP E y (ctxP E c Q)) (ctxP E c Q)
  | .bl id :: c, Q => blockP id (ctxP E c Q)

theorem cl_seqP {E : Env} {x : XCode} {Q : Post} (h : Cl E Q) : Cl E (seqP (XWP E x Q) Q) := fun e a b hw hq => by
  cases e with
  | normal => exact XWP.wk hw hq
  | _ => exact h _ _ _ hw hq
theorem cl_blockP {E : Env} {id : Nat} {Q : Post} (h : Cl E Q) : Cl E (blockP id Q) := fun e a b hw hq => by
  cases e with
  | exit id' =>
    simp only [blockP] at hq ⊢
    cases hb : Nat.beq id' id with
    | true => rw [hb] at hq; exact h _ _ _ hw hq
    | false => rw [hb] at hq; exact h _ _ _ hw hq
  | _ => exact h _ _ _ hw hq
theorem cl_ctx {E : Env} {Q : Post} (h : Cl E Q) : ∀ c, Cl E (ctxP E c Q)
  | [] => h
  | .sq _ :: c => cl_seqP (cl_ctx h c)
  | .bl _ :: c => cl_blockP (cl_ctx h c)

structure Pj where
  ks : List Nat
  rs : List Ref
  uk : List Nat
  ui : List Nat

def keptT (t0 t : Tm) (uk : List Nat) : Bool := uk.all fun k => !natMem k ((t.take (t.length - t0.length)).map (·.1))
def keptH (h0 h : Hp) (ui : List Nat) : Bool := ui.all fun i => !natMem i (fstL (h.take (h.length - h0.length)))
def prjF (p : Pj) (t0 : Tm) (h0 : Hp) : Exit -> Tm -> Hp -> Nat -> Option Leaf := fun e t h n =>
  match refBs t h p.rs with
  | some bs => match keptT t0 t p.uk && keptH h0 h p.ui with
    | true => some ⟨p.ks.map (look t), bs, e, n⟩
    | false => none
  | none => none
def ext (p : Pj) (t0 : Tm) (h0 : Hp) (l : Leaf) : Leaf := ⟨l.ts ++ p.uk.map (look t0), l.bs ++ p.ui.map (fun i => (i, hget h0 i)), l.e, l.n⟩

theorem look_app {u t : Tm} {k : Nat} (h : natMem k (u.map (·.1)) = false) : look (u ++ t) k = look t k := by
  induction u with
  | nil => rfl
  | cons x u ih =>
    obtain ⟨a, b, v⟩ := x
    simp only [List.map_cons, natMem, Bool.or_eq_false_iff] at h
    simp only [List.cons_append, look, h.1, cond_false]
    exact ih h.2
theorem hget_nin' {u h : Hp} {k : Nat} (hn : natMem k (fstL u) = false) : hget (u ++ h) k = hget h k := by
  induction u with
  | nil => rfl
  | cons x u ih =>
    obtain ⟨a, b⟩ := x
    simp only [fstL, natMem, Bool.or_eq_false_iff] at hn
    simp only [List.cons_append, hget, hn.1, cond_false]
    exact ih hn.2
theorem refBs_app {t : Tm} {h : Hp} : ∀ {rs : List Ref} {bs : List (Nat × Option Blk)} (ui : List Nat), refBs t h rs = some bs -> refBs t h (rs ++ ui.map .id) = some (bs ++ ui.map fun i => (i, hget h i))
  | [], bs, ui, hx => by
    simp only [refBs, Option.some.injEq] at hx; subst hx
    simp only [List.nil_append]
    induction ui with
    | nil => rfl
    | cons i ui ih => simp only [List.map_cons, refBs, refId, ih]
  | r :: rs, bs, ui, hx => by
    simp only [refBs] at hx
    split at hx
    · rename_i id m h1 h2
      simp only [Option.some.injEq] at hx; subst hx
      simp only [List.cons_append, refBs, h1, refBs_app ui h2]
    · cases hx
theorem prjF_ext {p : Pj} {t0 t : Tm} {h0 h : Hp} {e : Exit} {n : Nat} {l : Leaf} (hp : prjF p t0 h0 e t h n = some l) (ht : ∃ u, t = u ++ t0) (hh : ∃ u, h = u ++ h0) :
    prjK (p.ks ++ p.uk) (p.rs ++ p.ui.map .id) e t h n = some (ext p t0 h0 l) /\ l.e = e /\ l.n = n := by
  unfold prjF at hp
  split at hp
  · rename_i bs hbs
    split at hp
    · rename_i hk
      simp only [Bool.and_eq_true] at hk
      simp only [Option.some.injEq] at hp; subst hp
      obtain ⟨u, rfl⟩ := ht
      obtain ⟨v, rfl⟩ := hh
      have h1 : p.uk.map (look (u ++ t0)) = p.uk.map (look t0) := List.map_congr_left fun k hkm => by
        have := List.all_eq_true.1 hk.1 k hkm
        rw [List.length_append, Nat.add_sub_cancel, List.take_left' rfl] at this
        exact look_app (by simpa using this)
      have h2 : (p.ui.map fun i => (i, hget (v ++ h0) i)) = p.ui.map fun i => (i, hget h0 i) := List.map_congr_left fun k hkm => by
        have := List.all_eq_true.1 hk.2 k hkm
        rw [List.length_append, Nat.add_sub_cancel, List.take_left' rfl] at this
        rw [hget_nin' (by simpa using this)]
      refine ⟨?_, rfl, rfl⟩
      unfold prjK
      rw [refBs_app p.ui hbs]
      simp only [ext, List.map_append, h1, h2]
    · cases hp
  · cases hp

theorem xrun_logT {ce : CE} {hints : List (Nat × Nat)} : ∀ {os : List XOper} {i : Nat} {t : Tm} {h : Hp} {n : Nat} {ok : Bool} {pr : Prop} {tr : List Foot} {s : RS},
    xrun ce hints os i t h n ok pr tr = some s -> ∃ u, s.t = u ++ t := by
  intro os
  induction os with
  | nil =>
    intro i t h n ok pr tr s hx
    simp only [xrun, Option.some.injEq] at hx; subst hx
    exact ⟨[], rfl⟩
  | cons o os ih =>
    intro i t h n ok pr tr s hx
    simp only [xrun] at hx
    repeat' split at hx
    all_goals first
      | (cases hx; done)
      | (obtain ⟨u, hu⟩ := ih hx
         first
          | exact ⟨u, hu⟩
          | exact ⟨u ++ [_], by rw [hu, List.append_assoc]; rfl⟩)

theorem execS_sound {α : Type} {E : FEnv} {F : Fns} {sc : Short} (hF : FnsOK E.P F sc) {Q : Post} {r : α} : ∀ (k : Nat) {x : XCode} {c : List Cx} {t : Tm} {h : Hp} {n : Nat} {K : Exit -> Tm -> Hp -> Nat -> Option α} {KL : XCode -> List Cx -> Tm -> Hp -> Nat -> Option α},
    execS F sc k x c t h n K KL = some r -> (∀ e t' h' n', (∃ u, t' = u ++ t) -> (∃ u, h' = u ++ h) -> K e t' h' n' = some r -> ctxP E.toEnv c Q e ⟨t', h', n'⟩) -> (∀ a c t' h' n', (∃ u, t' = u ++ t) -> (∃ u, h' = u ++ h) -> KL a c t' h' n' = some r -> XWP E.toEnv (.loop a) (ctxP E.toEnv c Q) ⟨t', h', n'⟩) ->
    XWP E.toEnv x (ctxP E.toEnv c Q) ⟨t, h, n⟩ := by
  have app : ∀ {β : Type} {a b c : List β}, (∃ u, a = u ++ b) -> (∃ u, b = u ++ c) -> ∃ u, a = u ++ c := by
    rintro β a b c ⟨u, rfl⟩ ⟨v, rfl⟩
    exact ⟨u ++ v, by rw [List.append_assoc]⟩
  intro k
  induction k with
  | zero => intro x c t h n K KL he; cases he
  | succ k ih =>
    intro x c t h n K KL he hK hL
    cases x with
    | skip => exact xwp_skip (hK _ _ _ _ ⟨[], rfl⟩ ⟨[], rfl⟩ he)
    | exit id => exact xwp_exit (hK _ _ _ _ ⟨[], rfl⟩ ⟨[], rfl⟩ he)
    | ret => exact xwp_ret (hK _ _ _ _ ⟨[], rfl⟩ ⟨[], rfl⟩ he)
    | region l =>
      simp only [execS] at he
      split at he
      · rename_i t1 h1 n1 ok pr tr hx
        cases ok with
        | true => exact xwp_exec hF (k + 1) [] (by simp only [exec, hx] : exec F sc (k + 1) [] (.region l) t h n = some ⟨[], .normal, t1, h1, n1, true⟩) rfl (hK _ _ _ _ (xrun_logT hx) (xrun_log hx).1 he)
        | false => cases he
      · cases he
    | draw l ord =>
      simp only [execS] at he
      split at he
      · rename_i t1 h1 n1 ok pr tr hx
        cases ok with
        | true =>
          simp only at he
          cases hh : heapOK ord tr with
          | true => rw [hh] at he; exact xwp_exec hF (k + 1) [] (by simp only [exec, hx, hh, Bool.and_self] : exec F sc (k + 1) [] (.draw l ord) t h n = some ⟨[], .normal, t1, h1, n1, true⟩) rfl (hK _ _ _ _ (xrun_logT hx) (xrun_log hx).1 he)
          | false => rw [hh] at he; cases he
        | false => cases he
      · cases he
    | seq a b =>
      simp only [execS] at he
      refine xwp_seq (ih (c := .sq b :: c) he (fun e t1 h1 n1 p1 p2 hk => ?_) hL)
      cases e with
      | normal => exact ih hk (fun e t' h' n' q1 q2 => hK e t' h' n' (app q1 p1) (app q2 p2)) (fun a c t' h' n' q1 q2 => hL a c t' h' n' (app q1 p1) (app q2 p2))
      | _ => exact hK _ _ _ _ p1 p2 hk
    | block id a =>
      simp only [execS] at he
      refine xwp_block (ih (c := .bl id :: c) he (fun e t1 h1 n1 p1 p2 hk => ?_) hL)
      cases e with
      | exit id' =>
        simp only [ctxP, blockP] at hk ⊢
        cases hb : Nat.beq id' id with
        | true => rw [hb] at hk; exact hK _ _ _ _ p1 p2 hk
        | false => rw [hb] at hk; exact hK _ _ _ _ p1 p2 hk
      | _ => exact hK _ _ _ _ p1 p2 hk
    | loop a => exact hL _ _ _ _ _ ⟨[], rfl⟩ ⟨[], rfl⟩ he
    | cnd o a b =>
      simp only [execS] at he
      split at he
      · rename_i v hev
        cases v with
        | true => exact xwp_cnd hev (ih he hK hL)
        | false => exact xwp_cnd hev (ih he hK hL)
      · cases he

structure Stop where
  l : Leaf
  lp : Option (XCode × List Cx)
def pjOf (p r : Pj) : Exit -> Pj
  | .ret => r
  | _ => p
def stopN (p r : Pj) (t0 : Tm) (h0 : Hp) : Exit -> Tm -> Hp -> Nat -> Option Stop := fun e t h n =>
  match prjF (pjOf p r e) t0 h0 e t h n with
  | some l => some ⟨l, none⟩
  | none => none
def stopL (p : Pj) (t0 : Tm) (h0 : Hp) : XCode -> List Cx -> Tm -> Hp -> Nat -> Option Stop := fun a c t h n =>
  match prjF p t0 h0 .normal t h n with
  | some l => some ⟨l, some (a, c)⟩
  | none => none
abbrev walk (F : Fns) (sc : Short) (k : Nat) (x : XCode) (t : Tm) (h : Hp) (n : Nat) (p r q : Pj) : Option Stop := execS F sc k x [] t h n (stopN p r t h) (stopL q t h)

section
variable {E : FEnv} {Q : Post} {s : St} {F : Fns} {sc : Short} {x : XCode} {p r q : Pj} {l : Leaf}
theorem xwp_toEnd (hcl : Cl E.toEnv Q) (hF : FnsOK E.P F sc) (k : Nat) (he : walk F sc k x s.t s.h s.n p r q = some ⟨l, none⟩) (s' : St) (hl : LeafTo E ((pjOf p r l.e).ks ++ (pjOf p r l.e).uk) (ext (pjOf p r l.e) s.t s.h l) s') (hQ : Q l.e s') : XWP E.toEnv x Q s := by
  refine execS_sound hF k (c := []) he (fun e t h n hp hq hk => ?_) (fun a c t h n _ _ hk => ?_)
  · unfold stopN at hk
    split at hk
    · rename_i l' hpr
      simp only [Option.some.injEq, Stop.mk.injEq, and_true] at hk; subst hk
      obtain ⟨h1, h2, h3⟩ := prjF_ext hpr hp hq
      subst h2; subst h3
      exact hcl _ _ _ (hl.wk h1) hQ
    · cases hk
  · unfold stopL at hk
    split at hk
    · simp only [Option.some.injEq, Stop.mk.injEq] at hk; cases hk.2
    · cases hk
theorem xwp_toLoop {a : XCode} {c : List Cx} (hF : FnsOK E.P F sc) (k : Nat) (he : walk F sc k x s.t s.h s.n p r q = some ⟨l, some (a, c)⟩) (s' : St) (hl : LeafTo E (q.ks ++ q.uk) (ext q s.t s.h l) s') (hQ : XWP E.toEnv (.loop a) (ctxP E.toEnv c Q) s') : XWP E.toEnv x Q s := by
  refine execS_sound hF k (c := []) he (fun e t h n _ _ hk => ?_) (fun a' c' t h n hp hq hk => ?_)
  · unfold stopN at hk
    split at hk
    · simp only [Option.some.injEq, Stop.mk.injEq] at hk; cases hk.2
    · cases hk
  · unfold stopL at hk
    split at hk
    · rename_i l' hpr
      simp only [Option.some.injEq, Stop.mk.injEq, Prod.mk.injEq] at hk
      obtain ⟨rfl, rfl, rfl⟩ := hk
      exact XWP.wk (hl.wk (prjF_ext hpr hp hq).1) hQ
    · cases hk
end

def roundP {ι : Type} (E : Env) (S : ι -> St) (I : ι -> Prop) (μ : ι -> Nat) (i : ι) (Q : Post) : Post := fun e s' => match e with
  | .normal => ∃ i', I i' /\ μ i' < μ i /\ Wk E s' (S i')
  | e => Q e s'
theorem cl_round {ι : Type} {E : Env} {S : ι -> St} {I : ι -> Prop} {μ : ι -> Nat} {i : ι} {Q : Post} (h : Cl E Q) : Cl E (roundP E S I μ i Q) := fun e a b hw hq => by
  cases e with
  | normal => obtain ⟨i', h1, h2, h3⟩ := hq; exact ⟨i', h1, h2, hw.trans h3⟩
  | _ => exact h _ _ _ hw hq
theorem xwp_loopR {E : Env} {Q : Post} {x : XCode} {ι : Type} (S : ι -> St) (I : ι -> Prop) (μ : ι -> Nat) (i0 : ι) (hI : I i0)
    (round : ∀ i, I i -> XWP E x (roundP E S I μ i Q) (S i)) : XWP E (.loop x) Q (S i0) :=
  xwp_loop S I μ i0 (Wk.refl _ _) hI fun i hi => (round i hi).mono fun e s hs => by cases e <;> exact hs

theorem body_of' {P : Program} {f N n0 news : Nat} {rts : List Rx} {x : XCode} {vs : List Value} {pre upd : Hp} {vv : Value} (hm : P.follows .mixedOrders = true) (hf : fnx P f = some (N, rts, x)) (hlen : vs.length <= N)
    (hx : ∀ (E : FEnv) (Q : Post), E.P = P -> E.B.n = n0 -> Cl E.toEnv Q -> (∀ e s, finP E.toEnv rts pre vv upd news e s -> Q e s) -> XWP E.toEnv x Q ⟨argTm 0 vs, pre, n0⟩) : Body P f vs pre vv upd n0 news :=
  body_of hm hf hlen fun ρ w hd => hx (envOf P N n0 pre hm ρ w hd) _ rfl rfl cl_fin fun _ _ h => h

end Go.X
