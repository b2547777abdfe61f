import Derived.Test.YtnekegldodbgjaaC15
import Derived.Orders
namespace Go.X
open Go

/-- What a step (an operation, a call) did: as Good, but with several new names. -/
structure GoodN (P : Program) (ρ : Rn) (g : G) (w : World) (n : Nat) (upd : List (Nat × Option Blk)) (news : Nat) (ρ' : Rn) (w' : World) : Prop where
  le : Le ρ ρ'
  new : ∀ id, ρ id = none → ρ' id ≠ none → n ≤ id ∧ id < n + news
  rel : RelH P ρ' (gapply g upd) w'
  fr : Fr (Own ρ g) w w'
  own : ∀ k, Own ρ' (gapply g upd) k → Own ρ g k ∨ w.heap.size ≤ k

theorem Good.toN {P : Program} {ρ ρ' : Rn} {g : G} {w w' : World} {n news : Nat} {upd : List (Nat × Option Blk)} (h : Good P ρ g w n upd news ρ' w') : GoodN P ρ g w n upd news ρ' w' :=
  ⟨h.le, fun id h0 h1 => by have := h.new id h0 h1; omega, h.rel, h.fr, h.own⟩

/-- The contract of a function: it is deterministic over Go's values. -/
def ADet (P : Program) (f : FuncId) (vs : List Value) (pre : Hp) (v : Value) (upd : List (Nat × Option Blk)) (n news : Nat) : Prop :=
  plainFn P f = true ∧ (upd = [] → news = 0) ∧
  ∀ ρ g w cargs, VL ρ vs cargs.toList → RelH P ρ g w → (∀ id ∈ fstL pre, g id = hget pre id) → (∀ id, n ≤ id → id < n + news → ρ id = none) → (∃ k, n + news ≤ k ∧ ρ k = none) →
    Calls P f cargs w fun
      | .returned c, w' => ∃ ρ', GoodN P ρ g w n upd news ρ' w' ∧ V ρ' v c
      | _, _ => False

/-- Every call that it tells runs so. -/
def CEok (P : Program) (ce : CE) : Prop :=
  ∀ i f vs h n pre v upd news ok pr, ce i f vs h n = some ⟨pre, v, upd, news, ok, pr⟩ → ok = true → pr → (∀ id ∈ fstL pre, hget h id = hget pre id) ∧ ADet P f vs pre v upd n news

/-- The temporaries. -/
def TV (ρ : Rn) (b : Bool) (v c : Value) : Prop := (b = true → V ρ v c) ∧ (b = false → c = undef)
theorem TV.mono {ρ ρ' : Rn} (hl : Le ρ ρ') {b : Bool} {v c : Value} (h : TV ρ b v c) : TV ρ' b v c := ⟨fun e => (h.1 e).mono hl, h.2⟩
def TmR (ρ : Rn) (t : Tm) (tmps : Array Value) : Prop := ∀ k b v, look t k = some (b, v) → ∃ c, tmps[k]? = some c ∧ TV ρ b v c
theorem TmR.mono {ρ ρ' : Rn} (hl : Le ρ ρ') {t : Tm} {tmps : Array Value} (h : TmR ρ t tmps) : TmR ρ' t tmps := fun k b v e => by
  obtain ⟨c, hc, hv⟩ := h k b v e
  exact ⟨c, hc, hv.mono hl⟩
theorem TmR.at {ρ : Rn} {t : Tm} {tmps : Array Value} (h : TmR ρ t tmps) {k : Nat} {v : Value} (e : look t k = some (true, v)) : ∃ c, tmps[k]? = some c ∧ V ρ v c := by
  obtain ⟨c, hc, hv⟩ := h k true v e
  exact ⟨c, hc, hv.1 rfl⟩

theorem ev_sound {ρ : Rn} {t : Tm} {a : Act} {x : Operand} {v : Value} (h : ev t x = some (true, v)) (ht : ∀ k, x = .tmp k → ∀ v, look t k = some (true, v) → ∃ c, a.tmps[k]? = some c ∧ V ρ v c) : V ρ v (a.eval x) := by
  cases x with
  | tmp k =>
    obtain ⟨c, hc, hv⟩ := ht k rfl v h
    have : a.eval (.tmp k) = c := by simp [Act.eval, hc]
    rw [this]; exact hv
  | const u =>
    simp only [ev] at h
    cases ho : okc u with
    | false => simp [ho] at h
    | true =>
      simp [ho] at h; subst h
      exact okc_self ho
  | func f =>
    simp only [ev, Option.some.injEq, Prod.mk.injEq, true_and] at h; subst h
    exact VL.func trivial trivial
  | global g => cases h

theorem mem_slots {xs : List Operand} {k : Nat} (h : .tmp k ∈ xs) : k ∈ slotsOf xs := by
  induction xs with
  | nil => cases h
  | cons x xs ih =>
    rcases List.mem_cons.1 h with e | e
    · subst e; simp [slotsOf]
    · cases x <;> simp [slotsOf, ih e]

theorem evs_sound {ρ : Rn} {t : Tm} {a : Act} : ∀ {xs : List Operand} {vs : List Value}, evs t xs = some (true, vs) →
    (∀ k ∈ slotsOf xs, ∀ v, look t k = some (true, v) → ∃ c, a.tmps[k]? = some c ∧ V ρ v c) → VL ρ vs (xs.map a.eval)
  | [], vs, h, _ => by simp [evs] at h; subst h; trivial
  | x :: xs, vs, h, ht => by
    simp only [evs] at h
    cases h1 : ev t x with
    | none => simp [h1] at h
    | some p =>
      cases h2 : evs t xs with
      | none => simp [h1, h2] at h
      | some q =>
        obtain ⟨c, v⟩ := p
        obtain ⟨d, us⟩ := q
        simp only [h1, h2, Option.some.injEq, Prod.mk.injEq, Bool.and_eq_true] at h
        obtain ⟨⟨rfl, rfl⟩, rfl⟩ := h
        exact ⟨ev_sound h1 fun k e => ht k (mem_slots (by subst e; exact .head _)), evs_sound h2 fun k hk => ht k (by cases x <;> simp [slotsOf, hk])⟩

/-- The new name is of no account where nothing new is made. -/
theorem act_name {o : XOp} {vs : List Value} {bs : List Blk} {n n' hint : Nat} {r : Res} (h : o.act vs bs n hint = some r) (h0 : r.news = 0) : o.act vs bs n' hint = some r := by
  cases o with
  | new row => simp [XOp.act] at h; subst h; simp at h0
  | mkmap kt et z => simp [XOp.act] at h; subst h; simp at h0
  | box x =>
    have h : aBox n vs = some r := h
    unfold aBox at h
    split at h
    · rw [normL_eq] at h
      obtain ⟨_, h⟩ := must_some h
      simp at h; subst h; simp at h0
    · cases h
  | mkslice z l ps =>
    have h : aMkslice z l ps n vs = some r := h
    unfold aMkslice at h
    split at h
    · rw [normL_eq] at h
      obtain ⟨_, h⟩ := must_some h
      simp at h; subst h; simp at h0
    · cases h
  | s2b x =>
    have h : aS2b n vs = some r := h
    unfold aS2b at h
    split at h
    · simp at h; subst h; simp at h0
    · cases h
  | mks z b l c =>
    have h : aMks z b n vs = some r := h
    unfold aMks at h
    split at h
    · simp at h; subst h; simp at h0
    · cases h
  | app size bytes s x =>
    have h : actApp size bytes vs bs n hint = some r := h
    show actApp size bytes vs bs n' hint = some r
    unfold actApp at h ⊢
    split at h
    · split at h
      · split at h
        · simp [growIt] at h; subst h; simp at h0
        · exact h
        · simp [growIt] at h; subst h; simp at h0
        · exact h
      · exact h
    · split at h
      · simp only at h ⊢
        split at h
        · simp [growIt] at h; subst h; simp at h0
        · exact h
        · unfold appPick at h ⊢
          split at h
          · simp [growIt] at h; subst h; simp at h0
          · revert h
            cases hb : Nat.ble _ _ with
            | true => simp only [cond_true]; exact id
            | false => simp only [cond_false]; intro h; simp [growIt] at h; subst h; simp at h0
      · exact h
    · exact h
  | _ => exact h

def NU (r : Option Res) : Prop := ∀ x, r = some x → x.upd = [] → x.news = 0
theorem NU.none : NU none := fun _ h => by cases h
theorem NU.rv {v : Value} {ok : Bool} : NU (rv v ok) := fun _ h _ => by cases h; rfl
theorem NU.zero {v : Value} {upd : List (Nat × Option Blk)} {ok : Bool} : NU (some ⟨v, upd, 0, ok⟩) := fun _ h _ => by cases h; rfl
theorem NU.cons {v : Value} {b : Nat × Option Blk} {upd : List (Nat × Option Blk)} {news : Nat} {ok : Bool} : NU (some ⟨v, b :: upd, news, ok⟩) := fun _ h h0 => by cases h; cases h0
theorem NU.must {b : Bool} {r : Option Res} (h : NU r) : NU (must b r) := by cases b; exact .none; exact h
theorem NU.fz {v : Value} {k : Value → Option Res} (h : ∀ v, NU (k v)) : NU (fz v k) := by rw [fz_eq]; exact h _
theorem NU.normL {l : List Value} {k : List Value → Option Res} (h : ∀ l, NU (k l)) : NU (normL l k) := by rw [normL_eq]; exact h _
theorem NU.fzL {l : List Value} {k : List Value → Option Res} (h : ∀ l, NU (k l)) : NU (fzL l k) := by rw [fzL_eq]; exact h _
theorem NU.readAt {lk : LK} {k : Nat} {dyn : Bool} {l : List Value} {i : Nat} {ok : Bool} : NU (readAt lk k dyn l i ok) := by
  cases dyn <;> cases lk <;> first | exact .rv | exact .must (.fz fun _ => .rv) | exact .must (.normL fun _ => .rv)
theorem NU.binI {op : BinOp} {k : IntKind} {x y : Int} : NU (binI op k x y) := by cases op <;> exact .rv
theorem NU.binS {op : BinOp} {x y : ByteArray} : NU (binS op x y) := by cases op <;> first | exact .rv | exact .none
theorem NU.sliceOf {size : Nat} {lo hi : Option Operand} {vs : List Value} {len cap : Nat} {f : Nat → Option Addr} : NU (sliceOf size lo hi vs len cap f) := by
  unfold X.sliceOf; split
  · exact .zero
  · exact .none

theorem act_nu {o : XOp} {vs : List Value} {bs : List Blk} {n hint : Nat} : NU (o.act vs bs n hint) := by
  cases o with
  | mv _ => show NU (aMv vs); unfold aMv; split <;> first | exact .rv | exact .none
  | pick _ _ _ =>
    show NU (aPick vs); unfold aPick; split
    · split <;> exact .rv
    · exact .none
  | new row => exact .cons
  | box _ =>
    show NU (aBox n vs); unfold aBox; split
    · exact .normL fun _ => .must .cons
    · exact .none
  | build zero ps =>
    show NU (aBuild zero ps vs); unfold aBuild; split
    · exact .normL fun _ => .rv
    · exact .none
  | mkslice zero len ps =>
    show NU (aMkslice zero len ps n vs); unfold aMkslice; split
    · exact .normL fun _ => .must .cons
    · exact .none
  | load lk k _ => show NU (aLoad lk k vs bs); rw [aLoad_eq]; unfold aLoad0; split <;> first | exact .readAt | exact .none
  | store k _ _ =>
    show NU (aStore k vs bs); rw [aStore_eq]; unfold aStore0; split
    · exact .normL fun _ => .must (.normL fun _ => .zero)
    · exact .must (.fz fun _ => .fzL fun _ => .zero)
    · exact .normL fun _ => .must (.normL fun _ => .zero)
    · exact .none
  | nilck _ => show NU (aNilck vs); unfold aNilck; split <;> first | exact .rv | exact .none
  | bin op _ _ =>
    show NU (aBin op vs); unfold aBin; split
    · split
      · exact .binI
      · exact .none
    · exact .binS
    · exact .none
  | eqb neg _ _ => show NU (aEqb neg vs); unfold aEqb; split <;> first | exact .rv | exact .none
  | eqnil kind neg _ _ => show NU (aEqnil kind neg vs); unfold aEqnil; repeat' split
                          all_goals first | exact .rv | exact .none
  | eqagg neg ks _ _ => show NU (aEqagg neg ks vs); unfold aEqagg; repeat' split
                        all_goals first | exact .rv | exact .none
  | un op _ => show NU (aUn op vs); unfold aUn; repeat' split
               all_goals first | exact .rv | exact .none
  | conv k _ => show NU (aConv k vs); unfold aConv; split <;> first | exact .rv | exact .none
  | same _ => show NU (aSame vs); unfold aSame; split <;> first | exact .rv | exact .none
  | s2b _ => show NU (aS2b n vs); unfold aS2b; split <;> first | exact .cons | exact .none
  | b2s _ => show NU (aB2s vs bs); rw [aB2s_eq]; unfold aB2s0; split <;> first | exact .rv | exact .none
  | mkif t _ => show NU (aMkif t vs); unfold aMkif; split <;> first | exact .rv | exact .none
  | mkfunc fn k _ => exact .rv
  | mkmap kt et zero => exact .cons
  | lookup kt et kd zero ok _ _ =>
    show NU (aLookup kt et kd zero ok vs bs); unfold aLookup; split
    · exact .must .rv
    · exact .rv
    · exact .none
  | mapupd kt et kd _ _ _ =>
    show NU (aMapupd kt et kd vs bs); unfold aMapupd; split
    · exact .must .zero
    · exact .none
  | mks zero bytes _ _ => show NU (aMks zero bytes n vs); unfold aMks; split <;> first | exact .cons | exact .none
  | slS size _ lo hi =>
    show NU (aSlS size lo hi vs bs); unfold aSlS; split
    · split <;> first | exact .rv | exact .none
    · exact .must .sliceOf
    · exact .sliceOf
    · exact .none
  | slStr _ lo hi => show NU (aSlStr lo hi vs); unfold aSlStr; repeat' split
                     all_goals first | exact .rv | exact .none
  | slArr k size _ lo hi => show NU (aSlArr k size lo hi vs); unfold aSlArr; split <;> first | exact .sliceOf | exact .none
  | faddr off _ => show NU (aFaddr off vs); unfold aFaddr; split <;> first | exact .rv | exact .none
  | field lk off k _ => show NU (aField lk off k vs); unfold aField; split <;> first | exact .readAt | exact .none
  | iaddrS size _ _ =>
    show NU (aIaddrS size vs bs); unfold aIaddrS; split
    · exact .must .rv
    · exact .rv
    · exact .none
  | iaddrA dyn len size _ _ => show NU (aIaddrA dyn len size bs vs); unfold aIaddrA; repeat' split
                               all_goals first | exact .rv | exact .none
  | idxA len size lk _ _ => show NU (aIdxA len size lk vs); unfold aIdxA; split <;> first | exact .readAt | exact .none
  | idxStr _ _ => show NU (aIdxStr vs); unfold aIdxStr; split <;> first | exact .rv | exact .none
  | ext _ i => show NU (aExt i vs); unfold aExt; repeat' split
               all_goals first | exact .rv | exact .none
  | lenS _ => show NU (aLenS vs); unfold aLenS; split <;> first | exact .rv | exact .none
  | lenStr _ => show NU (aLenStr vs); unfold aLenStr; split <;> first | exact .rv | exact .none
  | lenM _ => show NU (aLenM vs bs); unfold aLenM; split <;> first | exact .rv | exact .none
  | app size bytes _ _ =>
    show NU (actApp size bytes vs bs n hint)
    unfold actApp
    split
    · split
      · split
        · exact .cons
        · exact .zero
        · exact .cons
        · exact .zero
      · exact .none
    · split
      · simp only
        split
        · exact .cons
        · exact .zero
        · rcases appPick_or _ _ _ _ with e | e
          · rw [e]; exact .zero
          · rw [e]; exact .cons
      · exact .none
    · exact .none
  | cpy size _ _ =>
    show NU (actCpy size vs bs); unfold actCpy; repeat' split
    all_goals first | exact .zero | exact .none
  | minmax isMax _ => show NU (aMinmax isMax vs); unfold aMinmax; repeat' split
                      all_goals first | exact .rv | exact .none
end Go.X
namespace Go.X
open Go

structure Rec where
  put : Tm
  upd : List (Nat × Option Blk)
  rd : List Nat
  n : Nat
  news : Nat

/-- What an operation did. -/
def StepR (ce : CE) (hints : List (Nat × Nat)) (o : XOper) (i : Nat) (t : Tm) (h : Hp) (n : Nat) (r : Rec) : Prop :=
  r.n = n ∧ ∃ g, gd t o.guard = some (true, g) ∧
    ((g = false ∧ (∃ c v, r.put = putT [] o.dst c v ∧ (c = true → v = undefd)) ∧ r.upd = [] ∧ r.news = 0 ∧ r.rd = []) ∨
     (∃ v ok pr, eff ce (hintOf hints i) i o.k t h n = some ⟨r.rd, v, r.upd, r.news, ok, pr⟩ ∧ (g = true ∧ ok = true ∧ pr) ∧ r.put = putT [] o.dst true v ∧ (r.upd = [] → r.news = 0)))

def XR (ce : CE) (hints : List (Nat × Nat)) : List XOper → Nat → Tm → Hp → Nat → List Rec → Prop
  | [], _, _, _, _, [] => True
  | o :: os, i, t, h, n, r :: rs => StepR ce hints o i t h n r ∧ XR ce hints os (i + 1) (r.put ++ t) (r.upd ++ h) (n + r.news) rs
  | _, _, _, _, _, _ => False

def putsOf : List Rec → Tm → Tm
  | [], t => t
  | r :: rs, t => putsOf rs (r.put ++ t)
def updsOf : List Rec → Hp → Hp
  | [], h => h
  | r :: rs, h => updsOf rs (r.upd ++ h)
def newsOf : List Rec → Nat → Nat
  | [], n => n
  | r :: rs, n => newsOf rs (n + r.news)

def TrOf : List Rec → Nat → List Foot → Prop
  | [], _, _ => True
  | r :: rs, i, tr => ((r.rd = [] ∧ r.upd = []) ∨ ⟨i, r.rd, fstL r.upd⟩ ∈ tr) ∧ TrOf rs (i + 1) tr

theorem putT_append (t : Tm) (d : Option Nat) (c : Bool) (v : Value) : putT [] d c v ++ t = putT t d c v := by cases d <;> rfl

theorem eff_nu {P : Program} {ce : CE} (hce : CEok P ce) {hint i : Nat} {k : XK} {t : Tm} {h : Hp} {n : Nat} {rd v upd news ok pr} (he : eff ce hint i k t h n = some ⟨rd, v, upd, news, ok, pr⟩)
    (hok : ok = true) (hpr : pr) (hu : upd = []) : news = 0 := by
  have call : ∀ f c vs, effC ce i f c vs h n = some ⟨rd, v, upd, news, ok, pr⟩ → news = 0 := by
    intro f c vs hc
    unfold effC at hc
    split at hc
    · rename_i pre v' upd' news' ok' pr' hh
      simp only [Option.some.injEq, Eff.mk.injEq] at hc
      obtain ⟨rfl, rfl, rfl, rfl, rfl, rfl⟩ := hc
      simp only [Bool.and_eq_true] at hok
      exact (hce _ _ _ _ _ _ _ _ _ _ _ hh hok.2 hpr).2.2.1 hu
    · cases hc
  cases k with
  | op o =>
    simp only [eff, effX] at he
    split at he
    · split at he
      · split at he
        · rename_i hh
          simp only [Option.some.injEq, Eff.mk.injEq] at he
          obtain ⟨rfl, rfl, rfl, rfl, rfl, rfl⟩ := he
          exact act_nu _ hh hu
        · cases he
      · cases he
    · cases he
  | pick c a b =>
    simp only [eff] at he
    repeat' split at he
    all_goals first
      | (cases he; done)
      | (simp only [Option.some.injEq, Eff.mk.injEq] at he; exact he.2.2.2.1.symm)
  | callF f xs =>
    simp only [eff] at he
    split at he
    · exact call _ _ _ he
    · cases he
  | callV x xs =>
    simp only [eff] at he
    split at he
    · exact call _ _ _ he
    · cases he

theorem xrun_mono {ce : CE} {hints : List (Nat × Nat)} : ∀ {os : List XOper} {i : Nat} {t : Tm} {h : Hp} {n : Nat} {ok : Bool} {pr : Prop} {tr : List Foot} {s : RS},
    xrun ce hints os i t h n ok pr tr = some s → s.ok = true → s.pr → ok = true ∧ pr ∧ ∀ f ∈ tr, f ∈ s.tr := by
  intro os
  induction os with
  | nil =>
    intro i t h n ok pr tr s hx hok hpr
    simp only [xrun, Option.some.injEq] at hx; subst hx
    exact ⟨hok, hpr, fun _ h => h⟩
  | cons o os ih =>
    intro i t h n ok pr tr s hx hok hpr
    simp only [xrun] at hx
    repeat' split at hx
    all_goals first
      | cases hx; done
      | (have := ih hx hok hpr
         simp only [Bool.and_eq_true] at this
         refine ⟨(by first | exact this.1.2.2 | exact this.1.2), ?_, fun f hf => this.2.2 f ?_⟩
         · first
            | exact this.2.1.1
            | exact this.2.1
         · first
            | exact hf
            | exact List.mem_cons_of_mem _ hf)

theorem xrun_recs {P : Program} {ce : CE} (hce : CEok P ce) {hints : List (Nat × Nat)} : ∀ {os : List XOper} {i : Nat} {t : Tm} {h : Hp} {n : Nat} {ok : Bool} {pr : Prop} {tr : List Foot} {s : RS},
    xrun ce hints os i t h n ok pr tr = some s → s.ok = true → s.pr →
    ∃ rs, XR ce hints os i t h n rs ∧ s.t = putsOf rs t ∧ s.h = updsOf rs h ∧ s.n = newsOf rs n ∧ TrOf rs i s.tr := by
  intro os
  induction os with
  | nil =>
    intro i t h n ok pr tr s hx hok hpr
    simp only [xrun, Option.some.injEq] at hx; subst hx
    exact ⟨[], trivial, rfl, rfl, rfl, trivial⟩
  | cons o os ih =>
    intro i t h n ok pr tr s hx hok hpr
    simp only [xrun] at hx
    cases hg : gd t o.guard with
    | none => simp [hg] at hx
    | some cg =>
      obtain ⟨c, g⟩ := cg
      simp only [hg] at hx
      -- the skipped one
      have skip : ∀ {ok' : Bool} {pr' : Prop} {tr' : List Foot} {c' : Bool} {v : Value}, g = false → c = true → (c' = true → v = undefd) → xrun ce hints os (i + 1) (putT t o.dst c' v) h n ok' pr' tr' = some s →
          ∃ rs, XR ce hints (o :: os) i t h n rs ∧ s.t = putsOf rs t ∧ s.h = updsOf rs h ∧ s.n = newsOf rs n ∧ TrOf rs i s.tr := by
        intro ok' pr' tr' c' v h0 hc hv hx
        obtain ⟨rs, h1, h2, h3, h4, h5⟩ := ih hx hok hpr
        refine ⟨⟨putT [] o.dst c' v, [], [], n, 0⟩ :: rs, ⟨⟨rfl, g, by rw [hg, hc], .inl ⟨h0, ⟨c', v, rfl, hv⟩, rfl, rfl, rfl⟩⟩, ?_⟩, ?_, h3, h4, ⟨.inl ⟨rfl, rfl⟩, h5⟩⟩
        · simp only [putT_append]; exact h1
        · simp only [putsOf, putT_append]; exact h2
      have run : ∀ {rd v upd news ok1 pr1} {ok' : Bool} {pr' : Prop} {tr' : List Foot}, eff ce (hintOf hints i) i o.k t h n = some ⟨rd, v, upd, news, ok1, pr1⟩ →
          g = true → c = true → (ok1 = true ∧ pr1) → (upd = [] → news = 0) → ⟨i, rd, fstL upd⟩ ∈ tr' →
          xrun ce hints os (i + 1) (putT t o.dst true v) (upd ++ h) (n + news) ok' pr' tr' = some s →
          ∃ rs, XR ce hints (o :: os) i t h n rs ∧ s.t = putsOf rs t ∧ s.h = updsOf rs h ∧ s.n = newsOf rs n ∧ TrOf rs i s.tr := by
        intro rd v upd news ok1 pr1 ok' pr' tr' he hg1 hc h1' hu htr hx
        obtain ⟨hok', hpr', htr'⟩ := xrun_mono hx hok hpr
        obtain ⟨rs, h1, h2, h3, h4, h5⟩ := ih hx hok hpr
        refine ⟨⟨putT [] o.dst true v, upd, rd, n, news⟩ :: rs, ⟨⟨rfl, g, by rw [hg, hc], .inr ⟨v, ok1, pr1, he, ⟨hg1, h1'⟩, rfl, hu⟩⟩, ?_⟩, ?_, h3, h4, ⟨.inr (htr' _ htr), h5⟩⟩
        · simp only [putT_append]; exact h1
        · simp only [putsOf, putT_append]; exact h2
      have skipN : ∀ {ok' : Bool} {pr' : Prop} {tr' : List Foot}, g = false → (ok' = true → c = true) → (match o.dst with
          | some d => xrun ce hints os (i + 1) ((d, true, undefd) :: t) h n ok' pr' tr'
          | none => xrun ce hints os (i + 1) t h n ok' pr' tr') = some s →
          ∃ rs, XR ce hints (o :: os) i t h n rs ∧ s.t = putsOf rs t ∧ s.h = updsOf rs h ∧ s.n = newsOf rs n ∧ TrOf rs i s.tr := by
        intro ok' pr' tr' h0 hc hx
        have hx : xrun ce hints os (i + 1) (putT t o.dst true undefd) h n ok' pr' tr' = some s := by
          revert hx; cases o.dst <;> exact id
        exact skip h0 (hc (xrun_mono hx hok hpr).1) (fun _ => rfl) hx
      cases he : eff ce (hintOf hints i) i o.k t h n with
      | none =>
        simp only [he] at hx
        cases g with
        | true => simp at hx
        | false =>
          refine skipN (ok' := c && ok) (pr' := pr) (tr' := tr) rfl (fun e => by simp at e; exact e.1) ?_
          revert hx; cases o.dst <;> exact id
      | some E =>
        obtain ⟨rd, v, upd, news, ok1, pr1⟩ := E
        simp only [he] at hx
        cases upd with
        | nil =>
          have hx2 : xrun ce hints os (i + 1) (putT t o.dst g v) h n ((ok1 || !g) && (c && ok)) (pr ∧ (g = true → pr1)) (⟨i, rd, []⟩ :: tr) = some s := by
            revert hx; cases o.dst <;> exact id
          obtain ⟨hok', hpr', htr'⟩ := xrun_mono hx2 hok hpr
          simp only [Bool.and_eq_true, Bool.or_eq_true, Bool.not_eq_true'] at hok'
          cases g with
          | false => exact skip rfl hok'.2.1 (fun e => by cases e) hx2
          | true =>
            have hok1 : ok1 = true := by simpa using hok'.1
            have hnews : news = 0 := eff_nu hce he hok1 (hpr'.2 rfl) rfl
            subst hnews
            exact run he rfl hok'.2.1 ⟨hok1, hpr'.2 rfl⟩ (fun _ => rfl) (.head _) hx2
        | cons b upd =>
          cases g with
          | false =>
            refine skipN (ok' := c && ok) (pr' := pr) (tr' := tr) rfl (fun e => by simp at e; exact e.1) ?_
            revert hx; cases o.dst <;> exact id
          | true =>
            have hx : xrun ce hints os (i + 1) (putT t o.dst true v) ((b :: upd) ++ h) (n + news) (ok1 && (c && ok)) (pr ∧ pr1) (⟨i, rd, fstL (b :: upd)⟩ :: tr) = some s := by
              revert hx; cases o.dst <;> exact id
            obtain ⟨hok', hpr', htr'⟩ := xrun_mono hx hok hpr
            simp only [Bool.and_eq_true] at hok'
            exact run he rfl hok'.2.1 ⟨hok'.1, hpr'.2⟩ (fun e => by cases e) (.head _) hx
end Go.X
