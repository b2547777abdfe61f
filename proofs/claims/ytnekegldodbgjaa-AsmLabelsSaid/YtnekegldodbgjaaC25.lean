import Derived.Test.YtnekegldodbgjaaC23
import Derived.Test.YtnekegldodbgjaaC24
namespace Go.X
open Go Go.Proofs
def lookF : List (FuncId × (Nat × List Rx × XCode)) → Fns
  | [], _ => none
  | (k, y) :: l, f => cond (Nat.beq k f) (some y) (lookF l f)
def FL : List (FuncId × (Nat × List Rx × XCode)) := [(5, (122, [(4, none)], x5)),
  (16, (31, [(0, none)], x16)),
  (17, (77, [(4, none), (5, none), (6, none)], x17)),
  (18, (158, [(2, none), (3, none)], x18)),
  (19, (9, [(2, none)], x19)),
  (39, (109, [(2, none)], x39)),
  (40, (50, [], x40)),
  (41, (70, [(2, none)], x41)),
  (42, (99, [(4, none)], x42)),
  (43, (103, [(0, none)], x43)),
  (44, (16, [(2, none), (3, none)], x44)),
  (45, (20, [(2, (some (.agg, 3)))], x45)),
  (46, (35, [(2, none)], x46)),
  (51, (85, [(2, none)], x51)),
  (52, (9, [(2, none)], x52)),
  (53, (20, [(4, none)], x53)),
  (54, (8, [(2, none)], x54)),
  (55, (7, [(2, none)], x55)),
  (56, (7, [(2, none)], x56)),
  (57, (28, [], x57)),
  (71, (11, [(2, none), (3, none)], x71))]
def allF (P : Program) : List (FuncId × (Nat × List Rx × XCode)) → Prop
  | [] => True
  | (k, y) :: l => fnx P k = some y ∧ allF P l
theorem lookF_ok {P : Program} : ∀ {l : List (FuncId × (Nat × List Rx × XCode))}, allF P l → ∀ f y, lookF l f = some y → fnx P f = some y
  | [], _, _, _, h => by cases h
  | (k, z) :: l, ha, f, y, h => by
    simp only [lookF] at h
    cases hb : Nat.beq k f with
    | true => rw [hb] at h; simp at h; subst h; rw [← Nat.eq_of_beq_eq_true hb]; exact ha.1
    | false => rw [hb] at h; exact lookF_ok ha.2 f y h
theorem FL_ok : allF Try.prog FL := ⟨fx5, fx16, fx17, fx18, fx19, fx39, fx40, fx41, fx42, fx43, fx44, fx45, fx46, fx51, fx52, fx53, fx54, fx55, fx56, fx57, fx71, trivial⟩
def noSc : Short := fun _ _ _ _ => none
theorem mixed : Try.prog.follows .mixedOrders = true := by kernel_rfl
theorem FOK : FnsOK Try.prog (lookF FL) noSc := ⟨mixed, lookF_ok FL_ok, fun _ _ _ _ _ _ _ _ h => by cases h⟩
end Go.X
namespace Go.X
open Go

def resOf (r : Option CR) : Option (Value × Bool) :=
  match r with
  | some ⟨_, v, _, _, ok, _⟩ => some (v, ok)
  | none => none
def updOf (r : Option CR) : Hp :=
  match r with
  | some ⟨_, _, u, _, _, _⟩ => u
  | none => []
def newsOfR (r : Option CR) : Nat :=
  match r with
  | some ⟨_, _, _, m, _, _⟩ => m
  | none => 0

theorem callE_ok' {P : Program} {F : Fns} {sc : Short} (hF : FnsOK P F sc) (k : Nat) (o : List Br) : CEok P (callE F sc (exec F sc k o)) := by
  intro i f vs h n pre v upd news ok pr hc hok hpr
  exact callE_okO hF (exec_sound hF k) o i f vs h n pre v upd news ok pr hc hok hpr

theorem body_of_adet {P : Program} {f : FuncId} {vs : List Value} {pre : Hp} {v : Value} {upd : Hp} {n news : Nat} (h : ADet P f vs pre v upd n news) : Body P f vs pre v upd n news :=
  ⟨h.1, fun ρ w cargs hvl hr hd => h.2.2 ρ (hget pre) w cargs hvl hr (fun _ _ => rfl) (fun id h1 _ => hd id h1) ⟨n + news, Nat.le_refl _, hd _ (by omega)⟩⟩

theorem callE_shape {F : Fns} {sc : Short} {run : XCode → Tm → Hp → Nat → Option Ex} {i : Nat} {f : FuncId} {vs : List Value} {h : Hp} {n : Nat} {pre : Hp} {v : Value} {upd : Hp} {news : Nat} {ok : Bool} {pr : Prop} (hs : sc f vs h n = none)
    (hc : callE F sc run i f vs h n = some ⟨pre, v, upd, news, ok, pr⟩) : pre = h ∧ pr := by
  unfold callE at hc
  rw [hs] at hc
  simp only at hc
  repeat' split at hc
  all_goals first
    | (cases hc; done)
    | (simp only [mkCR, Option.some.injEq, CR.mk.injEq] at hc
       obtain ⟨rfl, rfl, hu, hnews, rfl, rfl⟩ := hc
       exact ⟨rfl, trivial⟩)

/-- What was run, as a body. -/
theorem body_run {P : Program} {F : Fns} {sc : Short} (hF : FnsOK P F sc) {k : Nat} {o : List Br} {f : FuncId} {vs : List Value} {pre : Hp} {n : Nat} {v : Value} {ok : Bool} (hs : sc f vs pre n = none)
    (h : resOf (callE F sc (exec F sc k o) 0 f vs pre n) = some (v, ok)) (hok : ok = true) :
    Body P f vs pre v (updOf (callE F sc (exec F sc k o) 0 f vs pre n)) n (newsOfR (callE F sc (exec F sc k o) 0 f vs pre n)) := by
  cases hc : callE F sc (exec F sc k o) 0 f vs pre n with
  | none => rw [hc] at h; cases h
  | some c =>
    obtain ⟨pre', v', upd, news, ok', pr⟩ := c
    rw [hc] at h
    simp only [resOf, Option.some.injEq, Prod.mk.injEq] at h
    obtain ⟨rfl, rfl⟩ := h
    obtain ⟨rfl, hpr⟩ := callE_shape hs hc
    exact body_of_adet (callE_ok' hF k o _ _ _ _ _ _ _ _ _ _ _ hc hok hpr).2

/-- A function that neither looks at nor leaves a block. -/
theorem adet_pure {P : Program} {F : Fns} {sc : Short} (hF : FnsOK P F sc) {k : Nat} {o : List Br} {f : FuncId} {vs : List Value} {n0 : Nat} {v : Value} {ok : Bool} (hs : sc f vs [] n0 = none)
    (h : resOf (callE F sc (exec F sc k o) 0 f vs [] n0) = some (v, ok)) (hok : ok = true) (hvs : rnL (asc []) vs = vs) (hv : rn (asc []) v = v) (n : Nat) : ADet P f vs [] v [] n 0 := by
  refine adet_of_body (body_run hF hs h hok) [] [] ?_ hvs trivial rfl hv trivial rfl
  rfl

/-- Of what was run: some temporaries, some blocks, the rest. -/
def prj (ks ids : List Nat) (r : Option Ex) : Option (List (Option (Bool × Value)) × List (Option Blk) × Exit × Nat × Bool) :=
  match r with
  | some ⟨_, e, t, h, n, ok⟩ => some (ks.map (look t), ids.map (hget h), e, n, ok)
  | none => none

theorem xwp_prj {E : FEnv} {Q : Post} {s : St} {F : Fns} {sc : Short} (hF : FnsOK E.P F sc) (k : Nat) (o : List Br) {x : XCode} {ks ids : List Nat} {ts : List (Option (Bool × Value))} {bs : List (Option Blk)} {e : Exit} {n : Nat} {ok : Bool}
    (he : prj ks ids (exec F sc k o x s.t s.h s.n) = some (ts, bs, e, n, ok)) (hok : ok = true) (hQ : ∀ t h, ks.map (look t) = ts → ids.map (hget h) = bs → Q e ⟨t, h, n⟩) : XWP E.toEnv x Q s := by
  cases hx : exec F sc k o x s.t s.h s.n with
  | none => rw [hx] at he; cases he
  | some r =>
    obtain ⟨o', e', t, h, n', ok'⟩ := r
    rw [hx] at he
    simp only [prj, Option.some.injEq, Prod.mk.injEq] at he
    obtain ⟨h1, h2, rfl, rfl, rfl⟩ := he
    exact xwp_exec hF k o hx hok (hQ t h h1 h2)
end Go.X
