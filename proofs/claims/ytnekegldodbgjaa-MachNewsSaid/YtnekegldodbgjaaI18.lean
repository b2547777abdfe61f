import Derived.Test.YtnekegldodbgjaaI17
set_option linter.all false
namespace Go.X
open Go
theorem natMem_mem {k : Nat} : ∀ {l : List Nat}, natMem k l = true -> k ∈ l
  | [], h => by cases h
  | a :: l, h => by
    simp only [natMem, Bool.or_eq_true] at h
    rcases h with h | h
    · have := Nat.eq_of_beq_eq_true h; subst this; exact List.mem_cons_self
    · exact List.mem_cons_of_mem _ (natMem_mem h)
theorem relH_ro {P : Program} {ρ ρ' : Rn} {pre pre0 upd : Hp} {w w' : World} (hr : RelH P ρ (hget pre) w) (h2 : ∀ id b, hget pre id = some b -> b.ro = false -> hget pre0 id = some b)
    (hle : Le ρ ρ') (hrel : RelH P ρ' (hget (upd ++ pre0)) w') (hfr : Fr (Own ρ (hget pre)) w w') (hown : ∀ k, Own ρ' (hget (upd ++ pre0)) k -> Own ρ (hget pre) k \/ w.heap.size <= k) :
    RelH P ρ' (hget (upd ++ pre)) w' := by
  have key : ∀ id b, hget (upd ++ pre) id = some b -> hget (upd ++ pre0) id = some b \/ (b.ro = true /\ hget pre id = some b) := by
    intro id b h
    cases hm : natMem id (fstL upd) with
    | true => exact .inl (by rw [hget_in (h := pre0) (h' := pre) (natMem_mem hm)]; exact h)
    | false =>
      rw [hget_nin' hm] at h ⊢
      cases hb : b.ro with
      | false => exact .inl (h2 id b h hb)
      | true => exact .inr ⟨rfl, h⟩
  have base : ∀ id b, hget pre id = some b -> b.ro = true -> ∃ l, ρ id = some l /\ Holds P ρ w l b /\ (b.touch -> ¬ Own ρ (hget pre) l.addr.block) := by
    intro id b h hb
    obtain ⟨l, hl, hh⟩ := hr.holds id b h
    refine ⟨l, hl, hh, fun ht => ?_⟩
    rintro ⟨id2, b2, l2, g2, r2, p2, e2⟩
    refine hr.sep id2 b2 id b l2 l g2 h ?_ r2 ht p2 hl e2
    rintro rfl
    rw [h] at g2; cases g2; rw [hb] at r2; cases r2
  refine ⟨fun id b h => ?_, fun id b id' b' l l' h h' hne hro ht hl hl' => ?_⟩
  · rcases key id b h with h | ⟨hb, h⟩
    · exact hrel.holds id b h
    · obtain ⟨l, hl, hh, hno⟩ := base id b h hb
      exact ⟨l, hle _ _ hl, hh.stay hle fun ht => hfr.block _ (hh.lt ht) (hno ht)⟩
  · have h0 : hget (upd ++ pre0) id = some b := by
      rcases key id b h with h | ⟨hb, _⟩
      · exact h
      · rw [hro] at hb; cases hb
    rcases key id' b' h' with h' | ⟨hb, h'⟩
    · exact hrel.sep id b id' b' l l' h0 h' hne hro ht hl hl'
    · obtain ⟨m, hm, hh, hno⟩ := base id' b' h' hb
      have : m = l' := by have := hle _ _ hm; rw [hl'] at this; exact (Option.some.inj this).symm
      subst this
      rcases hown _ ⟨id, b, l, h0, hro, hl, rfl⟩ with ho | hs
      · intro e; rw [e] at ho; exact hno ht ho
      · have := hh.lt ht; omega
theorem body_of_ro {P : Program} {f N n0 news : Nat} {rts : List Rx} {x : XCode} {vs : List Value} {pre upd : Hp} {vv : Value} (pre0 : Hp) (hm : P.follows .mixedOrders = true) (hf : fnx P f = some (N, rts, x)) (hlen : vs.length <= N)
    (h2 : ∀ id b, hget pre id = some b -> b.ro = false -> hget pre0 id = some b)
    (hx : ∀ (E : FEnv) (Q : Post), E.P = P -> E.B.n = n0 -> Cl E.toEnv Q -> (∀ e s, finP E.toEnv rts pre0 vv upd news e s -> Q e s) -> XWP E.toEnv x Q ⟨argTm 0 vs, pre, n0⟩) : Body P f vs pre vv upd n0 news := by
  unfold fnx at hf
  split at hf
  · rename_i fn hfn
    split at hf
    · rename_i c rts' hb hrt
      split at hf
      · rename_i x' hc
        cases hnm : (fn.name == "runtime.NumGoroutine") with
        | true => rw [hnm] at hf; cases hf
        | false =>
          rw [hnm] at hf
          simp only [cond_false, Option.some.injEq, Prod.mk.injEq] at hf
          obtain ⟨rfl, rfl, rfl⟩ := hf
          refine ⟨by simp [plainFn, hfn, hb]; simpa using hnm, fun ρ w cargs hvl hr hd => ?_⟩
          have hcl : cargs.size = vs.length := by rw [hvl.length]; simp
          refine calls_of_wp hfn hb (wp_mono (hx (envOf P _ n0 pre hm ρ w hd) _ rfl rfl cl_fin (fun _ _ h => h) c hc _ w ?_) ?_)
          · refine ⟨Nat.le_refl _, ρ, ⟨fun k b u hl => ?_, ?_, rfl, hr, Fr.refl _ _, fun k hk => .inl hk, Le.refl _, fun id h0 h1 => absurd h0 h1⟩, fun _ _ => rfl⟩
            · obtain ⟨rfl, _, h2⟩ := argTm_look vs 0 k b u hl
              rw [Nat.sub_zero] at h2
              have hk : k < cargs.size := by rw [hcl]; exact lt_of_get h2
              refine ⟨cargs[k], ?_, fun _ => hvl.get h2 (by simp [hk]), fun e => by cases e⟩
              simp [Array.getElem?_append, hk]
            · have hl := hlen
              rw [<- hcl] at hl
              simp [envOf]
              exact Nat.add_sub_of_le hl
          · rintro e a w' ⟨s, ⟨he, t, hwk, hres⟩, hrel⟩
            obtain ⟨hBn, ρ', hcore, hfree⟩ := hwk a w' hrel
            obtain ⟨cv, hrun, hv⟩ := results_run (P := P) (w := w') hrt hcore.tm hcore.rel hres
            have hR := relH_ro hr h2 hcore.le hcore.rel hcore.fr hcore.own
            have : a.defers = [] /\ ∃ v, (results fn a.tmps).run P w' = .ok v w' /\ ∃ ρ', GoodN P ρ (hget pre) w n0 upd news ρ' w' /\ V ρ' vv v := by
              refine ⟨hcore.df, cv, hrun, ρ', ⟨hcore.le, fun id h0 h1 => ⟨hcore.new id h0 h1, ?_⟩, hR.congr fun id => (hget_append _ _ _).symm, hcore.fr, fun k hk => ?_⟩, hv⟩
              · rcases Nat.lt_or_ge id (n0 + news) with h | h
                · exact h
                · exact absurd ((hfree id h).trans (hd id (by omega))) h1
              · obtain ⟨id, b, l, hb, hro, hl, hx⟩ := hk
                cases hm : natMem id (fstL upd) with
                | true => exact hcore.own k ⟨id, b, l, by rw [hget_in (h := pre0) (h' := pre) (natMem_mem hm), hget_append]; exact hb, hro, hl, hx⟩
                | false =>
                  rw [<- hget_append, hget_nin' hm] at hb
                  exact hcore.own k ⟨id, b, l, by rw [hget_nin' hm]; exact h2 id b hb hro, hro, hl, hx⟩
            rcases he with rfl | rfl
            · exact this
            · exact this
      · cases hf
    · cases hf
  · cases hf
end Go.X
