import Derived.Test.YtnekegldodbgjaaI22
import Derived.Test.YtnekegldodbgjaaI15
import Derived.Test.YtnekegldodbgjaaRows
import Derived.WalkKit
import Derived.ProofKit
import Derived.OpenShut
import Derived.ChangeOld
import Derived.WideKeyPair
import Derived.Deep.Slices
import Derived.Below
import Derived.Test.YtnekegldodbgjaaI18
import Derived.Laws.IdiomRangeMap
set_option linter.all false
namespace Go.X
open Go Go.Proofs
structure Its where
  lb : Nat -> ByteArray
  to : Nat -> ByteArray
  op : Nat -> Int
  rd : Nat -> Int
  rs1 : Nat -> Int
  rs2 : Nat -> Int
  imm : Nat -> Int
  part : Nat -> Int
def Its.row (I : Its) : Nat -> List Value := fun j => [.string (I.lb j), .int .i64 (I.op j), .int .i64 (I.rd j), .int .i64 (I.rs1 j), .int .i64 (I.rs2 j), .int .i64 (I.imm j), .string (I.to j), .int .i64 (I.part j)]
structure LMap where
  n : Nat
  has : Value -> Bool
  val : Value -> Int
def LMap.blk (m : LMap) : Blk := .map 9 3 m.n m.has (fun q => .int .i64 (m.val q))
theorem wrap_i {n : Int} (h : -9223372036854775808 <= n) (h' : n < 9223372036854775808) : IntKind.i64.wrap n = n := by
  rw [IntKind.wrap_i64]
  omega
end Go.X
namespace Go.X
open Go Go.Proofs
attribute [local congr] cond_ctx
end Go.X
namespace Go.X
open Go Go.Proofs
theorem bis_rw {P : Program} {σ : Nm} {n s : Nat} {f : Nat -> List Value} {o r : Bool} (h : ∀ j, j < n -> rnL σ (f j) = f j) : BIs P σ (.rows n s f o r) (.rows n s f o r) :=
  ⟨rfl, rfl, h, by cases o <;> simp, by cases r <;> simp⟩
section
variable (N C : Nat) (at_ : Int) (I : Its)
variable (m : LMap) (pl : Nat -> Int)
structure Ins where
  op : Int
  rd : Int
  rs1 : Int
  rs2 : Int
  imm : Int
def Ins.row (i : Ins) : List Value := [.int .i64 i.op, .int .i64 i.rd, .int .i64 i.rs1, .int .i64 i.rs2, .int .i64 i.imm]
end
end Go.X
namespace Go.X
open Go Go.Proofs
section
variable (N C : Nat) (at_ : Int) (I : Its)
variable (wd : Nat -> Bool) (pl : Nat -> Int)
end
end Go.X
namespace Go.X
open Go Go.Proofs
section
variable (N C : Nat) (at_ : Int) (I : Its) (wd : Nat -> Bool) (m : LMap) (pl : Nat -> Int)
end
end Go.X
namespace Go.X
open Go Go.Proofs
attribute [local congr] cond_ctx
end Go.X
namespace Go.X
open Go Go.Proofs
def m0 : LMap := ⟨0, fun _ => false, fun _ => 0⟩
end Go.X
namespace Go.X
open Go Go.Proofs
section
variable (N C : Nat) (at_ : Int) (I : Its)
variable {ρ : Rn} {w : World} {hd : ∀ id, 100 <= id -> ρ id = none}
end
end Go.X
namespace Go.X
open Go Go.Proofs
section
variable (N C : Nat) (at_ : Int) (I : Its)
variable {ρ : Rn} {w : World} {hd : ∀ id, 100 <= id -> ρ id = none}
end
end Go.X
namespace Go.X
open Go Go.Proofs
section
variable (N C : Nat) (at_ : Int) (I : Its)
variable {ρ : Rn} {w : World} {hd : ∀ id, 100 <= id -> ρ id = none}
end
section
variable (N C : Nat) (at_ : Int) (I : Its)
end
end Go.X
namespace Go.X
open Go

end Go.X
namespace Go.X
open Go Go.Proofs
theorem beq_ff {a b : Nat} (h : a ≠ b) : Nat.beq a b = false := by
  cases hb : Nat.beq a b with
  | false => rfl
  | true => exact absurd (Nat.eq_of_beq_eq_true hb) h
end Go.X
namespace Go.X
open Go Go.Proofs
end Go.X
namespace Go.X
open Go Go.Proofs
attribute [local congr] cond_ctx
end Go.X
namespace Go.X
open Go Go.Proofs
theorem beq_dec (a b : Nat) : Nat.beq a b = decide (a = b) := by
  by_cases h : a = b
  · subst h; simp
  · rw [beq_ff h]; simp [h]
theorem xwp_seqW {E : FEnv} {Q : Post} {s : St} {F : Fns} {sc : Short} {x y : XCode} {p r q : Pj} {l : Leaf} (hcl : Cl E.toEnv Q) (hF : FnsOK E.P F sc) (k : Nat) (he : walk F sc k x s.t s.h s.n p r q = some ⟨l, none⟩) (hn : l.e = .normal) (s' : St)
    (hl : LeafTo E ((pjOf p r l.e).ks ++ (pjOf p r l.e).uk) (ext (pjOf p r l.e) s.t s.h l) s') (hQ : XWP E.toEnv y Q s') : XWP E.toEnv (.seq x y) Q s :=
  xwp_seq (xwp_toEnd (cl_seqP hcl) hF k he s' hl (by rw [hn]; exact hQ))
end Go.X
namespace Go.X
open Go Go.Proofs
section
variable (a a0 a1 : Int)
variable {ρ : Rn} {w : World} {hd : ∀ id, 2 <= id -> ρ id = none}
end
end Go.X
namespace Go.X
open Go Go.Proofs
attribute [local congr] cond_ctx

end Go.X
namespace Go.X
open Go Go.Proofs
def uB (b : Int) : Bool := decide (0 <= b) && decide (b < 18446744073709551616)
end Go.X
namespace Go.X
open Go Go.Proofs
theorem call_ro {P : Program} {f : FuncId} {vs : List Value} {b : Bool} {n0 : Nat} {pre : Hp} {args : Array Value} {w : World} (h : Body P f vs pre (.bool b) [] n0 0) (ρ : Rn) (hd : ∀ id, n0 <= id -> ρ id = none)
    (hr : RelH P ρ (hget pre) w) (hro : ∀ id b, hget pre id = some b -> b.ro = true) (ha : VL ρ vs args.toList) :
    Calls P f args w fun e w' => e = .returned (.bool b) /\ Go.RowKit.Below w.heap.size w w' := by
  refine (h.2 ρ w args ha hr hd).mono fun e w' he => ?_
  cases e with
  | returned c =>
    obtain ⟨ρ', good, hv⟩ := he
    rw [v_bool hv]
    refine ⟨rfl, good.fr.os, good.fr.tape, good.fr.output, good.fr.size, fun k hk => good.fr.block k hk ?_⟩
    rintro ⟨id, b, l, h0, h1, _⟩
    rw [hro id b h0] at h1; cases h1
  | _ => exact he.elim
theorem okWide_has {P : Program} {w : World} {r : Reach} {base : Nat} {t : TypeId} {v : Value} {k : IntKind} (ht : P.underlying t = some (.int k)) (h : Value.okWide P w r base t v) : ∃ n, v = .int k n /\ k.has n := by
  simp only [Value.okWide, ht, Cell.okWide] at h
  cases v <;> simp_all [Cell.ok]
theorem lit_has {k : IntKind} {n : Int} (h : (Lit.int k n).wf = true) : k.has n := by simpa [Lit.wf, IntKind.has] using h
structure RoIn where
  id : Nat
  a : Addr
  n : Nat
  k : IntKind
  f : Nat -> Int
def RoIn.blk (x : RoIn) : Nat × Blk := (x.id, .rows x.n 1 (fun j => [.int x.k (x.f j)]) false true)
def rhoOf : List RoIn -> Rn
  | [] => fun _ => none
  | x :: l => fun id => cond (Nat.beq x.id id) (some ⟨x.a, 1, 0⟩) (rhoOf l id)
theorem hget_ro : ∀ {l : List RoIn} {id : Nat} {b : Blk}, hget (mkH (l.map RoIn.blk)) id = some b -> ∃ x ∈ l, x.id = id /\ b = x.blk.2 /\ rhoOf l id = some ⟨x.a, 1, 0⟩
  | [], id, b, h => by cases h
  | x :: l, id, b, h => by
    simp only [List.map_cons, mkH, RoIn.blk, hget] at h
    cases hb : Nat.beq x.id id with
    | true =>
      rw [hb] at h
      simp only [cond_true, Option.some.injEq] at h
      exact ⟨x, List.mem_cons_self, Nat.eq_of_beq_eq_true hb, h.symm, by simp only [rhoOf, hb, cond_true]⟩
    | false =>
      rw [hb] at h
      obtain ⟨y, hy, h1, h2, h3⟩ := hget_ro h
      exact ⟨y, List.mem_cons_of_mem _ hy, h1, h2, by simp only [rhoOf, hb, cond_false]; exact h3⟩
theorem ro_in {l : List RoIn} {id : Nat} {b : Blk} (h : hget (mkH (l.map RoIn.blk)) id = some b) : b.ro = true := by
  obtain ⟨x, _, _, rfl, _⟩ := hget_ro h; rfl
theorem dom_in {n0 : Nat} : ∀ {l : List RoIn}, (∀ x ∈ l, x.id < n0) -> ∀ id, n0 <= id -> rhoOf l id = none
  | [], _, _, _ => rfl
  | x :: l, h, id, hid => by
    have := h x List.mem_cons_self
    simp only [rhoOf]
    rw [show Nat.beq x.id id = false from beq_ff (by omega), cond_false]
    exact dom_in (fun y hy => h y (List.mem_cons_of_mem _ hy)) id hid
theorem relH_in {P : Program} {l : List RoIn} {w : World} (h : ∀ x ∈ l, ∀ i, i < x.n -> w.cell? (x.a.add i) = some (.int x.k (x.f i))) : RelH P (rhoOf l) (hget (mkH (l.map RoIn.blk))) w := by
  refine ⟨fun id b hb => ?_, fun id b id' b' l l' hb hb' hne hro => ?_⟩
  · obtain ⟨x, hx, h1, rfl, h3⟩ := hget_ro hb
    refine ⟨_, h3, rfl, fun _ h => (by cases h), fun i hi => ⟨rfl, fun o v hv => ?_⟩, fun h => (by cases h)⟩
    have ho : o < 1 := (List.getElem?_eq_some_iff.1 hv).1
    obtain rfl : o = 0 := by omega
    cases hv
    refine ⟨_, ?_, rfl, .int _ _⟩
    have := h x hx i hi
    simpa using this
  · rw [ro_in hb] at hro; cases hro
theorem slice_in {H : Type} {enc : TypeId × Value -> H} {P : Program} {W : World} {base : Nat} {t e : TypeId} {v : Value} {d : DataW H} {p : List MemPlace} {k : IntKind} (ht : P.underlying t = some (.slice e)) (he : P.underlying e = some (.int k)) (hc : P.cellsOf e = 1)
    (hok : Value.okWide P W .any base t v) (h : DataW.Trod enc P W 0 (fun _ => true) true t v d p) :
    ∃ (b : Bool) (a : Addr) (L C : Nat) (f : Nat -> Int), v = (bif b then .slice (some a) L C else .slice none 0 0) /\ (b = false -> L = 0) /\ L <= C /\ ∀ i, i < L -> W.cell? (a.add i) = some (.int k (f i)) /\ k.has (f i) := by
  obtain ⟨a0, len0, cap0, rfl⟩ := Go.WideShapes.okWide_slice ht hok
  obtain ⟨fuel, hf⟩ := h
  rcases Go.Deep.open_slice1 ht hc hf with ⟨hcs, _⟩ | ⟨a, len, cap, m, n, V, D, Pl, hcs, hb, hl, hm, hmm, hx, hi⟩
  · simp [Value.cells] at hcs
    obtain ⟨rfl, rfl, rfl⟩ := hcs
    exact ⟨false, ⟨0, 0, none⟩, 0, 0, fun _ => 0, rfl, fun _ => rfl, Nat.le_refl _, fun i hi => absurd hi (Nat.not_lt_zero _)⟩
  · simp [Value.cells] at hcs
    obtain ⟨rfl, rfl, rfl⟩ := hcs
    have hlm : len0 <= m := by rw [hmm]; simpa using hl
    have hE : ∀ i : Nat, ∃ z : Int, i < len0 -> W.cell? (a.add i) = some (.int k z) /\ k.has z := fun i => by
      by_cases hil : i < len0
      · obtain ⟨hc, ht⟩ := hi i (Nat.lt_of_lt_of_le hil hlm)
        obtain ⟨z, e, _, hwf⟩ := DataW.trod_int he ht
        have e := (List.cons.inj e).1
        exact ⟨z, fun _ => ⟨by rw [hc, e], lit_has hwf⟩⟩
      · exact ⟨0, fun h => absurd h hil⟩
    obtain ⟨J, hJ⟩ := Classical.axiomOfChoice hE
    exact ⟨true, a, len0, cap0, J, rfl, fun h => (by cases h), hl, hJ⟩
abbrev preOf {P : Program} {f : FuncId} {vs : List Value} {pre upd : Hp} {v : Value} {n0 news : Nat} (_ : Body P f vs pre v upd n0 news) : Hp := pre
theorem i64_rng {n : Int} (h : IntKind.i64.has n) : -9223372036854775808 <= n /\ n < 9223372036854775808 := ⟨h.1, by have := h.2; rw [show IntKind.i64.max = 9223372036854775807 from rfl] at this; omega⟩
theorem v_in {ρ : Rn} {b : Bool} {a : Addr} {id L C : Nat} (h : b = true -> ρ id = some ⟨a, 1, 0⟩) : V ρ (bif b then .slice (some ⟨id, 0, none⟩) L C else .slice none 0 0) (bif b then .slice (some a) L C else .slice none 0 0) := by
  cases b with
  | false => exact .snil
  | true => have h := V.slc (ρ := ρ) (id := id) (idx := 0) (l := ⟨a, 1, 0⟩) (len := L) (cap := C) (h rfl); simpa [Addr.add] using h
end Go.X
namespace Go.X
open Go Go.Proofs
end Go.X
namespace Go.X
open Go Go.Proofs
def roundC {ι : Type} (R : ι -> Act -> World -> Prop) (μ : ι -> Nat) (k : ι) (Q : Exit -> Act -> World -> Prop) : Exit -> Act -> World -> Prop := fun e a w => match e with
  | .normal => ∃ k', μ k' < μ k /\ R k' a w
  | e => Q e a w
theorem wp_loopC {P : Program} {ca : Code} {Q : Exit -> Act -> World -> Prop} {ι : Type} (R : ι -> Act -> World -> Prop) (μ : ι -> Nat)
    (round : ∀ k a w, R k a w -> ca.wp P (roundC R μ k Q) a w) (k : ι) (a : Act) (w : World) (h : R k a w) : (Code.loop ca).wp P Q a w := by
  have hm : ∀ m, ∀ k a w, μ k = m -> R k a w -> ∀ (b : Frame) (kk : List Item) (cs : List Frame), ∃ e a' w', Q e a' w' /\ Arrives P (lone (b.at a (.code ca :: .inLoop ca :: kk)) cs w) b kk cs e a' w' := by
    intro m
    induction m using Nat.strongRecOn with
    | _ m ih =>
      intro k a w hk hr b kk cs
      obtain ⟨e, a₁, w₁, hq, harr⟩ := round k a w hr b (.inLoop ca :: kk) cs
      cases e with
      | normal =>
        obtain ⟨k', hlt, hr'⟩ := hq
        obtain ⟨e₂, a₂, w₂, hq₂, harr₂⟩ := ih (μ k') (hk ▸ hlt) k' a₁ w₁ rfl hr' b kk cs
        exact ⟨e₂, a₂, w₂, hq₂, .of_steps (Steps.trans harr (.one step_inLoop)) harr₂⟩
      | exit id => exact ⟨_, a₁, w₁, hq, .pass (x := .inLoop ca) rfl (fun _ _ => .inl (by simp)) harr⟩
      | goto l => exact ⟨_, a₁, w₁, hq, .pass (x := .inLoop ca) rfl (fun _ _ => .inl (by simp)) harr⟩
      | ret => exact ⟨_, a₁, w₁, hq, .pass (x := .inLoop ca) rfl (fun _ _ => .inl (by simp)) harr⟩
      | panic ch => exact ⟨_, a₁, w₁, hq, .pass (x := .inLoop ca) rfl (fun _ _ => .inl (by simp)) harr⟩
      | outgrown => exact ⟨_, a₁, w₁, hq, .pass (x := .inLoop ca) rfl (fun _ _ => .inl (by simp)) harr⟩
  intro b kk cs
  obtain ⟨e, a', w', hq, harr⟩ := hm _ k a w rfl h b kk cs
  exact ⟨e, a', w', hq, .of_steps (.one step_loop) harr⟩
end Go.X
namespace Go.X
open Go Go.Proofs
theorem wpOp_ok {P : Program} {ops : Array Oper} {Q : Exit -> Act -> World -> Prop} {j : Nat} {o : Oper} {K : Act -> World -> Prop} {a : Act} {w w' : World} {v : Value} (hoj : ops[j]? = some o) (hg : o.guard = none)
    (h : (execOp a.eval o).run P w = .ok (.value v) w') (hK : K (a.put o.dst v) w') : wpOp P ops Q j K a w := by
  unfold wpOp
  rw [hoj]
  have hw : Region.wanted o (yielded ops a.tmps) = true := by unfold Region.wanted; rw [hg]
  simp only [hw, if_true]
  refine .inl ?_
  unfold Oper.wp
  rw [h]
  exact hK
def fstC : Code -> Code
  | .seq a _ => a
  | c => c
def sndC : Code -> Code
  | .seq _ b => b
  | c => c
def inC : Code -> Code
  | .block _ a => a
  | .loop a => a
  | c => c
def opsC : Code -> Array Oper
  | .region _ o _ => o
  | _ => #[]
noncomputable def body20 : Code := match Try.f20.body with
  | some c => c
  | none => .skip
noncomputable def mid20 : Code := fstC (sndC body20)
noncomputable def loop20 : Code := sndC mid20
noncomputable def round20 : Code := inC (inC loop20)
end Go.X
namespace Go.X
open Go Go.Proofs
section
variable {P : Program} {ρ : Operand -> Value} {o : Oper} {w w' : World} {v : Value}
theorem exec_range {t : TypeId} {x : Operand} (ho : o.op = .range t x) (h : (Instr.range t (ρ x)).run P w = .ok v w') : (execOp ρ o).run P w = .ok (.value v) w' := by
  unfold execOp
  simp only [ho, Sem.run_bind, h, Result.andThen]
  rfl
theorem exec_next {x : Operand} {b : Bool} (ho : o.op = .next x b) (h : (Instr.next (ρ x) b o.type).run P w = .ok v w') : (execOp ρ o).run P w = .ok (.value v) w' := by
  unfold execOp
  simp only [ho, Sem.run_bind, h, Result.andThen]
  rfl
theorem exec_entry {x : Operand} (ho : o.op = .entry x) (h : (Instr.entry (ρ x)).run P w = .ok v w') : (execOp ρ o).run P w = .ok (.value v) w' := by
  unfold execOp
  simp only [ho, Sem.run_bind, h, Result.andThen]
  rfl
end
end Go.X
namespace Go.X
open Go
theorem entry_val {d : TypeDesc} {ρ : Rn} {z : Value} {has : Value -> Bool} {val : Value -> Value} {es : Array MapEntry} {clock : Nat} (hs : Stamps es clock) (h6 : ∀ e ∈ es.toList, keyOf d e.key = true)
    (h7 : ∀ q, keyOf d q = true -> match es.toList.find? (fun e => keq q e.key) with
        | some e => has q = true /\ V ρ (val q) e.val
        | none => has q = false /\ V ρ (val q) z) {e : MapEntry} (he : e ∈ es.toList) : has e.key = true /\ V ρ (val e.key) e.val := by
  have hk := h6 e he
  have h := h7 e.key hk
  cases hf : es.toList.find? (fun x => keq e.key x.key) with
  | none => exact absurd ((keq_eq hk hk).2 rfl) (List.find?_eq_none.1 hf e he)
  | some e1 =>
    rw [hf] at h
    have he1 := List.mem_of_find?_eq_some hf
    have hkk : keq e.key e1.key = true := by have := List.find?_some hf; simpa using this
    have hke : e.key = e1.key := (keq_eq hk (h6 e1 he1)).1 hkk
    have : e1 = e := by
      obtain ⟨i, hi⟩ := List.mem_iff_getElem?.1 he1
      obtain ⟨j, hj⟩ := List.mem_iff_getElem?.1 he
      have hij : i = j := by
        have hil : i < (es.toList.map (·.key)).length := by rw [List.length_map]; exact (List.getElem?_eq_some_iff.1 hi).1
        refine (List.getElem?_inj hil hs.2.2).1 ?_
        rw [List.getElem?_map, List.getElem?_map, hi, hj]
        simp [hke]
      subst hij
      rw [hi] at hj
      exact Option.some.inj hj
    subst this
    exact h
end Go.X
namespace Go.X
open Go Go.Proofs
def r20_0 : List XOper := [⟨(some 2), .op (.new [(.int .i64 0), (.int .i64 0), (.int .i64 0), (.int .i64 0), (.int .i64 0)]), none⟩,
  ⟨(some 3), .op (.mv (.const (.int .i64 0))), none⟩]
def r20_1 : List XOper := [⟨(some 18), .callF 43 [], none⟩]
def r20_2 : List XOper := [⟨(some 21), .op (.ext (.tmp 20) 0), none⟩]
def r20_3 : List XOper := [⟨(some 23), .op (.ext (.tmp 22) 0), none⟩,
  ⟨(some 24), .op (.ext (.tmp 22) 1), none⟩,
  ⟨(some 5), .op (.new [(.int .u8 0), (.int .u32 0), (.int .u32 0), (.int .u32 0)]), none⟩,
  ⟨(some 4), .op (.mv (.tmp 23)), none⟩,
  ⟨none, .op (.store 4 (.tmp 5) (.tmp 24)), none⟩]
def y20_0 : List XOper := [⟨(some 25), .op (.faddr 1 (.tmp 5)), none⟩,
  ⟨(some 26), .op (.faddr 0 (.tmp 25)), none⟩,
  ⟨(some 27), .op (.load (.int .u32) 1 (.tmp 26)), none⟩,
  ⟨(some 28), .op (.mv (.tmp 0)), none⟩,
  ⟨(some 29), .op (.bin .and (.tmp 28) (.const (.int .u32 127))), none⟩,
  ⟨(some 30), .op (.bin .neq (.tmp 27) (.tmp 29)), none⟩]
def y20_1 : XCode := .cnd (.tmp 30) (.exit 1) .skip
def y20_2 : XCode := .seq (.region y20_0) y20_1
def y20_3 : List XOper := [⟨(some 31), .op (.mv (.tmp 4)), none⟩,
  ⟨(some 32), .op (.build [(.int .i64 0), (.int .i64 0), (.int .i64 0), (.int .i64 0), (.int .i64 0)] [(0, 1, (.tmp 31))]), none⟩,
  ⟨(some 6), .op (.new [(.int .i64 0), (.int .i64 0), (.int .i64 0), (.int .i64 0), (.int .i64 0)]), none⟩,
  ⟨none, .op (.store 5 (.tmp 6) (.tmp 32)), none⟩]
def y20_4 : List XOper := [⟨(some 33), .op (.faddr 0 (.tmp 5)), none⟩,
  ⟨(some 34), .op (.load (.int .u8) 1 (.tmp 33)), none⟩,
  ⟨(some 35), .callF 45 [(.tmp 34)], none⟩,
  ⟨(some 7), .op (.new [(.bool false), (.bool false), (.bool false)]), none⟩,
  ⟨none, .op (.store 3 (.tmp 7) (.tmp 35)), none⟩]
def y20_5 : List XOper := [⟨(some 36), .op (.faddr 1 (.tmp 6)), none⟩,
  ⟨(some 37), .op (.faddr 2 (.tmp 6)), none⟩,
  ⟨(some 38), .op (.faddr 3 (.tmp 6)), none⟩,
  ⟨(some 39), .op (.build [(.pointer none), (.pointer none), (.pointer none)] [(0, 1, (.tmp 36)), (1, 1, (.tmp 37)), (2, 1, (.tmp 38))]), none⟩,
  ⟨(some 40), .op (.mv (.const (.int .i64 0))), none⟩]
def y20_6 : List XOper := [⟨(some 41), .op (.bin .lss (.tmp 40) (.const (.int .i64 3))), none⟩]
def y20_7 : XCode := .cnd (.tmp 41) .skip (.exit 2)
def y20_8 : List XOper := [⟨(some 42), .op (.mv (.tmp 40)), none⟩,
  ⟨(some 43), .op (.idxA 3 1 .one (.tmp 39) (.tmp 40)), none⟩,
  ⟨(some 8), .op (.mv (.tmp 42)), none⟩,
  ⟨(some 9), .op (.mv (.tmp 43)), none⟩]
def y20_9 : List XOper := [⟨(some 44), .op (.mv (.tmp 8)), none⟩,
  ⟨(some 45), .op (.iaddrA true 3 1 (.tmp 7) (.tmp 44)), none⟩,
  ⟨(some 46), .op (.load .bool 1 (.tmp 45)), none⟩]
def y20_10 : List XOper := [⟨(some 47), .op (.mv (.tmp 9)), none⟩,
  ⟨(some 48), .op (.mv (.tmp 0)), none⟩,
  ⟨(some 49), .op (.build [(.int .u64 0), (.int .u64 0), (.int .u64 0)] [(0, 1, (.const (.int .u64 7))), (1, 1, (.const (.int .u64 15))), (2, 1, (.const (.int .u64 20)))]), none⟩,
  ⟨(some 50), .op (.mv (.tmp 8)), none⟩,
  ⟨(some 51), .op (.idxA 3 1 (.int .u64) (.tmp 49) (.tmp 50)), none⟩,
  ⟨(some 52), .op (.bin .shr (.tmp 48) (.tmp 51)), none⟩,
  ⟨(some 53), .op (.bin .and (.tmp 52) (.const (.int .u32 31))), none⟩,
  ⟨(some 54), .op (.conv .i64 (.tmp 53)), none⟩,
  ⟨(some 55), .op (.nilck (.tmp 47)), none⟩,
  ⟨none, .op (.store 1 (.tmp 55) (.tmp 54)), none⟩]
def y20_11 : XCode := .cnd (.tmp 46) (.region y20_10) .skip
def y20_12 : XCode := .seq (.region y20_9) y20_11
def y20_13 : XCode := .seq (.region y20_8) y20_12
def y20_14 : XCode := .block 3 y20_13
def y20_15 : List XOper := [⟨(some 56), .op (.bin .add (.tmp 40) (.const (.int .i64 1))), none⟩,
  ⟨(some 40), .op (.mv (.tmp 56)), none⟩]
def y20_16 : XCode := .seq y20_14 (.region y20_15)
def y20_17 : XCode := .seq y20_7 y20_16
def y20_18 : XCode := .seq (.region y20_6) y20_17
def y20_19 : XCode := .loop y20_18
def y20_20 : XCode := .block 2 y20_19
def y20_21 : XCode := .seq (.region y20_5) y20_20
def y20_22 : List XOper := [⟨(some 57), .op (.faddr 0 (.tmp 5)), none⟩,
  ⟨(some 58), .op (.load (.int .u8) 1 (.tmp 57)), none⟩,
  ⟨(some 59), .callF 46 [(.tmp 58)], none⟩,
  ⟨(some 60), .op (.lenS (.tmp 59)), none⟩,
  ⟨(some 61), .op (.mv (.const (.int .i64 0))), none⟩]
def y20_23 : List XOper := [⟨(some 62), .op (.bin .lss (.tmp 61) (.tmp 60)), none⟩]
def y20_24 : XCode := .cnd (.tmp 62) .skip (.exit 4)
def y20_25 : List XOper := [⟨(some 63), .op (.iaddrS 3 (.tmp 59) (.tmp 61)), none⟩,
  ⟨(some 64), .op (.load .agg 3 (.tmp 63)), none⟩,
  ⟨(some 11), .op (.new [(.int .u64 0), (.int .u64 0), (.int .u64 0)]), none⟩,
  ⟨none, .op (.store 3 (.tmp 11) (.tmp 64)), none⟩]
def y20_26 : List XOper := [⟨(some 65), .op (.faddr 4 (.tmp 6)), none⟩,
  ⟨(some 66), .op (.load (.int .i64) 1 (.tmp 65)), none⟩,
  ⟨(some 67), .op (.mv (.tmp 0)), none⟩,
  ⟨(some 68), .op (.faddr 2 (.tmp 11)), none⟩,
  ⟨(some 69), .op (.load (.int .u64) 1 (.tmp 68)), none⟩,
  ⟨(some 70), .op (.bin .shr (.tmp 67) (.tmp 69)), none⟩,
  ⟨(some 71), .op (.faddr 1 (.tmp 11)), none⟩,
  ⟨(some 72), .op (.load (.int .u64) 1 (.tmp 71)), none⟩,
  ⟨(some 73), .op (.bin .shl (.const (.int .u32 1)) (.tmp 72)), none⟩,
  ⟨(some 74), .op (.bin .sub (.tmp 73) (.const (.int .u32 1))), none⟩,
  ⟨(some 75), .op (.bin .and (.tmp 70) (.tmp 74)), none⟩,
  ⟨(some 76), .op (.conv .i64 (.tmp 75)), none⟩,
  ⟨(some 77), .op (.faddr 0 (.tmp 11)), none⟩,
  ⟨(some 78), .op (.load (.int .u64) 1 (.tmp 77)), none⟩,
  ⟨(some 79), .op (.bin .shl (.tmp 76) (.tmp 78)), none⟩,
  ⟨(some 80), .op (.bin .or (.tmp 66) (.tmp 79)), none⟩,
  ⟨(some 81), .op (.faddr 4 (.tmp 6)), none⟩,
  ⟨none, .op (.store 1 (.tmp 81) (.tmp 80)), none⟩]
def y20_27 : XCode := .seq (.region y20_25) (.region y20_26)
def y20_28 : XCode := .block 5 y20_27
def y20_29 : List XOper := [⟨(some 82), .op (.bin .add (.tmp 61) (.const (.int .i64 1))), none⟩,
  ⟨(some 61), .op (.mv (.tmp 82)), none⟩]
def y20_30 : XCode := .seq y20_28 (.region y20_29)
def y20_31 : XCode := .seq y20_24 y20_30
def y20_32 : XCode := .seq (.region y20_23) y20_31
def y20_33 : XCode := .loop y20_32
def y20_34 : XCode := .block 4 y20_33
def y20_35 : XCode := .seq (.region y20_22) y20_34
def y20_36 : List XOper := [⟨(some 84), .op (.faddr 0 (.tmp 5)), none⟩,
  ⟨(some 85), .op (.load (.int .u8) 1 (.tmp 84)), none⟩,
  ⟨(some 86), .callF 44 [(.tmp 85)], none⟩,
  ⟨(some 83), .op (.mv (.tmp 86)), none⟩,
  ⟨(some 87), .op (.ext (.tmp 83) 0), none⟩,
  ⟨(some 88), .op (.ext (.tmp 83) 1), none⟩,
  ⟨(some 12), .op (.mv (.tmp 87)), none⟩,
  ⟨(some 13), .op (.mv (.tmp 88)), none⟩]
def y20_37 : List XOper := [⟨(some 89), .op (.faddr 0 (.tmp 5)), none⟩,
  ⟨(some 90), .op (.load (.int .u8) 1 (.tmp 89)), none⟩,
  ⟨(some 91), .op (.bin .neq (.tmp 90) (.const (.int .u8 84))), none⟩,
  ⟨(some 92), .op (.mv (.tmp 91)), none⟩,
  ⟨(some 93), .op (.faddr 4 (.tmp 6)), (some (92, true))⟩,
  ⟨(some 94), .op (.load (.int .i64) 1 (.tmp 93)), (some (92, true))⟩,
  ⟨(some 95), .op (.mv (.tmp 13)), (some (92, true))⟩,
  ⟨(some 96), .op (.bin .gtr (.tmp 94) (.tmp 95)), (some (92, true))⟩,
  ⟨(some 97), .pick (.tmp 92) (.tmp 96) (.const (.bool false)), none⟩]
def y20_38 : List XOper := [⟨(some 99), .op (.faddr 0 (.tmp 5)), none⟩,
  ⟨(some 100), .op (.load (.int .u8) 1 (.tmp 99)), none⟩,
  ⟨(some 101), .callF 44 [(.tmp 100)], none⟩,
  ⟨(some 98), .op (.mv (.tmp 101)), none⟩,
  ⟨(some 102), .op (.ext (.tmp 98) 0), none⟩,
  ⟨(some 103), .op (.ext (.tmp 98) 1), none⟩,
  ⟨(some 14), .op (.mv (.tmp 102)), none⟩,
  ⟨(some 15), .op (.mv (.tmp 103)), none⟩]
def y20_39 : List XOper := [⟨(some 104), .op (.faddr 4 (.tmp 6)), none⟩,
  ⟨(some 105), .op (.load (.int .i64) 1 (.tmp 104)), none⟩,
  ⟨(some 106), .op (.mv (.tmp 14)), none⟩,
  ⟨(some 107), .op (.bin .mul (.const (.int .i64 2)) (.tmp 106)), none⟩,
  ⟨(some 108), .op (.bin .add (.tmp 105) (.tmp 107)), none⟩,
  ⟨(some 109), .op (.faddr 4 (.tmp 6)), none⟩,
  ⟨none, .op (.store 1 (.tmp 109) (.tmp 108)), none⟩]
def y20_40 : XCode := .seq (.region y20_38) (.region y20_39)
def y20_41 : XCode := .cnd (.tmp 97) y20_40 .skip
def y20_42 : XCode := .seq (.region y20_37) y20_41
def y20_43 : XCode := .seq (.region y20_36) y20_42
def y20_44 : List XOper := [⟨(some 111), .op (.load .agg 5 (.tmp 6)), none⟩,
  ⟨(some 112), .callF 18 [(.tmp 111)], none⟩,
  ⟨(some 110), .op (.mv (.tmp 112)), none⟩,
  ⟨(some 113), .op (.ext (.tmp 110) 0), none⟩,
  ⟨(some 114), .op (.ext (.tmp 110) 1), none⟩,
  ⟨(some 16), .op (.mv (.tmp 113)), none⟩,
  ⟨(some 17), .op (.mv (.tmp 114)), none⟩]
def y20_45 : List XOper := [⟨(some 115), .op (.mv (.tmp 17)), none⟩,
  ⟨(some 116), .op (.bin .eql (.tmp 115) (.const (.int .i64 0))), none⟩,
  ⟨(some 117), .op (.mv (.tmp 116)), none⟩,
  ⟨(some 118), .op (.mv (.tmp 16)), (some (117, true))⟩,
  ⟨(some 119), .op (.mv (.tmp 0)), (some (117, true))⟩,
  ⟨(some 120), .op (.bin .eql (.tmp 118) (.tmp 119)), (some (117, true))⟩,
  ⟨(some 121), .pick (.tmp 117) (.tmp 120) (.const (.bool false)), none⟩]
def y20_46 : List XOper := [⟨(some 122), .op (.load .agg 5 (.tmp 6)), none⟩,
  ⟨none, .op (.store 5 (.tmp 2) (.tmp 122)), none⟩,
  ⟨(some 3), .op (.mv (.const (.int .i64 0))), none⟩]
def y20_47 : XCode := .seq (.region y20_46) .ret
def y20_48 : XCode := .cnd (.tmp 121) y20_47 .skip
def y20_49 : XCode := .seq (.region y20_45) y20_48
def y20_50 : XCode := .seq (.region y20_44) y20_49
def y20_51 : XCode := .seq y20_43 y20_50
def y20_52 : XCode := .seq y20_35 y20_51
def y20_53 : XCode := .seq y20_21 y20_52
def y20_54 : XCode := .seq (.region y20_4) y20_53
def y20_55 : XCode := .seq (.region y20_3) y20_54
def y20_56 : XCode := .seq y20_2 y20_55
def y20 : XCode := y20_56
def z20_0 : List XOper := [⟨(some 123), .op (.build [(.int .i64 0), (.int .i64 0), (.int .i64 0), (.int .i64 0), (.int .i64 0)] []), none⟩,
  ⟨none, .op (.store 5 (.tmp 2) (.tmp 123)), none⟩,
  ⟨(some 3), .op (.mv (.const (.int .i64 2))), none⟩]
def z20_1 : XCode := .seq (.region z20_0) .ret
def z20 : XCode := z20_1
def rts20 : List Rx := [(2, (some (.agg, 5))), (3, none)]
noncomputable def ops20_0 : Array Oper := opsC (fstC body20)
noncomputable def ops20_1 : Array Oper := opsC (fstC mid20)
noncomputable def ops20_2 : Array Oper := opsC (fstC round20)
noncomputable def ops20_3 : Array Oper := opsC (fstC (inC (sndC (sndC round20))))
noncomputable def rest20 : Code := sndC (inC (sndC (sndC round20)))
noncomputable def tail20 : Code := sndC (sndC body20)
theorem shape3 : body20 = .seq (.region 0 ops20_0 false) (.seq (.seq (.region 1 ops20_1 false) (.block 0 (.loop round20))) tail20) := by kernel_rfl
theorem shape4 : round20 = .seq (.region 2 ops20_2 false) (.seq (.cond (.tmp 21) .skip (.exit 0)) (.block 1 (.seq (.region 3 ops20_3 false) rest20))) := by kernel_rfl
theorem comp20_0 : comp Try.prog 124 (.region 0 ops20_0 false) = some (.region r20_0) := by kernel_rfl
theorem comp20_r : comp Try.prog 124 rest20 = some y20 := by kernel_rfl
theorem comp20_t : comp Try.prog 124 tail20 = some z20 := by kernel_rfl
def opIs (o : Option Oper) : Option (Option Nat × Op × Option (Nat × Bool)) := match o with
  | some o => some (o.dst, o.op, o.guard)
  | none => none
theorem op20_1 : opIs ops20_1[1]? = some (some 19, .range 106 (.tmp 18), none) := by kernel_rfl
theorem op20_2 : opIs ops20_2[0]? = some (some 20, .next (.tmp 19) false, none) := by kernel_rfl
theorem op20_3 : opIs ops20_3[0]? = some (some 22, .entry (.tmp 19), none) := by kernel_rfl
theorem opIs_some {o : Option Oper} {d : Option Nat} {p : Op} {g : Option (Nat × Bool)} (h : opIs o = some (d, p, g)) : ∃ x, o = some x /\ x.dst = d /\ x.op = p /\ x.guard = g := by
  cases o with
  | none => cases h
  | some x => simp only [opIs, Option.some.injEq, Prod.mk.injEq] at h; exact ⟨x, rfl, h.1, h.2.1, h.2.2⟩
theorem size20 : ops20_1.size = 2 /\ ops20_2.size = 2 /\ ops20_3.size = 6 := by refine ⟨?_, ?_, ?_⟩ <;> kernel_rfl
def CmpAt (P : Program) (N : Nat) (ops : Array Oper) : Nat -> List XOper -> Prop
  | _, [] => True
  | i, x :: l => (match ops[i]? with
    | some o => compOper P N ops o
    | none => none) = some x /\ CmpAt P N ops (i + 1) l
theorem cmpAt_get {P : Program} {N : Nat} {ops : Array Oper} : ∀ {l : List XOper} {i : Nat}, CmpAt P N ops i l -> ∀ (k : Nat) xo, l[k]? = some xo -> ∃ o, ops[i + k]? = some o /\ compOper P N ops o = some xo
  | [], i, _, k, xo, hk => by simp at hk
  | x :: l, i, h, 0, xo, hk => by
    simp only [List.getElem?_cons_zero, Option.some.injEq] at hk
    subst hk
    have h1 := h.1
    split at h1
    · rename_i o ho; exact ⟨o, ho, h1⟩
    · cases h1
  | x :: l, i, h, k + 1, xo, hk => by
    obtain ⟨o, ho, hc⟩ := cmpAt_get h.2 k xo (by simpa using hk)
    exact ⟨o, by rw [<- ho]; congr 1; omega, hc⟩
theorem cmp20_1 : CmpAt Try.prog 124 ops20_1 0 r20_1 := by refine ⟨?_, trivial⟩; kernel_rfl
theorem cmp20_2 : CmpAt Try.prog 124 ops20_2 1 r20_2 := by refine ⟨?_, trivial⟩; kernel_rfl
theorem cmp20_3 : CmpAt Try.prog 124 ops20_3 1 r20_3 := by refine ⟨?_, ?_, ?_, ?_, ?_, trivial⟩ <;> kernel_rfl
end Go.X
namespace Go.X
open Go Go.Proofs
def fW (w d m : Int) : Int := IntKind.i64.wrap (bits2 .and .u32 (w.fdiv d) m)
def pW (w d m k : Int) : Int := IntKind.i64.wrap (fW w d m * k)
def oW (a b : Int) : Int := bits2 .or .i64 a b
def fixW (x most less : Int) : Int := bif decide (x > most) then IntKind.i64.wrap (x + less) else x
structure Cand where
  rd : Int
  rs1 : Int
  rs2 : Int
  imm : Int
def candF (F w : Int) : Cand :=
  match F with
  | 82 => ⟨fW w 128 31, fW w 32768 31, fW w 1048576 31, 0⟩
  | 73 => ⟨fW w 128 31, fW w 32768 31, 0, fixW (oW 0 (pW w 1048576 4095 1)) 2047 (-4096)⟩
  | 84 => ⟨fW w 128 31, fW w 32768 31, 0, oW 0 (pW w 1048576 63 1)⟩
  | 83 => ⟨0, fW w 32768 31, fW w 1048576 31, fixW (oW (oW 0 (pW w 128 31 1)) (pW w 33554432 127 32)) 2047 (-4096)⟩
  | 66 => ⟨0, fW w 32768 31, fW w 1048576 31, fixW (oW (oW (oW (oW 0 (pW w 128 1 2048)) (pW w 256 15 2)) (pW w 33554432 63 32)) (pW w 2147483648 1 4096)) 4094 (-8192)⟩
  | 85 => ⟨fW w 128 31, 0, 0, fixW (oW 0 (pW w 4096 1048575 1)) 524287 (-1048576)⟩
  | 74 => ⟨fW w 128 31, 0, 0, fixW (oW (oW (oW (oW 0 (pW w 4096 255 4096)) (pW w 1048576 1 2048)) (pW w 2097152 1023 2)) (pW w 2147483648 1 1048576)) 1048574 (-2097152)⟩
  | _ => ⟨0, 0, 0, 0⟩
def var0 : Blk := .var [.int .i64 0, .int .i64 0, .int .i64 0, .int .i64 0, .int .i64 0]
def tA (q w : Int) : Tm := mkT [0, 2, 3, 19, 4, 5] [.int .u32 w, .pointer (some ⟨100, 0, some 0⟩), .int .i64 0, .pointer (some ⟨102, 0, some 0⟩), .int .i64 q, .pointer (some ⟨103, 0, some 0⟩)]
def hA (F o f3 f7 : Int) : Hp := mkH [(100, var0), (103, .var [.int .u8 F, .int .u32 o, .int .u32 f3, .int .u32 f7])]
def leafA (q w : Int) (c : Cand) (n : Nat) : Leaf := ⟨[some (true, .int .u32 w), some (true, .pointer (some ⟨100, 0, some 0⟩)), some (true, .int .i64 0), some (true, .pointer (some ⟨102, 0, some 0⟩)), some (true, .pointer (some ⟨104, 0, some 0⟩))],
  [(100, some var0), (104, some (iB q c.rd c.rs1 c.rs2 c.imm))], .normal, n⟩
abbrev runA (q F o f3 f7 w : Int) : Option Leaf := execL (lookF FL) scB 1000 [.region y20_3, .region y20_4, y20_21, y20_35, y20_43] (tA q w) (hA F o f3 f7) 104 (prjK [0, 2, 3, 19, 6] [.id 100, .tmp 6])
theorem a20R (q o f3 f7 w : Int) : runA q 82 o f3 f7 w = some (leafA q w (candF 82 w) 107) := by kernel_rfl
theorem a20T (q o f3 f7 w : Int) : runA q 84 o f3 f7 w = some (leafA q w (candF 84 w) 109) := by kernel_rfl
theorem a20N (q o f3 f7 w : Int) : runA q 78 o f3 f7 w = some (leafA q w (candF 78 w) 107) := by kernel_rfl
theorem fix_leaf (q w rd rs1 rs2 x most less : Int) (n : Nat) : (bif decide (x > most) then some (leafA q w ⟨rd, rs1, rs2, IntKind.i64.wrap (x + less)⟩ n) else some (leafA q w ⟨rd, rs1, rs2, x⟩ n)) = some (leafA q w ⟨rd, rs1, rs2, fixW x most less⟩ n) := by
  unfold fixW; cases decide (x > most) <;> rfl
theorem a20I (q o f3 f7 w : Int) : runA q 73 o f3 f7 w = some (leafA q w (candF 73 w) 109) := by
  refine Eq.trans ?_ (fix_leaf q w (fW w 128 31) (fW w 32768 31) 0 (oW 0 (pW w 1048576 4095 1)) 2047 (-4096) 109)
  kernel_rfl
theorem a20S (q o f3 f7 w : Int) : runA q 83 o f3 f7 w = some (leafA q w (candF 83 w) 110) := by
  refine Eq.trans ?_ (fix_leaf q w 0 (fW w 32768 31) (fW w 1048576 31) (oW (oW 0 (pW w 128 31 1)) (pW w 33554432 127 32)) 2047 (-4096) 110)
  kernel_rfl
theorem a20B (q o f3 f7 w : Int) : runA q 66 o f3 f7 w = some (leafA q w (candF 66 w) 112) := by
  refine Eq.trans ?_ (fix_leaf q w 0 (fW w 32768 31) (fW w 1048576 31) (oW (oW (oW (oW 0 (pW w 128 1 2048)) (pW w 256 15 2)) (pW w 33554432 63 32)) (pW w 2147483648 1 4096)) 4094 (-8192) 112)
  kernel_rfl
theorem a20U (q o f3 f7 w : Int) : runA q 85 o f3 f7 w = some (leafA q w (candF 85 w) 109) := by
  refine Eq.trans ?_ (fix_leaf q w (fW w 128 31) 0 0 (oW 0 (pW w 4096 1048575 1)) 524287 (-1048576) 109)
  kernel_rfl
theorem a20J (q o f3 f7 w : Int) : runA q 74 o f3 f7 w = some (leafA q w (candF 74 w) 112) := by
  refine Eq.trans ?_ (fix_leaf q w (fW w 128 31) 0 0 (oW (oW (oW (oW 0 (pW w 4096 255 4096)) (pW w 1048576 1 2048)) (pW w 2097152 1023 2)) (pW w 2147483648 1 1048576)) 1048574 (-2097152) 112)
  kernel_rfl
def isForm (F : Int) : Bool := F == 82 || (F == 73 || (F == 84 || (F == 83 || (F == 66 || (F == 85 || (F == 74 || F == 78))))))
theorem runA_is (q F o f3 f7 w : Int) (h : isForm F = true) : ∃ n, 104 <= n /\ runA q F o f3 f7 w = some (leafA q w (candF F w) n) := by
  simp only [isForm, Bool.or_eq_true, beq_iff_eq] at h
  rcases h with rfl | rfl | rfl | rfl | rfl | rfl | rfl | rfl
  · exact ⟨_, by omega, a20R q o f3 f7 w⟩
  · exact ⟨_, by omega, a20I q o f3 f7 w⟩
  · exact ⟨_, by omega, a20T q o f3 f7 w⟩
  · exact ⟨_, by omega, a20S q o f3 f7 w⟩
  · exact ⟨_, by omega, a20B q o f3 f7 w⟩
  · exact ⟨_, by omega, a20U q o f3 f7 w⟩
  · exact ⟨_, by omega, a20J q o f3 f7 w⟩
  · exact ⟨_, by omega, a20N q o f3 f7 w⟩
def tB (w : Int) : Tm := mkT [0, 2, 3, 19, 6] [.int .u32 w, .pointer (some ⟨100, 0, some 0⟩), .int .i64 0, .pointer (some ⟨102, 0, some 0⟩), .pointer (some ⟨103, 0, some 0⟩)]
def hB (q : Int) (c : Cand) : Hp := mkH [(100, var0), (103, iB q c.rd c.rs1 c.rs2 c.imm)]
end Go.X
