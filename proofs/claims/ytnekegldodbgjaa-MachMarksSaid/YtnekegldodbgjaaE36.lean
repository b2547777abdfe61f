import Derived.Test.YtnekegldodbgjaaE35
set_option linter.all false
set_option linter.unusedVariables false
set_option linter.unusedSimpArgs false
namespace Go.X
open Go Go.Proofs
set_option linter.unusedVariables false
set_option linter.unusedSimpArgs false
theorem byS_all {E : Ins → Int × Int} {J : Nat → Ins} : ∀ {N : Nat}, (∀ i, i < N → (E (J i)).2 = 0) → (byS E J N).1 = 4 * N ∧ ∀ q t, q < N → t < 4 → (byS E J N).2 (4 * q + t) = byteOf (E (J q)).1 t
  | 0, _ => ⟨rfl, fun q t h => absurd h (Nat.not_lt_zero _)⟩
  | N + 1, h => by
    obtain ⟨h1, h2⟩ := byS_all (N := N) fun i hi => h i (by omega)
    have h0 : ((E (J N)).2 == 0) = true := by rw [h N (by omega)]; rfl
    rw [byS, h0, cond_true]
    refine ⟨by simp only; omega, fun q t hq ht => ?_⟩
    show (bif Nat.blt (4 * q + t) (byS E J N).1 then (byS E J N).2 (4 * q + t) else byteOf (E (J N)).1 (4 * q + t - (byS E J N).1)) = _
    rw [h1]
    by_cases hlt : q < N
    · rw [lt_blt (show 4 * q + t < 4 * N by omega), cond_true]
      exact h2 q t hlt ht
    · have : q = N := by omega
      subst this
      have hb : Nat.blt (4 * q + t) (4 * q) = false := by rw [blt_dec]; simp
      rw [hb, cond_false, show 4 * q + t - 4 * q = t by omega]
def J7 (r : Int) : Nat → Ins := fun j => bif j % 2 == 0 then ⟨28, 0, 0, 0, 1⟩ else ⟨28, r, 0, 0, 2⟩
def row7 (r : Int) : Nat → List Value := fun j => (J7 r j).row
def new7 (r : Int) : Nat → List Value := fun j => slab [.int .i64 28, .int .i64 0, .int .i64 0, .int .i64 0, .int .i64 1, .int .i64 28, .int .i64 r, .int .i64 0, .int .i64 0, .int .i64 2] ((0 + j) * 5) 5
theorem new7_eq (r : Int) (N : Nat) : ∀ j, j < 2 → new7 r j = row7 r (2 * N + j)
  | 0, _ => by
    show _ = (bif (2 * N + 0) % 2 == 0 then (⟨28, 0, 0, 0, 1⟩ : Ins) else ⟨28, r, 0, 0, 2⟩).row
    rw [show (2 * N + 0) % 2 = 0 by omega]; rfl
  | 1, _ => by
    show _ = (bif (2 * N + 1) % 2 == 0 then (⟨28, 0, 0, 0, 1⟩ : Ins) else ⟨28, r, 0, 0, 2⟩).row
    rw [show (2 * N + 1) % 2 = 1 by omega]; rfl
  | j + 2, h => by omega
theorem p7_0 (n o : Int) : walk (lookF FL) sc6 1000 x7 (argTm 0 [.int .u8 n, .int .u8 o]) [] 50 ⟨[], [], [], []⟩ ⟨[4], [], [], []⟩ ⟨[6, 5], [], [0, 1], []⟩ = some ⟨⟨[some (true, .int .i64 0), some (true, .slice none 0 0)], [], .normal, 50⟩, some (x7_15, [.bl 0, .sq x7_30])⟩ := by kernel_rfl
section
variable (n o : Int) (i N : Nat) (f : Nat → List Value)
theorem p7_n : walk (lookF FL) noSc 1000 x7_15 (mkT [6, 5, 0, 1] [.int .i64 (i : Int), .slice none 0 0, .int .u8 n, .int .u8 o]) [] 110 ⟨[6, 5], [.tmp 5], [0, 1], []⟩ ⟨[], [], [], []⟩ ⟨[], [], [], []⟩ =
    bif decide ((i : Int) < IntKind.i64.wrap n) then some ⟨⟨[some (true, .int .i64 (IntKind.i64.wrap ((i : Int) + 1))), some (true, newS 111 2)], [(111, some (.rows 2 5 (rowCat (fun _ => []) 0 0 (new7 (IntKind.i64.wrap (o.tmod 32)))) true false))], .normal, 112⟩, none⟩ else none := by kernel_rfl
theorem p7_m : walk (lookF FL) noSc 1000 x7_15 (mkT [6, 5, 0, 1] [.int .i64 (i : Int), .slice none 0 0, .int .u8 n, .int .u8 o]) [] 110 ⟨[6, 5], [], [0, 1], []⟩ ⟨[], [], [], []⟩ ⟨[], [], [], []⟩ =
    bif decide ((i : Int) < IntKind.i64.wrap n) then some ⟨⟨[some (true, .int .i64 (IntKind.i64.wrap ((i : Int) + 1))), some (true, newS 111 2)], [], .normal, 112⟩, none⟩
    else some ⟨⟨[some (true, .int .i64 (i : Int)), some (true, .slice none 0 0)], [], .exit 0, 110⟩, none⟩ := by kernel_rfl
theorem p7_b : walk (lookF FL) noSc 1000 x7_15 (mkT [6, 5, 0, 1] [.int .i64 (i : Int), L60 N N, .int .u8 n, .int .u8 o]) (mkH [(60, .rows N 5 f true false)]) 110 ⟨[6, 5], [.tmp 5], [0, 1], []⟩ ⟨[], [], [], []⟩ ⟨[], [], [], []⟩ =
    bif decide ((i : Int) < IntKind.i64.wrap n) then bif !(N + 2).ble N && true && (N.ble N && (0 + N).ble N) && true && decide ((N + 2) * 46 ≤ 1099511627776) && true && true then
      some ⟨⟨[some (true, .int .i64 (IntKind.i64.wrap ((i : Int) + 1))), some (true, newS 111 (N + 2))], [(111, some (.rows (N + 2) 5 (rowCat f 0 N (new7 (IntKind.i64.wrap (o.tmod 32)))) true false))], .normal, 112⟩, none⟩ else none
    else some ⟨⟨[some (true, .int .i64 (i : Int)), some (true, L60 N N)], [(60, some (.rows N 5 f true false))], .exit 0, 110⟩, none⟩ := by kernel_rfl
end
def v7 (i : Nat) : Value := bif bO i then L60 (2 * i) (2 * i) else .slice none 0 0
def l7 (r : Int) (i : Nat) : List (Nat × Blk) := bif bO i then [(60, .rows (2 * i) 5 (row7 r) true false)] else []
def S7 (n o r : Int) (i : Nat) : St := ⟨mkT [6, 5, 0, 1] [.int .i64 (i : Int), v7 i, .int .u8 n, .int .u8 o], mkH (l7 r i), 110⟩
theorem bis_l7 {P : Program} {σ : Nm} {r : Int} {N : Nat} {f : Nat → List Value} (hf : ∀ j, j < 2 * N → f j = row7 r j) : BIs P σ (.rows (2 * N + 2) 5 (row7 r) true false) (.rows (2 * N + 2) 5 (rowCat f 0 (2 * N) (new7 r)) true false) := by
  refine ⟨rfl, rfl, fun j hj => ?_, .inl rfl, .inr rfl⟩
  show _ = cond (Nat.blt j (2 * N)) (f (0 + j)) (new7 r (j - 2 * N))
  by_cases h : j < 2 * N
  · rw [lt_blt h, cond_true, Nat.zero_add, hf j h]; rfl
  · have hb : Nat.blt j (2 * N) = false := by rw [blt_dec]; simp; omega
    rw [hb, cond_false, new7_eq r N _ (by omega), show 2 * N + (j - 2 * N) = j by omega]; rfl
theorem leaf7n {E : FEnv} (hP : E.P = Try.prog) (hn : E.B.n = 50) {n o r : Int} (hr : IntKind.i64.wrap (o.tmod 32) = r) (h0 : 0 ≤ n) (h1 : n < 256) {Q : Post} (hcl : Cl E.toEnv Q) (hQ : Q (.exit 0) (S7 n o r n.toNat)) : XWP E.toEnv (.loop x7_15) Q (S7 n o r 0) := by
  refine xwp_loopR (ι := Nat) (fun i => S7 n o r i) (fun i => (i : Int) ≤ n) (fun i => n.toNat - i) 0 h0 fun i hi => ?_
  have hcr := cl_round (S := fun i => S7 n o r i) (I := fun i => (i : Int) ≤ n) (μ := fun i => n.toNat - i) (i := i) hcl
  have FO : FnsOK E.P (lookF FL) noSc := hP ▸ FOK
  have hw : (i : Int) < n → IntKind.i64.wrap ((i : Int) + 1) = ((i + 1 : Nat) : Int) := fun h => by rw [wrap_i (by omega) (by omega)]; omega
  have hn' : IntKind.i64.wrap n = n := wrap_i (by omega) (by omega)
  have next : (i : Int) < n → roundP E.toEnv (fun i => S7 n o r i) (fun i => (i : Int) ≤ n) (fun i => n.toNat - i) i Q .normal (S7 n o r (i + 1)) := fun h => ⟨i + 1, by simp only; omega, by simp only; omega, Wk.refl _ _⟩
  cases i with
  | zero =>
    show XWP E.toEnv x7_15 _ ⟨mkT [6, 5, 0, 1] [.int .i64 ((0 : Nat) : Int), .slice none 0 0, .int .u8 n, .int .u8 o], [], 110⟩
    by_cases hlt : ((0 : Nat) : Int) < n
    · have e := p7_n n o 0
      rw [hn', decide_eq_true hlt, cond_true, hw hlt, hr] at e
      refine xwp_toEnd (s := ⟨_, _, _⟩) hcr FO 1000 e (S7 n o r (0 + 1)) ⟨_, _, _, rfl, ?_, ?_, ?_⟩ (next hlt) <;> rw [hn]
      · rfl
      · exact ⟨rfl, rfl, rfl, rfl, trivial⟩
      · rw [hP]
        exact ⟨bis_l7 (N := 0) fun j hj => absurd hj (Nat.not_lt_zero _), trivial⟩
    · have e := p7_m n o 0
      rw [hn', decide_eq_false hlt, cond_false] at e
      have : n.toNat = 0 := by omega
      rw [this] at hQ
      refine xwp_toEnd (s := ⟨_, _, _⟩) hcr FO 1000 e (S7 n o r 0) ⟨_, _, _, rfl, ?_, ?_, ?_⟩ hQ <;> rw [hn]
      · rfl
      · exact ⟨rfl, rfl, rfl, rfl, trivial⟩
      · rw [hP]; exact trivial
  | succ i =>
    show XWP E.toEnv x7_15 _ ⟨mkT [6, 5, 0, 1] [.int .i64 ((i + 1 : Nat) : Int), L60 (2 * (i + 1)) (2 * (i + 1)), .int .u8 n, .int .u8 o], mkH [(60, .rows (2 * (i + 1)) 5 (row7 r) true false)], 110⟩
    have e := p7_b n o (i + 1) (2 * (i + 1)) (row7 r)
    by_cases hlt : ((i + 1 : Nat) : Int) < n
    · have g3 : (!(2 * (i + 1) + 2).ble (2 * (i + 1)) && true && ((2 * (i + 1)).ble (2 * (i + 1)) && (0 + 2 * (i + 1)).ble (2 * (i + 1))) && true && decide ((2 * (i + 1) + 2) * 46 ≤ 1099511627776) && true && true) = true := by
        rw [Nat.zero_add, show (2 * (i + 1) + 2).ble (2 * (i + 1)) = false by rw [ble_dec]; simp, show (2 * (i + 1)).ble (2 * (i + 1)) = true by simp, decide_eq_true (by omega)]; rfl
      rw [hn', decide_eq_true hlt, cond_true, hw hlt, hr, g3, cond_true] at e
      refine xwp_toEnd (s := ⟨_, _, _⟩) hcr FO 1000 e (S7 n o r (i + 1 + 1)) ⟨_, _, _, rfl, ?_, ?_, ?_⟩ (next hlt) <;> rw [hn]
      · rfl
      · exact ⟨rfl, rfl, rfl, rfl, trivial⟩
      · rw [hP]
        exact ⟨bis_l7 (N := i + 1) fun j hj => rfl, trivial⟩
    · rw [hn', decide_eq_false hlt, cond_false] at e
      have : n.toNat = i + 1 := by omega
      rw [this] at hQ
      refine xwp_toEnd (s := ⟨_, _, _⟩) hcr FO 1000 e (S7 n o r (i + 1)) ⟨_, _, _, rfl, ?_, ?_, ?_⟩ hQ <;> rw [hn]
      · rfl
      · exact ⟨rfl, rfl, rfl, rfl, trivial⟩
      · rw [hP]; exact ⟨bis_rw fun j _ => rfl, trivial⟩
end Go.X
namespace Go.X
open Go Go.Proofs
set_option linter.unusedVariables false
set_option linter.unusedSimpArgs false
def word7 (r : Int) (q : Nat) : Int := bif q % 2 == 0 then 1048595 else 2097171 + 128 * r
def F7 (i : Ins) : Int × Int := (bif i.imm == 1 then 1048595 else 2097171 + 128 * i.rd, 0)
theorem f7_word (r : Int) (q : Nat) : (F7 (J7 r q)).1 = word7 r q := by
  unfold F7 J7 word7
  cases q % 2 == 0 <;> rfl
theorem num4_shift {f g : Nat → Int} {k : Nat} (h : ∀ t, t < 4 → f (k + t) = g t) : num4 f k = num4 g 0 := by
  unfold num4
  rw [h 0 (by omega), h 1 (by omega), h 2 (by omega), h 3 (by omega)]
theorem w7a : IntKind.u32.wrap (num4 (byteOf 1048595) 0) = 1048595 := by kernel_rfl
theorem d7a : decA 1048595 = ⟨28, ⟨0, 0, 0, 1⟩, 0⟩ := by kernel_rfl
def chk7 (r : Nat) : Bool := IntKind.u32.wrap (num4 (byteOf (2097171 + 128 * (r : Int))) 0) == 2097171 + 128 * (r : Int) && (match decA (2097171 + 128 * (r : Int)) with
  | ⟨q, ⟨a, b, c, d⟩, f⟩ => q == 28 && (a == (r : Int) && (b == 0 && (c == 0 && (d == 2 && f == 0)))))
theorem chk7_all : ((List.range 32).all chk7) = true := by kernel_rfl
theorem chk7_of {r : Int} (h0 : 0 ≤ r) (h1 : r < 32) : IntKind.u32.wrap (num4 (byteOf (2097171 + 128 * r)) 0) = 2097171 + 128 * r ∧ decA (2097171 + 128 * r) = ⟨28, ⟨r, 0, 0, 2⟩, 0⟩ := by
  obtain ⟨k, rfl⟩ : ∃ k : Nat, r = k := ⟨r.toNat, by omega⟩
  have h := List.all_eq_true.1 chk7_all k (List.mem_range.2 (by omega))
  unfold chk7 at h
  simp only [Bool.and_eq_true, beq_iff_eq] at h
  obtain ⟨h1, h2⟩ := h
  refine ⟨h1, ?_⟩
  generalize decA (2097171 + 128 * (k : Int)) = a at h2
  obtain ⟨q, ⟨a, b, c, d⟩, f⟩ := a
  simp only [Bool.and_eq_true, beq_iff_eq] at h2
  obtain ⟨rfl, rfl, rfl, rfl, rfl, rfl⟩ := h2
  rfl
structure R7 (N : Nat) (r : Int) (q : Nat) (s : RSt) : Prop where
  sz : s.m.sz = 4 * N + 8
  mem : ∀ i t, i < N → t < 4 → s.m.mem (4 * i + t) = byteOf (word7 r i) t
  pl : s.m.pl = 4 * (q : Int)
  st : s.m.st = 0
  x0 : s.m.x 0 = 0
  mark : s.mark = ((q + 1) / 2 : Nat)
  fo : s.oN = 0
def e7 : REnv := ⟨false, 0, fun _ => 0, 0, 0, 0, false⟩
section
variable {N : Nat} {r : Int} (hN : N ≤ 510) (h0 : 0 ≤ r) (h1 : r < 32)
theorem w7 {q : Nat} {s : RSt} (hq : q < N) (h : R7 N r q s) : w32 s.m = IntKind.u32.wrap (num4 (byteOf (word7 r q)) 0) := by
  unfold w32
  rw [h.pl, show (4 * (q : Int)).toNat * 1 = 4 * q by omega, num4_shift fun t ht => h.mem q t hq ht]
include h0 h1 in
theorem d7 {q : Nat} {s : RSt} (hq : q < N) (h : R7 N r q s) : decA (w32 s.m) = ⟨28, bif q % 2 == 0 then ⟨0, 0, 0, 1⟩ else ⟨r, 0, 0, 2⟩, 0⟩ := by
  rw [w7 hq h]
  unfold word7
  cases q % 2 == 0 with
  | true => simp only [cond_true]; rw [w7a, d7a]
  | false =>
    simp only [cond_false]
    obtain ⟨a, b⟩ := chk7_of h0 h1
    rw [a, b]
include hN h0 h1 in
theorem step7 {q : Nat} {s : RSt} (hq : q < N) (h : R7 N r q s) : ∃ s', stepG noMem e7 s = (true, s') ∧ R7 N r (q + 1) s' := by
  have hp : plB s.m.sz s.m.pl 4 = true := by
    rw [h.sz, h.pl]
    simp [plB]; omega
  have hpl : IntKind.u64.wrap (s.m.pl + 4) = 4 * ((q + 1 : Nat) : Int) := by
    rw [h.pl, u64_id (by omega) (by omega)]; omega
  unfold stepG
  rw [d7 h0 h1 hq h, hp]
  refine ⟨_, rfl, h.sz, h.mem, hpl, h.st, rfl, ?_, h.fo⟩
  show markF 28 (bif q % 2 == 0 then ⟨0, 0, 0, 1⟩ else ⟨r, 0, 0, 2⟩) s.mark = _
  rw [h.mark]
  rcases (show q % 2 = 0 ∨ q % 2 = 1 by omega) with hq2 | hq2
  · rw [hq2]
    show IntKind.i64.wrap (((q + 1) / 2 : Nat) + 1) = _
    rw [wrap_i (by omega) (by omega)]; omega
  · rw [hq2]
    have : markB 28 ⟨r, 0, 0, 2⟩ = false := by simp [markB]
    show (bif markB 28 ⟨r, 0, 0, 2⟩ then _ else _) = _
    rw [this, cond_false]; omega
include hN h0 h1 in
theorem nomem7 {q : Nat} {s : RSt} (hq : q < N) (h : R7 N r q s) : ¬ (38 ≤ (decA (w32 s.m)).q ∧ (decA (w32 s.m)).q ≤ 44) := by
  rw [d7 h0 h1 hq h]; simp
include hN h0 h1 in
theorem steps7 : Steps48 e7 (N : Int) (stepG noMem e7) (fun n s => BaseOK e7 n s ∧ R7 N r n s) where
  se n s h := h.1.se
  go n s s' h hlt hs0 hs := by
    obtain ⟨hb, hr⟩ := h
    have hq : n < N := by omega
    obtain ⟨a, b⟩ := (next_of hb (by omega) (decU_all _) (noMem_ok (nomem7 hN h0 h1 hq hr))).1 hs
    obtain ⟨s2, hs2, hr2⟩ := step7 hN h0 h1 hq hr
    rw [hs] at hs2
    cases hs2
    exact ⟨a, b, hr2⟩
  no n s s' h hlt hs0 hs := by
    obtain ⟨s2, hs2, hr2⟩ := step7 hN h0 h1 (show n < N by omega) h.2
    rw [hs] at hs2
    cases hs2
include hN h0 h1 in
theorem run7 : ∀ (d q : Nat), q + d = N → ∀ {s : RSt}, R7 N r q s → ∃ s', R7 N r N s' ∧ runF (stepG noMem e7) d s q = (s', N)
  | 0, q, hd, s, h => by
    have : q = N := by omega
    subst this
    exact ⟨s, h, rfl⟩
  | d + 1, q, hd, s, h => by
    obtain ⟨s1, a1, b1⟩ := step7 hN h0 h1 (show q < N by omega) h
    obtain ⟨s', hs', hr⟩ := run7 d (q + 1) (by omega) b1
    exact ⟨s', hs', by rw [go1 h.st a1, hr]⟩
end
theorem run7_b {N : Nat} {r : Int} (hN : N ≤ 510) (h0 : 0 ≤ r) (h1 : r < 32) {m : MS} (hm : R7 N r 0 (RSt.init m)) (hx : ∀ j, uB (m.x j) = true) (hkn : m.kn.OK) :
    ∃ s : RSt, R7 N r N s ∧ AtN 24 [pM, vI false 0 0 0, .int .i64 (N : Int)] (pre48 m false (inB 0 fun _ => 0)) (resV24 s.m (vOa 111 false 0) (N : Int) s.mark) (upd24a s.m false 0 s.of (N : Int) s.mark) 110 2 := by
  have hb0 : BaseOK e7 0 (RSt.init m) := ⟨by show szB (RSt.init m).m.sz = true; rw [hm.sz]; simp [szB]; omega, by rw [hm.pl]; rfl, hx, hkn, fun j hj => absurd hj (Nat.not_lt_zero _), Nat.le_refl _, Nat.le_refl _, Nat.le_refl _, Nat.le_refl _⟩
  obtain ⟨s, hs, hrun⟩ := run7 hN h0 h1 N 0 (by omega) hm
  have H := steps7 hN h0 h1
  have hok := run_ok H N 0 (RSt.init m) (by omega) ⟨hb0, hm⟩
  have hse : SeOK s.sN s.sf := by
    rw [hrun] at hok
    rcases hok with ⟨n', hx⟩ | ⟨n', s1, hx, e1⟩
    · exact hx.1.se
    · simp only at e1; rw [e1]; exact hx.1.se
  refine ⟨s, hs, ?_⟩
  have b := c24a (b24 hse (b48 e7 (fuel := (N : Int)) (by omega) H (by omega) m ⟨hb0, hm⟩ hrun))
  rw [hs.fo] at b
  exact b
end Go.X
namespace Go.X
open Go Go.Proofs
set_option linter.unusedVariables false
set_option linter.unusedSimpArgs false
def vM3 (a : Nat) : Value := .tuple ⟨[.pointer (some ⟨a, 0, some 0⟩), .int .i64 0]⟩
theorem c22_111 {L sz : Nat} {inp : Nat → Int} (h1 : L ≤ sz) (h2 : sz ≤ 4194304) :
    ADet Try.prog 22 [newS 110 L, .int .i64 (sz : Int)] [(110, some (outB L inp))] (vM3 113) (mkH [(111, (newM 0 L inp sz).memB), (112, (newM 0 L inp sz).kn.blk), (113, (newM 0 L inp sz).mAt 111 112)]) 111 3 := by
  have h : ADet Try.prog 22 [newS 110 L, .int .i64 (sz : Int)] [(110, some (.rows L 1 (fun j => [.int .u8 (inp j)]) true true))] (vM3 113) (mkH [(111, (newM 0 L inp sz).memB), (112, (newM 0 L inp sz).kn.blk), (113, (newM 0 L inp sz).mAt 111 112)]) 111 3 := by
    have ha : ∀ {σ : Nm}, BIs Try.prog σ (inB L inp) (.rows L 1 (fun j => [.int .u8 (inp j)]) true true) := ⟨rfl, rfl, fun j hj => rfl, .inr (.inr rfl), .inl rfl⟩
    have hb : ∀ {σ : Nm}, BIs Try.prog σ (.rows L 1 (fun j => [.int .u8 (inp j)]) true true) (inB L inp) := ⟨rfl, rfl, fun j hj => rfl, .inr (.inl rfl), .inl rfl⟩
    have hk : ∀ {σ : Nm}, BIs Try.prog σ (newM 0 L inp sz).kn.blk (newM 0 L inp sz).kn.blk := bis_kn
    exact adet_of_body (b22 (bi := true) (k := 0) (L := L) (C := L) (T := L) (sz := sz) (inp := inp) (fun h => by cases h) h1 h2 (fun _ => by omega)) [(40, 110)] [(111, 100), (112, 101), (113, 102)] rfl rfl ⟨ha, trivial⟩ rfl rfl
      ⟨bis_mem, hk, bis_mAt rfl rfl, hb, trivial⟩ rfl
  exact adet_demote h (by simp [mkH, fstL]) rfl
noncomputable abbrev sc7c (N : Nat) (f : Nat → List Value) (oN : Nat) (of : Nat → Int) (sz : Nat) (m : MS) : Short := scOf [conAt 23 [L60 N N] [(60, .rows N 5 f true false)] (newS 110 oN) (mkH [(110, outB oN of)]) 110 1,
  conAt 22 [newS 110 oN, .int .i64 (sz : Int)] [(110, outB oN of)] (vM3 113) (mkH [(111, m.memB), (112, m.kn.blk), (113, m.mAt 111 112)]) 111 3]
theorem p7_c (n o i : Int) (N : Nat) (f : Nat → List Value) (oN : Nat) (of : Nat → Int) (sz : Nat) (m : MS) : walk (lookF FL) (sc7c N f oN of sz m) 1000 (.region x7_19) (mkT [6, 5, 0, 1] [.int .i64 i, L60 N N, .int .u8 n, .int .u8 o]) (mkH [(60, .rows N 5 f true false)]) 110 ⟨[7, 8], [.id 111, .id 112, .id 113], [5, 0], [60]⟩ ⟨[], [], [], []⟩ ⟨[], [], [], []⟩ =
    bif decP ([newS 110 oN, .int .i64 (IntKind.i64.wrap (IntKind.i64.wrap (N * 4) + 8))] = [newS 110 oN, .int .i64 (sz : Int)] ∧ Has (mkH [(110, outB oN of), (60, .rows N 5 f true false)]) [(110, outB oN of)] ∧ AtN 22 [newS 110 oN, .int .i64 (sz : Int)] [(110, outB oN of)] (vM3 113) (mkH [(111, m.memB), (112, m.kn.blk), (113, m.mAt 111 112)]) 111 3) && true && (decP ([L60 N N] = [L60 N N] ∧ Has (mkH [(60, .rows N 5 f true false)]) [(60, .rows N 5 f true false)] ∧ AtN 23 [L60 N N] [(60, .rows N 5 f true false)] (newS 110 oN) (mkH [(110, outB oN of)]) 110 1) && true && true) then
      some ⟨⟨[some (true, .pointer (some ⟨113, 0, some 0⟩)), some (true, .int .i64 0)], [(111, some m.memB), (112, some m.kn.blk), (113, some (m.mAt 111 112))], .normal, 114⟩, none⟩ else none := by kernel_rfl
theorem p7_d (n o : Int) : walk (lookF FL) noSc 1000 (.region x7_19) (mkT [6, 5, 0, 1] [.int .i64 0, .slice none 0 0, .int .u8 n, .int .u8 o]) [] 110 ⟨[7, 8], [.id 110, .id 111, .id 112], [5, 0], []⟩ ⟨[], [], [], []⟩ ⟨[], [], [], []⟩ =
    some ⟨⟨[some (true, .pointer (some ⟨112, 0, some 0⟩)), some (true, .int .i64 0)], [(110, some (mem22 false 0 0 (fun _ => 0) 8)), (111, some old22), (112, some ((newM 0 0 (fun _ => 0) 8).mAt 110 111))], .normal, 113⟩, none⟩ := by kernel_rfl
end Go.X
namespace Go.X
open Go Go.Proofs
set_option linter.unusedVariables false
set_option linter.unusedSimpArgs false
noncomputable abbrev sc7r (N : Nat) (pre : List (Nat × Blk)) (m : MS) (of : Nat → Int) (k mk : Int) : Short := scOf [conAt 24 [pM, .slice none 0 0, .int .i64 (N : Int)] pre (resV24 m (vOa 111 false 0) k mk) (upd24a m false 0 of k mk) 110 2]
def g7 (a b c : Bool) : Bool := (((bif bif a then b else false then c else false) || !bif bif a then b else false then c else false) && true || false) && (((bif bif a then b else false then c else false) && true || !bif bif a then b else false then c else false) && (((bif bif a then b else false then c else false) && true && true || !bif bif a then b else false then c else false) && ((((bif a then b else false) || !bif a then b else false) && true || false) && (((bif a then b else false) && true || !bif a then b else false) && (((bif a then b else false) && true || !bif a then b else false) && (((a || !a) && true || false) && ((a && (a && true) || !a) && ((a && true || !a) && ((a && true || !a) && true)))))))))
theorem g7_true (a b c : Bool) : g7 a b c = true := by cases a <;> cases b <;> cases c <;> rfl
theorem p7_e (m0 m : MS) (n : Int) (N : Nat) (pre : List (Nat × Blk)) (b : Blk) (of : Nat → Int) (k mk : Int) : walk (lookF FL) (sc7r N pre m of k mk) 1000 x7_29 (mkT [7, 8, 5, 0] [pM, .int .i64 0, L60 N N, .int .u8 n]) (mkH [(90, m0.memB), (91, m0.kn.blk), (92, m0.mB), (60, b)]) 110 ⟨[], [], [], []⟩ ⟨[4], [], [], []⟩ ⟨[], [], [], []⟩ =
    bif decP ([pM, .slice none 0 0, .int .i64 (N : Int)] = [pM, .slice none 0 0, .int .i64 (N : Int)] ∧ Has (mkH [(90, m0.memB), (91, m0.kn.blk), (92, m0.mB), (60, b)]) pre ∧ AtN 24 [pM, .slice none 0 0, .int .i64 (N : Int)] pre (resV24 m (vOa 111 false 0) k mk) (upd24a m false 0 of k mk) 110 2) && true && true then
      bif g7 (k == (N : Int)) (mk == IntKind.i64.wrap n) (m.st == 0) then some ⟨⟨[some (true, .bool (bif bif bif k == (N : Int) then mk == IntKind.i64.wrap n else false then m.st == 0 else false then m.x 0 == 0 else false))], [], .ret, 113⟩, none⟩ else none else none := by kernel_rfl
theorem p7_en (m0 m : MS) (n : Int) (pre : List (Nat × Blk)) (of : Nat → Int) (k mk : Int) : walk (lookF FL) (sc7r 0 pre m of k mk) 1000 x7_29 (mkT [7, 8, 5, 0] [pM, .int .i64 0, .slice none 0 0, .int .u8 n]) (mkH [(90, m0.memB), (91, m0.kn.blk), (92, m0.mB)]) 110 ⟨[], [], [], []⟩ ⟨[4], [], [], []⟩ ⟨[], [], [], []⟩ =
    bif decP ([pM, .slice none 0 0, .int .i64 ((0 : Nat) : Int)] = [pM, .slice none 0 0, .int .i64 ((0 : Nat) : Int)] ∧ Has (mkH [(90, m0.memB), (91, m0.kn.blk), (92, m0.mB)]) pre ∧ AtN 24 [pM, .slice none 0 0, .int .i64 ((0 : Nat) : Int)] pre (resV24 m (vOa 111 false 0) k mk) (upd24a m false 0 of k mk) 110 2) && true && true then
      bif g7 (k == 0) (mk == IntKind.i64.wrap n) (m.st == 0) then some ⟨⟨[some (true, .bool (bif bif bif k == 0 then mk == IntKind.i64.wrap n else false then m.st == 0 else false then m.x 0 == 0 else false))], [], .ret, 113⟩, none⟩ else none else none := by kernel_rfl
def m7 (r : Int) (N : Nat) : MS := newM 0 (4 * N) (byS F7 (J7 r) N).2 (4 * N + 8)
theorem m7_R (r : Int) (N : Nat) : R7 N r 0 (RSt.init (m7 r N)) := by
  refine ⟨rfl, fun i t hi ht => ?_, rfl, rfl, rfl, rfl, rfl⟩
  show (bif Nat.blt (4 * i + t) (4 * N) then (byS F7 (J7 r) N).2 (0 + (4 * i + t)) else 0) = _
  rw [lt_blt (by omega), cond_true, Nat.zero_add, (byS_all (E := F7) (J := J7 r) (N := N) fun _ _ => rfl).2 i t hi ht, f7_word]
theorem b7 {n : Nat} {o : Int} (hn : n < 256) (h0 : 0 ≤ o) (h1 : o < 256) (hE : ∀ j, EncV (J7 (o % 32) j) (F7 (J7 (o % 32) j))) :
    Body Try.prog 7 [.int .u8 (n : Int), .int .u8 o] [] (.bool true) [] 50 0 := by
  have hr : IntKind.i64.wrap (o.tmod 32) = o % 32 := by rw [Int.tmod_eq_emod_of_nonneg h0, wrap_i (by omega) (by omega)]
  refine body_of mixed fx7 (by simp) fun ρ w hd => ?_
  let E := envOf Try.prog 68 50 [] mixed ρ w hd
  refine xwp_toLoop (E := E) (s := ⟨argTm 0 [.int .u8 (n : Int), .int .u8 o], [], 50⟩) FOK6 1000 (p7_0 n o) (S7 n o (o % 32) 0) ⟨_, _, _, rfl, rfl, ⟨rfl, rfl, rfl, rfl, trivial⟩, trivial⟩ ?_
  refine leaf7n (E := E) rfl rfl hr (by omega) (by omega) (cl_ctx cl_fin _) ?_
  rw [show ((n : Int)).toNat = n by omega]
  show XWP E.toEnv (.seq (.region x7_19) x7_29) _ (S7 n o (o % 32) n)
  obtain ⟨s, hs, hrun⟩ := run7_b (N := 2 * n) (r := o % 32) (by omega) (by omega) (by omega) (m7_R (o % 32) (2 * n)) (fun _ => rfl) (fun w h => by cases h)
  have hn' : IntKind.i64.wrap (n : Int) = n := wrap_i (by omega) (by omega)
  have gm : (s.mark == IntKind.i64.wrap (n : Int)) = true := by
    rw [hn', hs.mark]; simp; omega
  have gs : (s.m.st == 0) = true := by rw [hs.st]; rfl
  have gx : (s.m.x 0 == 0) = true := by rw [hs.x0]; rfl
  have hfin : finP E.toEnv [(4, none)] [] (.bool true) [] 0 .ret ⟨mkT [4] [.bool true], mkH [], 50⟩ := fin_of rfl trivial rfl rfl
  cases n with
  | zero =>
    show XWP E.toEnv (.seq (.region x7_19) x7_29) _ ⟨mkT [6, 5, 0, 1] [.int .i64 0, .slice none 0 0, .int .u8 0, .int .u8 o], [], 110⟩
    refine xwp_seqW (E := E) (s := ⟨_, _, _⟩) cl_fin FOK 1000 (p7_d 0 o) rfl ⟨mkT [7, 8, 5, 0] [pM, .int .i64 0, .slice none 0 0, .int .u8 0], mkH [(90, (m7 (o % 32) 0).memB), (91, (m7 (o % 32) 0).kn.blk), (92, (m7 (o % 32) 0).mB)], 110⟩ ⟨_, _, _, rfl, rfl, ⟨rfl, rfl, rfl, rfl, trivial⟩, ?_⟩ ?_
    · exact ⟨bis_mem22 (bi := false) (k := 0) (L := 0) (fun _ => rfl) (by omega), bis_old, bis_mAt rfl rfl, trivial⟩
    have e := p7_en (m7 (o % 32) 0) s.m 0 (pre48 (m7 (o % 32) 0) false (inB 0 fun _ => 0)) s.of 0 s.mark
    rw [decP_true ⟨rfl, ⟨rfl, rfl, rfl, trivial⟩, hrun⟩] at e
    simp only [Bool.and_self, cond_true, g7_true] at e
    refine xwp_toEnd (E := E) (s := ⟨_, _, _⟩) cl_fin (fok FOK _) 1000 e ⟨mkT [4] [.bool true], mkH [], 50⟩ ⟨_, _, _, rfl, rfl, ⟨?_, trivial⟩, trivial⟩ hfin
    rw [show (s.mark == IntKind.i64.wrap 0) = true from gm, gs, gx]; rfl
  | succ n =>
    obtain ⟨N, hN⟩ : ∃ N, N = 2 * (n + 1) := ⟨_, rfl⟩
    rw [← hN] at hrun hs
    have hv : v7 (n + 1) = L60 N N := by rw [hN]; rfl
    have hl : l7 (o % 32) (n + 1) = [(60, .rows N 5 (row7 (o % 32)) true false)] := by rw [hN]; rfl
    unfold S7
    rw [hv, hl]
    obtain ⟨of, hof⟩ : ∃ of, of = (byS F7 (J7 (o % 32)) N).2 := ⟨_, rfl⟩
    have hb : byS F7 (J7 (o % 32)) N = (4 * N, of) := Prod.ext (byS_all (E := F7) (J := J7 (o % 32)) fun _ _ => rfl).1 hof.symm
    have hbo : bO (4 * N) = true := bO_pos (by omega)
    have c23 := c23_110 (C := N) (fun j _ => hE j) (show N ≤ 10000000000 by omega) hb (Nat.le_refl N) (o := true) (r := false) (f := row7 (o % 32)) fun _ _ => rfl
    rw [hbo] at c23
    have c22 := c22_111 (L := 4 * N) (sz := 4 * N + 8) (inp := of) (by omega) (by omega)
    have hm : newM 0 (4 * N) of (4 * N + 8) = m7 (o % 32) N := by unfold m7; rw [hof]
    rw [hm] at c22
    have ec := p7_c ((n + 1 : Nat) : Int) o ((n + 1 : Nat) : Int) N (row7 (o % 32)) (4 * N) of (4 * N + 8) (m7 (o % 32) N)
    have hsz : IntKind.i64.wrap (IntKind.i64.wrap ((N : Int) * 4) + 8) = ((4 * N + 8 : Nat) : Int) := by rw [wrap_i (n := (N : Int) * 4) (by omega) (by omega), wrap_i (by omega) (by omega)]; omega
    rw [hsz, decP_true ⟨rfl, ⟨rfl, trivial⟩, rfl, c22⟩, decP_true ⟨rfl, ⟨rfl, trivial⟩, rfl, c23⟩] at ec
    simp only [Bool.and_self, cond_true] at ec
    refine xwp_seqW (E := E) (s := ⟨_, _, _⟩) cl_fin (fok FOK _) 1000 ec rfl ⟨mkT [7, 8, 5, 0] [pM, .int .i64 0, L60 N N, .int .u8 ((n + 1 : Nat) : Int)], mkH [(90, (m7 (o % 32) N).memB), (91, (m7 (o % 32) N).kn.blk), (92, (m7 (o % 32) N).mB), (60, .rows N 5 (row7 (o % 32)) true false)], 110⟩ ⟨_, _, _, rfl, rfl, ⟨rfl, rfl, rfl, rfl, trivial⟩, ?_⟩ ?_
    · exact ⟨bis_mem, bis_kn, bis_mAt rfl rfl, bis_rw fun j _ => rfl, trivial⟩
    have e := p7_e (m7 (o % 32) N) s.m ((n + 1 : Nat) : Int) N (pre48 (m7 (o % 32) N) false (inB 0 fun _ => 0)) (.rows N 5 (row7 (o % 32)) true false) s.of (N : Int) s.mark
    rw [decP_true ⟨rfl, ⟨rfl, rfl, rfl, trivial⟩, hrun⟩] at e
    simp only [Bool.and_self, cond_true, g7_true] at e
    refine xwp_toEnd (E := E) (s := ⟨_, _, _⟩) cl_fin (fok FOK _) 1000 e ⟨mkT [4] [.bool true], mkH [], 50⟩ ⟨_, _, _, rfl, rfl, ⟨?_, trivial⟩, trivial⟩ hfin
    rw [gm, gs, gx, show ((N : Int) == (N : Int)) = true by simp]; rfl
end Go.X
namespace Go.X
open Go Go.Proofs
set_option linter.unusedVariables false
set_option linter.unusedSimpArgs false
def encK (i : Ins) (p : Int × Int) : Bool := match execC (lookF FL) noSc 100000 x47 (argTm 0 [i.v]) [] 100 (valK [2, 3]) with
  | some [.int .u32 a, .int .i64 b] => a == p.1 && b == p.2
  | _ => false
theorem encK_of {i : Ins} {p : Int × Int} (h : encK i p = true) : EncV i p := by
  unfold encK at h
  split at h
  · rename_i a b he
    simp only [Bool.and_eq_true, beq_iff_eq] at h
    obtain ⟨rfl, rfl⟩ := h
    exact encV_of he
  · cases h
theorem enc7_all : ((List.range 32).all fun r => encK ⟨28, (r : Int), 0, 0, 2⟩ (2097171 + 128 * (r : Int), 0)) = true := by kernel_rfl
theorem enc7 {r : Int} (h0 : 0 ≤ r) (h1 : r < 32) (j : Nat) : EncV (J7 r j) (F7 (J7 r j)) := by
  unfold J7
  cases j % 2 == 0 with
  | true => exact e_addi1
  | false =>
    obtain ⟨k, rfl⟩ : ∃ k : Nat, r = k := ⟨r.toNat, by omega⟩
    exact encK_of (List.all_eq_true.1 enc7_all k (List.mem_range.2 (by omega)))
theorem c7 {n : Nat} {o : Int} (hn : n < 256) (h0 : 0 ≤ o) (h1 : o < 256) : Body Try.prog 7 [.int .u8 (n : Int), .int .u8 o] [] (.bool true) [] 50 0 := b7 hn h0 h1 fun j => enc7 (by omega) (by omega) j
end Go.X
