import Derived.Test.YtnekegldodbgjaaJ33
set_option linter.all false
namespace Go.X
open Go Go.Proofs
def plainF (op : Int) : Int :=
  match op with
  | 28 => 1
  | 29 => 4
  | 30 => 5
  | 31 => 6
  | 32 => 9
  | 33 => 10
  | 34 => 3
  | 35 => 7
  | 36 => 8
  | _ => 18
theorem p75_28 : execC (lookF FL) noSc 1000 x75 (argTm 0 [.int .i64 28]) [] 100 (valK [2]) = some [.int .i64 1] := by kernel_rfl
theorem p75_29 : execC (lookF FL) noSc 1000 x75 (argTm 0 [.int .i64 29]) [] 100 (valK [2]) = some [.int .i64 4] := by kernel_rfl
theorem p75_30 : execC (lookF FL) noSc 1000 x75 (argTm 0 [.int .i64 30]) [] 100 (valK [2]) = some [.int .i64 5] := by kernel_rfl
theorem p75_31 : execC (lookF FL) noSc 1000 x75 (argTm 0 [.int .i64 31]) [] 100 (valK [2]) = some [.int .i64 6] := by kernel_rfl
theorem p75_32 : execC (lookF FL) noSc 1000 x75 (argTm 0 [.int .i64 32]) [] 100 (valK [2]) = some [.int .i64 9] := by kernel_rfl
theorem p75_33 : execC (lookF FL) noSc 1000 x75 (argTm 0 [.int .i64 33]) [] 100 (valK [2]) = some [.int .i64 10] := by kernel_rfl
theorem p75_34 : execC (lookF FL) noSc 1000 x75 (argTm 0 [.int .i64 34]) [] 100 (valK [2]) = some [.int .i64 3] := by kernel_rfl
theorem p75_35 : execC (lookF FL) noSc 1000 x75 (argTm 0 [.int .i64 35]) [] 100 (valK [2]) = some [.int .i64 7] := by kernel_rfl
theorem p75_36 : execC (lookF FL) noSc 1000 x75 (argTm 0 [.int .i64 36]) [] 100 (valK [2]) = some [.int .i64 8] := by kernel_rfl
theorem p75_37 : execC (lookF FL) noSc 1000 x75 (argTm 0 [.int .i64 37]) [] 100 (valK [2]) = some [.int .i64 18] := by kernel_rfl
theorem c75 {op : Int} (h1 : 28 <= op) (h2 : op <= 37) (n : Nat) : ADet Try.prog 75 [.int .i64 op] [] (.int .i64 (plainF op)) [] n 0 := by
  obtain ⟨k, rfl⟩ : ∃ k : Nat, op = Int.ofNat k := ⟨op.toNat, by simp; omega⟩
  match k, h1, h2 with
  | 28, _, _ => exact adet_tree FOK 1000 fx75 (by simp) [2] p75_28 rfl rfl rfl rfl n
  | 29, _, _ => exact adet_tree FOK 1000 fx75 (by simp) [2] p75_29 rfl rfl rfl rfl n
  | 30, _, _ => exact adet_tree FOK 1000 fx75 (by simp) [2] p75_30 rfl rfl rfl rfl n
  | 31, _, _ => exact adet_tree FOK 1000 fx75 (by simp) [2] p75_31 rfl rfl rfl rfl n
  | 32, _, _ => exact adet_tree FOK 1000 fx75 (by simp) [2] p75_32 rfl rfl rfl rfl n
  | 33, _, _ => exact adet_tree FOK 1000 fx75 (by simp) [2] p75_33 rfl rfl rfl rfl n
  | 34, _, _ => exact adet_tree FOK 1000 fx75 (by simp) [2] p75_34 rfl rfl rfl rfl n
  | 35, _, _ => exact adet_tree FOK 1000 fx75 (by simp) [2] p75_35 rfl rfl rfl rfl n
  | 36, _, _ => exact adet_tree FOK 1000 fx75 (by simp) [2] p75_36 rfl rfl rfl rfl n
  | 37, _, _ => exact adet_tree FOK 1000 fx75 (by simp) [2] p75_37 rfl rfl rfl rfl n
  | 0, h1, _ => exact absurd h1 (by decide)
  | 1, h1, _ => exact absurd h1 (by decide)
  | 2, h1, _ => exact absurd h1 (by decide)
  | 3, h1, _ => exact absurd h1 (by decide)
  | 4, h1, _ => exact absurd h1 (by decide)
  | 5, h1, _ => exact absurd h1 (by decide)
  | 6, h1, _ => exact absurd h1 (by decide)
  | 7, h1, _ => exact absurd h1 (by decide)
  | 8, h1, _ => exact absurd h1 (by decide)
  | 9, h1, _ => exact absurd h1 (by decide)
  | 10, h1, _ => exact absurd h1 (by decide)
  | 11, h1, _ => exact absurd h1 (by decide)
  | 12, h1, _ => exact absurd h1 (by decide)
  | 13, h1, _ => exact absurd h1 (by decide)
  | 14, h1, _ => exact absurd h1 (by decide)
  | 15, h1, _ => exact absurd h1 (by decide)
  | 16, h1, _ => exact absurd h1 (by decide)
  | 17, h1, _ => exact absurd h1 (by decide)
  | 18, h1, _ => exact absurd h1 (by decide)
  | 19, h1, _ => exact absurd h1 (by decide)
  | 20, h1, _ => exact absurd h1 (by decide)
  | 21, h1, _ => exact absurd h1 (by decide)
  | 22, h1, _ => exact absurd h1 (by decide)
  | 23, h1, _ => exact absurd h1 (by decide)
  | 24, h1, _ => exact absurd h1 (by decide)
  | 25, h1, _ => exact absurd h1 (by decide)
  | 26, h1, _ => exact absurd h1 (by decide)
  | 27, h1, _ => exact absurd h1 (by decide)
  | k + 38, _, h2 => exact absurd h2 (by simp; omega)
def con75 : Con Try.prog where
  f := 75
  run := fun vs _ _ => match vs with
    | [.int .i64 op] => some ([], .int .i64 (plainF op), [], 0, decide (28 <= op) && decide (op <= 37))
    | _ => none
  ok := fun vs h n pre v upd news hx => by
    split at hx
    · simp only [Option.some.injEq, Prod.mk.injEq, Bool.and_eq_true, decide_eq_true_eq] at hx
      obtain ⟨rfl, rfl, rfl, rfl, h1, h2⟩ := hx
      exact ⟨fun id hid => by simp [fstL] at hid, c75 h1 h2 n⟩
    · cases hx
def conNo (f : FuncId) (v : Value) : Con Try.prog where
  f := f
  run := fun _ _ _ => some ([], v, [], 0, false)
  ok := fun vs h n pre v upd news hx => by simp at hx
structure FetchOK (m : MS) (i : Ans) (k : KM) : Prop where
  sz : szB m.sz = true
  pl : uB m.pl = true
  at_ : plB m.sz m.pl 4 = true
  u : DecU (w32 m)
  kn : m.kn.OK
  is : decA (w32 m) = i
  k : m.kn' = k
  err : i.err = 0
noncomputable def con72 (m : MS) (i : Ans) (k : KM) : Con Try.prog where
  f := 72
  run := fun vs h n => match vs with
    | [.pointer (some ⟨92, 0, some 0⟩)] => some (mkH m.H, .tuple ⟨[i.i, .bool true]⟩, [(n, some i.b), (91, some k.blk)], 1, decP (Has h m.H /\ FetchOK m i k) && Nat.ble 100 n)
    | _ => none
  ok := fun vs h n pre v upd news hx => by
    split at hx
    · simp only [Option.some.injEq, Prod.mk.injEq, Bool.and_eq_true] at hx
      obtain ⟨rfl, rfl, rfl, rfl, hA, hn⟩ := hx
      obtain ⟨hh, ho⟩ := of_decP hA
      refine ⟨has_pre hh rfl, ?_⟩
      have := c72 m ho.sz ho.pl ho.at_ ho.u ho.kn (ble_le hn)
      rw [ho.is, ho.k, ho.err] at this
      exact this
    · cases hx
def FetchNo (m : MS) (i : Ans) : Prop := szB m.sz = true /\ uB m.pl = true /\ ((plB m.sz m.pl 4 = false /\ i = ans0) \/ (plB m.sz m.pl 4 = true /\ DecU (w32 m) /\ m.kn.OK /\ decA (w32 m) = i /\ i.err ≠ 0))
theorem c72n {m : MS} {i : Ans} (h : FetchNo m i) {n : Nat} (hn : 100 <= n) : ADet Try.prog 72 [pM] (mkH m.H) (.tuple ⟨[i.i, .bool false]⟩) [(n, some i.b), (91, some m.kn.blk)] n 1 := by
  obtain ⟨hs, hp, ⟨hb, rfl⟩ | ⟨hb, hu, hk, rfl, he⟩⟩ := h
  · have e := p72n m
    rw [decP_true (has_83 m), hs, hp, hb] at e
    simp only [Bool.and_self, Bool.not_false, cond_true] at e
    refine adet_new1 (pre := m.H) (b := ans0.b) ?_ hn rfl ⟨bis_mem, bis_kn, rfl, trivial⟩ rfl rfl rfl (fun d => rfl) (fun d => rfl) (fun d => ⟨bis_kn, bis_mem, trivial, rfl, trivial⟩) (fun d => ⟨rfl, rfl⟩)
    exact body_walk (FOK72n m) fx72 (by simp) e rfl ⟨mkT [3, 2] [.bool false, .pointer (some ⟨100, 0, some 0⟩)], mkH [(100, var0), (90, m.memB), (91, m.kn.blk), (92, m.mB)], 101⟩
      (fun ρ w hd => ⟨_, _, _, rfl, rfl, ⟨rfl, rfl, trivial⟩, rfl, bis_mem, bis_kn, rfl, trivial⟩) ⟨rfl, rfl, rfl, trivial, rfl, trivial⟩ rfl rfl
  · have h := c72 m hs hp hb hu hk hn
    have g : ((decA (w32 m)).err != 0) = true := by simpa using he
    have g' : ((decA (w32 m)).err == 0) = false := by simpa using he
    have : m.kn' = m.kn := by unfold MS.kn'; rw [g]; simp
    rw [this, g'] at h
    exact h
noncomputable def con72n (m : MS) (i : Ans) : Con Try.prog where
  f := 72
  run := fun vs h n => match vs with
    | [.pointer (some ⟨92, 0, some 0⟩)] => some (mkH m.H, .tuple ⟨[i.i, .bool false]⟩, [(n, some i.b), (91, some m.kn.blk)], 1, decP (Has h m.H /\ FetchNo m i) && Nat.ble 100 n)
    | _ => none
  ok := fun vs h n pre v upd news hx => by
    split at hx
    · simp only [Option.some.injEq, Prod.mk.injEq, Bool.and_eq_true] at hx
      obtain ⟨rfl, rfl, rfl, rfl, hA, hn⟩ := hx
      obtain ⟨hh, ho⟩ := of_decP hA
      exact ⟨has_pre hh rfl, c72n ho (ble_le hn)⟩
    · cases hx
def rB (vin vout : Value) (mk : Int) (wt : Bool) (vseen : Value) : Blk := .var [pM, vin, vout, .int .i64 mk, .bool wt, vseen]
noncomputable abbrev sc61 (m : MS) (i : Ans) (k : KM) : Short := scOf [con72 m i k, con73, con74, con75, con77, conNo 76 (.bool false), conNo 78 (.bool false)]
noncomputable abbrev sc61n (m : MS) (i : Ans) : Short := scOf [con72n m i]
theorem FOK61 (m : MS) (i : Ans) (k : KM) : FnsOK Try.prog (lookF FL) (sc61 m i k) := fok FOK _
theorem FOK61n (m : MS) (i : Ans) : FnsOK Try.prog (lookF FL) (sc61n m i) := fok FOK _
def rdX (m : MS) (r : Int) : Int := asI (([.slice (some ⟨90, 0, none⟩) m.sz m.sz] ++ regs m.x ++ [.int .u64 m.pl, .int .i64 m.st, .int .u8 m.cd, .map (some 91)] : List Value).getD (1 + r.toNat * 1) undefd)
def rdB (m : MS) (r : Int) : Bool := isI .u64 (([.slice (some ⟨90, 0, none⟩) m.sz m.sz] ++ regs m.x ++ [.int .u64 m.pl, .int .i64 m.st, .int .u8 m.cd, .map (some 91)] : List Value).getD (1 + r.toNat * 1) undefd)
end Go.X
