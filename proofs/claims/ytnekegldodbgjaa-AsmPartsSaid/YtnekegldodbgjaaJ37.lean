import Derived.Test.YtnekegldodbgjaaJ36
set_option linter.all false
namespace Go.X
open Go Go.Proofs
abbrev newS (n l : Nat) : Value := .slice (some ⟨n, 0, none⟩) l l
def Call0 (f : FuncId) (vs : List Value) (pre : List (Nat × Blk)) (ret : Bool) (me : Blk) (m2 : MS) (vin vout se : Value) (mk : Int) (wt : Bool) : Prop :=
  nodupB (pre.map (·.1)) = true /\ ∀ n, 103 <= n -> ADet Try.prog f vs (mkH pre) (.bool ret) [(90, some me), (92, some m2.mB), (100, some (rB vin vout mk wt se))] n 0
noncomputable def conC0 (f : FuncId) (vs0 : List Value) (pre : List (Nat × Blk)) (ret : Bool) (me : Blk) (m2 : MS) (vin vout se : Value) (mk : Int) (wt : Bool) : Con Try.prog where
  f := f
  run := fun vs h n => some (mkH pre, .bool ret, [(90, some me), (92, some m2.mB), (100, some (rB vin vout mk wt se))], 0, decP (vs = vs0 /\ Has h pre /\ Call0 f vs0 pre ret me m2 vin vout se mk wt) && Nat.ble 103 n)
  ok := fun vs h n pre' v upd news hx => by
    simp only [Option.some.injEq, Prod.mk.injEq, Bool.and_eq_true] at hx
    obtain ⟨rfl, rfl, rfl, rfl, hA, hn⟩ := hx
    obtain ⟨rfl, hh, hc⟩ := of_decP hA
    exact ⟨has_pre hh hc.1, hc.2 n (ble_le hn)⟩
def CallO (pre : List (Nat × Blk)) (m2 : MS) (vin se : Value) (l : Nat) (b : Blk) (mk : Int) (wt : Bool) : Prop :=
  nodupB (pre.map (·.1)) = true /\ ∀ n, 103 <= n -> ADet Try.prog 78 [pR] (mkH pre) (.bool true) [(n, some b), (92, some m2.mB), (100, some (rB vin (newS n l) mk wt se)), (101, none)] n 1
noncomputable def conO (pre : List (Nat × Blk)) (m2 : MS) (vin se : Value) (l : Nat) (b : Blk) (mk : Int) (wt : Bool) : Con Try.prog where
  f := 78
  run := fun vs h n => some (mkH pre, .bool true, [(n, some b), (92, some m2.mB), (100, some (rB vin (newS n l) mk wt se)), (101, none)], 1, decP (vs = [pR] /\ Has h pre /\ CallO pre m2 vin se l b mk wt) && Nat.ble 103 n)
  ok := fun vs h n pre' v upd news hx => by
    simp only [Option.some.injEq, Prod.mk.injEq, Bool.and_eq_true] at hx
    obtain ⟨rfl, rfl, rfl, rfl, hA, hn⟩ := hx
    obtain ⟨rfl, hh, hc⟩ := of_decP hA
    exact ⟨has_pre hh hc.1, hc.2 n (ble_le hn)⟩
def CallS (i : Ans) (pre : List (Nat × Blk)) (me : Blk) (m2 : MS) (vin vout : Value) (l : Nat) (b : Blk) (mk : Int) (wt : Bool) : Prop :=
  nodupB (pre.map (·.1)) = true /\ ∀ n, 103 <= n -> ADet Try.prog 76 [pR, i.i] (mkH pre) (.bool true) [(n, some b), (90, some me), (92, some m2.mB), (100, some (rB vin vout mk wt (newS n l))), (102, none)] n 1
noncomputable def conS (i : Ans) (pre : List (Nat × Blk)) (me : Blk) (m2 : MS) (vin vout : Value) (l : Nat) (b : Blk) (mk : Int) (wt : Bool) : Con Try.prog where
  f := 76
  run := fun vs h n => some (mkH pre, .bool true, [(n, some b), (90, some me), (92, some m2.mB), (100, some (rB vin vout mk wt (newS n l))), (102, none)], 1, decP (vs = [pR, i.i] /\ Has h pre /\ CallS i pre me m2 vin vout l b mk wt) && Nat.ble 103 n)
  ok := fun vs h n pre' v upd news hx => by
    simp only [Option.some.injEq, Prod.mk.injEq, Bool.and_eq_true] at hx
    obtain ⟨rfl, rfl, rfl, rfl, hA, hn⟩ := hx
    obtain ⟨rfl, hh, hc⟩ := of_decP hA
    exact ⟨has_pre hh hc.1, hc.2 n (ble_le hn)⟩
noncomputable abbrev scC0 (m : MS) (i : Ans) (k : KM) (f : FuncId) (vs0 : List Value) (pre : List (Nat × Blk)) (ret : Bool) (me : Blk) (m2 : MS) (vin vout se : Value) (mk : Int) (wt : Bool) : Short :=
  scOf [con72 m i k, con73, con74, conC0 f vs0 pre ret me m2 vin vout se mk wt]
noncomputable abbrev scO (m : MS) (i : Ans) (k : KM) (pre : List (Nat × Blk)) (m2 : MS) (vin se : Value) (l : Nat) (b : Blk) (mk : Int) (wt : Bool) : Short :=
  scOf [con72 m i k, con73, con74, conO pre m2 vin se l b mk wt]
noncomputable abbrev scS (m : MS) (i : Ans) (k : KM) (pre : List (Nat × Blk)) (me : Blk) (m2 : MS) (vin vout : Value) (l : Nat) (b : Blk) (mk : Int) (wt : Bool) : Short :=
  scOf [con72 m i k, con73, con74, conS i pre me m2 vin vout l b mk wt]
end Go.X
