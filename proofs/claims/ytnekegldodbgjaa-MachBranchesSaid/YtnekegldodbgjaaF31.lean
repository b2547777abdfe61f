import Derived.Test.YtnekegldodbgjaaF30
set_option linter.all false
set_option linter.unusedVariables false
set_option linter.unusedSimpArgs false
namespace Go.X
open Go Go.Proofs
set_option linter.unusedVariables false
set_option linter.unusedSimpArgs false
section
variable {m : MS} {vin vout se : Value} {mk : Int} {wt : Bool}
theorem step_calli (h1 : Stay vin) (h2 : Stay vout) (h3 : Stay se) {vin2 : Value} (h1' : Stay vin2) {T : Nat} {inp : Nat → Int} {c : Cand} {k : KM} (hf : FetchOK m ⟨55, c, 0⟩ k) (hc : CandOK c) {m2 : MS} (hm : m2.memB = m.memB)
    (hcall : Call0 78 [pR] (pre78 m (rB vin vout mk wt se) [(40, inB T inp)]) true m.memB m2 vin2 vout se mk wt) : Step0 (preS m (rB vin vout mk wt se) [(40, inB T inp)]) true (finM m m2 k true) (rB vin2 vout mk wt se) := by
  refine ⟨rfl, fun n hn => ?_⟩
  have e := p61c_i m m2 c k vin vout se vin2 vout mk wt true (pre78 m (rB vin vout mk wt se) [(40, inB T inp)]) (inB T inp) m.memB
  obtain ⟨a1, a2, a3, a4⟩ := reg_ok m hc.rs1
  rw [decP_true ⟨hasH m [(100, rB vin vout mk wt se), (40, inB T inp)], hf⟩, decP_true ⟨rfl, ⟨rfl, rfl, rfl, rfl, trivial⟩, hcall⟩] at e
  simp only [a1, a2, a3, Bool.and_self, Bool.or_false, cond_true] at e
  have hme : (finM m m2 k true).memB = m.memB := by rw [← hm]; rfl
  have e2 : walk (lookF FL) (scC0 m ⟨55, c, 0⟩ k 78 [pR] (pre78 m (rB vin vout mk wt se) [(40, inB T inp)]) true m.memB m2 vin2 vout se mk wt) 1000 x61 (argTm 0 [pR]) (mkH (preS m (rB vin vout mk wt se) [(40, inB T inp)])) 103 ⟨[], [], [], []⟩ ⟨[2], [.id 90, .id 91, .id 92, .id 100], [], [40]⟩ ⟨[], [], [], []⟩ =
      some ⟨⟨[some (true, .bool true)], [(90, some (finM m m2 k true).memB), (91, some k.blk), (92, some (finM m m2 k true).mB), (100, some (rB vin2 vout mk wt se))], .ret, 105⟩, none⟩ := by
    rw [hme]
    exact e
  refine adet_of_body (body_walk (news := 0) (fok FOK _) fx61 (by simp) e2 rfl ⟨mkT [2] [.bool true], mkH [(90, (finM m m2 k true).memB), (91, k.blk), (92, (finM m m2 k true).mB), (100, rB vin2 vout mk wt se), (40, inB T inp)], 103⟩
    (fun ρ w hd => ⟨_, _, _, rfl, rfl, ⟨rfl, trivial⟩, bis_mem, bis_kn, rfl, bis_rB h1' h2 h3 rfl rfl rfl rfl, bis_inB, trivial⟩) (upd := updS (finM m m2 k true) (rB vin2 vout mk wt se)) ⟨rfl, rfl, rfl, rfl, trivial, trivial, trivial, trivial, rfl, trivial⟩ rfl rfl) πR [] rfl rfl
    ⟨bis_mem, bis_kn, rfl, bis_rB h1 h2 h3 rfl rfl rfl rfl, bis_inB, trivial⟩ rfl rfl ⟨bis_mem, bis_kn, rfl, bis_rB h1' h2 h3 rfl rfl rfl rfl, trivial, trivial, trivial, trivial, bis_inB, trivial⟩ rfl
theorem step_out0 (h1 : Stay vin) (h3 : Stay se) {c : Cand} {k : KM} (hf : FetchOK m ⟨55, c, 0⟩ k) (hc : CandOK c) {m2 : MS} (hm : m2.memB = m.memB) {l : Nat} {of : Nat → Int}
    (hcall : CallO (pre78 m (rB vin (.slice none 0 0) mk wt se) []) m2 vin se l (outB l of) mk wt) : StepO (preS m (rB vin (.slice none 0 0) mk wt se) []) (finM m m2 k true) vin se l (outB l of) mk wt := by
  refine ⟨rfl, fun n hn => ?_⟩
  have e := p61o_n m m2 c k vin (.slice none 0 0) se mk wt (pre78 m (rB vin (.slice none 0 0) mk wt se) []) m.memB (outB l of) l
  obtain ⟨a1, a2, a3, a4⟩ := reg_ok m hc.rs1
  rw [decP_true ⟨hasH m [(100, rB vin (.slice none 0 0) mk wt se)], hf⟩, decP_true ⟨rfl, ⟨rfl, rfl, rfl, trivial⟩, hcall⟩] at e
  simp only [a1, a2, a3, Bool.and_self, Bool.or_false, cond_true] at e
  have hme : (finM m m2 k true).memB = m.memB := by rw [← hm]; rfl
  refine adet_newR (upd := fun n => updX (finM m m2 k true) (rB vin (newS n l) mk wt se) 101) (body_walk (fok FOK _) fx61 (by simp) e rfl ⟨mkT [2] [.bool true], mkH [(91, k.blk), (92, (finM m m2 k true).mB), (100, rB vin (newS 103 l) mk wt se), (103, outB l of), (90, m.memB)], 104⟩
    (fun ρ w hd => ⟨_, _, _, rfl, rfl, ⟨rfl, trivial⟩, bis_kn, rfl, bis_rBo h1 h3 rfl rfl rfl rfl rfl, bis_outB, bis_mem, trivial⟩) ⟨rfl, by rw [hme]; rfl, rfl, rfl, rfl, trivial, trivial, trivial, trivial, trivial, trivial⟩ rfl rfl)
    rfl ⟨bis_mem, bis_kn, rfl, bis_rB h1 stay_nil h3 rfl rfl rfl rfl, trivial⟩ rfl rfl (fun d => rfl) (fun d => rfl) (fun d => bis_outB)
    (fun d => ⟨bis_mem, bis_kn, rfl, bis_rBo h1 h3 rfl rfl rfl rfl (asc_newR d _), trivial, trivial, trivial, trivial, trivial, trivial⟩) (fun d => ⟨rfl, rfl⟩) hn
theorem step_out1 (h1 : Stay vin) (h3 : Stay se) {c : Cand} {k : KM} (hf : FetchOK m ⟨55, c, 0⟩ k) (hc : CandOK c) {m2 : MS} (hm : m2.memB = m.memB) {l oN : Nat} {of of' : Nat → Int}
    (hcall : CallO (pre78 m (rB vin (.slice (some ⟨101, 0, none⟩) oN oN) mk wt se) [(101, outB oN of')]) m2 vin se l (outB l of) mk wt) : StepO (preS m (rB vin (.slice (some ⟨101, 0, none⟩) oN oN) mk wt se) [(101, outB oN of')]) (finM m m2 k true) vin se l (outB l of) mk wt := by
  refine ⟨rfl, fun n hn => ?_⟩
  have e := p61o_b m m2 c k vin (.slice (some ⟨101, 0, none⟩) oN oN) se mk wt (pre78 m (rB vin (.slice (some ⟨101, 0, none⟩) oN oN) mk wt se) [(101, outB oN of')]) (outB oN of') (outB l of) l
  obtain ⟨a1, a2, a3, a4⟩ := reg_ok m hc.rs1
  rw [decP_true ⟨hasH m [(100, rB vin (.slice (some ⟨101, 0, none⟩) oN oN) mk wt se), (101, outB oN of')], hf⟩, decP_true ⟨rfl, ⟨rfl, rfl, rfl, rfl, trivial⟩, hcall⟩] at e
  simp only [a1, a2, a3, Bool.and_self, Bool.or_false, cond_true] at e
  have hme : (finM m m2 k true).memB = m.memB := by rw [← hm]; rfl
  refine adet_newR (upd := fun n => updX (finM m m2 k true) (rB vin (newS n l) mk wt se) 101) (body_walk (fok FOK _) fx61 (by simp) e rfl ⟨mkT [2] [.bool true], mkH [(91, k.blk), (92, (finM m m2 k true).mB), (100, rB vin (newS 103 l) mk wt se), (103, outB l of), (90, m.memB)], 104⟩
    (fun ρ w hd => ⟨_, _, _, rfl, rfl, ⟨rfl, trivial⟩, bis_kn, rfl, bis_rBo h1 h3 rfl rfl rfl rfl rfl, bis_outB, bis_mem, trivial⟩) ⟨rfl, by rw [hme]; rfl, rfl, rfl, rfl, trivial, trivial, trivial, trivial, trivial, trivial, trivial⟩ rfl rfl)
    rfl ⟨bis_mem, bis_kn, rfl, bis_rB h1 (stay_out _ _) h3 rfl rfl rfl rfl, bis_outB, trivial⟩ rfl rfl (fun d => rfl) (fun d => rfl) (fun d => bis_outB)
    (fun d => ⟨bis_mem, bis_kn, rfl, bis_rBo h1 h3 rfl rfl rfl rfl (asc_newR d _), trivial, trivial, trivial, trivial, trivial, trivial, trivial⟩) (fun d => ⟨rfl, rfl⟩) hn
end
end Go.X
namespace Go.X
open Go Go.Proofs
set_option linter.unusedVariables false
set_option linter.unusedSimpArgs false
noncomputable def conSt0 (pre : List (Nat × Blk)) (ret : Bool) (m2 : MS) (r : Blk) : Con Try.prog where
  f := 61
  run := fun vs h n => some (mkH pre, .bool ret, updS m2 r, 0, decP (vs = [pR] ∧ Has h pre ∧ Step0 pre ret m2 r) && Nat.ble 103 n)
  ok := fun vs h n pre' v upd news hx => by
    simp only [Option.some.injEq, Prod.mk.injEq, Bool.and_eq_true] at hx
    obtain ⟨rfl, rfl, rfl, rfl, hA, hn⟩ := hx
    obtain ⟨rfl, hh, hc⟩ := of_decP hA
    exact ⟨has_pre hh hc.1, hc.2 n (ble_le hn)⟩
noncomputable def conStO (pre : List (Nat × Blk)) (m2 : MS) (vin se : Value) (l : Nat) (b : Blk) (mk : Int) (wt : Bool) : Con Try.prog where
  f := 61
  run := fun vs h n => some (mkH pre, .bool true, (n, some b) :: updX m2 (rB vin (newS n l) mk wt se) 101, 1, decP (vs = [pR] ∧ Has h pre ∧ StepO pre m2 vin se l b mk wt) && Nat.ble 103 n)
  ok := fun vs h n pre' v upd news hx => by
    simp only [Option.some.injEq, Prod.mk.injEq, Bool.and_eq_true] at hx
    obtain ⟨rfl, rfl, rfl, rfl, hA, hn⟩ := hx
    obtain ⟨rfl, hh, hc⟩ := of_decP hA
    exact ⟨has_pre hh hc.1, hc.2 n (ble_le hn)⟩
noncomputable def conStW (pre : List (Nat × Blk)) (m2 : MS) (vin vout : Value) (l : Nat) (b : Blk) (mk : Int) (wt : Bool) : Con Try.prog where
  f := 61
  run := fun vs h n => some (mkH pre, .bool true, (n, some b) :: updX m2 (rB vin vout mk wt (newS n l)) 102, 1, decP (vs = [pR] ∧ Has h pre ∧ StepW pre m2 vin vout l b mk wt) && Nat.ble 103 n)
  ok := fun vs h n pre' v upd news hx => by
    simp only [Option.some.injEq, Prod.mk.injEq, Bool.and_eq_true] at hx
    obtain ⟨rfl, rfl, rfl, rfl, hA, hn⟩ := hx
    obtain ⟨rfl, hh, hc⟩ := of_decP hA
    exact ⟨has_pre hh hc.1, hc.2 n (ble_le hn)⟩
def res0 : Blk := .var [.int .i64 0, .int .u8 0, .int .i64 0, .slice none 0 0, .int .i64 0, .int .i64 0]
def extL (bi bo bs : Bool) (b94 b101 b102 : Blk) : List (Nat × Blk) := (bif bi then [(40, b94)] else []) ++ ((bif bo then [(101, b101)] else []) ++ (bif bs then [(102, b102)] else []))
def extI (bi bo bs : Bool) : List Nat := (bif bi then [40] else []) ++ ((bif bo then [101] else []) ++ (bif bs then [102] else []))
abbrev core48 (m : MS) (r : Blk) : List (Nat × Blk) := [(90, m.memB), (91, m.kn.blk), (92, m.mB), (100, r), (103, res0)]
abbrev T48 (n fuel : Int) : Tm := mkT [11, 10, 8, 2, 0] [.int .i64 n, pR, .pointer (some ⟨103, 0, some 0⟩), .int .i64 fuel, pM]
noncomputable abbrev sc480 (pre : List (Nat × Blk)) (ret : Bool) (m2 : MS) (r : Blk) : Short := scOf [conSt0 pre ret m2 r]
noncomputable abbrev sc48O (pre : List (Nat × Blk)) (m2 : MS) (vin se : Value) (l : Nat) (b : Blk) (mk : Int) (wt : Bool) : Short := scOf [conStO pre m2 vin se l b mk wt]
noncomputable abbrev sc48W (pre : List (Nat × Blk)) (m2 : MS) (vin vout : Value) (l : Nat) (b : Blk) (mk : Int) (wt : Bool) : Short := scOf [conStW pre m2 vin vout l b mk wt]
end Go.X
namespace Go.X
open Go Go.Proofs
set_option linter.unusedVariables false
set_option linter.unusedSimpArgs false
def stopM (m : MS) : MS := { m with st := 4 }
def vO (bo : Bool) (n : Nat) : Value := bif bo then .slice (some ⟨101, 0, none⟩) n n else .slice none 0 0
def vW (bs : Bool) (n : Nat) : Value := bif bs then .slice (some ⟨102, 0, none⟩) n n else .slice none 0 0
def vI (bi : Bool) (k L C : Nat) : Value := bif bi then .slice (some ⟨40, k, none⟩) L C else .slice none 0 0
def resB (m : MS) (vout : Value) (n mk : Int) : Blk := .var [.int .i64 m.st, .int .u8 m.cd, .int .i64 0, vout, .int .i64 n, .int .i64 mk]
theorem p48_c (m : MS) (vin vout se : Value) (mk n fuel : Int) (wt : Bool) (bi bo bs : Bool) (b94 b101 b102 : Blk) : walk (lookF FL) noSc 1000 x48_5 (T48 n fuel) (mkH (core48 m (rB vin vout mk wt se) ++ extL bi bo bs b94 b101 b102)) 104 (Pj.mk [] [] [11, 10, 8, 2, 0] ([90, 91, 92, 100, 103] ++ extI bi bo bs)) (Pj.mk [] [] [] []) (Pj.mk [] [] [] []) = bif ((decide (n < fuel) || !decide (n < fuel)) && true || false) && ((decide (n < fuel) && true || !decide (n < fuel)) && ((decide (n < fuel) && true || !decide (n < fuel)) && ((decide (n < fuel) && true || !decide (n < fuel)) && ((decide (n < fuel) && true || !decide (n < fuel)) && true)))) then bif bif decide (n < fuel) then m.st == 0 else false then some (Stop.mk (Leaf.mk [] [] Exit.normal 104) none) else some (Stop.mk (Leaf.mk [] [] (Exit.exit 0) 104) none) else none := by cases bi <;> cases bo <;> cases bs <;> kernel_rfl
theorem p48_0 (m m2 : MS) (vin vout se vin2 vout2 se2 : Value) (mk mk2 n fuel : Int) (wt ret : Bool) (pre : List (Nat × Blk)) (bi bo bs : Bool) (b94 b101 b102 : Blk) : walk (lookF FL) (sc480 pre ret m2 (rB vin2 vout2 mk2 wt se2)) 1000 x48_13 (T48 n fuel) (mkH (core48 m (rB vin vout mk wt se) ++ extL bi bo bs b94 b101 b102)) 104 (Pj.mk [11] [Ref.id 90, Ref.id 91, Ref.id 92, Ref.id 100] [10, 8, 2, 0] (103 :: extI bi bo bs)) (Pj.mk [] [] [] []) (Pj.mk [] [] [] []) = bif decP ([pR] = [pR] ∧ Has (mkH (core48 m (rB vin vout mk wt se) ++ extL bi bo bs b94 b101 b102)) pre ∧ Step0 pre ret m2 (rB vin2 vout2 mk2 wt se2)) && true && true then bif !ret then some (Stop.mk (Leaf.mk [some (true, Value.int IntKind.i64 n)] [(90, some m2.memB), (91, some m2.kn.blk), (92, some (stopM m2).mB), (100, some (rB (vin2) (vout2) mk2 wt (se2)))] (Exit.exit 0) 104) none) else some (Stop.mk (Leaf.mk [some (true, Value.int IntKind.i64 (IntKind.i64.wrap (n + 1)))] [(90, some m2.memB), (91, some m2.kn.blk), (92, some m2.mB), (100, some (rB (vin2) (vout2) mk2 wt (se2)))] Exit.normal 104) none) else none := by cases bi <;> cases bo <;> cases bs <;> kernel_rfl
theorem p48_O (m m2 : MS) (vin vout se vin2 : Value) (mk n fuel : Int) (wt : Bool) (pre : List (Nat × Blk)) (b : Blk) (l : Nat) (bi bo bs : Bool) (b94 b101 b102 : Blk) : walk (lookF FL) (sc48O pre m2 vin2 se l b mk wt) 1000 x48_13 (T48 n fuel) (mkH (core48 m (rB vin vout mk wt se) ++ extL bi bo bs b94 b101 b102)) 104 (Pj.mk [11] [Ref.id 90, Ref.id 91, Ref.id 92, Ref.id 100, Ref.cell 100 2] [10, 8, 2, 0] (103 :: extI bi false bs)) (Pj.mk [] [] [] []) (Pj.mk [] [] [] []) = bif decP ([pR] = [pR] ∧ Has (mkH (core48 m (rB vin vout mk wt se) ++ extL bi bo bs b94 b101 b102)) pre ∧ StepO pre m2 vin2 se l b mk wt) && true && true then some (Stop.mk (Leaf.mk [some (true, Value.int IntKind.i64 (IntKind.i64.wrap (n + 1)))] [(90, some m2.memB), (91, some m2.kn.blk), (92, some m2.mB), (100, some (rB (vin2) (Value.slice (some (Addr.mk 104 0 none)) l l) mk wt (se))), (104, some b)] Exit.normal 105) none) else none := by cases bi <;> cases bo <;> cases bs <;> kernel_rfl
theorem p48_W (m m2 : MS) (vin vout se vout2 : Value) (mk n fuel : Int) (wt : Bool) (pre : List (Nat × Blk)) (b : Blk) (l : Nat) (bi bo bs : Bool) (b94 b101 b102 : Blk) : walk (lookF FL) (sc48W pre m2 vin vout2 l b mk wt) 1000 x48_13 (T48 n fuel) (mkH (core48 m (rB vin vout mk wt se) ++ extL bi bo bs b94 b101 b102)) 104 (Pj.mk [11] [Ref.id 90, Ref.id 91, Ref.id 92, Ref.id 100, Ref.cell 100 5] [10, 8, 2, 0] (103 :: extI bi bo false)) (Pj.mk [] [] [] []) (Pj.mk [] [] [] []) = bif decP ([pR] = [pR] ∧ Has (mkH (core48 m (rB vin vout mk wt se) ++ extL bi bo bs b94 b101 b102)) pre ∧ StepW pre m2 vin vout2 l b mk wt) && true && true then some (Stop.mk (Leaf.mk [some (true, Value.int IntKind.i64 (IntKind.i64.wrap (n + 1)))] [(90, some m2.memB), (91, some m2.kn.blk), (92, some m2.mB), (100, some (rB (vin) (vout2) mk wt (Value.slice (some (Addr.mk 104 0 none)) l l))), (104, some b)] Exit.normal 105) none) else none := by cases bi <;> cases bo <;> cases bs <;> kernel_rfl
theorem p48_e (m : MS) (vin : Value) (mk n fuel : Int) (wt : Bool) (bi bo bs : Bool) (oN sN : Nat) (b94 b101 b102 : Blk) : walk (lookF FL) noSc 1000 x48_18 (T48 n fuel) (mkH (core48 m (rB vin (vO bo oN) mk wt (vW bs sN)) ++ extL bi bo bs b94 b101 b102)) 104 (Pj.mk [] [] [] []) (Pj.mk [9, 8] [Ref.id 103] [] ([90, 91, 92, 100] ++ extI bi bo bs)) (Pj.mk [] [] [] []) =
  some (Stop.mk (Leaf.mk [some (true, vW bs sN), some (true, Value.pointer (some (Addr.mk 103 0 (some 0))))] [(103, some (resB m (vO bo oN) n mk))] Exit.ret 104) none) := by cases bi <;> cases bo <;> cases bs <;> kernel_rfl
theorem p48_a (m : MS) (bi : Bool) (k L C : Nat) (fuel : Int) (wt : Bool) (b94 : Blk) : walk (lookF FL) noSc 1000 x48 (argTm 0 [pM, vI bi k L C, .int .i64 fuel, .bool wt]) (mkH (m.H ++ extL bi false false b94 b94 b94)) 100 (Pj.mk [] [] [] []) (Pj.mk [] [] [] []) (Pj.mk [11, 10, 8] [.tmp 10, .tmp 8] [2, 0] ([90, 91, 92] ++ extI bi false false)) =
  some (Stop.mk (Leaf.mk [some (true, .int .i64 0), some (true, .pointer (some ⟨101, 0, some 0⟩)), some (true, .pointer (some ⟨100, 0, some 0⟩))] [(101, some (rB (vI bi k L C) (.slice none 0 0) 0 wt (.slice none 0 0))), (100, some res0)] Exit.normal 102) (some (x48_14, [Cx.bl 0, Cx.sq x48_18]))) := by cases bi <;> kernel_rfl
end Go.X
namespace Go.X
open Go Go.Proofs
set_option linter.unusedVariables false
set_option linter.unusedSimpArgs false
structure RSt where
  m : MS
  ik : Nat
  oN : Nat
  of : Nat → Int
  sN : Nat
  sf : Nat → List Value
  mark : Int
structure REnv where
  bi : Bool
  T : Nat
  inp : Nat → Int
  k0 : Nat
  L0 : Nat
  C0 : Nat
  wt : Bool
def bO : Nat → Bool
  | 0 => false
  | _ + 1 => true
def seB (n : Nat) (f : Nat → List Value) : Blk := .rows n 4 f true false
def RSt.vin (e : REnv) (s : RSt) : Value := vI e.bi (e.k0 + s.ik) (e.L0 - s.ik) (e.C0 - s.ik)
def RSt.rb (e : REnv) (s : RSt) : Blk := rB (s.vin e) (vO (bO s.oN) s.oN) s.mark e.wt (vW (bO s.sN) s.sN)
def RSt.ex (e : REnv) (s : RSt) : List (Nat × Blk) := extL e.bi (bO s.oN) (bO s.sN) (inB e.T e.inp) (outB s.oN s.of) (seB s.sN s.sf)
def RSt.hp (e : REnv) (s : RSt) : List (Nat × Blk) := core48 s.m (s.rb e) ++ s.ex e
def S48 (e : REnv) (fuel : Int) (s : RSt) (n : Int) : St := ⟨T48 n fuel, mkH (s.hp e), 104⟩
inductive Next (e : REnv) (s s' : RSt) : Prop
  | st0 (pre : List (Nat × Blk)) (h1 : Has (mkH (s.hp e)) pre) (h2 : Step0 pre true s'.m (s'.rb e)) (h3 : s'.oN = s.oN ∧ s'.of = s.of ∧ s'.sN = s.sN ∧ s'.sf = s.sf)
  | stO (pre : List (Nat × Blk)) (h1 : Has (mkH (s.hp e)) pre) (h2 : StepO pre s'.m (s'.vin e) (vW (bO s.sN) s.sN) s'.oN (outB s'.oN s'.of) s'.mark e.wt) (h3 : 0 < s'.oN ∧ s'.sN = s.sN ∧ s'.sf = s.sf ∧ s'.mark = s.mark)
  | stW (pre : List (Nat × Blk)) (h1 : Has (mkH (s.hp e)) pre) (h2 : StepW pre s'.m (s.vin e) (vO (bO s.oN) s.oN) s'.sN (seB s'.sN s'.sf) s'.mark e.wt) (h3 : 0 < s'.sN ∧ s'.oN = s.oN ∧ s'.of = s.of ∧ s'.mark = s.mark ∧ s'.ik = s.ik)
def Fault (e : REnv) (s s' : RSt) : Prop := ∃ pre, Has (mkH (s.hp e)) pre ∧ Step0 pre false s'.m (s'.rb e) ∧ s'.oN = s.oN ∧ s'.of = s.of ∧ s'.sN = s.sN ∧ s'.sf = s.sf
def RSt.stop (s : RSt) : RSt := { s with m := stopM s.m }
def runF (step : RSt → Bool × RSt) : Nat → RSt → Nat → RSt × Nat
  | 0, s, n => (s, n)
  | k + 1, s, n => bif s.m.st == 0 then (bif (step s).1 then runF step k (step s).2 (n + 1) else ((step s).2.stop, n)) else (s, n)
theorem bis_seB {P : Program} {σ : Nm} {n : Nat} {f : Nat → List Value} (h : ∀ j, j < n → rnL σ (f j) = f j) : BIs P σ (seB n f) (seB n f) := ⟨rfl, rfl, h, .inl rfl, .inr rfl⟩
def SeOK (n : Nat) (f : Nat → List Value) : Prop := ∀ j, j < n → ∀ σ : Nm, rnL σ (f j) = f j
theorem bis_rBv {P : Program} {σ : Nm} {bi bo bs : Bool} {k L C oN sN : Nat} {mk : Int} {wt : Bool} (s92 : σ 92 = some 92) (s40 : bi = true → σ 40 = some 40) (s101 : bo = true → σ 101 = some 101) (s102 : bs = true → σ 102 = some 102) :
    BIs P σ (rB (vI bi k L C) (vO bo oN) mk wt (vW bs sN)) (rB (vI bi k L C) (vO bo oN) mk wt (vW bs sN)) := by
  show [ren σ 4 pM, ren σ 4 (vI bi k L C), ren σ 4 (vO bo oN), .int .i64 mk, .bool wt, ren σ 4 (vW bs sN)] = _
  have e0 : ren σ 4 pM = pM := by simp only [ren, renP, s92]
  have e1 : ren σ 4 (vI bi k L C) = vI bi k L C := by
    cases bi with
    | false => rfl
    | true => simp only [vI, cond_true, ren, renP, s40 rfl]
  have e2 : ren σ 4 (vO bo oN) = vO bo oN := by
    cases bo with
    | false => rfl
    | true => simp only [vO, cond_true, ren, renP, s101 rfl]
  have e3 : ren σ 4 (vW bs sN) = vW bs sN := by
    cases bs with
    | false => rfl
    | true => simp only [vW, cond_true, ren, renP, s102 rfl]
  rw [e0, e1, e2, e3]
abbrev pr48 (bi bo bs : Bool) : Pj := ⟨[11], [.id 90, .id 91, .id 92, .id 100], [10, 8, 2, 0], 103 :: extI bi bo bs⟩
theorem leaf48 {E : FEnv} (hP : E.P = Try.prog) (hn : E.B.n = 100) (bi bo bs : Bool) {m0 m1 : MS} {r0 : Blk} {n n' fuel : Int} {k L C oN sN : Nat} {mk : Int} {wt : Bool} {T : Nat} {inp of : Nat → Int} {sf : Nat → List Value} (hse : SeOK sN sf) (ex : Exit) :
    LeafTo E ([11] ++ [10, 8, 2, 0]) (ext (pr48 bi bo bs) (T48 n fuel) (mkH (core48 m0 r0 ++ extL bi bo bs (inB T inp) (outB oN of) (seB sN sf)))
      ⟨[some (true, .int .i64 n')], [(90, some m1.memB), (91, some m1.kn.blk), (92, some m1.mB), (100, some (rB (vI bi k L C) (vO bo oN) mk wt (vW bs sN)))], ex, 104⟩)
      ⟨T48 n' fuel, mkH (core48 m1 (rB (vI bi k L C) (vO bo oN) mk wt (vW bs sN)) ++ extL bi bo bs (inB T inp) (outB oN of) (seB sN sf)), 104⟩ := by
  refine ⟨_, _, _, rfl, ?_, ?_, ?_⟩ <;> rw [hn]
  · cases bi <;> cases bo <;> cases bs <;> rfl
  · cases bi <;> cases bo <;> cases bs <;> exact ⟨rfl, rfl, rfl, rfl, rfl, trivial⟩
  · rw [hP]
    refine ⟨bis_mem, bis_kn, bis_mBg rfl rfl, bis_rBv rfl (fun _ => rfl) ?_ ?_, ?_⟩
    · intro h; subst h; cases bi <;> cases bs <;> rfl
    · intro h; subst h; cases bi <;> cases bo <;> rfl
    · cases bi <;> cases bo <;> cases bs
      · exact ⟨rfl, trivial⟩
      · exact ⟨rfl, bis_seB fun j hj => hse j hj _, trivial⟩
      · exact ⟨rfl, bis_outB, trivial⟩
      · exact ⟨rfl, bis_outB, bis_seB fun j hj => hse j hj _, trivial⟩
      · exact ⟨rfl, bis_inB, trivial⟩
      · exact ⟨rfl, bis_inB, bis_seB fun j hj => hse j hj _, trivial⟩
      · exact ⟨rfl, bis_inB, bis_outB, trivial⟩
      · exact ⟨rfl, bis_inB, bis_outB, bis_seB fun j hj => hse j hj _, trivial⟩
end Go.X
namespace Go.X
open Go Go.Proofs
set_option linter.unusedVariables false
set_option linter.unusedSimpArgs false
abbrev prC (bi bo bs : Bool) : Pj := ⟨[], [], [11, 10, 8, 2, 0], [90, 91, 92, 100, 103] ++ extI bi bo bs⟩
theorem leafQ {E : FEnv} (hP : E.P = Try.prog) (hn : E.B.n = 100) (bi bo bs : Bool) {m : MS} {n fuel : Int} {k L C oN sN : Nat} {mk : Int} {wt : Bool} {T : Nat} {inp of : Nat → Int} {sf : Nat → List Value} (hse : SeOK sN sf) (ex : Exit) :
    LeafTo E ([] ++ [11, 10, 8, 2, 0]) (ext (prC bi bo bs) (T48 n fuel) (mkH (core48 m (rB (vI bi k L C) (vO bo oN) mk wt (vW bs sN)) ++ extL bi bo bs (inB T inp) (outB oN of) (seB sN sf))) ⟨[], [], ex, 104⟩)
      ⟨T48 n fuel, mkH (core48 m (rB (vI bi k L C) (vO bo oN) mk wt (vW bs sN)) ++ extL bi bo bs (inB T inp) (outB oN of) (seB sN sf)), 104⟩ := by
  refine ⟨_, _, _, rfl, ?_, ?_, ?_⟩ <;> rw [hn]
  · cases bi <;> cases bo <;> cases bs <;> rfl
  · cases bi <;> cases bo <;> cases bs <;> exact ⟨rfl, rfl, rfl, rfl, rfl, trivial⟩
  · rw [hP]
    refine ⟨bis_mem, bis_kn, bis_mBg rfl rfl, bis_rBv rfl (fun _ => rfl) ?_ ?_, ?_⟩
    · intro h; subst h; cases bi <;> cases bs <;> rfl
    · intro h; subst h; cases bi <;> cases bo <;> rfl
    · cases bi <;> cases bo <;> cases bs
      · exact ⟨rfl, trivial⟩
      · exact ⟨rfl, bis_seB fun j hj => hse j hj _, trivial⟩
      · exact ⟨rfl, bis_outB, trivial⟩
      · exact ⟨rfl, bis_outB, bis_seB fun j hj => hse j hj _, trivial⟩
      · exact ⟨rfl, bis_inB, trivial⟩
      · exact ⟨rfl, bis_inB, bis_seB fun j hj => hse j hj _, trivial⟩
      · exact ⟨rfl, bis_inB, bis_outB, trivial⟩
      · exact ⟨rfl, bis_inB, bis_outB, bis_seB fun j hj => hse j hj _, trivial⟩
theorem c48 (m : MS) (vin vout se : Value) (mk n fuel : Int) (wt bi bo bs : Bool) (b40 b101 b102 : Blk) : walk (lookF FL) noSc 1000 x48_5 (T48 n fuel) (mkH (core48 m (rB vin vout mk wt se) ++ extL bi bo bs b40 b101 b102)) 104 (prC bi bo bs) ⟨[], [], [], []⟩ ⟨[], [], [], []⟩ =
    bif decide (n < fuel) && (m.st == 0) then some (Stop.mk (Leaf.mk [] [] Exit.normal 104) none) else some (Stop.mk (Leaf.mk [] [] (Exit.exit 0) 104) none) := by
  rw [p48_c]
  cases decide (n < fuel) <;> cases m.st == 0 <;> rfl
theorem leafO {E : FEnv} (hP : E.P = Try.prog) (hn : E.B.n = 100) (bi bo bs : Bool) {m0 m1 : MS} {r0 b0 : Blk} {n n' fuel : Int} {k L C oN sN : Nat} {mk : Int} {wt : Bool} {T : Nat} {inp of : Nat → Int} {sf : Nat → List Value} (hse : SeOK sN sf) (ex : Exit) :
    LeafTo E ([11] ++ [10, 8, 2, 0]) (ext ⟨[11], [.id 90, .id 91, .id 92, .id 100, .cell 100 2], [10, 8, 2, 0], 103 :: extI bi false bs⟩ (T48 n fuel) (mkH (core48 m0 r0 ++ extL bi bo bs (inB T inp) b0 (seB sN sf)))
      ⟨[some (true, .int .i64 n')], [(90, some m1.memB), (91, some m1.kn.blk), (92, some m1.mB), (100, some (rB (vI bi k L C) (newS 104 oN) mk wt (vW bs sN))), (104, some (outB oN of))], ex, 105⟩)
      ⟨T48 n' fuel, mkH ([(90, m1.memB), (91, m1.kn.blk), (92, m1.mB), (100, rB (vI bi k L C) (newS 101 oN) mk wt (vW bs sN)), (101, outB oN of), (103, res0)] ++ extL bi false bs (inB T inp) (outB oN of) (seB sN sf)), 104⟩ := by
  have hr : ∀ {σ : Nm}, σ 92 = some 92 → (bi = true → σ 40 = some 40) → σ 101 = some 104 → (bs = true → σ 102 = some 102) → BIs Try.prog σ (rB (vI bi k L C) (newS 101 oN) mk wt (vW bs sN)) (rB (vI bi k L C) (newS 104 oN) mk wt (vW bs sN)) := by
    intro σ s92 s40 s101 s102
    show [ren σ 4 pM, ren σ 4 (vI bi k L C), ren σ 4 (newS 101 oN), .int .i64 mk, .bool wt, ren σ 4 (vW bs sN)] = _
    have e0 : ren σ 4 pM = pM := by simp only [ren, renP, s92]
    have e1 : ren σ 4 (vI bi k L C) = vI bi k L C := by
      cases bi with
      | false => rfl
      | true => simp only [vI, cond_true, ren, renP, s40 rfl]
    have e2 : ren σ 4 (newS 101 oN) = newS 104 oN := stay_newS s101
    have e3 : ren σ 4 (vW bs sN) = vW bs sN := by
      cases bs with
      | false => rfl
      | true => simp only [vW, cond_true, ren, renP, s102 rfl]
    rw [e0, e1, e2, e3]
  refine ⟨_, _, _, rfl, ?_, ?_, ?_⟩ <;> rw [hn]
  · cases bi <;> cases bo <;> cases bs <;> rfl
  · cases bi <;> cases bo <;> cases bs <;> exact ⟨rfl, rfl, rfl, rfl, rfl, trivial⟩
  · rw [hP]
    refine ⟨bis_mem, bis_kn, bis_mBg rfl rfl, hr rfl (fun _ => rfl) ?_ ?_, bis_outB, ?_⟩
    · cases bi <;> cases bo <;> cases bs <;> rfl
    · intro h; subst h; cases bi <;> cases bo <;> rfl
    · cases bi <;> cases bo <;> cases bs
      · exact ⟨rfl, trivial⟩
      · exact ⟨rfl, bis_seB fun j hj => hse j hj _, trivial⟩
      · exact ⟨rfl, trivial⟩
      · exact ⟨rfl, bis_seB fun j hj => hse j hj _, trivial⟩
      · exact ⟨rfl, bis_inB, trivial⟩
      · exact ⟨rfl, bis_inB, bis_seB fun j hj => hse j hj _, trivial⟩
      · exact ⟨rfl, bis_inB, trivial⟩
      · exact ⟨rfl, bis_inB, bis_seB fun j hj => hse j hj _, trivial⟩
theorem leafW {E : FEnv} (hP : E.P = Try.prog) (hn : E.B.n = 100) (bi bo bs : Bool) {m0 m1 : MS} {r0 b0 : Blk} {n n' fuel : Int} {k L C oN sN : Nat} {mk : Int} {wt : Bool} {T : Nat} {inp of : Nat → Int} {sf : Nat → List Value} (hse : SeOK sN sf) (ex : Exit) :
    LeafTo E ([11] ++ [10, 8, 2, 0]) (ext ⟨[11], [.id 90, .id 91, .id 92, .id 100, .cell 100 5], [10, 8, 2, 0], 103 :: extI bi bo false⟩ (T48 n fuel) (mkH (core48 m0 r0 ++ extL bi bo bs (inB T inp) (outB oN of) b0))
      ⟨[some (true, .int .i64 n')], [(90, some m1.memB), (91, some m1.kn.blk), (92, some m1.mB), (100, some (rB (vI bi k L C) (vO bo oN) mk wt (newS 104 sN))), (104, some (seB sN sf))], ex, 105⟩)
      ⟨T48 n' fuel, mkH ([(90, m1.memB), (91, m1.kn.blk), (92, m1.mB), (100, rB (vI bi k L C) (vO bo oN) mk wt (newS 102 sN)), (102, seB sN sf), (103, res0)] ++ extL bi bo false (inB T inp) (outB oN of) (seB sN sf)), 104⟩ := by
  have hr : ∀ {σ : Nm}, σ 92 = some 92 → (bi = true → σ 40 = some 40) → (bo = true → σ 101 = some 101) → σ 102 = some 104 → BIs Try.prog σ (rB (vI bi k L C) (vO bo oN) mk wt (newS 102 sN)) (rB (vI bi k L C) (vO bo oN) mk wt (newS 104 sN)) := by
    intro σ s92 s40 s101 s102
    show [ren σ 4 pM, ren σ 4 (vI bi k L C), ren σ 4 (vO bo oN), .int .i64 mk, .bool wt, ren σ 4 (newS 102 sN)] = _
    have e0 : ren σ 4 pM = pM := by simp only [ren, renP, s92]
    have e1 : ren σ 4 (vI bi k L C) = vI bi k L C := by
      cases bi with
      | false => rfl
      | true => simp only [vI, cond_true, ren, renP, s40 rfl]
    have e3 : ren σ 4 (newS 102 sN) = newS 104 sN := stay_newS s102
    have e2 : ren σ 4 (vO bo oN) = vO bo oN := by
      cases bo with
      | false => rfl
      | true => simp only [vO, cond_true, ren, renP, s101 rfl]
    rw [e0, e1, e2, e3]
  refine ⟨_, _, _, rfl, ?_, ?_, ?_⟩ <;> rw [hn]
  · cases bi <;> cases bo <;> cases bs <;> rfl
  · cases bi <;> cases bo <;> cases bs <;> exact ⟨rfl, rfl, rfl, rfl, rfl, trivial⟩
  · rw [hP]
    refine ⟨bis_mem, bis_kn, bis_mBg rfl rfl, hr rfl (fun _ => rfl) ?_ ?_, bis_seB fun j hj => hse j hj _, ?_⟩
    · intro h; subst h; cases bi <;> cases bs <;> rfl
    · cases bi <;> cases bo <;> cases bs <;> rfl
    · cases bi <;> cases bo <;> cases bs
      · exact ⟨rfl, trivial⟩
      · exact ⟨rfl, trivial⟩
      · exact ⟨rfl, bis_outB, trivial⟩
      · exact ⟨rfl, bis_outB, trivial⟩
      · exact ⟨rfl, bis_inB, trivial⟩
      · exact ⟨rfl, bis_inB, trivial⟩
      · exact ⟨rfl, bis_inB, bis_outB, trivial⟩
      · exact ⟨rfl, bis_inB, bis_outB, trivial⟩
theorem has_sub {h : Hp} : ∀ {A : List (Nat × Blk)}, Has h A → ∀ id b, hget (mkH A) id = some b → hget h id = some b
  | [], _, id, b, hb => by cases hb
  | (k, x) :: l, hh, id, b, hb => by
    simp only [mkH, hget] at hb
    cases hk : Nat.beq k id with
    | true =>
      rw [hk] at hb
      simp only [cond_true, Option.some.injEq] at hb
      subst hb
      rw [← Nat.eq_of_beq_eq_true hk]
      exact hh.1
    | false => rw [hk] at hb; exact has_sub hh.2 id b hb
theorem hasO (bi bs : Bool) (m1 : MS) (r : Blk) (b40 b101 b101' b102 : Blk) : Has (mkH ([(90, m1.memB), (91, m1.kn.blk), (92, m1.mB), (100, r), (101, b101), (103, res0)] ++ extL bi false bs b40 b101' b102)) (core48 m1 r ++ extL bi true bs b40 b101 b102) := by
  cases bi <;> cases bs <;> first | exact ⟨rfl, rfl, rfl, rfl, rfl, rfl, trivial⟩ | exact ⟨rfl, rfl, rfl, rfl, rfl, rfl, rfl, trivial⟩ | exact ⟨rfl, rfl, rfl, rfl, rfl, rfl, rfl, rfl, trivial⟩
theorem hasW (bi bo : Bool) (m1 : MS) (r : Blk) (b40 b101 b102 b102' : Blk) : Has (mkH ([(90, m1.memB), (91, m1.kn.blk), (92, m1.mB), (100, r), (102, b102), (103, res0)] ++ extL bi bo false b40 b101 b102')) (core48 m1 r ++ extL bi bo true b40 b101 b102) := by
  cases bi <;> cases bo <;> first | exact ⟨rfl, rfl, rfl, rfl, rfl, rfl, trivial⟩ | exact ⟨rfl, rfl, rfl, rfl, rfl, rfl, rfl, trivial⟩ | exact ⟨rfl, rfl, rfl, rfl, rfl, rfl, rfl, rfl, trivial⟩
end Go.X
