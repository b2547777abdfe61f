import Derived.Test.YtnekegldodbgjaaJ35
set_option linter.all false
namespace Go.X
open Go Go.Proofs
def inR (r : Int) : Prop := 0 <= r /\ r < 32
structure CandOK (c : Cand) : Prop where
  rd : inR c.rd
  rs1 : inR c.rs1
  rs2 : inR c.rs2
theorem inR_nat {r : Int} (h : inR r) : ∃ k : Nat, k < 32 /\ r = (k : Int) := ⟨r.toNat, by unfold inR at h; omega, by unfold inR at h; omega⟩
theorem reg_ok (m : MS) {r : Int} (h : inR r) : (1 + r.toNat * 1).blt m.cells.length = true /\ rdB m r = true /\ intRange r 32 = true /\ rdX m r = m.x r.toNat := by
  obtain ⟨k, hk, rfl⟩ := inR_nat h
  match k, hk with
  | 0, _ => exact ⟨rfl, rfl, rfl, rfl⟩
  | 1, _ => exact ⟨rfl, rfl, rfl, rfl⟩
  | 2, _ => exact ⟨rfl, rfl, rfl, rfl⟩
  | 3, _ => exact ⟨rfl, rfl, rfl, rfl⟩
  | 4, _ => exact ⟨rfl, rfl, rfl, rfl⟩
  | 5, _ => exact ⟨rfl, rfl, rfl, rfl⟩
  | 6, _ => exact ⟨rfl, rfl, rfl, rfl⟩
  | 7, _ => exact ⟨rfl, rfl, rfl, rfl⟩
  | 8, _ => exact ⟨rfl, rfl, rfl, rfl⟩
  | 9, _ => exact ⟨rfl, rfl, rfl, rfl⟩
  | 10, _ => exact ⟨rfl, rfl, rfl, rfl⟩
  | 11, _ => exact ⟨rfl, rfl, rfl, rfl⟩
  | 12, _ => exact ⟨rfl, rfl, rfl, rfl⟩
  | 13, _ => exact ⟨rfl, rfl, rfl, rfl⟩
  | 14, _ => exact ⟨rfl, rfl, rfl, rfl⟩
  | 15, _ => exact ⟨rfl, rfl, rfl, rfl⟩
  | 16, _ => exact ⟨rfl, rfl, rfl, rfl⟩
  | 17, _ => exact ⟨rfl, rfl, rfl, rfl⟩
  | 18, _ => exact ⟨rfl, rfl, rfl, rfl⟩
  | 19, _ => exact ⟨rfl, rfl, rfl, rfl⟩
  | 20, _ => exact ⟨rfl, rfl, rfl, rfl⟩
  | 21, _ => exact ⟨rfl, rfl, rfl, rfl⟩
  | 22, _ => exact ⟨rfl, rfl, rfl, rfl⟩
  | 23, _ => exact ⟨rfl, rfl, rfl, rfl⟩
  | 24, _ => exact ⟨rfl, rfl, rfl, rfl⟩
  | 25, _ => exact ⟨rfl, rfl, rfl, rfl⟩
  | 26, _ => exact ⟨rfl, rfl, rfl, rfl⟩
  | 27, _ => exact ⟨rfl, rfl, rfl, rfl⟩
  | 28, _ => exact ⟨rfl, rfl, rfl, rfl⟩
  | 29, _ => exact ⟨rfl, rfl, rfl, rfl⟩
  | 30, _ => exact ⟨rfl, rfl, rfl, rfl⟩
  | 31, _ => exact ⟨rfl, rfl, rfl, rfl⟩
  | k + 32, h => exact absurd h (by omega)
theorem upd_ok (m : MS) {r : Int} (h : inR r) (v : Int) : updOK (1 + r.toNat * 1) (Value.int IntKind.u64 v) 0 m.cells = true := by
  obtain ⟨k, hk, rfl⟩ := inR_nat h
  match k, hk with
  | 0, _ => rfl
  | 1, _ => rfl
  | 2, _ => rfl
  | 3, _ => rfl
  | 4, _ => rfl
  | 5, _ => rfl
  | 6, _ => rfl
  | 7, _ => rfl
  | 8, _ => rfl
  | 9, _ => rfl
  | 10, _ => rfl
  | 11, _ => rfl
  | 12, _ => rfl
  | 13, _ => rfl
  | 14, _ => rfl
  | 15, _ => rfl
  | 16, _ => rfl
  | 17, _ => rfl
  | 18, _ => rfl
  | 19, _ => rfl
  | 20, _ => rfl
  | 21, _ => rfl
  | 22, _ => rfl
  | 23, _ => rfl
  | 24, _ => rfl
  | 25, _ => rfl
  | 26, _ => rfl
  | 27, _ => rfl
  | 28, _ => rfl
  | 29, _ => rfl
  | 30, _ => rfl
  | 31, _ => rfl
  | k + 32, h => exact absurd h (by omega)
theorem uB_of (k : Int) : uB (ofF k) = true := uB_wrap _
def nxt (m : MS) : Int := IntKind.u64.wrap (m.pl + 4)
def valF (m : MS) (op : Int) (c : Cand) : Option Int :=
  match op with
  | 1 => some (doF 1 (m.x c.rs1.toNat) (m.x c.rs2.toNat))
  | 2 => some (doF 2 (m.x c.rs1.toNat) (m.x c.rs2.toNat))
  | 3 => some (doF 3 (m.x c.rs1.toNat) (m.x c.rs2.toNat))
  | 4 => some (doF 4 (m.x c.rs1.toNat) (m.x c.rs2.toNat))
  | 5 => some (doF 5 (m.x c.rs1.toNat) (m.x c.rs2.toNat))
  | 6 => some (doF 6 (m.x c.rs1.toNat) (m.x c.rs2.toNat))
  | 7 => some (doF 7 (m.x c.rs1.toNat) (m.x c.rs2.toNat))
  | 8 => some (doF 8 (m.x c.rs1.toNat) (m.x c.rs2.toNat))
  | 9 => some (doF 9 (m.x c.rs1.toNat) (m.x c.rs2.toNat))
  | 10 => some (doF 10 (m.x c.rs1.toNat) (m.x c.rs2.toNat))
  | 11 => some (doF 11 (m.x c.rs1.toNat) (m.x c.rs2.toNat))
  | 12 => some (doF 12 (m.x c.rs1.toNat) (m.x c.rs2.toNat))
  | 13 => some (doF 13 (m.x c.rs1.toNat) (m.x c.rs2.toNat))
  | 14 => some (doF 14 (m.x c.rs1.toNat) (m.x c.rs2.toNat))
  | 15 => some (doF 15 (m.x c.rs1.toNat) (m.x c.rs2.toNat))
  | 16 => some (doF 16 (m.x c.rs1.toNat) (m.x c.rs2.toNat))
  | 17 => some (doF 17 (m.x c.rs1.toNat) (m.x c.rs2.toNat))
  | 18 => some (doF 18 (m.x c.rs1.toNat) (m.x c.rs2.toNat))
  | 19 => some (doF 19 (m.x c.rs1.toNat) (m.x c.rs2.toNat))
  | 20 => some (doF 20 (m.x c.rs1.toNat) (m.x c.rs2.toNat))
  | 21 => some (doF 21 (m.x c.rs1.toNat) (m.x c.rs2.toNat))
  | 22 => some (doF 22 (m.x c.rs1.toNat) (m.x c.rs2.toNat))
  | 23 => some (doF 23 (m.x c.rs1.toNat) (m.x c.rs2.toNat))
  | 24 => some (doF 24 (m.x c.rs1.toNat) (m.x c.rs2.toNat))
  | 25 => some (doF 25 (m.x c.rs1.toNat) (m.x c.rs2.toNat))
  | 26 => some (doF 26 (m.x c.rs1.toNat) (m.x c.rs2.toNat))
  | 27 => some (doF 27 (m.x c.rs1.toNat) (m.x c.rs2.toNat))
  | 28 => some (doF (plainF 28) (m.x c.rs1.toNat) (ofF c.imm))
  | 29 => some (doF (plainF 29) (m.x c.rs1.toNat) (ofF c.imm))
  | 30 => some (doF (plainF 30) (m.x c.rs1.toNat) (ofF c.imm))
  | 31 => some (doF (plainF 31) (m.x c.rs1.toNat) (ofF c.imm))
  | 32 => some (doF (plainF 32) (m.x c.rs1.toNat) (ofF c.imm))
  | 33 => some (doF (plainF 33) (m.x c.rs1.toNat) (ofF c.imm))
  | 34 => some (doF (plainF 34) (m.x c.rs1.toNat) (ofF c.imm))
  | 35 => some (doF (plainF 35) (m.x c.rs1.toNat) (ofF c.imm))
  | 36 => some (doF (plainF 36) (m.x c.rs1.toNat) (ofF c.imm))
  | 37 => some (doF (plainF 37) (m.x c.rs1.toNat) (ofF c.imm))
  | 51 => some (IntKind.u64.wrap (ofF c.imm * 4096))
  | 52 => some (IntKind.u64.wrap (IntKind.u64.wrap (ofF c.imm * 4096) + m.pl))
  | 53 => some (nxt m)
  | 54 => some (nxt m)
  | _ => none
def nextF (m : MS) (op : Int) (c : Cand) : Int :=
  match op with
  | 45 => bif takenF 45 (m.x c.rs1.toNat) (m.x c.rs2.toNat) then IntKind.u64.wrap (m.pl + ofF c.imm) else nxt m
  | 46 => bif takenF 46 (m.x c.rs1.toNat) (m.x c.rs2.toNat) then IntKind.u64.wrap (m.pl + ofF c.imm) else nxt m
  | 47 => bif takenF 47 (m.x c.rs1.toNat) (m.x c.rs2.toNat) then IntKind.u64.wrap (m.pl + ofF c.imm) else nxt m
  | 48 => bif takenF 48 (m.x c.rs1.toNat) (m.x c.rs2.toNat) then IntKind.u64.wrap (m.pl + ofF c.imm) else nxt m
  | 49 => bif takenF 49 (m.x c.rs1.toNat) (m.x c.rs2.toNat) then IntKind.u64.wrap (m.pl + ofF c.imm) else nxt m
  | 50 => bif takenF 50 (m.x c.rs1.toNat) (m.x c.rs2.toNat) then IntKind.u64.wrap (m.pl + ofF c.imm) else nxt m
  | 53 => IntKind.u64.wrap (m.pl + ofF c.imm)
  | 54 => bits2 .andNot .u64 (IntKind.u64.wrap (m.x c.rs1.toNat + ofF c.imm)) 1
  | _ => nxt m
def putR (x : Nat -> Int) (r : Int) : Option Int -> Nat -> Int
  | some v => setX x r v
  | none => zeroX x
def stepM (m : MS) (k : KM) (op : Int) (c : Cand) : MS := { m with x := putR m.x c.rd (valF m op c), pl := nextF m op c, kn := k }
def markB (op : Int) (c : Cand) : Bool := op == 28 && (c.rd == 0 && (c.rs1 == 0 && (c.rs2 == 0 && (c.imm == 1 && true))))
def markF (op : Int) (c : Cand) (mk : Int) : Int := bif markB op c then IntKind.i64.wrap (mk + 1) else mk
abbrev r61 : Pj := ⟨[2], [.id 91, .id 92, .id 100], [], [90]⟩
abbrev hp61 (m : MS) (vin vout vs : Value) (mk : Int) (wt : Bool) : Hp := mkH [(90, m.memB), (91, m.kn.blk), (92, m.mB), (100, rB vin vout mk wt vs)]
def St61 (op : Int) : Prop := ∀ (m : MS) (c : Cand) (k : KM) (vin vout vs : Value) (mk : Int) (wt : Bool), FetchOK m ⟨op, c, 0⟩ k -> CandOK c -> (∀ j, uB (m.x j) = true) ->
  walk (lookF FL) (sc61 m ⟨op, c, 0⟩ k) 1000 x61 (argTm 0 [pR]) (hp61 m vin vout vs mk wt) 103 ⟨[], [], [], []⟩ r61 ⟨[], [], [], []⟩ =
    some ⟨⟨[some (true, .bool true)], [(91, some k.blk), (92, some (stepM m k op c).mB), (100, some (rB vin vout (markF op c mk) wt vs))], .ret, 105⟩, none⟩
theorem hasH (m : MS) (l : List (Nat × Blk)) : Has (mkH (m.H ++ l)) m.H := ⟨rfl, rfl, rfl, trivial⟩
theorem s61_1 : St61 1 := by
  intro m c k vin vout vs mk wt hf hc hx
  have e := p61_1 m c k vin vout vs mk wt
  obtain ⟨a1, a2, a3, a4⟩ := reg_ok m hc.rs1
  obtain ⟨b1, b2, b3, b4⟩ := reg_ok m hc.rs2
  obtain ⟨d1, d2, d3, d4⟩ := reg_ok m hc.rd
  rw [decP_true ⟨hasH m [(100, rB vin vout mk wt vs)], hf⟩] at e
  simp only [a1, a2, a3, a4, b1, b2, b3, b4, d1, d3, upd_ok m hc.rd, hx, uB_of, Bool.and_self, Bool.or_false, cond_true] at e
  exact e
theorem s61_2 : St61 2 := by
  intro m c k vin vout vs mk wt hf hc hx
  have e := p61_2 m c k vin vout vs mk wt
  obtain ⟨a1, a2, a3, a4⟩ := reg_ok m hc.rs1
  obtain ⟨b1, b2, b3, b4⟩ := reg_ok m hc.rs2
  obtain ⟨d1, d2, d3, d4⟩ := reg_ok m hc.rd
  rw [decP_true ⟨hasH m [(100, rB vin vout mk wt vs)], hf⟩] at e
  simp only [a1, a2, a3, a4, b1, b2, b3, b4, d1, d3, upd_ok m hc.rd, hx, uB_of, Bool.and_self, Bool.or_false, cond_true] at e
  exact e
theorem s61_3 : St61 3 := by
  intro m c k vin vout vs mk wt hf hc hx
  have e := p61_3 m c k vin vout vs mk wt
  obtain ⟨a1, a2, a3, a4⟩ := reg_ok m hc.rs1
  obtain ⟨b1, b2, b3, b4⟩ := reg_ok m hc.rs2
  obtain ⟨d1, d2, d3, d4⟩ := reg_ok m hc.rd
  rw [decP_true ⟨hasH m [(100, rB vin vout mk wt vs)], hf⟩] at e
  simp only [a1, a2, a3, a4, b1, b2, b3, b4, d1, d3, upd_ok m hc.rd, hx, uB_of, Bool.and_self, Bool.or_false, cond_true] at e
  exact e
theorem s61_4 : St61 4 := by
  intro m c k vin vout vs mk wt hf hc hx
  have e := p61_4 m c k vin vout vs mk wt
  obtain ⟨a1, a2, a3, a4⟩ := reg_ok m hc.rs1
  obtain ⟨b1, b2, b3, b4⟩ := reg_ok m hc.rs2
  obtain ⟨d1, d2, d3, d4⟩ := reg_ok m hc.rd
  rw [decP_true ⟨hasH m [(100, rB vin vout mk wt vs)], hf⟩] at e
  simp only [a1, a2, a3, a4, b1, b2, b3, b4, d1, d3, upd_ok m hc.rd, hx, uB_of, Bool.and_self, Bool.or_false, cond_true] at e
  exact e
theorem s61_5 : St61 5 := by
  intro m c k vin vout vs mk wt hf hc hx
  have e := p61_5 m c k vin vout vs mk wt
  obtain ⟨a1, a2, a3, a4⟩ := reg_ok m hc.rs1
  obtain ⟨b1, b2, b3, b4⟩ := reg_ok m hc.rs2
  obtain ⟨d1, d2, d3, d4⟩ := reg_ok m hc.rd
  rw [decP_true ⟨hasH m [(100, rB vin vout mk wt vs)], hf⟩] at e
  simp only [a1, a2, a3, a4, b1, b2, b3, b4, d1, d3, upd_ok m hc.rd, hx, uB_of, Bool.and_self, Bool.or_false, cond_true] at e
  exact e
theorem s61_6 : St61 6 := by
  intro m c k vin vout vs mk wt hf hc hx
  have e := p61_6 m c k vin vout vs mk wt
  obtain ⟨a1, a2, a3, a4⟩ := reg_ok m hc.rs1
  obtain ⟨b1, b2, b3, b4⟩ := reg_ok m hc.rs2
  obtain ⟨d1, d2, d3, d4⟩ := reg_ok m hc.rd
  rw [decP_true ⟨hasH m [(100, rB vin vout mk wt vs)], hf⟩] at e
  simp only [a1, a2, a3, a4, b1, b2, b3, b4, d1, d3, upd_ok m hc.rd, hx, uB_of, Bool.and_self, Bool.or_false, cond_true] at e
  exact e
theorem s61_7 : St61 7 := by
  intro m c k vin vout vs mk wt hf hc hx
  have e := p61_7 m c k vin vout vs mk wt
  obtain ⟨a1, a2, a3, a4⟩ := reg_ok m hc.rs1
  obtain ⟨b1, b2, b3, b4⟩ := reg_ok m hc.rs2
  obtain ⟨d1, d2, d3, d4⟩ := reg_ok m hc.rd
  rw [decP_true ⟨hasH m [(100, rB vin vout mk wt vs)], hf⟩] at e
  simp only [a1, a2, a3, a4, b1, b2, b3, b4, d1, d3, upd_ok m hc.rd, hx, uB_of, Bool.and_self, Bool.or_false, cond_true] at e
  exact e
theorem s61_8 : St61 8 := by
  intro m c k vin vout vs mk wt hf hc hx
  have e := p61_8 m c k vin vout vs mk wt
  obtain ⟨a1, a2, a3, a4⟩ := reg_ok m hc.rs1
  obtain ⟨b1, b2, b3, b4⟩ := reg_ok m hc.rs2
  obtain ⟨d1, d2, d3, d4⟩ := reg_ok m hc.rd
  rw [decP_true ⟨hasH m [(100, rB vin vout mk wt vs)], hf⟩] at e
  simp only [a1, a2, a3, a4, b1, b2, b3, b4, d1, d3, upd_ok m hc.rd, hx, uB_of, Bool.and_self, Bool.or_false, cond_true] at e
  exact e
theorem s61_9 : St61 9 := by
  intro m c k vin vout vs mk wt hf hc hx
  have e := p61_9 m c k vin vout vs mk wt
  obtain ⟨a1, a2, a3, a4⟩ := reg_ok m hc.rs1
  obtain ⟨b1, b2, b3, b4⟩ := reg_ok m hc.rs2
  obtain ⟨d1, d2, d3, d4⟩ := reg_ok m hc.rd
  rw [decP_true ⟨hasH m [(100, rB vin vout mk wt vs)], hf⟩] at e
  simp only [a1, a2, a3, a4, b1, b2, b3, b4, d1, d3, upd_ok m hc.rd, hx, uB_of, Bool.and_self, Bool.or_false, cond_true] at e
  exact e
theorem s61_10 : St61 10 := by
  intro m c k vin vout vs mk wt hf hc hx
  have e := p61_10 m c k vin vout vs mk wt
  obtain ⟨a1, a2, a3, a4⟩ := reg_ok m hc.rs1
  obtain ⟨b1, b2, b3, b4⟩ := reg_ok m hc.rs2
  obtain ⟨d1, d2, d3, d4⟩ := reg_ok m hc.rd
  rw [decP_true ⟨hasH m [(100, rB vin vout mk wt vs)], hf⟩] at e
  simp only [a1, a2, a3, a4, b1, b2, b3, b4, d1, d3, upd_ok m hc.rd, hx, uB_of, Bool.and_self, Bool.or_false, cond_true] at e
  exact e
theorem s61_11 : St61 11 := by
  intro m c k vin vout vs mk wt hf hc hx
  have e := p61_11 m c k vin vout vs mk wt
  obtain ⟨a1, a2, a3, a4⟩ := reg_ok m hc.rs1
  obtain ⟨b1, b2, b3, b4⟩ := reg_ok m hc.rs2
  obtain ⟨d1, d2, d3, d4⟩ := reg_ok m hc.rd
  rw [decP_true ⟨hasH m [(100, rB vin vout mk wt vs)], hf⟩] at e
  simp only [a1, a2, a3, a4, b1, b2, b3, b4, d1, d3, upd_ok m hc.rd, hx, uB_of, Bool.and_self, Bool.or_false, cond_true] at e
  exact e
theorem s61_12 : St61 12 := by
  intro m c k vin vout vs mk wt hf hc hx
  have e := p61_12 m c k vin vout vs mk wt
  obtain ⟨a1, a2, a3, a4⟩ := reg_ok m hc.rs1
  obtain ⟨b1, b2, b3, b4⟩ := reg_ok m hc.rs2
  obtain ⟨d1, d2, d3, d4⟩ := reg_ok m hc.rd
  rw [decP_true ⟨hasH m [(100, rB vin vout mk wt vs)], hf⟩] at e
  simp only [a1, a2, a3, a4, b1, b2, b3, b4, d1, d3, upd_ok m hc.rd, hx, uB_of, Bool.and_self, Bool.or_false, cond_true] at e
  exact e
theorem s61_13 : St61 13 := by
  intro m c k vin vout vs mk wt hf hc hx
  have e := p61_13 m c k vin vout vs mk wt
  obtain ⟨a1, a2, a3, a4⟩ := reg_ok m hc.rs1
  obtain ⟨b1, b2, b3, b4⟩ := reg_ok m hc.rs2
  obtain ⟨d1, d2, d3, d4⟩ := reg_ok m hc.rd
  rw [decP_true ⟨hasH m [(100, rB vin vout mk wt vs)], hf⟩] at e
  simp only [a1, a2, a3, a4, b1, b2, b3, b4, d1, d3, upd_ok m hc.rd, hx, uB_of, Bool.and_self, Bool.or_false, cond_true] at e
  exact e
theorem s61_14 : St61 14 := by
  intro m c k vin vout vs mk wt hf hc hx
  have e := p61_14 m c k vin vout vs mk wt
  obtain ⟨a1, a2, a3, a4⟩ := reg_ok m hc.rs1
  obtain ⟨b1, b2, b3, b4⟩ := reg_ok m hc.rs2
  obtain ⟨d1, d2, d3, d4⟩ := reg_ok m hc.rd
  rw [decP_true ⟨hasH m [(100, rB vin vout mk wt vs)], hf⟩] at e
  simp only [a1, a2, a3, a4, b1, b2, b3, b4, d1, d3, upd_ok m hc.rd, hx, uB_of, Bool.and_self, Bool.or_false, cond_true] at e
  exact e
theorem s61_15 : St61 15 := by
  intro m c k vin vout vs mk wt hf hc hx
  have e := p61_15 m c k vin vout vs mk wt
  obtain ⟨a1, a2, a3, a4⟩ := reg_ok m hc.rs1
  obtain ⟨b1, b2, b3, b4⟩ := reg_ok m hc.rs2
  obtain ⟨d1, d2, d3, d4⟩ := reg_ok m hc.rd
  rw [decP_true ⟨hasH m [(100, rB vin vout mk wt vs)], hf⟩] at e
  simp only [a1, a2, a3, a4, b1, b2, b3, b4, d1, d3, upd_ok m hc.rd, hx, uB_of, Bool.and_self, Bool.or_false, cond_true] at e
  exact e
theorem s61_16 : St61 16 := by
  intro m c k vin vout vs mk wt hf hc hx
  have e := p61_16 m c k vin vout vs mk wt
  obtain ⟨a1, a2, a3, a4⟩ := reg_ok m hc.rs1
  obtain ⟨b1, b2, b3, b4⟩ := reg_ok m hc.rs2
  obtain ⟨d1, d2, d3, d4⟩ := reg_ok m hc.rd
  rw [decP_true ⟨hasH m [(100, rB vin vout mk wt vs)], hf⟩] at e
  simp only [a1, a2, a3, a4, b1, b2, b3, b4, d1, d3, upd_ok m hc.rd, hx, uB_of, Bool.and_self, Bool.or_false, cond_true] at e
  exact e
theorem s61_17 : St61 17 := by
  intro m c k vin vout vs mk wt hf hc hx
  have e := p61_17 m c k vin vout vs mk wt
  obtain ⟨a1, a2, a3, a4⟩ := reg_ok m hc.rs1
  obtain ⟨b1, b2, b3, b4⟩ := reg_ok m hc.rs2
  obtain ⟨d1, d2, d3, d4⟩ := reg_ok m hc.rd
  rw [decP_true ⟨hasH m [(100, rB vin vout mk wt vs)], hf⟩] at e
  simp only [a1, a2, a3, a4, b1, b2, b3, b4, d1, d3, upd_ok m hc.rd, hx, uB_of, Bool.and_self, Bool.or_false, cond_true] at e
  exact e
theorem s61_18 : St61 18 := by
  intro m c k vin vout vs mk wt hf hc hx
  have e := p61_18 m c k vin vout vs mk wt
  obtain ⟨a1, a2, a3, a4⟩ := reg_ok m hc.rs1
  obtain ⟨b1, b2, b3, b4⟩ := reg_ok m hc.rs2
  obtain ⟨d1, d2, d3, d4⟩ := reg_ok m hc.rd
  rw [decP_true ⟨hasH m [(100, rB vin vout mk wt vs)], hf⟩] at e
  simp only [a1, a2, a3, a4, b1, b2, b3, b4, d1, d3, upd_ok m hc.rd, hx, uB_of, Bool.and_self, Bool.or_false, cond_true] at e
  exact e
theorem s61_19 : St61 19 := by
  intro m c k vin vout vs mk wt hf hc hx
  have e := p61_19 m c k vin vout vs mk wt
  obtain ⟨a1, a2, a3, a4⟩ := reg_ok m hc.rs1
  obtain ⟨b1, b2, b3, b4⟩ := reg_ok m hc.rs2
  obtain ⟨d1, d2, d3, d4⟩ := reg_ok m hc.rd
  rw [decP_true ⟨hasH m [(100, rB vin vout mk wt vs)], hf⟩] at e
  simp only [a1, a2, a3, a4, b1, b2, b3, b4, d1, d3, upd_ok m hc.rd, hx, uB_of, Bool.and_self, Bool.or_false, cond_true] at e
  exact e
theorem s61_20 : St61 20 := by
  intro m c k vin vout vs mk wt hf hc hx
  have e := p61_20 m c k vin vout vs mk wt
  obtain ⟨a1, a2, a3, a4⟩ := reg_ok m hc.rs1
  obtain ⟨b1, b2, b3, b4⟩ := reg_ok m hc.rs2
  obtain ⟨d1, d2, d3, d4⟩ := reg_ok m hc.rd
  rw [decP_true ⟨hasH m [(100, rB vin vout mk wt vs)], hf⟩] at e
  simp only [a1, a2, a3, a4, b1, b2, b3, b4, d1, d3, upd_ok m hc.rd, hx, uB_of, Bool.and_self, Bool.or_false, cond_true] at e
  exact e
theorem s61_21 : St61 21 := by
  intro m c k vin vout vs mk wt hf hc hx
  have e := p61_21 m c k vin vout vs mk wt
  obtain ⟨a1, a2, a3, a4⟩ := reg_ok m hc.rs1
  obtain ⟨b1, b2, b3, b4⟩ := reg_ok m hc.rs2
  obtain ⟨d1, d2, d3, d4⟩ := reg_ok m hc.rd
  rw [decP_true ⟨hasH m [(100, rB vin vout mk wt vs)], hf⟩] at e
  simp only [a1, a2, a3, a4, b1, b2, b3, b4, d1, d3, upd_ok m hc.rd, hx, uB_of, Bool.and_self, Bool.or_false, cond_true] at e
  exact e
theorem s61_22 : St61 22 := by
  intro m c k vin vout vs mk wt hf hc hx
  have e := p61_22 m c k vin vout vs mk wt
  obtain ⟨a1, a2, a3, a4⟩ := reg_ok m hc.rs1
  obtain ⟨b1, b2, b3, b4⟩ := reg_ok m hc.rs2
  obtain ⟨d1, d2, d3, d4⟩ := reg_ok m hc.rd
  rw [decP_true ⟨hasH m [(100, rB vin vout mk wt vs)], hf⟩] at e
  simp only [a1, a2, a3, a4, b1, b2, b3, b4, d1, d3, upd_ok m hc.rd, hx, uB_of, Bool.and_self, Bool.or_false, cond_true] at e
  exact e
theorem s61_23 : St61 23 := by
  intro m c k vin vout vs mk wt hf hc hx
  have e := p61_23 m c k vin vout vs mk wt
  obtain ⟨a1, a2, a3, a4⟩ := reg_ok m hc.rs1
  obtain ⟨b1, b2, b3, b4⟩ := reg_ok m hc.rs2
  obtain ⟨d1, d2, d3, d4⟩ := reg_ok m hc.rd
  rw [decP_true ⟨hasH m [(100, rB vin vout mk wt vs)], hf⟩] at e
  simp only [a1, a2, a3, a4, b1, b2, b3, b4, d1, d3, upd_ok m hc.rd, hx, uB_of, Bool.and_self, Bool.or_false, cond_true] at e
  exact e
theorem s61_24 : St61 24 := by
  intro m c k vin vout vs mk wt hf hc hx
  have e := p61_24 m c k vin vout vs mk wt
  obtain ⟨a1, a2, a3, a4⟩ := reg_ok m hc.rs1
  obtain ⟨b1, b2, b3, b4⟩ := reg_ok m hc.rs2
  obtain ⟨d1, d2, d3, d4⟩ := reg_ok m hc.rd
  rw [decP_true ⟨hasH m [(100, rB vin vout mk wt vs)], hf⟩] at e
  simp only [a1, a2, a3, a4, b1, b2, b3, b4, d1, d3, upd_ok m hc.rd, hx, uB_of, Bool.and_self, Bool.or_false, cond_true] at e
  exact e
theorem s61_25 : St61 25 := by
  intro m c k vin vout vs mk wt hf hc hx
  have e := p61_25 m c k vin vout vs mk wt
  obtain ⟨a1, a2, a3, a4⟩ := reg_ok m hc.rs1
  obtain ⟨b1, b2, b3, b4⟩ := reg_ok m hc.rs2
  obtain ⟨d1, d2, d3, d4⟩ := reg_ok m hc.rd
  rw [decP_true ⟨hasH m [(100, rB vin vout mk wt vs)], hf⟩] at e
  simp only [a1, a2, a3, a4, b1, b2, b3, b4, d1, d3, upd_ok m hc.rd, hx, uB_of, Bool.and_self, Bool.or_false, cond_true] at e
  exact e
theorem s61_26 : St61 26 := by
  intro m c k vin vout vs mk wt hf hc hx
  have e := p61_26 m c k vin vout vs mk wt
  obtain ⟨a1, a2, a3, a4⟩ := reg_ok m hc.rs1
  obtain ⟨b1, b2, b3, b4⟩ := reg_ok m hc.rs2
  obtain ⟨d1, d2, d3, d4⟩ := reg_ok m hc.rd
  rw [decP_true ⟨hasH m [(100, rB vin vout mk wt vs)], hf⟩] at e
  simp only [a1, a2, a3, a4, b1, b2, b3, b4, d1, d3, upd_ok m hc.rd, hx, uB_of, Bool.and_self, Bool.or_false, cond_true] at e
  exact e
theorem s61_27 : St61 27 := by
  intro m c k vin vout vs mk wt hf hc hx
  have e := p61_27 m c k vin vout vs mk wt
  obtain ⟨a1, a2, a3, a4⟩ := reg_ok m hc.rs1
  obtain ⟨b1, b2, b3, b4⟩ := reg_ok m hc.rs2
  obtain ⟨d1, d2, d3, d4⟩ := reg_ok m hc.rd
  rw [decP_true ⟨hasH m [(100, rB vin vout mk wt vs)], hf⟩] at e
  simp only [a1, a2, a3, a4, b1, b2, b3, b4, d1, d3, upd_ok m hc.rd, hx, uB_of, Bool.and_self, Bool.or_false, cond_true] at e
  exact e
theorem s61_28 : St61 28 := by
  intro m c k vin vout vs mk wt hf hc hx
  have e := p61_28 m c k vin vout vs mk wt
  obtain ⟨a1, a2, a3, a4⟩ := reg_ok m hc.rs1
  obtain ⟨d1, d2, d3, d4⟩ := reg_ok m hc.rd
  rw [decP_true ⟨hasH m [(100, rB vin vout mk wt vs)], hf⟩] at e
  simp only [a1, a2, a3, a4, d1, d3, upd_ok m hc.rd, hx, uB_of, Bool.and_self, Bool.or_false, cond_true] at e
  cases hm : (c.rd == 0 && (c.rs1 == 0 && (c.rs2 == 0 && (c.imm == 1 && true)))) with
  | true => rw [hm] at e; rw [show markF 28 c mk = IntKind.i64.wrap (mk + 1) from by unfold markF markB; rw [hm]; rfl]; exact e
  | false => rw [hm] at e; rw [show markF 28 c mk = mk from by unfold markF markB; rw [hm]; rfl]; exact e
theorem s61_29 : St61 29 := by
  intro m c k vin vout vs mk wt hf hc hx
  have e := p61_29 m c k vin vout vs mk wt
  obtain ⟨a1, a2, a3, a4⟩ := reg_ok m hc.rs1
  obtain ⟨d1, d2, d3, d4⟩ := reg_ok m hc.rd
  rw [decP_true ⟨hasH m [(100, rB vin vout mk wt vs)], hf⟩] at e
  simp only [a1, a2, a3, a4, d1, d3, upd_ok m hc.rd, hx, uB_of, Bool.and_self, Bool.or_false, cond_true] at e
  exact e
theorem s61_30 : St61 30 := by
  intro m c k vin vout vs mk wt hf hc hx
  have e := p61_30 m c k vin vout vs mk wt
  obtain ⟨a1, a2, a3, a4⟩ := reg_ok m hc.rs1
  obtain ⟨d1, d2, d3, d4⟩ := reg_ok m hc.rd
  rw [decP_true ⟨hasH m [(100, rB vin vout mk wt vs)], hf⟩] at e
  simp only [a1, a2, a3, a4, d1, d3, upd_ok m hc.rd, hx, uB_of, Bool.and_self, Bool.or_false, cond_true] at e
  exact e
theorem s61_31 : St61 31 := by
  intro m c k vin vout vs mk wt hf hc hx
  have e := p61_31 m c k vin vout vs mk wt
  obtain ⟨a1, a2, a3, a4⟩ := reg_ok m hc.rs1
  obtain ⟨d1, d2, d3, d4⟩ := reg_ok m hc.rd
  rw [decP_true ⟨hasH m [(100, rB vin vout mk wt vs)], hf⟩] at e
  simp only [a1, a2, a3, a4, d1, d3, upd_ok m hc.rd, hx, uB_of, Bool.and_self, Bool.or_false, cond_true] at e
  exact e
theorem s61_32 : St61 32 := by
  intro m c k vin vout vs mk wt hf hc hx
  have e := p61_32 m c k vin vout vs mk wt
  obtain ⟨a1, a2, a3, a4⟩ := reg_ok m hc.rs1
  obtain ⟨d1, d2, d3, d4⟩ := reg_ok m hc.rd
  rw [decP_true ⟨hasH m [(100, rB vin vout mk wt vs)], hf⟩] at e
  simp only [a1, a2, a3, a4, d1, d3, upd_ok m hc.rd, hx, uB_of, Bool.and_self, Bool.or_false, cond_true] at e
  exact e
theorem s61_33 : St61 33 := by
  intro m c k vin vout vs mk wt hf hc hx
  have e := p61_33 m c k vin vout vs mk wt
  obtain ⟨a1, a2, a3, a4⟩ := reg_ok m hc.rs1
  obtain ⟨d1, d2, d3, d4⟩ := reg_ok m hc.rd
  rw [decP_true ⟨hasH m [(100, rB vin vout mk wt vs)], hf⟩] at e
  simp only [a1, a2, a3, a4, d1, d3, upd_ok m hc.rd, hx, uB_of, Bool.and_self, Bool.or_false, cond_true] at e
  exact e
theorem s61_34 : St61 34 := by
  intro m c k vin vout vs mk wt hf hc hx
  have e := p61_34 m c k vin vout vs mk wt
  obtain ⟨a1, a2, a3, a4⟩ := reg_ok m hc.rs1
  obtain ⟨d1, d2, d3, d4⟩ := reg_ok m hc.rd
  rw [decP_true ⟨hasH m [(100, rB vin vout mk wt vs)], hf⟩] at e
  simp only [a1, a2, a3, a4, d1, d3, upd_ok m hc.rd, hx, uB_of, Bool.and_self, Bool.or_false, cond_true] at e
  exact e
theorem s61_35 : St61 35 := by
  intro m c k vin vout vs mk wt hf hc hx
  have e := p61_35 m c k vin vout vs mk wt
  obtain ⟨a1, a2, a3, a4⟩ := reg_ok m hc.rs1
  obtain ⟨d1, d2, d3, d4⟩ := reg_ok m hc.rd
  rw [decP_true ⟨hasH m [(100, rB vin vout mk wt vs)], hf⟩] at e
  simp only [a1, a2, a3, a4, d1, d3, upd_ok m hc.rd, hx, uB_of, Bool.and_self, Bool.or_false, cond_true] at e
  exact e
theorem s61_36 : St61 36 := by
  intro m c k vin vout vs mk wt hf hc hx
  have e := p61_36 m c k vin vout vs mk wt
  obtain ⟨a1, a2, a3, a4⟩ := reg_ok m hc.rs1
  obtain ⟨d1, d2, d3, d4⟩ := reg_ok m hc.rd
  rw [decP_true ⟨hasH m [(100, rB vin vout mk wt vs)], hf⟩] at e
  simp only [a1, a2, a3, a4, d1, d3, upd_ok m hc.rd, hx, uB_of, Bool.and_self, Bool.or_false, cond_true] at e
  exact e
theorem s61_37 : St61 37 := by
  intro m c k vin vout vs mk wt hf hc hx
  have e := p61_37 m c k vin vout vs mk wt
  obtain ⟨a1, a2, a3, a4⟩ := reg_ok m hc.rs1
  obtain ⟨d1, d2, d3, d4⟩ := reg_ok m hc.rd
  rw [decP_true ⟨hasH m [(100, rB vin vout mk wt vs)], hf⟩] at e
  simp only [a1, a2, a3, a4, d1, d3, upd_ok m hc.rd, hx, uB_of, Bool.and_self, Bool.or_false, cond_true] at e
  exact e
theorem s61_45 : St61 45 := by
  intro m c k vin vout vs mk wt hf hc hx
  have e := p61_45 m c k vin vout vs mk wt
  obtain ⟨a1, a2, a3, a4⟩ := reg_ok m hc.rs1
  obtain ⟨b1, b2, b3, b4⟩ := reg_ok m hc.rs2
  rw [decP_true ⟨hasH m [(100, rB vin vout mk wt vs)], hf⟩] at e
  simp only [a1, a2, a3, a4, b1, b2, b3, b4, hx, uB_of, Bool.and_self, Bool.or_false, cond_true] at e
  cases ht : takenF 45 (m.x c.rs1.toNat) (m.x c.rs2.toNat) with
  | true => rw [ht] at e; rw [show stepM m k 45 c = { m with x := zeroX m.x, pl := IntKind.u64.wrap (m.pl + ofF c.imm), kn := k } from by simp only [stepM, valF, nextF, putR, ht, cond_true]]; exact e
  | false => rw [ht] at e; rw [show stepM m k 45 c = { m with x := zeroX m.x, pl := nxt m, kn := k } from by simp only [stepM, valF, nextF, putR, ht, cond_false]]; exact e
theorem s61_46 : St61 46 := by
  intro m c k vin vout vs mk wt hf hc hx
  have e := p61_46 m c k vin vout vs mk wt
  obtain ⟨a1, a2, a3, a4⟩ := reg_ok m hc.rs1
  obtain ⟨b1, b2, b3, b4⟩ := reg_ok m hc.rs2
  rw [decP_true ⟨hasH m [(100, rB vin vout mk wt vs)], hf⟩] at e
  simp only [a1, a2, a3, a4, b1, b2, b3, b4, hx, uB_of, Bool.and_self, Bool.or_false, cond_true] at e
  cases ht : takenF 46 (m.x c.rs1.toNat) (m.x c.rs2.toNat) with
  | true => rw [ht] at e; rw [show stepM m k 46 c = { m with x := zeroX m.x, pl := IntKind.u64.wrap (m.pl + ofF c.imm), kn := k } from by simp only [stepM, valF, nextF, putR, ht, cond_true]]; exact e
  | false => rw [ht] at e; rw [show stepM m k 46 c = { m with x := zeroX m.x, pl := nxt m, kn := k } from by simp only [stepM, valF, nextF, putR, ht, cond_false]]; exact e
theorem s61_47 : St61 47 := by
  intro m c k vin vout vs mk wt hf hc hx
  have e := p61_47 m c k vin vout vs mk wt
  obtain ⟨a1, a2, a3, a4⟩ := reg_ok m hc.rs1
  obtain ⟨b1, b2, b3, b4⟩ := reg_ok m hc.rs2
  rw [decP_true ⟨hasH m [(100, rB vin vout mk wt vs)], hf⟩] at e
  simp only [a1, a2, a3, a4, b1, b2, b3, b4, hx, uB_of, Bool.and_self, Bool.or_false, cond_true] at e
  cases ht : takenF 47 (m.x c.rs1.toNat) (m.x c.rs2.toNat) with
  | true => rw [ht] at e; rw [show stepM m k 47 c = { m with x := zeroX m.x, pl := IntKind.u64.wrap (m.pl + ofF c.imm), kn := k } from by simp only [stepM, valF, nextF, putR, ht, cond_true]]; exact e
  | false => rw [ht] at e; rw [show stepM m k 47 c = { m with x := zeroX m.x, pl := nxt m, kn := k } from by simp only [stepM, valF, nextF, putR, ht, cond_false]]; exact e
theorem s61_48 : St61 48 := by
  intro m c k vin vout vs mk wt hf hc hx
  have e := p61_48 m c k vin vout vs mk wt
  obtain ⟨a1, a2, a3, a4⟩ := reg_ok m hc.rs1
  obtain ⟨b1, b2, b3, b4⟩ := reg_ok m hc.rs2
  rw [decP_true ⟨hasH m [(100, rB vin vout mk wt vs)], hf⟩] at e
  simp only [a1, a2, a3, a4, b1, b2, b3, b4, hx, uB_of, Bool.and_self, Bool.or_false, cond_true] at e
  cases ht : takenF 48 (m.x c.rs1.toNat) (m.x c.rs2.toNat) with
  | true => rw [ht] at e; rw [show stepM m k 48 c = { m with x := zeroX m.x, pl := IntKind.u64.wrap (m.pl + ofF c.imm), kn := k } from by simp only [stepM, valF, nextF, putR, ht, cond_true]]; exact e
  | false => rw [ht] at e; rw [show stepM m k 48 c = { m with x := zeroX m.x, pl := nxt m, kn := k } from by simp only [stepM, valF, nextF, putR, ht, cond_false]]; exact e
theorem s61_49 : St61 49 := by
  intro m c k vin vout vs mk wt hf hc hx
  have e := p61_49 m c k vin vout vs mk wt
  obtain ⟨a1, a2, a3, a4⟩ := reg_ok m hc.rs1
  obtain ⟨b1, b2, b3, b4⟩ := reg_ok m hc.rs2
  rw [decP_true ⟨hasH m [(100, rB vin vout mk wt vs)], hf⟩] at e
  simp only [a1, a2, a3, a4, b1, b2, b3, b4, hx, uB_of, Bool.and_self, Bool.or_false, cond_true] at e
  cases ht : takenF 49 (m.x c.rs1.toNat) (m.x c.rs2.toNat) with
  | true => rw [ht] at e; rw [show stepM m k 49 c = { m with x := zeroX m.x, pl := IntKind.u64.wrap (m.pl + ofF c.imm), kn := k } from by simp only [stepM, valF, nextF, putR, ht, cond_true]]; exact e
  | false => rw [ht] at e; rw [show stepM m k 49 c = { m with x := zeroX m.x, pl := nxt m, kn := k } from by simp only [stepM, valF, nextF, putR, ht, cond_false]]; exact e
theorem s61_50 : St61 50 := by
  intro m c k vin vout vs mk wt hf hc hx
  have e := p61_50 m c k vin vout vs mk wt
  obtain ⟨a1, a2, a3, a4⟩ := reg_ok m hc.rs1
  obtain ⟨b1, b2, b3, b4⟩ := reg_ok m hc.rs2
  rw [decP_true ⟨hasH m [(100, rB vin vout mk wt vs)], hf⟩] at e
  simp only [a1, a2, a3, a4, b1, b2, b3, b4, hx, uB_of, Bool.and_self, Bool.or_false, cond_true] at e
  cases ht : takenF 50 (m.x c.rs1.toNat) (m.x c.rs2.toNat) with
  | true => rw [ht] at e; rw [show stepM m k 50 c = { m with x := zeroX m.x, pl := IntKind.u64.wrap (m.pl + ofF c.imm), kn := k } from by simp only [stepM, valF, nextF, putR, ht, cond_true]]; exact e
  | false => rw [ht] at e; rw [show stepM m k 50 c = { m with x := zeroX m.x, pl := nxt m, kn := k } from by simp only [stepM, valF, nextF, putR, ht, cond_false]]; exact e
theorem s61_51 : St61 51 := by
  intro m c k vin vout vs mk wt hf hc hx
  have e := p61_51 m c k vin vout vs mk wt
  obtain ⟨a1, a2, a3, a4⟩ := reg_ok m hc.rs1
  obtain ⟨d1, d2, d3, d4⟩ := reg_ok m hc.rd
  rw [decP_true ⟨hasH m [(100, rB vin vout mk wt vs)], hf⟩] at e
  simp only [a1, a2, a3, a4, d1, d3, upd_ok m hc.rd, hx, uB_of, Bool.and_self, Bool.or_false, cond_true] at e
  exact e
theorem s61_52 : St61 52 := by
  intro m c k vin vout vs mk wt hf hc hx
  have e := p61_52 m c k vin vout vs mk wt
  obtain ⟨a1, a2, a3, a4⟩ := reg_ok m hc.rs1
  obtain ⟨d1, d2, d3, d4⟩ := reg_ok m hc.rd
  rw [decP_true ⟨hasH m [(100, rB vin vout mk wt vs)], hf⟩] at e
  simp only [a1, a2, a3, a4, d1, d3, upd_ok m hc.rd, hx, uB_of, Bool.and_self, Bool.or_false, cond_true] at e
  exact e
theorem s61_53 : St61 53 := by
  intro m c k vin vout vs mk wt hf hc hx
  have e := p61_53 m c k vin vout vs mk wt
  obtain ⟨a1, a2, a3, a4⟩ := reg_ok m hc.rs1
  obtain ⟨d1, d2, d3, d4⟩ := reg_ok m hc.rd
  rw [decP_true ⟨hasH m [(100, rB vin vout mk wt vs)], hf⟩] at e
  simp only [a1, a2, a3, a4, d1, d3, upd_ok m hc.rd, hx, uB_of, Bool.and_self, Bool.or_false, cond_true] at e
  exact e
theorem s61_54 : St61 54 := by
  intro m c k vin vout vs mk wt hf hc hx
  have e := p61_54 m c k vin vout vs mk wt
  obtain ⟨a1, a2, a3, a4⟩ := reg_ok m hc.rs1
  obtain ⟨d1, d2, d3, d4⟩ := reg_ok m hc.rd
  rw [decP_true ⟨hasH m [(100, rB vin vout mk wt vs)], hf⟩] at e
  simp only [a1, a2, a3, a4, d1, d3, upd_ok m hc.rd, hx, uB_of, Bool.and_self, Bool.or_false, cond_true] at e
  exact e
def plainB (op : Int) : Bool := decide (1 <= op) && decide (op <= 37) || decide (45 <= op) && decide (op <= 54)
theorem s61 {op : Int} (h : plainB op = true) : St61 op := by
  simp only [plainB, Bool.or_eq_true, Bool.and_eq_true, decide_eq_true_eq] at h
  obtain ⟨k, rfl⟩ : ∃ k : Nat, op = Int.ofNat k := ⟨op.toNat, by simp; omega⟩
  have h : (1 <= k /\ k <= 37) \/ (45 <= k /\ k <= 54) := by simp only [Int.ofNat_eq_natCast] at h; omega
  match k, h with
  | 0, h => exact absurd h (by omega)
  | 1, _ => exact s61_1
  | 2, _ => exact s61_2
  | 3, _ => exact s61_3
  | 4, _ => exact s61_4
  | 5, _ => exact s61_5
  | 6, _ => exact s61_6
  | 7, _ => exact s61_7
  | 8, _ => exact s61_8
  | 9, _ => exact s61_9
  | 10, _ => exact s61_10
  | 11, _ => exact s61_11
  | 12, _ => exact s61_12
  | 13, _ => exact s61_13
  | 14, _ => exact s61_14
  | 15, _ => exact s61_15
  | 16, _ => exact s61_16
  | 17, _ => exact s61_17
  | 18, _ => exact s61_18
  | 19, _ => exact s61_19
  | 20, _ => exact s61_20
  | 21, _ => exact s61_21
  | 22, _ => exact s61_22
  | 23, _ => exact s61_23
  | 24, _ => exact s61_24
  | 25, _ => exact s61_25
  | 26, _ => exact s61_26
  | 27, _ => exact s61_27
  | 28, _ => exact s61_28
  | 29, _ => exact s61_29
  | 30, _ => exact s61_30
  | 31, _ => exact s61_31
  | 32, _ => exact s61_32
  | 33, _ => exact s61_33
  | 34, _ => exact s61_34
  | 35, _ => exact s61_35
  | 36, _ => exact s61_36
  | 37, _ => exact s61_37
  | 38, h => exact absurd h (by omega)
  | 39, h => exact absurd h (by omega)
  | 40, h => exact absurd h (by omega)
  | 41, h => exact absurd h (by omega)
  | 42, h => exact absurd h (by omega)
  | 43, h => exact absurd h (by omega)
  | 44, h => exact absurd h (by omega)
  | 45, _ => exact s61_45
  | 46, _ => exact s61_46
  | 47, _ => exact s61_47
  | 48, _ => exact s61_48
  | 49, _ => exact s61_49
  | 50, _ => exact s61_50
  | 51, _ => exact s61_51
  | 52, _ => exact s61_52
  | 53, _ => exact s61_53
  | 54, _ => exact s61_54
  | k + 55, h => exact absurd h (by omega)
def xAt (x : Nat -> Int) (i : Nat) (v : Int) : Nat -> Int := fun j => bif Nat.beq j i then v else x j
def MS.a7 (m : MS) (v : Int) : MS := { m with x := xAt m.x 17 v }
end Go.X
