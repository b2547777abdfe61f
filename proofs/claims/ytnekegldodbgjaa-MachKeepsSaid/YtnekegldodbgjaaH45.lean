import Derived.Test.YtnekegldodbgjaaH44
import Derived.Test.YtnekegldodbgjaaH41
set_option linter.all false
namespace Go.X
open Go Go.Proofs
theorem encV_tree {op rd rs1 rs2 imm F o f3 f7 : Int} {p : Int × Int} (h : execC (lookF FL) (sc47 op F o f3 f7) 1000 x47 (argTm 0 [i18 op rd rs1 rs2 imm]) [] 100 (valK [2, 3]) = vp p) : EncV ⟨op, rd, rs1, rs2, imm⟩ p :=
  fun n => adet_tree (fok FOK _) 1000 fx47 (by simp) [2, 3] h rfl rfl rfl rfl n
theorem fld {o f3 f7 : Int} (h : (decide (0 <= o) && (decide (o < 128) && (decide (0 <= f3) && (decide (f3 < 8) && (decide (0 <= f7) && decide (f7 < 128)))))) = true) : FldOK o f3 f7 := by
  simp only [Bool.and_eq_true, decide_eq_true_eq] at h
  exact ⟨⟨h.1, h.2.1⟩, ⟨h.2.2.1, h.2.2.2.1⟩, ⟨h.2.2.2.2.1, h.2.2.2.2.2⟩⟩
theorem encV_out {op : Int} (h : op < 1 \/ 55 < op) (rd rs1 rs2 imm : Int) : EncV ⟨op, rd, rs1, rs2, imm⟩ (0, 2) := by
  refine encV_tree (F := 0) (o := 0) (f3 := 0) (f7 := 0) ?_
  rw [p470, d58_true (w58_out h)]; rfl
theorem encF_neg (m : Nat) (rd rs1 rs2 imm : Int) : encF (.negSucc m) rd rs1 rs2 imm = (0, 2) := rfl
theorem encF_big (m : Nat) (rd rs1 rs2 imm : Int) : encF (.ofNat (m + 56)) rd rs1 rs2 imm = (0, 2) := rfl
theorem encV_in (rd rs1 rs2 imm : Int) : ∀ k : Nat, EncV ⟨.ofNat k, rd, rs1, rs2, imm⟩ (encF (.ofNat k) rd rs1 rs2 imm)
  | 0 => encV_out (.inl (by decide)) rd rs1 rs2 imm
  | 1 => encV_tree (v47R w58_1 (fld rfl))
  | 2 => encV_tree (v47R w58_2 (fld rfl))
  | 3 => encV_tree (v47R w58_3 (fld rfl))
  | 4 => encV_tree (v47R w58_4 (fld rfl))
  | 5 => encV_tree (v47R w58_5 (fld rfl))
  | 6 => encV_tree (v47R w58_6 (fld rfl))
  | 7 => encV_tree (v47R w58_7 (fld rfl))
  | 8 => encV_tree (v47R w58_8 (fld rfl))
  | 9 => encV_tree (v47R w58_9 (fld rfl))
  | 10 => encV_tree (v47R w58_10 (fld rfl))
  | 11 => encV_tree (v47R w58_11 (fld rfl))
  | 12 => encV_tree (v47R w58_12 (fld rfl))
  | 13 => encV_tree (v47R w58_13 (fld rfl))
  | 14 => encV_tree (v47R w58_14 (fld rfl))
  | 15 => encV_tree (v47R w58_15 (fld rfl))
  | 16 => encV_tree (v47R w58_16 (fld rfl))
  | 17 => encV_tree (v47R w58_17 (fld rfl))
  | 18 => encV_tree (v47R w58_18 (fld rfl))
  | 19 => encV_tree (v47R w58_19 (fld rfl))
  | 20 => encV_tree (v47R w58_20 (fld rfl))
  | 21 => encV_tree (v47R w58_21 (fld rfl))
  | 22 => encV_tree (v47R w58_22 (fld rfl))
  | 23 => encV_tree (v47R w58_23 (fld rfl))
  | 24 => encV_tree (v47R w58_24 (fld rfl))
  | 25 => encV_tree (v47R w58_25 (fld rfl))
  | 26 => encV_tree (v47R w58_26 (fld rfl))
  | 27 => encV_tree (v47R w58_27 (fld rfl))
  | 28 => encV_tree (v47I w58_28 (fld rfl))
  | 29 => encV_tree (v47I w58_29 (fld rfl))
  | 30 => encV_tree (v47I w58_30 (fld rfl))
  | 31 => encV_tree (v47I w58_31 (fld rfl))
  | 32 => encV_tree (v47I w58_32 (fld rfl))
  | 33 => encV_tree (v47I w58_33 (fld rfl))
  | 34 => encV_tree (v47T w58_34 (fld rfl) rfl)
  | 35 => encV_tree (v47T w58_35 (fld rfl) rfl)
  | 36 => encV_tree (v47T w58_36 (fld rfl) rfl)
  | 37 => encV_tree (v47I w58_37 (fld rfl))
  | 38 => encV_tree (v47I w58_38 (fld rfl))
  | 39 => encV_tree (v47I w58_39 (fld rfl))
  | 40 => encV_tree (v47I w58_40 (fld rfl))
  | 41 => encV_tree (v47I w58_41 (fld rfl))
  | 42 => encV_tree (v47S w58_42 (fld rfl))
  | 43 => encV_tree (v47S w58_43 (fld rfl))
  | 44 => encV_tree (v47S w58_44 (fld rfl))
  | 45 => encV_tree (v47B w58_45 (fld rfl))
  | 46 => encV_tree (v47B w58_46 (fld rfl))
  | 47 => encV_tree (v47B w58_47 (fld rfl))
  | 48 => encV_tree (v47B w58_48 (fld rfl))
  | 49 => encV_tree (v47B w58_49 (fld rfl))
  | 50 => encV_tree (v47B w58_50 (fld rfl))
  | 51 => encV_tree (v47U w58_51 (fld rfl))
  | 52 => encV_tree (v47U w58_52 (fld rfl))
  | 53 => encV_tree (v47J w58_53 (fld rfl))
  | 54 => encV_tree (v47I w58_54 (fld rfl))
  | 55 => encV_tree (v47N w58_55 (fld rfl) ⟨rfl, rfl⟩)
  | k + 56 => by rw [encF_big]; exact encV_out (.inr (by simp only [Int.ofNat_eq_natCast]; omega)) rd rs1 rs2 imm
theorem encV_all (i : Ins) : EncV i (encF i.op i.rd i.rs1 i.rs2 i.imm) := by
  obtain ⟨op, rd, rs1, rs2, imm⟩ := i
  cases op with
  | ofNat k => exact encV_in rd rs1 rs2 imm k
  | negSucc m => rw [encF_neg]; exact encV_out (.inl (by omega)) rd rs1 rs2 imm
end Go.X
namespace Go.X
open Go Go.Proofs
def J12 (k o : Int) : Nat -> Ins
  | 0 => ⟨sK k, 0, 0, 5, o⟩
  | 1 => ⟨lK k, 6, 0, 0, o⟩
  | _ => ⟨39, 7, 0, 0, o⟩
def of12 (k o : Int) : Nat -> Int := (byS F9 (J12 k o) 3).2
def m12 (k o : Int) : MS := newM 0 12 (of12 k o) 256
def wd12 (k o : Int) (j : Nat) : Int := IntKind.u32.wrap (num4 (m12 k o).mem j)
def ansB (a : Ans) (q rd rs1 rs2 imm : Int) : Bool := a.q == q && (a.c.rd == rd && (a.c.rs1 == rs1 && (a.c.rs2 == rs2 && (a.c.imm == imm && a.err == 0))))
theorem ansB_eq {a : Ans} {q rd rs1 rs2 imm : Int} (h : ansB a q rd rs1 rs2 imm = true) : a = ⟨q, ⟨rd, rs1, rs2, imm⟩, 0⟩ := by
  obtain ⟨q', ⟨a1, a2, a3, a4⟩, e⟩ := a
  simp only [ansB, Bool.and_eq_true, beq_iff_eq] at h
  obtain ⟨rfl, rfl, rfl, rfl, rfl, rfl⟩ := h
  rfl
def offs (k : Int) : List Int := bif k == 0 then [64, 65, 66, 67, 68, 69, 70, 71, 72, 73, 74, 75, 76, 77, 78, 79, 80, 81, 82, 83, 84, 85, 86, 87, 88, 89, 90, 91, 92, 93, 94, 95, 96, 97, 98, 99, 100, 101, 102, 103, 104, 105, 106, 107, 108, 109, 110, 111, 112, 113, 114, 115, 116, 117, 118, 119, 120, 121, 122, 123, 124, 125, 126, 127] else bif k == 1 then [64, 68, 72, 76, 80, 84, 88, 92, 96, 100, 104, 108, 112, 116, 120, 124] else [64, 72, 80, 88, 96, 104, 112, 120]
def chk12 (k o : Int) : Bool := Nat.beq (byS F9 (J12 k o) 3).1 12 && (ansB (decA (wd12 k o 0)) (sK k) 0 0 5 o && (ansB (decA (wd12 k o 4)) (lK k) 6 0 0 o && ansB (decA (wd12 k o 8)) 39 7 0 0 o))
theorem chk0 : (offs 0).all (chk12 0) = true := by kernel_rfl
theorem chk1 : (offs 1).all (chk12 1) = true := by kernel_rfl
theorem chk2 : (offs 2).all (chk12 2) = true := by kernel_rfl
def rng12 (k o : Int) : Bool := decide (64 <= o) && (decide (o + nK k <= 128) && o % nK k == 0)
theorem rng0 : (offs 0).all (rng12 0) = true := by kernel_rfl
theorem rng1 : (offs 1).all (rng12 1) = true := by kernel_rfl
theorem rng2 : (offs 2).all (rng12 2) = true := by kernel_rfl
theorem inof0 : ((List.range 64).all fun j : Nat => (offs 0).elem (64 + 1 * (j : Int))) = true := by kernel_rfl
theorem inof1 : ((List.range 16).all fun j : Nat => (offs 1).elem (64 + 4 * (j : Int))) = true := by kernel_rfl
theorem inof2 : ((List.range 8).all fun j : Nat => (offs 2).elem (64 + 8 * (j : Int))) = true := by kernel_rfl
structure At12 (k o : Int) : Prop where
  hk : kk12 k
  mem : o ∈ offs k
theorem At12.chk {k o : Int} (h : At12 k o) : chk12 k o = true := by
  obtain ⟨hk, hm⟩ := h
  rcases hk with rfl | rfl | rfl
  · exact List.all_eq_true.1 chk0 o hm
  · exact List.all_eq_true.1 chk1 o hm
  · exact List.all_eq_true.1 chk2 o hm
theorem nK_84 {k : Int} (h : kk12 k) : nK k = 1 \/ nK k = 4 \/ nK k = 8 := by
  rcases h with rfl | rfl | rfl
  · exact .inl rfl
  · exact .inr (.inl rfl)
  · exact .inr (.inr rfl)
theorem At12.rng {k o : Int} (h : At12 k o) : 64 <= o /\ o + nK k <= 128 /\ o % nK k = 0 := by
  obtain ⟨hk, hm⟩ := h
  have : rng12 k o = true := by
    rcases hk with rfl | rfl | rfl
    · exact List.all_eq_true.1 rng0 o hm
    · exact List.all_eq_true.1 rng1 o hm
    · exact List.all_eq_true.1 rng2 o hm
  simp only [rng12, Bool.and_eq_true, decide_eq_true_eq, beq_iff_eq] at this
  exact this
theorem at12_of {k a : Int} (hk : kk12 k) (h0 : 0 <= a) : At12 k (IntKind.i64.wrap (64 + IntKind.i64.wrap (nK k * (a.tmod (qK k))))) := by
  refine ⟨hk, ?_⟩
  rw [Int.tmod_eq_emod_of_nonneg h0]
  rcases hk with rfl | rfl | rfl
  · obtain ⟨j, hj⟩ : ∃ j : Nat, a % 64 = j := ⟨(a % 64).toNat, by omega⟩
    show IntKind.i64.wrap (64 + IntKind.i64.wrap (1 * (a % 64))) ∈ offs 0
    rw [hj, wrap_i (n := 1 * (j : Int)) (by omega) (by omega), wrap_i (by omega) (by omega)]
    exact List.elem_iff.1 (List.all_eq_true.1 inof0 j (List.mem_range.2 (by omega)))
  · obtain ⟨j, hj⟩ : ∃ j : Nat, a % 16 = j := ⟨(a % 16).toNat, by omega⟩
    show IntKind.i64.wrap (64 + IntKind.i64.wrap (4 * (a % 16))) ∈ offs 1
    rw [hj, wrap_i (n := 4 * (j : Int)) (by omega) (by omega), wrap_i (by omega) (by omega)]
    exact List.elem_iff.1 (List.all_eq_true.1 inof1 j (List.mem_range.2 (by omega)))
  · obtain ⟨j, hj⟩ : ∃ j : Nat, a % 8 = j := ⟨(a % 8).toNat, by omega⟩
    show IntKind.i64.wrap (64 + IntKind.i64.wrap (8 * (a % 8))) ∈ offs 2
    rw [hj, wrap_i (n := 8 * (j : Int)) (by omega) (by omega), wrap_i (by omega) (by omega)]
    exact List.elem_iff.1 (List.all_eq_true.1 inof2 j (List.mem_range.2 (by omega)))
theorem nar_low {n : Int} {x : Int} (h0 : 0 <= x) (h1 : x < 18446744073709551616) :
    narF 8 true (x % 256) = narF 8 true x /\ narF 32 true (x % 4294967296) = narF 32 true x /\ narF 8 false (x % 256) = x % 256 := by
  refine ⟨?_, ?_, ?_⟩
  · show IntKind.u64.wrap ((IntKind.i64.wrap (IntKind.u64.wrap (x % 256 * 72057594037927936))).fdiv 72057594037927936) = IntKind.u64.wrap ((IntKind.i64.wrap (IntKind.u64.wrap (x * 72057594037927936))).fdiv 72057594037927936)
    rw [show IntKind.u64.wrap (x % 256 * 72057594037927936) = IntKind.u64.wrap (x * 72057594037927936) by rw [u64w, u64w]; omega]
  · show IntKind.u64.wrap ((IntKind.i64.wrap (IntKind.u64.wrap (x % 4294967296 * 4294967296))).fdiv 4294967296) = IntKind.u64.wrap ((IntKind.i64.wrap (IntKind.u64.wrap (x * 4294967296))).fdiv 4294967296)
    rw [show IntKind.u64.wrap (x % 4294967296 * 4294967296) = IntKind.u64.wrap (x * 4294967296) by rw [u64w, u64w]; omega]
  · show (IntKind.u64.wrap (x % 256 * 72057594037927936)).fdiv 72057594037927936 = x % 256
    rw [u64w, Int.fdiv_eq_ediv_of_nonneg _ (by decide)]
    omega
theorem stB_mem (m : MS) (i : Nat) (v : Int) (j : Nat) : ∀ k, (stB m i v k).mem j = bif Nat.ble i j && Nat.blt j (i + k) then byteX v (j - i) else m.mem j
  | 0 => by rw [show (Nat.ble i j && Nat.blt j (i + 0)) = false by rw [ble_dec, blt_dec, Nat.add_zero]; simp]; rfl
  | k + 1 => by
    show (bif Nat.beq j (i + k) then byteX v k else (stB m i v k).mem j) = _
    rw [stB_mem m i v j k, beq_dec, ble_dec, blt_dec, blt_dec]
    by_cases h1 : j = i + k
    · subst h1; simp
    · rw [decide_eq_false h1, cond_false]
      by_cases h2 : i <= j
      · by_cases h3 : j < i + k
        · rw [decide_eq_true h2, decide_eq_true h3, decide_eq_true (show j < i + (k + 1) by omega)]
        · rw [decide_eq_true h2, decide_eq_false h3, decide_eq_false (show ¬ j < i + (k + 1) by omega)]
      · rw [decide_eq_false h2]; rfl
theorem stepM1 {s : RSt} {q : Int} {c : Cand} (hp : plB s.m.sz s.m.pl 4 = true) (hd : decA (w32 s.m) = ⟨q, c, 0⟩) (h1 : plainB q = false) (h2 : (q == 55) = false) (hm : plB s.m.sz (atM s.m c) (sizeF q) = true) :
    stepF (e0 true) s = (true, { s with m := finM s.m (memM s.m q c) s.m.kn' true, sN := s.sN + 1, sf := seMore s.sf s.sN (rowM s.m q c) }) := by
  unfold stepF stepG
  rw [hp, hd]
  simp only [cond_true, show ((0 : Int) == 0) = true from rfl, h1, h2, cond_false]
  unfold memF
  simp only [hm, cond_true]
  rfl
end Go.X
namespace Go.X
open Go Go.Proofs
def mx12 (k o x : Int) : MS := setR (m12 k o) 5 x
theorem num4_congr {f g : Nat -> Int} {i : Nat} (h : ∀ j, j < 4 -> f (i + j) = g (i + j)) : num4 f i = num4 g i := by
  unfold num4
  rw [h 0 (by omega), h 1 (by omega), h 2 (by omega), h 3 (by omega)]
theorem plain12 {k : Int} (hk : kk12 k) : (plainB (sK k) = false /\ (sK k == 55) = false) /\ (plainB (lK k) = false /\ (lK k == 55) = false) /\ (plainB 39 = false /\ ((39 : Int) == 55) = false) := by
  rcases hk with rfl | rfl | rfl <;> exact ⟨⟨rfl, rfl⟩, ⟨rfl, rfl⟩, rfl, rfl⟩
theorem size12 {k : Int} (hk : kk12 k) : sizeF (sK k) = nK k /\ sizeF (lK k) = nK k /\ decide (sK k >= 42) = true /\ decide (lK k >= 42) = false /\ (lK k != 39) = true := by
  rcases hk with rfl | rfl | rfl <;> exact ⟨rfl, rfl, rfl, rfl, rfl⟩
structure End12 (k o x : Int) (s : RSt) : Prop where
  n : runM true (mx12 k o x) 3 = (s, 3)
  oN : s.oN = 0
  sN : s.sN = 3
  sz : s.m.sz = 256
  x6 : s.m.x 6 = narF (8 * nK k) true x
  x7 : s.m.x 7 = bits2 .and .u64 x 255
  sf : ∀ j, j < 3 -> s.sf j = rw3 (nK k) o j
  mem : ∀ i, i < 128 -> s.m.mem (64 + i) = bif decide ((64 + i : Int) < o) || decide ((64 + i : Int) >= o + nK k) then 0 else byteX x (64 + i - o.toNat)
theorem end12 {k o x : Int} (h : At12 k o) (hx0 : 0 <= x) (hx1 : x < 18446744073709551616) : ∃ s, End12 k o x s := by
  have hc := h.chk
  obtain ⟨r1, r2, r3⟩ := h.rng
  have hn := nK_84 h.hk
  obtain ⟨⟨pa, pb⟩, ⟨pc, pd⟩, pe, pf⟩ := plain12 h.hk
  obtain ⟨sa, sb, sc, sd, se⟩ := size12 h.hk
  simp only [chk12, Bool.and_eq_true] at hc
  obtain ⟨hb, d0, d4, d8⟩ := hc
  have d0 := ansB_eq d0
  have d4 := ansB_eq d4
  have d8 := ansB_eq d8
  obtain ⟨on, rfl⟩ : ∃ n : Nat, o = n := ⟨o.toNat, by omega⟩
  obtain ⟨nn, hnn⟩ : ∃ n : Nat, nK k = n := ⟨(nK k).toNat, by omega⟩
  have hnn84 : nn = 1 \/ nn = 4 \/ nn = 8 := by omega
  have ow : IntKind.u64.wrap (on : Int) = on := by rw [u64w]; omega
  have oo : IntKind.u64.wrap (0 + IntKind.u64.wrap (on : Int)) = on := by rw [ow, u64w]; omega
  -- the first step
  let m0 := mx12 k on x
  have w0 : decA (w32 (RSt.init m0).m) = ⟨sK k, ⟨0, 0, 5, on⟩, 0⟩ := d0
  have a0 : atM m0 ⟨0, 0, 5, on⟩ = on := oo
  have q0 : plB m0.sz (atM m0 ⟨0, 0, 5, on⟩) (sizeF (sK k)) = true := by
    rw [a0, sa]; unfold plB
    simp only [Bool.and_eq_true, beq_iff_eq, decide_eq_true_eq]
    exact ⟨r3, by omega, by show (on : Int) + nK k <= ((256 : Nat) : Int); omega⟩
  have e0 := stepM1 (s := RSt.init m0) (q := sK k) (c := ⟨0, 0, 5, on⟩) rfl w0 pa pb q0
  obtain ⟨m1, hm1⟩ : ∃ m1, m1 = finM m0 (memM m0 (sK k) ⟨0, 0, 5, on⟩) m0.kn' true := ⟨_, rfl⟩
  have v1 : memM m0 (sK k) ⟨0, 0, 5, on⟩ = stB m0 on x nn := by
    unfold memM
    rw [sc, cond_true, a0]
    unfold nM
    rw [sa, hnn, Int.toNat_natCast, Nat.mul_one, Int.toNat_natCast]
    rfl
  have s1 := stB_same m0 on x nn
  have m1mem : ∀ j, m1.mem j = bif Nat.ble on j && Nat.blt j (on + nn) then byteX x (j - on) else m0.mem j := fun j => by
    rw [hm1, v1]; exact stB_mem m0 on x j nn
  have m1x : ∀ j, m1.x j = bif Nat.beq j 0 then 0 else m0.x j := fun j => by
    rw [hm1, v1]
    show (bif Nat.beq j 0 then 0 else (stB m0 on x nn).x j) = _
    rw [s1.2.1]
  have m1pl : m1.pl = 4 := by rw [hm1]; rfl
  have m1st : m1.st = 0 := by rw [hm1, v1]; show (stB m0 on x nn).st = 0; rw [s1.2.2.2.1]; rfl
  have m1sz : m1.sz = 256 := by rw [hm1, v1]; show (stB m0 on x nn).sz = 256; rw [s1.1]; rfl
  have low : ∀ j, j < 12 -> m1.mem j = m0.mem j := fun j hj => by
    rw [m1mem, show (Nat.ble on j) = false by rw [ble_dec]; exact decide_eq_false (by omega)]; rfl
  obtain ⟨t1, ht1⟩ : ∃ t1 : RSt, t1 = { RSt.init m0 with m := m1, sN := (RSt.init m0).sN + 1, sf := seMore (RSt.init m0).sf (RSt.init m0).sN (rowM m0 (sK k) ⟨0, 0, 5, on⟩) } := ⟨_, rfl⟩
  have e0' : stepF (Go.X.e0 true) (RSt.init m0) = (true, t1) := by rw [ht1, hm1]; exact e0
  have t1m : t1.m = m1 := by rw [ht1]
  -- the second
  have w1 : decA (w32 m1) = ⟨lK k, ⟨6, 0, 0, on⟩, 0⟩ := by
    rw [<- d4]; unfold w32 wd12
    rw [m1pl]
    exact congrArg (fun z => decA (IntKind.u32.wrap z)) (num4_congr fun j hj => low _ (by show 4 + j < 12; omega))
  have a1 : atM m1 ⟨6, 0, 0, on⟩ = on := by unfold atM; rw [show m1.x (0 : Int).toNat = 0 from m1x 0]; exact oo
  have q1 : plB m1.sz (atM m1 ⟨6, 0, 0, on⟩) (sizeF (lK k)) = true := by
    rw [a1, sb, m1sz]; unfold plB
    simp only [Bool.and_eq_true, beq_iff_eq, decide_eq_true_eq]
    exact ⟨r3, by omega, by omega⟩
  have e1 := stepM1 (s := t1) (q := lK k) (c := ⟨6, 0, 0, on⟩) (by rw [t1m, m1sz, m1pl]; rfl) (by rw [t1m]; exact w1) pc pd (by rw [t1m]; exact q1)
  rw [t1m] at e1
  obtain ⟨m2, hm2⟩ : ∃ m2, m2 = finM m1 (memM m1 (lK k) ⟨6, 0, 0, on⟩) m1.kn' true := ⟨_, rfl⟩
  rw [<- hm2] at e1
  have bytes : ∀ j, j < nn -> m1.mem (on + j) = byteX x j := fun j hj => by
    rw [m1mem, show (Nat.ble on (on + j) && Nat.blt (on + j) (on + nn)) = true by rw [ble_dec, blt_dec]; simp; omega, cond_true, Nat.add_sub_cancel_left]
  have v2 : memM m1 (lK k) ⟨6, 0, 0, on⟩ = putX m1 6 (narF (8 * nK k) true x) := by
    unfold memM
    rw [sd, cond_false, se, a1]
    unfold nM
    rw [sb, hnn, Int.toNat_natCast, Nat.mul_one, Int.toNat_natCast]
    have hv : narF (8 * (nn : Int)) true (numF nn m1.mem on) = narF (8 * (nn : Int)) true x := by
      rcases hnn84 with rfl | rfl | rfl
      · rw [show numF 1 m1.mem on = num1 m1.mem on from rfl, num1_val hx0 (bytes 0 (by omega))]; exact (nar_low hx0 hx1 (n := 0)).1
      · rw [show numF 4 m1.mem on = num4 m1.mem on from rfl, num4_val hx0 hx1 bytes]; exact (nar_low hx0 hx1 (n := 0)).2.1
      · rw [show numF 8 m1.mem on = num8 m1.mem on from rfl, num8_val hx0 hx1 bytes]
    rw [hv]
  have m2mem : m2.mem = m1.mem := by rw [hm2, v2]; rfl
  have m2x : ∀ j, m2.x j = bif Nat.beq j 0 then 0 else bif Nat.beq (j + 1) 7 then narF (8 * nK k) true x else m1.x j := fun j => by rw [hm2, v2]; rfl
  have m2pl : m2.pl = 8 := by rw [hm2]; show nxt m1 = 8; unfold nxt; rw [m1pl]; rfl
  have m2st : m2.st = 0 := by rw [hm2, v2]; exact m1st
  have m2sz : m2.sz = 256 := by rw [hm2, v2]; exact m1sz
  obtain ⟨t2, ht2⟩ : ∃ t2 : RSt, t2 = { t1 with m := m2, sN := t1.sN + 1, sf := seMore t1.sf t1.sN (rowM m1 (lK k) ⟨6, 0, 0, on⟩) } := ⟨_, rfl⟩
  rw [<- ht2] at e1
  have t2m : t2.m = m2 := by rw [ht2]
  -- the third
  have w2 : decA (w32 m2) = ⟨39, ⟨7, 0, 0, on⟩, 0⟩ := by
    rw [<- d8]; unfold w32 wd12
    rw [m2pl, m2mem]
    exact congrArg (fun z => decA (IntKind.u32.wrap z)) (num4_congr fun j hj => low _ (by show 8 + j < 12; omega))
  have a2 : atM m2 ⟨7, 0, 0, on⟩ = on := by unfold atM; rw [show m2.x (0 : Int).toNat = 0 from m2x 0]; exact oo
  have q2 : plB m2.sz (atM m2 ⟨7, 0, 0, on⟩) (sizeF 39) = true := by
    rw [a2, m2sz]; unfold plB
    simp only [Bool.and_eq_true, beq_iff_eq, decide_eq_true_eq]
    exact ⟨by show (on : Int) % 1 = 0; omega, by omega, by show (on : Int) + 1 <= _; omega⟩
  have e2 := stepM1 (s := t2) (q := 39) (c := ⟨7, 0, 0, on⟩) (by rw [t2m, m2sz, m2pl]; rfl) (by rw [t2m]; exact w2) pe pf (by rw [t2m]; exact q2)
  rw [t2m] at e2
  obtain ⟨m3, hm3⟩ : ∃ m3, m3 = finM m2 (memM m2 39 ⟨7, 0, 0, on⟩) m2.kn' true := ⟨_, rfl⟩
  rw [<- hm3] at e2
  have v3 : memM m2 39 ⟨7, 0, 0, on⟩ = putX m2 7 (x % 256) := by
    have h1 : numF 1 m2.mem on = x % 256 := by rw [m2mem, show numF 1 m1.mem on = num1 m1.mem on from rfl, num1_val hx0 (bytes 0 (by omega))]
    have h2 : memM m2 39 ⟨7, 0, 0, on⟩ = putX m2 7 (narF (8 * ((1 : Nat) : Int)) false (numF 1 m2.mem ((atM m2 ⟨7, 0, 0, on⟩).toNat * 1))) := rfl
    rw [h2, a2, Nat.mul_one, Int.toNat_natCast, h1]
    rw [show narF (8 * ((1 : Nat) : Int)) false (x % 256) = x % 256 from (nar_low hx0 hx1 (n := 0)).2.2]
  have m3mem : m3.mem = m1.mem := by rw [hm3, v3]; exact m2mem
  have m3x : ∀ j, m3.x j = bif Nat.beq j 0 then 0 else bif Nat.beq (j + 1) 8 then x % 256 else m2.x j := fun j => by rw [hm3, v3]; rfl
  have m3sz : m3.sz = 256 := by rw [hm3, v3]; exact m2sz
  obtain ⟨t3, ht3⟩ : ∃ t3 : RSt, t3 = { t2 with m := m3, sN := t2.sN + 1, sf := seMore t2.sf t2.sN (rowM m2 39 ⟨7, 0, 0, on⟩) } := ⟨_, rfl⟩
  rw [<- ht3] at e2
  have t3m : t3.m = m3 := by rw [ht3]
  have n1 : t1.sN = 1 := by rw [ht1]; rfl
  have n2 : t2.sN = 2 := by rw [ht2]; show t1.sN + 1 = 2; rw [n1]
  refine ⟨t3, ?_, ?_, ?_, ?_, ?_, ?_, ?_, ?_⟩
  · unfold runM
    rw [runF_go rfl e0', runF_go (by rw [t1m, m1st]; rfl) e1, runF_go (by rw [t2m, m2st]; rfl) e2]
    rfl
  · rw [ht3, ht2, ht1]; rfl
  · rw [ht3]; show t2.sN + 1 = 3; rw [n2]
  · rw [t3m]; exact m3sz
  · rw [t3m, m3x]; show m2.x 6 = _; rw [m2x]; rfl
  · rw [t3m, m3x, and255 hx0 hx1]; rfl
  · intro j hj
    have f3 : t3.sf = seMore t2.sf 2 (rowM m2 39 ⟨7, 0, 0, on⟩) := by rw [ht3]; show seMore t2.sf t2.sN _ = _; rw [n2]
    have f2 : t2.sf = seMore t1.sf 1 (rowM m1 (lK k) ⟨6, 0, 0, on⟩) := by rw [ht2]; show seMore t1.sf t1.sN _ = _; rw [n1]
    have f1 : t1.sf = seMore (RSt.init m0).sf 0 (rowM m0 (sK k) ⟨0, 0, 5, on⟩) := by rw [ht1]; rfl
    match j, hj with
    | 0, _ => rw [f3, f2, f1]; show rowM m0 (sK k) ⟨0, 0, 5, on⟩ = _; unfold rowM; rw [a0, sa, sc]; rfl
    | 1, _ => rw [f3, f2]; show rowM m1 (lK k) ⟨6, 0, 0, on⟩ = _; unfold rowM; rw [a1, sb, sd, m1pl]; rfl
    | 2, _ => rw [f3]; show rowM m2 39 ⟨7, 0, 0, on⟩ = _; unfold rowM; rw [a2, m2pl]; rfl
    | j + 3, h => omega
  · intro i hi
    rw [t3m, m3mem, m1mem, Int.toNat_natCast]
    by_cases hin : on <= 64 + i /\ 64 + i < on + nn
    · rw [show (Nat.ble on (64 + i) && Nat.blt (64 + i) (on + nn)) = true by rw [ble_dec, blt_dec]; simp; omega, cond_true,
        show (decide ((64 + i : Int) < on) || decide ((64 + i : Int) >= on + nK k)) = false by simp; omega, cond_false]
    · rw [show (Nat.ble on (64 + i) && Nat.blt (64 + i) (on + nn)) = false by
          rw [ble_dec, blt_dec]
          by_cases h1 : on <= 64 + i
          · rw [decide_eq_true h1, decide_eq_false (by omega)]; rfl
          · rw [decide_eq_false h1]; rfl, cond_false,
        show (decide ((64 + i : Int) < on) || decide ((64 + i : Int) >= on + nK k)) = true by simp; omega, cond_true]
      show (bif Nat.blt (64 + i) 12 then _ else (0 : Int)) = 0
      rw [blt_ff (by omega)]; rfl
end Go.X
namespace Go.X
open Go Go.Proofs
theorem m256_eq {m : MS} {v6 v7 : Int} (hs : m.sz = 256) (h6 : m.x 6 = v6) (h7 : m.x 7 = v7) : m256 m v6 v7 = m := by
  have hx : (fun j => bif Nat.beq j 6 then v6 else bif Nat.beq j 7 then v7 else m.x j) = m.x := funext fun j => by
    rw [beq_dec, beq_dec]
    by_cases e6 : j = 6
    · subst e6; rw [decide_eq_true rfl, cond_true, h6]
    · rw [decide_eq_false e6, cond_false]
      by_cases e7 : j = 7
      · subst e7; rw [decide_eq_true rfl, cond_true, h7]
      · rw [decide_eq_false e7, cond_false]
  unfold m256
  rw [hx, <- hs]
theorem f12_eq (k o : Int) : ∀ j, j < 3 -> f12 (sK k) (lK k) o j = (J12 k o j).row
  | 0, _ => rfl
  | 1, _ => rfl
  | 2, _ => rfl
  | j + 3, h => by omega
theorem by12 {k o : Int} (h : At12 k o) : byS F9 (J12 k o) 3 = (12, of12 k o) := by
  have hc := h.chk
  simp only [chk12, Bool.and_eq_true] at hc
  exact Prod.ext (Nat.eq_of_beq_eq_true hc.1) rfl
theorem c12_23 {k o : Int} (h : At12 k o) : AtN 23 [L60 3 3] [(60, .rows 3 5 (f12 (sK k) (lK k) o) false false)] (newS 61 12) (mkH [(61, outB 12 (of12 k o))]) 61 1 :=
  ⟨rfl, c23_at (C := 3) (J := J12 k o) (F := F9) (fun j _ => encV_all _) (by omega) (by12 h) rfl (Nat.le_refl 3) (o := false) (r := false) (f12_eq k o) 60 61 (by omega)⟩
theorem c12_22 {k o : Int} : AtN 22 [newS 61 12, .int .i64 ((256 : Nat) : Int)] [(61, outB 12 (of12 k o))] (vM3 64) (mkH [(62, (m12 k o).memB), (63, (m12 k o).kn.blk), (64, (m12 k o).mAt 62 63)]) 62 3 :=
  ⟨rfl, c22_at (L := 12) (C := 12) (sz := 256) (inp := of12 k o) (by omega) (by omega) 61 62 (by omega) (Nat.le_refl 12) (o := true) (r := false) fun j _ => rfl⟩
theorem rw3_ren (z o : Int) (σ : Nm) : ∀ j, rnL σ (rw3 z o j) = rw3 z o j
  | 0 => rfl
  | 1 => rfl
  | _ + 2 => rfl
theorem b12b {x a w : Int} (hx : uB x = true) (ha : 0 <= a /\ a < 256) (hw : 0 <= w /\ w < 256) : Body Try.prog 12 [.int .u64 x, .int .u8 a, .int .u8 w] [] (.bool true) [] 50 0 := by
  have hx' := uB_iff.1 hx
  refine body_of' mixed fx12 (by simp) fun E Q hP hn hcl hfin => ?_
  have hF : FnsOK E.P (lookF FL) noSc := hP ▸ FOK
  have lf0 : ∀ {ks : List Nat} {vs : List Value} {ts : List (Option (Bool × Value))} {ex : Exit} {k n1 : Nat}, chkN 50 n1 [] [] = true -> tsOK (stayOr 50 []) ts vs -> LeafTo E ks ⟨ts, [], ex, k⟩ ⟨mkT ks vs, mkH [], n1⟩ := fun hle ht =>
    ⟨_, [], _, rfl, by rw [hn]; exact hle, by rw [hn]; exact ht, trivial⟩
  refine xwp_seqW (s := ⟨_, _, _⟩) hcl hF 1000 (p12_0 x w a) rfl ⟨mkT [0, 1, 2] [.int .u64 x, .int .u8 a, .int .u8 w], mkH [], 50⟩ (lf0 rfl ⟨rfl, rfl, rfl, trivial⟩) ?_
  refine xwp_seqW (s := ⟨_, _, _⟩) hcl (hP ▸ FOK6) 1000 (p12_5 x w a) rfl ⟨mkT [0, 1, 2] [.int .u64 x, .int .u8 a, .int .u8 w], mkH [], 50⟩ (lf0 rfl ⟨rfl, rfl, rfl, trivial⟩) ?_
  obtain ⟨k, hkk⟩ : ∃ k, k = (IntKind.i64.wrap w).tmod 3 := ⟨_, rfl⟩
  have hk : kk12 k := by
    rw [wrap_i (n := w) (by omega) (by omega), Int.tmod_eq_emod_of_nonneg hw.1] at hkk
    unfold kk12; omega
  have e6 := p12_6 x w a
  rw [<- hkk] at e6
  refine xwp_seqW (s := ⟨_, _, _⟩) hcl hF 1000 e6 rfl ⟨mkT [7, 0, 1] [.int .i64 k, .int .u64 x, .int .u8 a], mkH [], 50⟩ (lf0 rfl ⟨rfl, rfl, rfl, trivial⟩) ?_
  refine xwp_seqW (s := ⟨_, _, _⟩) hcl hF 1000 (p12_7 x a k hk) rfl ⟨mkT [8, 7, 0, 1] [.int .i64 (nK k), .int .i64 k, .int .u64 x, .int .u8 a], mkH [], 50⟩ (lf0 rfl ⟨rfl, rfl, rfl, rfl, trivial⟩) ?_
  have e8 := p12_8 x a k hk
  have hat := at12_of (a := IntKind.i64.wrap a) hk (by rw [wrap_i (by omega) (by omega)]; exact ha.1)
  obtain ⟨o, ho⟩ : ∃ o, o = IntKind.i64.wrap (64 + IntKind.i64.wrap (nK k * (IntKind.i64.wrap a).tmod (qK k))) := ⟨_, rfl⟩
  rw [<- ho] at e8 hat
  have r := hat.rng
  have n84 := nK_84 hk
  refine xwp_seqW (s := ⟨_, _, _⟩) hcl hF 1000 e8 rfl ⟨mkT [9, 8, 7, 0] [.int .i64 o, .int .i64 (nK k), .int .i64 k, .int .u64 x], mkH [], 50⟩ (lf0 rfl ⟨rfl, rfl, rfl, rfl, trivial⟩) ?_
  refine xwp_seqW (s := ⟨_, _, _⟩) hcl hF 1000 (p12_9 x o k hk) rfl ⟨mkT [10, 11, 9, 8, 0] [.int .i64 (sK k), .int .i64 (lK k), .int .i64 o, .int .i64 (nK k), .int .u64 x], mkH [], 60⟩ (lf0 rfl ⟨rfl, rfl, rfl, rfl, rfl, trivial⟩) ?_
  have e10 := p12_10 x o (sK k) (lK k) (nK k) (m12 k o) 12 (of12 k o)
  rw [decP_true ⟨rfl, ⟨rfl, trivial⟩, c12_22⟩, decP_true ⟨rfl, ⟨rfl, trivial⟩, c12_23 hat⟩] at e10
  simp only [Bool.and_self, cond_true] at e10
  refine xwp_seqW (s := ⟨_, _, _⟩) hcl (fokE hP _) 1000 e10 rfl ⟨mkT [12, 13, 9, 8, 0] [pAt 92, .int .i64 0, .int .i64 o, .int .i64 (nK k), .int .u64 x], mkH ((m12 k o).HA 90 91 92), 130⟩ ⟨_, _, _, rfl, by rw [hn]; rfl, by rw [hn]; exact ⟨rfl, rfl, rfl, rfl, rfl, trivial⟩, by rw [hn, hP]; exact ⟨bis_mem, bis_kn, bis_mAt rfl rfl, trivial⟩⟩ ?_
  have lfM : ∀ (m : MS) {ks : List Nat} {vs : List Value} {ts : List (Option (Bool × Value))} {ex : Exit} {k : Nat}, tsOK (stayOr 50 [(90, 90), (91, 91), (92, 92)]) ts vs -> LeafTo E ks ⟨ts, [(90, some m.memB), (91, some m.kn.blk), (92, some (m.mAt 90 91))], ex, k⟩ ⟨mkT ks vs, mkH (m.HA 90 91 92), 130⟩ := fun m {ks vs ts ex k} ht =>
    ⟨_, m.HA 90 91 92, 130, rfl, by rw [hn]; rfl, by rw [hn]; exact ht, by rw [hn, hP]; exact ⟨bis_mem, bis_kn, bis_mAt rfl rfl, trivial⟩⟩
  refine xwp_seqW (s := ⟨_, _, _⟩) hcl hF 1000 (p12_15 x o (nK k) (m12 k o)) rfl ⟨mkT [12, 9, 8, 0] [pAt 92, .int .i64 o, .int .i64 (nK k), .int .u64 x], mkH ((m12 k o).HA 90 91 92), 130⟩ (lfM _ ⟨rfl, rfl, rfl, rfl, trivial⟩) ?_
  refine xwp_seqW (s := ⟨_, _, _⟩) hcl hF 1000 (p12_16 x o (nK k) (m12 k o)) rfl ⟨mkT [12, 9, 8, 0] [pAt 92, .int .i64 o, .int .i64 (nK k), .int .u64 x], mkH ((mx12 k o x).HA 90 91 92), 130⟩ (lfM (mx12 k o x) ⟨rfl, rfl, rfl, rfl, trivial⟩) ?_
  obtain ⟨s, hs⟩ := end12 hat hx'.1 hx'.2
  have hokm : OKM (mx12 k o x) := ⟨rfl, rfl, setX_ok (fun _ => rfl) hx, fun w h => by cases h⟩
  have A := c27_0 hokm (fuel := 3) (by omega) hs.n
  rw [hs.oN, hs.sN] at A
  have e17 := p12_17 x o (nK k) (mx12 k o x) s s.sf
  rw [decP_true ⟨rfl, ⟨rfl, rfl, rfl, trivial⟩, A⟩] at e17
  simp only [Bool.and_self, cond_true] at e17
  have hsf : ∀ {σ : Nm}, BIs Try.prog σ (seB 3 (rw3 (nK k) o)) (seB 3 s.sf) := fun {σ} => ⟨rfl, rfl, fun j hj => by rw [hs.sf j hj, rw3_ren], .inl rfl, .inr rfl⟩
  refine xwp_seqW (s := ⟨_, _, _⟩) hcl (fokE hP _) 1000 e17 rfl ⟨mkT [14, 15, 12, 9, 8, 0] [pAt 62, vOa 63 true 3, pAt 92, .int .i64 o, .int .i64 (nK k), .int .u64 x], mkH ([(62, r12 s.m.st s.m.cd s.mark), (63, seB 3 (rw3 (nK k) o))] ++ s.m.HA 90 91 92), 130⟩
    ⟨_, _, _, rfl, by rw [hn]; rfl, by rw [hn]; exact ⟨rfl, rfl, rfl, rfl, rfl, rfl, trivial⟩, by rw [hn, hP]; exact ⟨rfl, hsf, bis_mem, bis_kn, bis_mAt rfl rfl, trivial⟩⟩ ?_
  have hr3 : ∀ {σ : Nm}, BIs Try.prog σ (seB 3 (rw3 (nK k) o)) (seB 3 (rw3 (nK k) o)) := bis_seB fun j _ => rw3_ren _ _ _ j
  refine xwp_seqW (s := ⟨_, _, _⟩) hcl (fokE hP _) 1000 (p12_18 x o s.m s.m.st s.m.cd s.mark k hk) rfl ⟨mkT [16, 14, 15, 12, 9, 8, 0] [.int .u64 (narF (8 * nK k) true x), pAt 62, vOa 63 true 3, pAt 92, .int .i64 o, .int .i64 (nK k), .int .u64 x], mkH ([(62, r12 s.m.st s.m.cd s.mark), (63, seB 3 (rw3 (nK k) o))] ++ s.m.HA 90 91 92), 130⟩
    ⟨_, _, _, rfl, by rw [hn]; rfl, by rw [hn]; exact ⟨rfl, rfl, rfl, rfl, rfl, rfl, rfl, trivial⟩, by rw [hn, hP]; exact ⟨rfl, hr3, bis_mem, bis_kn, bis_mAt rfl rfl, trivial⟩⟩ ?_
  have hm : m256 s.m (narF (8 * nK k) true x) (bits2 .and .u64 x 255) = s.m := m256_eq hs.sz hs.x6 hs.x7
  have e23 := p12_23 x o (nK k) s.m (narF (8 * nK k) true x) (bits2 .and .u64 x 255) s.m.st s.m.cd s.mark
  have ow : (o == IntKind.u64.wrap o) = true := by rw [u64w]; simp; omega
  rw [show (narF (8 * nK k) true x != narF (8 * nK k) true x) = false by simp, show (bits2 .and .u64 x 255 != bits2 .and .u64 x 255) = false by simp, ow, show (nK k == nK k) = true by simp, hm] at e23
  show XWP E.toEnv (.seq x12_23 x12_60) Q _
  refine xwp_seqW (s := ⟨_, _, _⟩) hcl hF 1000 e23 rfl ⟨mkT [12, 9, 8, 0] [pAt 92, .int .i64 o, .int .i64 (nK k), .int .u64 x], mkH (s.m.HA 90 91 92), 130⟩ (lfM s.m ⟨rfl, rfl, rfl, rfl, trivial⟩) ?_
  have e24 := p12_24 x o (nK k) s.m (narF (8 * nK k) true x) (bits2 .and .u64 x 255)
  rw [hm] at e24
  have hb : ∀ {σ : Nm}, BIs Try.prog σ (b12 fun i => s.m.mem (64 + i)) (.rows 128 1 (rowCat (fun j => slab [] (j * 1) 1) 0 0 (fun j => [.int .u8 (s.m.mem (64 + j))])) true false) := fun {σ} =>
    ⟨rfl, rfl, fun j hj => by
      show [Value.int .u8 (s.m.mem (64 + j))] = (bif Nat.blt j 0 then _ else [Value.int .u8 (s.m.mem (64 + (j - 0)))])
      rw [blt_ff (Nat.not_lt_zero _), cond_false, Nat.sub_zero], .inl rfl, .inr rfl⟩
  refine xwp_seqW (s := ⟨_, _, _⟩) hcl hF 1000 e24 rfl ⟨mkT [18, 19, 9, 8, 0] [.slice (some ⟨65, 0, none⟩) 128 128, .int .i64 0, .int .i64 o, .int .i64 (nK k), .int .u64 x], mkH [(65, b12 fun i => s.m.mem (64 + i))], 130⟩
    ⟨_, _, _, rfl, by rw [hn]; rfl, by rw [hn]; exact ⟨rfl, rfl, rfl, rfl, rfl, trivial⟩, by rw [hn, hP]; exact ⟨hb, trivial⟩⟩ ?_
  have hbb : ∀ {σ : Nm} {g : Nat -> Int}, BIs Try.prog σ (b12 g) (b12 g) := ⟨rfl, rfl, fun j hj => rfl, .inl rfl, .inr rfl⟩
  let S : Nat -> St := fun i => ⟨mkT [129, 128, 127, 9, 8, 0] [.int .i64 (i : Int), .int .i64 128, .slice (some ⟨65, 0, none⟩) 128 128, .int .i64 o, .int .i64 (nK k), .int .u64 x], mkH [(65, b12 fun i => s.m.mem (64 + i))], 130⟩
  show XWP E.toEnv x12_59 Q _
  refine xwp_toLoop (s := ⟨_, _, _⟩) hF 1000 (p12_59 x o (nK k) (fun i => s.m.mem (64 + i))) (S 0) ⟨_, _, _, rfl, by rw [hn]; rfl, by rw [hn]; exact ⟨rfl, rfl, rfl, rfl, rfl, rfl, trivial⟩, by rw [hn, hP]; exact ⟨hbb, trivial⟩⟩ ?_
  refine xwp_loopR (ι := Nat) S (fun i => i <= 128) (fun i => 128 - i) 0 (by omega) fun i hi => ?_
  have hcr := cl_round (S := S) (I := fun i => i <= 128) (μ := fun i => 128 - i) (i := i) (cl_ctx hcl [.bl 0, .sq x12_57])
  have e := p12_52 x o (nK k) i (fun i => s.m.mem (64 + i))
  have lfS : ∀ {v : Int} {ex : Exit} {q : Nat} (j : Nat), v = (j : Int) -> LeafTo E ([129] ++ [128, 127, 9, 8, 0]) ⟨some (true, .int .i64 v) :: [some (true, .int .i64 128), some (true, .slice (some ⟨65, 0, none⟩) 128 128), some (true, .int .i64 o), some (true, .int .i64 (nK k)), some (true, .int .u64 x)], [(65, some (b12 fun i => s.m.mem (64 + i)))], ex, q⟩ (S j) := fun {v ex q} j hv =>
    ⟨_, [(65, b12 fun i => s.m.mem (64 + i))], 130, rfl, by rw [hn]; rfl, by rw [hn]; subst hv; exact ⟨rfl, rfl, rfl, rfl, rfl, rfl, trivial⟩, by rw [hn, hP]; exact ⟨hbb, trivial⟩⟩
  by_cases hlt : i < 128
  · have hir : intRange (i : Int) 128 = true := by rw [show (128 : Nat) = 128 from rfl, ir_nat, decide_eq_true hlt]
    have ht : ∀ b, t12 b = true := fun b => by cases b <;> rfl
    have w64 : IntKind.i64.wrap ((i : Int) + 64) = 64 + i := by rw [wrap_i (by omega) (by omega)]; omega
    have wo : IntKind.i64.wrap (o + nK k) = o + nK k := wrap_i (by omega) (by omega)
    have hmem := hs.mem i hlt
    rw [decide_eq_true (show (i : Int) < 128 by omega), Nat.zero_add, lt_blt hlt, hir, ht, w64, wo, wrap_i (n := (i : Int) + 1) (by omega) (by omega)] at e
    simp only [Bool.and_self, Bool.or_false, cond_true] at e
    by_cases hin : (64 + i : Int) < o \/ (64 + i : Int) >= o + nK k
    · have hz : s.m.mem (64 + i) = 0 := by
        rw [hmem, show (decide ((64 + i : Int) < o) || decide ((64 + i : Int) >= o + nK k)) = true by simp; omega, cond_true]
      have hc : (bif decide ((64 + i : Int) < o) then true else decide ((64 + i : Int) >= o + nK k)) = true := by
        by_cases h1 : (64 + i : Int) < o
        · rw [decide_eq_true h1, cond_true]
        · rw [decide_eq_false h1, cond_false, decide_eq_true (by omega)]
      rw [hc, cond_true, hz, show ((0 : Int) != 0) = false from rfl, cond_false] at e
      exact xwp_toEnd (s := S i) hcr hF 1000 e (S (i + 1)) (lfS (i + 1) rfl) ⟨i + 1, hlt, by simp only; omega, Wk.refl _ _⟩
    · have hz : s.m.mem (64 + i) = byteX x (64 + i - o.toNat) := by
        rw [hmem, show (decide ((64 + i : Int) < o) || decide ((64 + i : Int) >= o + nK k)) = false by simp; omega, cond_false]
      have hc : (bif decide ((64 + i : Int) < o) then true else decide ((64 + i : Int) >= o + nK k)) = false := by
        rw [decide_eq_false (by omega), cond_false, decide_eq_false (by omega)]
      have h8 : IntKind.i64.wrap (8 * IntKind.i64.wrap ((64 + i : Int) - o)) = IntKind.i64.wrap (8 * ((64 + i - o.toNat : Nat) : Int)) := by
        rw [wrap_i (n := (64 + i : Int) - o) (by omega) (by omega), show ((64 + i : Int) - o) = ((64 + i - o.toNat : Nat) : Int) by omega]
      have hp : decide (0 <= IntKind.i64.wrap (8 * ((64 + i - o.toNat : Nat) : Int))) = true := decide_eq_true (by rw [wrap_i (by omega) (by omega)]; omega)
      rw [hc, cond_false, h8, hp, hz] at e
      have hv : (byteX x (64 + i - o.toNat) != IntKind.u8.wrap (x.fdiv (2 ^ min (IntKind.i64.wrap (8 * ((64 + i - o.toNat : Nat) : Int))).toNat 64))) = false := by unfold byteX; simp
      rw [hv] at e
      simp only [Bool.and_self, Bool.or_false, cond_true, cond_false] at e
      exact xwp_toEnd (s := S i) hcr hF 1000 e (S (i + 1)) (lfS (i + 1) rfl) ⟨i + 1, hlt, by simp only; omega, Wk.refl _ _⟩
  · have : i = 128 := by omega
    subst this
    rw [decide_eq_false (show ¬ ((128 : Nat) : Int) < 128 by omega), cond_false] at e
    refine xwp_toEnd (s := S 128) hcr hF 1000 e (S 128) (lfS 128 rfl) ?_
    show XWP E.toEnv x12_57 Q (S 128)
    refine XWP.wk (s' := ⟨mkT [] [], mkH [(65, b12 fun i => s.m.mem (64 + i))], 130⟩) ?_ ?_
    · exact LeafTo.wk (E := E) (ks := []) (rs := [.id 65]) (e := .normal) (l := ⟨[], [(65, some (b12 fun i => s.m.mem (64 + i)))], .normal, 130⟩) ⟨[], [(65, b12 fun i => s.m.mem (64 + i))], 130, rfl, by rw [hn]; rfl, trivial, by rw [hn, hP]; exact ⟨hbb, trivial⟩⟩ rfl
    · exact xwp_toEnd (s := ⟨_, _, _⟩) hcl hF 1000 (p12_57 (fun i => s.m.mem (64 + i))) ⟨mkT [6] [.bool true], mkH [], 50⟩ ⟨_, [], _, rfl, by rw [hn]; rfl, by rw [hn]; exact ⟨rfl, trivial⟩, trivial⟩ (hfin _ _ (fin_of rfl trivial (by rw [hn]) rfl))
end Go.X
