import Derived.Test.YtnekegldodbgjaaJ48
import Derived.Test.YtnekegldodbgjaaJ18
import Derived.Test.YtnekegldodbgjaaJ46
set_option linter.all false
namespace Go.X
open Go Go.Proofs
theorem p14_0 (a b : Int) : walk (lookF FL) noSc 1000 (.region x14_0) (argTm 0 [.int .i64 a, .int .i64 b]) [] 50 ⟨[], [], [0, 1], []⟩ ⟨[], [], [], []⟩ ⟨[], [], [], []⟩ = some ⟨⟨[], [], .normal, 50⟩, none⟩ := by kernel_rfl
theorem p14_5 (a b : Int) : walk (lookF FL) (scOf [con16]) 1000 x14_5 (mkT [0, 1] [.int .i64 a, .int .i64 b]) [] 50 ⟨[], [], [0, 1], []⟩ ⟨[], [], [], []⟩ ⟨[], [], [], []⟩ = some ⟨⟨[], [], .normal, 50⟩, none⟩ := by kernel_rfl
theorem p14_6 (a b : Int) : walk (lookF FL) noSc 1000 (.region x14_6) (mkT [0, 1] [.int .i64 a, .int .i64 b]) [] 50 ⟨[0, 1], [], [], []⟩ ⟨[], [], [], []⟩ ⟨[], [], [], []⟩ = some ⟨⟨[some (true, .int .i64 (IntKind.i64.wrap (4 * IntKind.i64.wrap ((IntKind.u64.wrap a).tmod 1000)))), some (true, .int .i64 (IntKind.i64.wrap ((IntKind.u64.wrap b).tmod 1500)))], [], .normal, 50⟩, none⟩ := by kernel_rfl
def g14 : Nat -> List Value := fun j => slab [.string ⟨#[]⟩, .int .i64 51, .int .i64 5, .int .i64 0, .int .i64 0, .int .i64 0, .string ⟨#[120]⟩, .int .i64 1, .string ⟨#[]⟩, .int .i64 28, .int .i64 5, .int .i64 5, .int .i64 0, .int .i64 0, .string ⟨#[120]⟩, .int .i64 2] (j * 8) 8
def a14 : Nat -> List Value := fun j => slab [.string ⟨#[]⟩, .int .i64 28, .int .i64 0, .int .i64 0, .int .i64 0, .int .i64 0, .string ⟨#[]⟩, .int .i64 0] ((0 + j) * 8) 8
section
variable (x : Int) (n i l k sz : Nat) (I : Its) (W : Nat -> Int) (lm : LMap) (m : MS) (s : RSt)
theorem p14_7 : walk (lookF FL) noSc 1000 (.region x14_7) (mkT [0, 1] [.int .i64 x, .int .i64 (n : Int)]) [] 60 ⟨[5], [.id 60], [0, 1], []⟩ ⟨[], [], [], []⟩ ⟨[], [], [], []⟩ = some ⟨⟨[some (true, sl60 2)], [(60, some (.rows 2 8 g14 false false))], .normal, 61⟩, none⟩ := by kernel_rfl
theorem p14_8 : walk (lookF FL) noSc 1000 x14_38 (mkT [5, 0, 1] [sl60 l, .int .i64 x, .int .i64 (n : Int)]) (mkH [(60, itB8 I l)]) 61 ⟨[], [], [], []⟩ ⟨[], [], [], []⟩ ⟨[6], [], [5, 0, 1], [60]⟩ = some ⟨⟨[some (true, .int .i64 ((0 : Nat) : Int))], [], .normal, 61⟩, some (x14_16, [.bl 0, .sq x14_37])⟩ := by kernel_rfl
theorem p14_16 : walk (lookF FL) noSc 1000 x14_16 (mkT [6, 5, 0, 1] [.int .i64 (i : Int), sl60 l, .int .i64 x, .int .i64 (n : Int)]) (mkH [(60, itB8 I l)]) 61 ⟨[6, 5], [.tmp 5], [0, 1], []⟩ ⟨[], [], [], []⟩ ⟨[], [], [], []⟩ =
    bif decide ((i : Int) < (n : Int)) then bif !(l + 1).ble l && true && (l.ble l && (0 + l).ble l) && true && decide ((l + 1) * 89 <= 1099511627776) && true && true then
      some ⟨⟨[some (true, .int .i64 (IntKind.i64.wrap ((i : Int) + 1))), some (true, .slice (some ⟨62, 0, none⟩) (l + 1) (l + 1))], [(62, some (.rows (l + 1) 8 (rowCat I.row 0 l a14) true false))], .normal, 63⟩, none⟩ else none
    else some ⟨⟨[some (true, .int .i64 (i : Int)), some (true, sl60 l)], [(60, some (itB8 I l))], .exit 0, 61⟩, none⟩ := by kernel_rfl
theorem p14_20 : walk (lookF FL) (sc14a l x (f17 I l ⟨#[120]⟩) k W lm) 1000 (.region x14_20) (mkT [6, 5, 0, 1] [.int .i64 (i : Int), sl60 l, .int .i64 x, .int .i64 (n : Int)]) (mkH [(60, itB8 I l)]) 61 ⟨[7, 8, 9], [.id 63, .id 64], [0, 1], []⟩ ⟨[], [], [], []⟩ ⟨[], [], [], []⟩ =
    bif decP ([Value.slice (some ⟨62, 0, none⟩) (l + 1) (l + 1), .int .i64 x] = [Value.slice (some ⟨62, 0, none⟩) (l + 1) (l + 1), .int .i64 x] /\ Has (mkH [(62, .rows (l + 1) 8 (f17 I l ⟨#[120]⟩) true false)]) [(62, .rows (l + 1) 8 (f17 I l ⟨#[120]⟩) true false)] /\ AtN 17 [.slice (some ⟨62, 0, none⟩) (l + 1) (l + 1), .int .i64 x] [(62, .rows (l + 1) 8 (f17 I l ⟨#[120]⟩) true false)] (.tuple ⟨[.slice (some ⟨63, 0, none⟩) k k, .map (some 64), .int .i64 0]⟩) (mkH [(63, wB0 k W), (64, lm.blk)]) 63 2) && true && (!(l + 1).ble l && true && (l.ble l && (0 + l).ble l) && true && decide ((l + 1) * 89 <= 1099511627776) && true && true) then
      some ⟨⟨[some (true, .slice (some ⟨63, 0, none⟩) k k), some (true, .map (some 64)), some (true, .int .i64 0)], [(63, some (wB0 k W)), (64, some lm.blk)], .normal, 65⟩, none⟩ else none := by kernel_rfl
theorem p14_25 : walk (lookF FL) noSc 1000 x14_25 (mkT [7, 8, 9, 0, 1] [sl60 k, .map (some 61), .int .i64 0, .int .i64 x, .int .i64 (n : Int)]) (mkH [(60, wB0 k W), (61, lm.blk)]) 130 ⟨[], [], [7, 8], [60, 61]⟩ ⟨[4], [], [], []⟩ ⟨[], [], [], []⟩ =
    bif lm.val (.string ⟨#[120]⟩) != IntKind.i64.wrap (IntKind.i64.wrap (x + 8) + IntKind.i64.wrap (4 * (n : Int))) then some ⟨⟨[some (true, .bool false)], [], .ret, 130⟩, none⟩ else some ⟨⟨[], [], .normal, 130⟩, none⟩ := by kernel_rfl
theorem p14_26 : walk (lookF FL) (sc14b k W sz m) 1000 (.region x14_26) (mkT [7, 8] [sl60 k, .map (some 61)]) (mkH [(60, wB0 k W), (61, lm.blk)]) 130 ⟨[10, 11], [.id 131, .id 132, .id 133], [8], [61]⟩ ⟨[], [], [], []⟩ ⟨[], [], [], []⟩ =
    bif decP ([newS 130 (4 * k), .int .i64 (IntKind.i64.wrap (4 * (k : Int)))] = [newS 130 (4 * k), .int .i64 (sz : Int)] /\ Has (mkH [(130, outB (4 * k) (bw W k))]) [(130, outB (4 * k) (bw W k))] /\ AtN 22 [newS 130 (4 * k), .int .i64 (sz : Int)] [(130, outB (4 * k) (bw W k))] (vM3 133) (mkH [(131, m.memB), (132, m.kn.blk), (133, m.mAt 131 132)]) 131 3) && true &&
      (decP ([sl60 k] = [sl60 k] /\ Has (mkH [(60, wB0 k W)]) [(60, wB0 k W)] /\ AtN 38 [sl60 k] [(60, wB0 k W)] (newS 130 (4 * k)) (mkH [(130, outB (4 * k) (bw W k))]) 130 1) && true && true) then
      some ⟨⟨[some (true, pAt 133), some (true, .int .i64 0)], [(131, some m.memB), (132, some m.kn.blk), (133, some (m.mAt 131 132))], .normal, 134⟩, none⟩ else none := by kernel_rfl
theorem p14_31 : walk (lookF FL) noSc 1000 x14_31 (mkT [10, 11, 8] [pAt 92, .int .i64 0, .map (some 61)]) (mkH (m.HA 90 91 92 ++ [(61, lm.blk)])) 130 ⟨[], [], [10, 8], [90, 91, 92, 61]⟩ ⟨[], [], [], []⟩ ⟨[], [], [], []⟩ = some ⟨⟨[], [], .normal, 130⟩, none⟩ := by kernel_rfl
theorem p14_33 : walk (lookF FL) (sc14c m s 2) 1000 x14_33 (mkT [10, 8] [pAt 92, .map (some 61)]) (mkH (m.HA 90 91 92 ++ [(61, lm.blk)])) 130 ⟨[4], [], [], []⟩ ⟨[4], [], [], []⟩ ⟨[], [], [], []⟩ =
    bif decP ([pAt 92, .slice none 0 0, .int .i64 ((2 : Nat) : Int)] = [pAt 92, .slice none 0 0, .int .i64 ((2 : Nat) : Int)] /\ Has (mkH (m.HA 90 91 92)) (m.HA 90 91 92) /\ AtN 24 [pAt 92, .slice none 0 0, .int .i64 ((2 : Nat) : Int)] (m.HA 90 91 92) (resV24 s.m (vOa 131 false s.oN) (2 : Nat) s.mark) (upd24g 90 91 92 s.m false s.oN s.of (2 : Nat) s.mark) 130 2) && true && true then
      some ⟨⟨[some (true, .bool (s.m.x 5 == IntKind.u64.wrap (lm.val (.string ⟨#[120]⟩))))], [], .ret, 132⟩, none⟩ else none := by kernel_rfl
end
theorem g14_row (n : Nat) : ∀ j, j < 2 -> g14 j = (ptI n).row j
  | 0, _ => by unfold Its.row; rw [(pt_lb0 n).1]; rfl
  | 1, _ => by unfold Its.row; rw [(pt_lb0 n).2, pt_op1]; rfl
  | j + 2, h => by omega
theorem a14_row (n l : Nat) (h2 : 2 <= l) (hl : l < n + 2) : ∀ j, j < l + 1 -> rowCat (ptI n).row 0 l a14 j = (ptI n).row j := fun j hj => by
  by_cases h : j < l
  · simp only [rowCat, lt_blt h, cond_true, Nat.zero_add]
  · have : j = l := by omega
    subst this
    have hb0 : Nat.blt j j = false := by rw [blt_dec]; simp
    simp only [rowCat, hb0, cond_false, Nat.sub_self]
    obtain ⟨a, b, c, d, e, f⟩ := pt_mid n h2 (show j ≠ n + 2 by omega)
    unfold Its.row
    rw [a, b, c, d, e, f]
    rfl
theorem f17_row (n : Nat) : ∀ j, j < n + 3 -> f17 (ptI n) (n + 2) ⟨#[120]⟩ j = (ptI n).row j := fun j hj => by
  unfold f17
  by_cases h : j < n + 2
  · simp only [rowCat, lt_blt h, cond_true, Nat.zero_add]
  · have : j = n + 2 := by omega
    subst this
    have hb0 : Nat.blt (n + 2) (n + 2) = false := by rw [blt_dec]; simp
    simp only [rowCat, hb0, cond_false, Nat.sub_self]
    obtain ⟨a, b, c, d, e, f⟩ := pt_end n
    unfold Its.row
    rw [a, b, c, d, e, f]
    rfl
theorem c14_38 {k : Nat} {W : Nat -> Int} (h0 : 0 < k) (hk : k <= 10000000000) : AtN 38 [sl60 k] [(60, wB0 k W)] (newS 130 (4 * k)) (mkH [(130, outB (4 * k) (bw W k))]) 130 1 :=
  ⟨rfl, adet_demote (o := true) (o' := false) (adet_of_body (b38 (C := k) (T := k) (W := W) h0 (Nat.le_refl k) hk) [(41, 60)] [(130, 100)] rfl rfl ⟨⟨rfl, rfl, fun j hj => rfl, .inr (.inr rfl), .inl rfl⟩, trivial⟩ rfl rfl ⟨bis_outB, bis_wB, trivial⟩ rfl) (by simp [mkH, fstL]) rfl⟩
theorem c14_22 {k : Nat} {W : Nat -> Int} (hk : 4 * k <= 4194304) : AtN 22 [newS 130 (4 * k), .int .i64 ((4 * k : Nat) : Int)] [(130, outB (4 * k) (bw W k))] (vM3 133) (mkH [(131, (mW W k (4 * k)).memB), (132, (mW W k (4 * k)).kn.blk), (133, (mW W k (4 * k)).mAt 131 132)]) 131 3 :=
  ⟨rfl, c22_at (L := 4 * k) (C := 4 * k) (sz := 4 * k) (inp := bw W k) (Nat.le_refl _) hk 130 131 (by omega) (Nat.le_refl _) (o := true) (r := false) fun j _ => rfl⟩
theorem b14 {a b : Int} : Body Try.prog 14 [.int .i64 a, .int .i64 b] [] (.bool true) [] 50 0 := by
  refine body_of' mixed fx14 (by simp) fun E Q hP hn hcl hfin => ?_
  have hF : FnsOK E.P (lookF FL) noSc := hP ▸ FOK
  have lf0 : ∀ {ks : List Nat} {vs : List Value} {ts : List (Option (Bool × Value))} {ex : Exit} {k n1 : Nat}, chkN 50 n1 [] [] = true -> tsOK (stayOr 50 []) ts vs -> LeafTo E ks ⟨ts, [], ex, k⟩ ⟨mkT ks vs, mkH [], n1⟩ := fun hle ht =>
    ⟨_, [], _, rfl, by rw [hn]; exact hle, by rw [hn]; exact ht, trivial⟩
  refine xwp_seqW (s := ⟨_, _, _⟩) hcl hF 1000 (p14_0 a b) rfl ⟨mkT [0, 1] [.int .i64 a, .int .i64 b], mkH [], 50⟩ (lf0 rfl ⟨rfl, rfl, trivial⟩) ?_
  refine xwp_seqW (s := ⟨_, _, _⟩) hcl (fokE hP _) 1000 (p14_5 a b) rfl ⟨mkT [0, 1] [.int .i64 a, .int .i64 b], mkH [], 50⟩ (lf0 rfl ⟨rfl, rfl, trivial⟩) ?_
  have e6 := p14_6 a b
  obtain ⟨t, ht, het⟩ : ∃ t : Nat, t < 1000 /\ IntKind.i64.wrap (4 * IntKind.i64.wrap ((IntKind.u64.wrap a).tmod 1000)) = 4 * (t : Int) := by
    have h0 : 0 <= IntKind.u64.wrap a := by rw [u64w]; omega
    refine ⟨(IntKind.u64.wrap a % 1000).toNat, by omega, ?_⟩
    rw [Int.tmod_eq_emod_of_nonneg h0]
    rw [wrap_i (n := IntKind.u64.wrap a % 1000) (by omega) (by omega), wrap_i (by omega) (by omega)]
    omega
  obtain ⟨n, hnn, hen⟩ : ∃ n : Nat, n < 1500 /\ IntKind.i64.wrap ((IntKind.u64.wrap b).tmod 1500) = (n : Int) := by
    have h0 : 0 <= IntKind.u64.wrap b := by rw [u64w]; omega
    refine ⟨(IntKind.u64.wrap b % 1500).toNat, by omega, ?_⟩
    rw [Int.tmod_eq_emod_of_nonneg h0]
    rw [wrap_i (by omega) (by omega)]
    omega
  rw [het, hen] at e6
  obtain ⟨x, hx⟩ : ∃ x : Int, x = 4 * (t : Int) := ⟨_, rfl⟩
  rw [<- hx] at e6
  refine xwp_seqW (s := ⟨_, _, _⟩) hcl hF 1000 e6 rfl ⟨mkT [0, 1] [.int .i64 x, .int .i64 (n : Int)], mkH [], 60⟩ (lf0 rfl ⟨rfl, rfl, trivial⟩) ?_
  let V : Nat -> Nat -> List Value := fun i l => [.int .i64 (i : Int), sl60 l, .int .i64 x, .int .i64 (n : Int)]
  let S : Nat -> St := fun i => ⟨mkT [6, 5, 0, 1] (V i (i + 2)), mkH [(60, itB8 (ptI n) (i + 2))], 61⟩
  refine xwp_seqW (s := ⟨_, _, _⟩) hcl hF 1000 (p14_7 x n) rfl ⟨mkT [5, 0, 1] [sl60 2, .int .i64 x, .int .i64 (n : Int)], mkH [(60, itB8 (ptI n) 2)], 61⟩
    ⟨_, [(60, itB8 (ptI n) 2)], 61, rfl, by rw [hn]; rfl, by rw [hn]; exact ⟨rfl, rfl, rfl, trivial⟩, by rw [hn, hP]; exact ⟨bis_str (n := n) (I := ptI n) (g14_row n) (.inr rfl), trivial⟩⟩ ?_
  show XWP E.toEnv x14_38 Q _
  refine xwp_toLoop (s := ⟨_, _, _⟩) hF 1000 (p14_8 x n 2 (ptI n)) (S 0) ⟨_, _, _, rfl, by rw [hn]; rfl, by rw [hn]; exact ⟨rfl, rfl, rfl, rfl, trivial⟩, by rw [hn, hP]; exact ⟨bis_its, trivial⟩⟩ ?_
  refine xwp_loopR (ι := Nat) S (fun i => i <= n) (fun i => n - i) 0 (Nat.zero_le _) fun i hi => ?_
  have hcr := cl_round (S := S) (I := fun i => i <= n) (μ := fun i => n - i) (i := i) (cl_ctx hcl [.bl 0, .sq x14_37])
  have e := p14_16 x n i (i + 2) (ptI n)
  by_cases hlt : i < n
  · have g : (!(i + 2 + 1).ble (i + 2) && true && ((i + 2).ble (i + 2) && (0 + (i + 2)).ble (i + 2)) && true && decide ((i + 2 + 1) * 89 <= 1099511627776) && true && true) = true := by
      simp only [ble_dec, Nat.zero_add]
      rw [decide_eq_false (show ¬ i + 2 + 1 <= i + 2 by omega), decide_eq_true (Nat.le_refl (i + 2)), decide_eq_true (show (i + 2 + 1) * 89 <= 1099511627776 by omega)]; rfl
    rw [decide_eq_true (show (i : Int) < n by omega), g, wrap_i (n := (i : Int) + 1) (by omega) (by omega)] at e
    simp only [cond_true] at e
    exact xwp_toEnd (s := S i) hcr hF 1000 e (S (i + 1)) ⟨_, [(60, itB8 (ptI n) (i + 1 + 2))], 61, rfl, by rw [hn]; rfl, by rw [hn]; exact ⟨rfl, rfl, rfl, rfl, trivial⟩, by rw [hn, hP]; exact ⟨bis_str (n := n) (I := ptI n) (a14_row n (i + 2) (by omega) (by omega)) (.inr rfl), trivial⟩⟩ ⟨i + 1, hlt, by simp only; omega, Wk.refl _ _⟩
  · have : i = n := by omega
    subst this
    rw [decide_eq_false (show ¬ (i : Int) < i by omega), cond_false] at e
    refine xwp_toEnd (s := S i) hcr hF 1000 e (S i) ⟨_, [(60, itB8 (ptI i) (i + 2))], 61, rfl, by rw [hn]; rfl, by rw [hn]; exact ⟨rfl, rfl, rfl, rfl, trivial⟩, by rw [hn, hP]; exact ⟨bis_its, trivial⟩⟩ ?_
    show XWP E.toEnv x14_37 Q (S i)
    clear e
    have hlen : (asmW (ptI i) x (i + 3)).length = i + 2 := by rw [hx]; exact pt_len ht hnn
    have hrng : ∀ w, w ∈ asmW (ptI i) x (i + 3) -> 0 <= w /\ w < 4294967296 := fun w hw => by
      unfold asmW at hw
      obtain ⟨q, _, rfl⟩ := List.mem_map.1 hw
      exact encF_rng _ _ _ _ _
    have hw1 := pt_word ht hnn
    rw [<- hx] at hw1
    obtain ⟨W, hW⟩ : ∃ W : Nat -> Int, W = fun j => (asmW (ptI i) x (i + 3)).getD j 0 := ⟨_, rfl⟩
    have hWr : ∀ j, j < i + 2 -> 0 <= W j /\ W j < 4294967296 := fun j hj => by
      rw [hW]
      refine hrng _ ?_
      show (asmW (ptI i) x (i + 3)).getD j 0 ∈ _
      rw [List.getD_eq_getElem?_getD, List.getElem?_eq_getElem (by rw [hlen]; exact hj), Option.getD_some]
      exact List.getElem_mem _
    obtain ⟨lm, hlm⟩ : ∃ lm, lm = (finA (ptI i) x (i + 3)).m := ⟨_, rfl⟩
    have A17 : AtN 17 [.slice (some ⟨62, 0, none⟩) (i + 2 + 1) (i + 2 + 1), .int .i64 x] [(62, .rows (i + 2 + 1) 8 (f17 (ptI i) (i + 2) ⟨#[120]⟩) true false)] (.tuple ⟨[.slice (some ⟨63, 0, none⟩) (i + 2) (i + 2), .map (some 64), .int .i64 0]⟩) (mkH [(63, wB0 (i + 2) W), (64, lm.blk)]) 63 2 := by
      have h := c17_ok (i + 3) (i + 3) x (ptI i) (by omega) (by rw [hx]; exact pt_asmE ht hnn) (fun h => by rw [h] at hlen; simp at hlen) 62 63 (by omega) (o := true) (r := false) (f17_row i)
      rw [hlen] at h
      rw [hW, hlm]
      exact ⟨rfl, h⟩
    have g : (!(i + 2 + 1).ble (i + 2) && true && ((i + 2).ble (i + 2) && (0 + (i + 2)).ble (i + 2)) && true && decide ((i + 2 + 1) * 89 <= 1099511627776) && true && true) = true := by
      simp only [ble_dec, Nat.zero_add]
      rw [decide_eq_false (show ¬ i + 2 + 1 <= i + 2 by omega), decide_eq_true (Nat.le_refl (i + 2)), decide_eq_true (show (i + 2 + 1) * 89 <= 1099511627776 by omega)]; rfl
    have e20 := p14_20 x i i (i + 2) (i + 2) (ptI i) W lm
    rw [decP_true ⟨rfl, ⟨rfl, trivial⟩, A17⟩, g] at e20
    simp only [Bool.and_self, cond_true] at e20
    refine xwp_seqW (s := S i) hcl (fokE hP _) 1000 e20 rfl ⟨mkT [7, 8, 9, 0, 1] [sl60 (i + 2), .map (some 61), .int .i64 0, .int .i64 x, .int .i64 (i : Int)], mkH [(60, wB0 (i + 2) W), (61, lm.blk)], 130⟩ 
      ⟨_, [(60, wB0 (i + 2) W), (61, lm.blk)], 130, rfl, by rw [hn]; rfl, by rw [hn]; exact ⟨rfl, rfl, rfl, rfl, rfl, trivial⟩, by rw [hn, hP]; exact ⟨bis_u32, bis_lmap, trivial⟩⟩ ?_
    have e25 := p14_25 x i (i + 2) W lm
    have hval : lm.val (.string ⟨#[120]⟩) = ptV x i := by rw [hlm, (pt_fin i (hx ▸ pt_ex ht hnn) hnn).1, ptM_val]
    have hv1 : IntKind.i64.wrap (IntKind.i64.wrap (x + 8) + IntKind.i64.wrap (4 * (i : Int))) = ptV x i := by
      rw [wrap_i (n := x + 8) (by omega) (by omega), wrap_i (n := 4 * (i : Int)) (by omega) (by omega), wrap_i (by omega) (by omega)]
      unfold ptV; omega
    rw [hval, hv1, show (ptV x i != ptV x i) = false by simp, cond_false] at e25
    refine xwp_seqW (s := ⟨_, _, _⟩) hcl hF 1000 e25 rfl ⟨mkT [7, 8] [sl60 (i + 2), .map (some 61)], mkH [(60, wB0 (i + 2) W), (61, lm.blk)], 130⟩
      ⟨_, [(60, wB0 (i + 2) W), (61, lm.blk)], 130, rfl, by rw [hn]; rfl, by rw [hn]; exact ⟨rfl, rfl, trivial⟩, by rw [hn, hP]; exact ⟨bis_u32, bis_lmap, trivial⟩⟩ ?_
    have e26 := p14_26 (i + 2) (4 * (i + 2)) W lm (mW W (i + 2) (4 * (i + 2)))
    rw [wrap_i (n := 4 * ((i + 2 : Nat) : Int)) (by omega) (by omega), show 4 * ((i + 2 : Nat) : Int) = ((4 * (i + 2) : Nat) : Int) by omega, decP_true ⟨rfl, ⟨rfl, trivial⟩, c14_22 (by omega)⟩, decP_true ⟨rfl, ⟨rfl, trivial⟩, c14_38 (by omega) (by omega)⟩] at e26
    simp only [Bool.and_self, cond_true] at e26
    obtain ⟨m, hm⟩ : ∃ m, m = mW W (i + 2) (4 * (i + 2)) := ⟨_, rfl⟩
    rw [<- hm] at e26
    refine xwp_seqW (s := ⟨_, _, _⟩) hcl (fokE hP _) 1000 e26 rfl ⟨mkT [10, 11, 8] [pAt 92, .int .i64 0, .map (some 61)], mkH (m.HA 90 91 92 ++ [(61, lm.blk)]), 130⟩ ⟨_, _, _, rfl, by rw [hn]; rfl, by rw [hn]; exact ⟨rfl, rfl, rfl, trivial⟩, by rw [hn, hP]; exact ⟨bis_mem, bis_kn, bis_mAt rfl rfl, bis_lmap, trivial⟩⟩ ?_
    refine xwp_seqW (s := ⟨_, _, _⟩) hcl hF 1000 (p14_31 lm m) rfl ⟨mkT [10, 8] [pAt 92, .map (some 61)], mkH (m.HA 90 91 92 ++ [(61, lm.blk)]), 130⟩ ⟨_, _, _, rfl, by rw [hn]; rfl, by rw [hn]; exact ⟨rfl, rfl, trivial⟩, by rw [hn, hP]; exact ⟨bis_mem, bis_kn, bis_mAt rfl rfl, bis_lmap, trivial⟩⟩ ?_
    obtain ⟨s, hs⟩ := end14 (W := W) (k := i + 2) (by omega) (v := t + (i + 2)) (by omega) (by rw [hW]; exact hw1.1) (by rw [hW]; exact hw1.2) (hWr 0 (by omega)) (hWr 1 (by omega))
    rw [<- hm] at hs
    have hokm : OKM m := by rw [hm]; exact newM_ok (by unfold szB; simp; omega)
    have A := c24_0 hokm (fuel := 2) (by omega) hs.n
    rw [show bO s.oN = false by rw [hs.oN]; rfl] at A
    have e33 := p14_33 lm m s
    rw [decP_true ⟨rfl, ⟨rfl, rfl, rfl, trivial⟩, A⟩, hval, hs.x5] at e33
    have hfv : ((4 * ((t + (i + 2) : Nat) : Int)) == IntKind.u64.wrap (ptV x i)) = true := by
      rw [u64w]; unfold ptV; simp; omega
    rw [hfv] at e33
    simp only [Bool.and_self, cond_true] at e33
    exact xwp_toEnd (s := ⟨_, _, _⟩) hcl (fokE hP _) 1000 e33 ⟨mkT [4] [.bool true], mkH [], 50⟩ ⟨_, [], _, rfl, by rw [hn]; rfl, by rw [hn]; exact ⟨rfl, trivial⟩, trivial⟩ (hfin _ _ (fin_of rfl trivial (by rw [hn]) rfl))
end Go.X
