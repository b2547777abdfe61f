import Derived.Test.YtnekegldodbgjaaK45
set_option linter.all false
namespace Go.X
open Go Go.Proofs
def tkF (k : Nat) (a b : Int) : Bool :=
  match k with
  | 0 => a == b
  | 1 => a != b
  | 2 => decide (IntKind.i64.wrap a < IntKind.i64.wrap b)
  | 3 => decide (IntKind.i64.wrap a >= IntKind.i64.wrap b)
  | 4 => decide (a < b)
  | _ => decide (a >= b)
theorem dec_ge (x y : Int) : (decide (x < y) == false) = decide (x >= y) := by
  by_cases h : x < y
  · rw [decide_eq_true h, decide_eq_false (by omega)]; rfl
  · rw [decide_eq_false h, decide_eq_true (by omega)]; rfl
theorem b_true (c : Bool) : (c == true) = c := by cases c <;> rfl
theorem tk_eq (a b : Int) : ∀ k : Nat, k < 6 -> takenF (.ofNat (45 + k)) a b = tkF k a b
  | 0, _ => b_true _
  | 1, _ => by show ((a == b) == false) = !(a == b); cases (a == b) <;> rfl
  | 2, _ => b_true _
  | 3, _ => dec_ge _ _
  | 4, _ => b_true _
  | 5, _ => dec_ge _ _
  | k + 6, h => by omega
theorem dec_nge (x y : Int) : decide (x >= y) = !decide (x < y) := by
  by_cases h : x < y
  · rw [decide_eq_true h, decide_eq_false (by omega)]; rfl
  · rw [decide_eq_false h, decide_eq_true (by omega)]; rfl
theorem tk_opp (a b : Int) : ∀ k : Nat, k < 6 -> tkF (opp6 k) a b = !tkF k a b
  | 0, _ => rfl
  | 1, _ => by show (a == b) = !!(a == b); cases (a == b) <;> rfl
  | 2, _ => dec_nge _ _
  | 3, _ => by show decide (IntKind.i64.wrap a < IntKind.i64.wrap b) = !decide (IntKind.i64.wrap a >= IntKind.i64.wrap b); rw [dec_nge]; simp
  | 4, _ => dec_nge _ _
  | 5, _ => by show decide (a < b) = !decide (a >= b); rw [dec_nge]; simp
  | k + 6, h => by omega
theorem get_B {A B : List Ins} (i : Nat) : (A ++ B)[A.length + i]? = B[i]? := by
  rw [List.getElem?_append_right (by omega), Nat.add_sub_cancel_left]
theorem get_M {A C : List Ins} {n j : Nat} (h : j < n) : (A ++ (List.replicate n ad7 ++ C))[A.length + j]? = some ad7 := by
  rw [get_B, List.getElem?_append_left (by simpa using h), List.getElem?_replicate, if_pos h]
theorem get_C {A C : List Ins} {n : Nat} (i : Nat) : (A ++ (List.replicate n ad7 ++ C))[A.length + n + i]? = C[i]? := by
  rw [Nat.add_assoc, get_B, List.getElem?_append_right (by simp), List.length_replicate, Nat.add_sub_cancel_left]
structure End15 (s s' : RSt) (T : Nat) (tk : Bool) (c : Int) : Prop where
  go : Goes T s s'
  le : T <= 4000
  st : s'.m.st = 1
  cd : s'.m.cd = bif tk then 1 else 0
  x7 : s'.m.x 7 = c
  oN : s'.oN = 0
section
variable {k n : Nat} (hk : k < 6) (hn : n < 1500) {s : RSt} {a b : Int}
include hk hn
theorem fw_run (v : Bool) (hL : (fwL v (.ofNat (45 + k)) n).all okI = true) (h : AtW (fwL v (.ofNat (45 + k)) n) s 0 a b 0 0 0) :
    ∃ s' T, End15 s s' T (tkF k a b) (bif tkF k a b then 0 else n) := by
  have hlen : (fwL v (.ofNat (45 + k)) n).length < 100000 := by rw [fwL_len]; cases v <;> simp <;> omega
  cases v with
  | false =>
    have g0 : (fwL false (.ofNat (45 + k)) n)[0]? = some (br1 (.ofNat (45 + k)) ((4 * n + 12 : Nat) : Int)) := rfl
    have gM : ∀ j, j < n -> (fwL false (.ofNat (45 + k)) n)[1 + j]? = some ad7 := fun j hj => get_M (A := brW false (.ofNat (45 + k)) _) hj
    have gC : ∀ i, (fwL false (.ofNat (45 + k)) n)[1 + n + i]? = [a17, ecl, a10, a17, ecl][i]? := fun i => get_C (A := brW false (.ofNat (45 + k)) _) i
    obtain ⟨s1, t1, h1⟩ := at_br hL hlen h hk g0 (p' := n + 3) (by omega) (by omega)
    rw [tk_eq a b k hk] at h1
    cases ht : tkF k a b with
    | true =>
      rw [ht, cond_true] at h1
      obtain ⟨s2, t2, e1, e2, e3, e4⟩ := at_one hL hlen h1 (by rw [show n + 3 = 1 + n + 2 by omega, gC]; rfl) (by rw [show n + 3 + 1 = 1 + n + 3 by omega, gC]; rfl) (by rw [show n + 3 + 1 + 1 = 1 + n + 4 by omega, gC]; rfl)
      exact ⟨s2, _, goes_trans t1 t2, by omega, e1, e2, e3, e4⟩
    | false =>
      rw [ht, cond_false] at h1
      obtain ⟨s2, t2, h2⟩ := at_rep hL hlen n (c := 0) h1 gM (by omega)
      obtain ⟨s3, t3, e1, e2, e3, e4⟩ := at_stop hL hlen h2 (by rw [show 0 + 1 + n = 1 + n + 0 by omega, gC]; rfl) (by rw [show 0 + 1 + n + 1 = 1 + n + 1 by omega, gC]; rfl)
      exact ⟨s3, _, goes_trans (goes_trans t1 t2) t3, by omega, e1, e2, by rw [e3]; simp, e4⟩
  | true =>
    have g0 : (fwL true (.ofNat (45 + k)) n)[0]? = some (br1 (.ofNat (45 + opp6 k)) 8) := by rw [<- opp_k k hk]; rfl
    have g1 : (fwL true (.ofNat (45 + k)) n)[1]? = some (jal1 (((4 * n + 16 : Nat) : Int) - 4)) := rfl
    have gM : ∀ j, j < n -> (fwL true (.ofNat (45 + k)) n)[2 + j]? = some ad7 := fun j hj => get_M (A := brW true (.ofNat (45 + k)) _) hj
    have gC : ∀ i, (fwL true (.ofNat (45 + k)) n)[2 + n + i]? = [a17, ecl, a10, a17, ecl][i]? := fun i => get_C (A := brW true (.ofNat (45 + k)) _) i
    obtain ⟨s1, t1, h1⟩ := at_br hL hlen h (opp6_lt k) g0 (p' := 2) (by omega) (by omega)
    rw [tk_eq a b _ (opp6_lt k), tk_opp a b k hk] at h1
    cases ht : tkF k a b with
    | true =>
      rw [ht] at h1
      change AtW _ s1 1 a b 0 0 0 at h1
      obtain ⟨s2, t2, h2⟩ := at_jal hL hlen h1 g1 (p' := n + 4) (by omega) (by omega)
      obtain ⟨s3, t3, e1, e2, e3, e4⟩ := at_one hL hlen h2 (by rw [show n + 4 = 2 + n + 2 by omega, gC]; rfl) (by rw [show n + 4 + 1 = 2 + n + 3 by omega, gC]; rfl) (by rw [show n + 4 + 1 + 1 = 2 + n + 4 by omega, gC]; rfl)
      exact ⟨s3, _, goes_trans (goes_trans t1 t2) t3, by omega, e1, e2, e3, e4⟩
    | false =>
      rw [ht] at h1
      change AtW _ s1 2 a b 0 0 0 at h1
      obtain ⟨s2, t2, h2⟩ := at_rep hL hlen n (c := 0) h1 gM (by omega)
      obtain ⟨s3, t3, e1, e2, e3, e4⟩ := at_stop hL hlen h2 (by rw [show 2 + n = 2 + n + 0 by omega, gC]; rfl) (by rw [gC]; rfl)
      exact ⟨s3, _, goes_trans (goes_trans t1 t2) t3, by omega, e1, e2, by rw [e3]; simp, e4⟩
theorem bw_run (v : Bool) (hL : (bwL v (.ofNat (45 + k)) n).all okI = true) (h : AtW (bwL v (.ofNat (45 + k)) n) s 0 a b 0 0 0) :
    ∃ s' T, End15 s s' T (tkF k a b) 0 := by
  have hlen : (bwL v (.ofNat (45 + k)) n).length < 100000 := by rw [bwL_len]; cases v <;> simp <;> omega
  have g0 : (bwL v (.ofNat (45 + k)) n)[0]? = some (jal1 ((4 * n + 16 : Nat) : Int)) := rfl
  have i1 : (bwL v (.ofNat (45 + k)) n)[1]? = some a10 := rfl
  have i2 : (bwL v (.ofNat (45 + k)) n)[1 + 1]? = some a17 := rfl
  have i3 : (bwL v (.ofNat (45 + k)) n)[1 + 1 + 1]? = some ecl := rfl
  have gC : ∀ i, (bwL v (.ofNat (45 + k)) n)[4 + n + i]? = (brW v (.ofNat (45 + k)) (-((4 * n + 12 : Nat) : Int)) ++ [a17, ecl])[i]? := fun i => get_C (A := [jal1 ((4 * n + 16 : Nat) : Int), a10, a17, ecl]) i
  obtain ⟨s0, t0, h0⟩ := at_jal hL hlen h g0 (p' := 4 + n) (by omega) (by omega)
  cases v with
  | false =>
    obtain ⟨s1, t1, h1⟩ := at_br hL hlen h0 hk (gC 0) (p' := 1) (by omega) (by omega)
    rw [tk_eq a b k hk] at h1
    cases ht : tkF k a b with
    | true =>
      rw [ht, cond_true] at h1
      obtain ⟨s2, t2, e1, e2, e3, e4⟩ := at_one hL hlen h1 i1 i2 i3
      exact ⟨s2, _, goes_trans (goes_trans t0 t1) t2, by omega, e1, e2, e3, e4⟩
    | false =>
      rw [ht, cond_false] at h1
      obtain ⟨s3, t3, e1, e2, e3, e4⟩ := at_stop hL hlen h1 (gC 1) (gC 2)
      exact ⟨s3, _, goes_trans (goes_trans t0 t1) t3, by omega, e1, e2, e3, e4⟩
  | true =>
    obtain ⟨s1, t1, h1⟩ := at_br hL hlen h0 (opp6_lt k) ((gC 0).trans (by rw [<- opp_k k hk]; rfl)) (p' := 4 + n + 2) (by omega) (by omega)
    rw [tk_eq a b _ (opp6_lt k), tk_opp a b k hk] at h1
    cases ht : tkF k a b with
    | true =>
      rw [ht] at h1
      change AtW _ s1 (4 + n + 1) a b 0 0 0 at h1
      obtain ⟨s2, t2, h2⟩ := at_jal hL hlen h1 (gC 1) (p' := 1) (by omega) (by omega)
      obtain ⟨s3, t3, e1, e2, e3, e4⟩ := at_one hL hlen h2 i1 i2 i3
      exact ⟨s3, _, goes_trans (goes_trans (goes_trans t0 t1) t2) t3, by omega, e1, e2, e3, e4⟩
    | false =>
      rw [ht] at h1
      change AtW _ s1 (4 + n + 2) a b 0 0 0 at h1
      obtain ⟨s3, t3, e1, e2, e3, e4⟩ := at_stop hL hlen h1 (gC 2) (gC 3)
      exact ⟨s3, _, goes_trans (goes_trans t0 t1) t3, by omega, e1, e2, e3, e4⟩
end
def goR (q : Int) : Nat -> List Value := fun j => slab [.string ⟨#[]⟩, .int .i64 q, .int .i64 0, .int .i64 5, .int .i64 6, .int .i64 0, .string ⟨#[101, 110, 100]⟩, .int .i64 0] (j * 8) 8
def adR : Nat -> List Value := fun j => slab [.string ⟨#[]⟩, .int .i64 28, .int .i64 7, .int .i64 7, .int .i64 0, .int .i64 1, .string ⟨#[]⟩, .int .i64 0] ((0 + j) * 8) 8
def jaR : Nat -> List Value := fun j => slab [.string ⟨#[]⟩, .int .i64 53, .int .i64 0, .int .i64 0, .int .i64 0, .int .i64 0, .string ⟨#[98, 101, 103, 105, 110]⟩, .int .i64 0] ((0 + j) * 8) 8
def bgR (q : Int) : Nat -> List Value := fun j => slab [.string ⟨#[98, 101, 103, 105, 110]⟩, .int .i64 0, .int .i64 0, .int .i64 0, .int .i64 0, .int .i64 0, .string ⟨#[]⟩, .int .i64 0, .string ⟨#[]⟩, .int .i64 q, .int .i64 0, .int .i64 5, .int .i64 6, .int .i64 0, .string ⟨#[101, 110, 100]⟩, .int .i64 0] ((0 + j) * 8) 8
def stR : Nat -> List Value := fun j => slab [.string ⟨#[]⟩, .int .i64 28, .int .i64 17, .int .i64 0, .int .i64 0, .int .i64 3, .string ⟨#[]⟩, .int .i64 0, .string ⟨#[]⟩, .int .i64 55, .int .i64 0, .int .i64 0, .int .i64 0, .int .i64 0, .string ⟨#[]⟩, .int .i64 0] (j * 8) 8
def edR : Nat -> List Value := rowCat (fun j => slab [.string ⟨#[101, 110, 100]⟩, .int .i64 0, .int .i64 0, .int .i64 0, .int .i64 0, .int .i64 0, .string ⟨#[]⟩, .int .i64 0, .string ⟨#[]⟩, .int .i64 28, .int .i64 10, .int .i64 0, .int .i64 0, .int .i64 1, .string ⟨#[]⟩, .int .i64 0] (j * 8) 8) 0 2 (fun j => (itsR fwC).row (0 + j))
def fwF (q : Int) (n : Nat) : Nat -> List Value := rowCat (rowCat (rowCat (goR q) 0 1 (fun j => gR (0 + j))) 0 (1 + n) (fun j => (itsR fwC).row (0 + j))) 0 (1 + n + 2) (fun j => enR4 (0 + j))
def fwF0 (q : Int) : Nat -> List Value := rowCat (rowCat (rowPut (goR q) 1 0 (fun _ => [])) 0 1 (fun j => (itsR fwC).row (0 + j))) 0 3 (fun j => enR4 (0 + j))
def bwF (q : Int) (n : Nat) : Nat -> List Value := rowCat (rowCat (rowCat (rowCat (rowCat (fun _ => []) 0 0 jaR) 0 1 (fun j => enR4 (0 + j))) 0 5 (fun j => gR (0 + j))) 0 (5 + n) (bgR q)) 0 (5 + n + 2) (fun j => (itsR fwC).row (0 + j))
def bwF0 (q : Int) : Nat -> List Value := rowCat (rowCat (rowPut (rowCat (rowCat (fun _ => []) 0 0 jaR) 0 1 (fun j => enR4 (0 + j))) 5 0 (fun _ => [])) 0 5 (bgR q)) 0 7 (fun j => (itsR fwC).row (0 + j))
def gg (l k s : Nat) : Bool := !Nat.ble (l + k) l && true && (Nat.ble l l && Nat.ble (0 + l) l) && true && decide ((l + k) * s <= 1099511627776) && true
theorem p15_a (o a b n : Int) : walk (lookF FL) (scOf [con16]) 1000 x15 (argTm 0 [.int .u8 o, vP2 a b, .int .i64 n]) [] 50 j0_ j0_ ⟨[12, 11, 7, 8, 9, 10, 2], [], [], []⟩ =
    some ⟨⟨[some (true, .int .i64 0), some (true, .slice none 0 0), some (true, .int .u64 a), some (true, .int .u64 b), some (true, .int .i64 (IntKind.i64.wrap ((IntKind.i64.wrap o).tmod 6 + 45))), some (true, .bool (decide (o >= 128))), some (true, .int .i64 (IntKind.i64.wrap ((IntKind.u64.wrap n).tmod 1500)))], [], .normal, 51⟩, some (x15_19, [.bl 0, .sq x15_73])⟩ := by kernel_rfl
section
variable (a b q : Int) (bk : Bool) (n i : Nat)
theorem p15_n  : walk (lookF FL) noSc 1000 x15_19 (mkT [12, 11, 7, 8, 9, 10, 2] (V15 0 (.slice none 0 0) a b q bk n)) [] 61 ⟨[12, 11], [.tmp 11], [7, 8, 9, 10, 2], []⟩ j0_ j0_ =
    bif decide (0 < (n : Int)) then some ⟨⟨[some (true, .int .i64 1), some (true, .slice (some ⟨62, 0, none⟩) 1 1)], [(62, some (.rows 1 8 (rowCat (fun _ => []) 0 0 adR) true false))], .normal, 63⟩, none⟩ else none := by kernel_rfl
theorem p15_m  : walk (lookF FL) noSc 1000 x15_19 (mkT [12, 11, 7, 8, 9, 10, 2] (V15 0 (.slice none 0 0) a b q bk n)) [] 61 ⟨[12], [], [11, 7, 8, 9, 10, 2], []⟩ j0_ j0_ =
    bif decide (0 < (n : Int)) then none else some ⟨⟨[some (true, .int .i64 0)], [], .exit 0, 61⟩, none⟩ := by kernel_rfl
theorem p15_b  : walk (lookF FL) noSc 1000 x15_19 (mkT [12, 11, 7, 8, 9, 10, 2] (V15 i (sl60 i) a b q bk n)) (mkH [(60, gB i)]) 61 ⟨[12, 11], [.tmp 11], [7, 8, 9, 10, 2], []⟩ j0_ j0_ =
    bif decide ((i : Int) < (n : Int)) then bif gg i 1 89 && true then some ⟨⟨[some (true, .int .i64 (IntKind.i64.wrap ((i : Int) + 1))), some (true, .slice (some ⟨62, 0, none⟩) (i + 1) (i + 1))], [(62, some (.rows (i + 1) 8 (rowCat gR 0 i adR) true false))], .normal, 63⟩, none⟩ else none else some ⟨⟨[some (true, .int .i64 (i : Int)), some (true, sl60 i)], [(60, some (gB i))], .exit 0, 61⟩, none⟩ := by kernel_rfl
theorem p15_23n  : walk (lookF FL) noSc 1000 (.region x15_23) (mkT [12, 11, 7, 8, 9, 10, 2] (V15 i (.slice none 0 0) a b q bk n)) (mkH []) 61 ⟨[13], [.tmp 13], [11, 7, 8, 9, 10, 2], []⟩ j0_ j0_ =
    some ⟨⟨[some (true, pGo)], [(61, some (goB q))], .normal, 62⟩, none⟩ := by kernel_rfl
theorem p15_24n  : walk (lookF FL) noSc 1000 (.region x15_24) (mkT [13, 11, 7, 8, 9, 10, 2] (pGo :: .slice none 0 0 :: R15 a b q bk n)) (mkH [(61, goB q)]) 62 ⟨[14], [.tmp 14], [13, 11, 7, 8, 9, 10, 2], [61]⟩ j0_ j0_ =
    some ⟨⟨[some (true, sSt)], [(62, some (.rows 2 8 stR false false))], .normal, 63⟩, none⟩ := by kernel_rfl
theorem p15_25n  : walk (lookF FL) noSc 1000 (.region x15_25) (mkT [14, 13, 11, 7, 8, 9, 10, 2] (sSt :: pGo :: .slice none 0 0 :: R15 a b q bk n)) (mkH [(62, stp2), (61, goB q)]) 63 ⟨[15], [.tmp 15], [14, 13, 11, 7, 8, 9, 10, 2], [62, 61]⟩ j0_ j0_ =
    some ⟨⟨[some (true, .slice (some ⟨64, 0, none⟩) 4 4)], [(64, some (.rows 4 8 edR true false))], .normal, 65⟩, none⟩ := by kernel_rfl
theorem p15_26n  : walk (lookF FL) noSc 1000 (.region x15_26) (mkT [15, 14, 13, 11, 7, 8, 9, 10, 2] (sEn :: sSt :: pGo :: .slice none 0 0 :: R15 a b q bk n)) (mkH (h15 q ++ [])) 64 ⟨[16], [], [15, 14, 13, 11, 7, 8, 9, 10, 2], [63, 62, 61]⟩ j0_ j0_ =
    some ⟨⟨[some (true, .slice none 0 0)], [], .normal, 64⟩, none⟩ := by kernel_rfl
theorem p15_23g  : walk (lookF FL) noSc 1000 (.region x15_23) (mkT [12, 11, 7, 8, 9, 10, 2] (V15 i (sl60 n) a b q bk n)) (mkH [(60, gB n)]) 61 ⟨[13], [.tmp 13], [11, 7, 8, 9, 10, 2], [60]⟩ j0_ j0_ =
    some ⟨⟨[some (true, pGo)], [(61, some (goB q))], .normal, 62⟩, none⟩ := by kernel_rfl
theorem p15_24g  : walk (lookF FL) noSc 1000 (.region x15_24) (mkT [13, 11, 7, 8, 9, 10, 2] (pGo :: sl60 n :: R15 a b q bk n)) (mkH [(61, goB q), (60, gB n)]) 62 ⟨[14], [.tmp 14], [13, 11, 7, 8, 9, 10, 2], [61, 60]⟩ j0_ j0_ =
    some ⟨⟨[some (true, sSt)], [(62, some (.rows 2 8 stR false false))], .normal, 63⟩, none⟩ := by kernel_rfl
theorem p15_25g  : walk (lookF FL) noSc 1000 (.region x15_25) (mkT [14, 13, 11, 7, 8, 9, 10, 2] (sSt :: pGo :: sl60 n :: R15 a b q bk n)) (mkH [(62, stp2), (61, goB q), (60, gB n)]) 63 ⟨[15], [.tmp 15], [14, 13, 11, 7, 8, 9, 10, 2], [62, 61, 60]⟩ j0_ j0_ =
    some ⟨⟨[some (true, .slice (some ⟨64, 0, none⟩) 4 4)], [(64, some (.rows 4 8 edR true false))], .normal, 65⟩, none⟩ := by kernel_rfl
theorem p15_26g  : walk (lookF FL) noSc 1000 (.region x15_26) (mkT [15, 14, 13, 11, 7, 8, 9, 10, 2] (sEn :: sSt :: pGo :: sl60 n :: R15 a b q bk n)) (mkH (h15 q ++ [(60, gB n)])) 64 ⟨[16], [], [15, 14, 13, 11, 7, 8, 9, 10, 2], [63, 62, 61, 60]⟩ j0_ j0_ =
    some ⟨⟨[some (true, .slice none 0 0)], [], .normal, 64⟩, none⟩ := by kernel_rfl
end
section
variable (a b q : Int) (n : Nat)
theorem p15_35nb  : walk (lookF FL) noSc 1000 x15_35 (mkT [16, 15, 14, 13, 11, 7, 8, 9, 10, 2] (.slice none 0 0 :: sEn :: sSt :: pGo :: .slice none 0 0 :: R15 a b q true 0)) (mkH (h15 q ++ [])) 64 ⟨[16], [.tmp 16], [7, 8, 9, 10, 2], []⟩ j0_ j0_ =
    some ⟨⟨[some (true, .slice (some ⟨69, 0, none⟩) (9) (9))], [(69, some (.rows (9) 8 (bwF0 q) true false))], .normal, 70⟩, none⟩ := by kernel_rfl
theorem p15_35nf  : walk (lookF FL) noSc 1000 x15_35 (mkT [16, 15, 14, 13, 11, 7, 8, 9, 10, 2] (.slice none 0 0 :: sEn :: sSt :: pGo :: .slice none 0 0 :: R15 a b q false 0)) (mkH (h15 q ++ [])) 64 ⟨[16], [.tmp 16], [7, 8, 9, 10, 2], []⟩ j0_ j0_ =
    some ⟨⟨[some (true, .slice (some ⟨66, 0, none⟩) (7) (7))], [(66, some (.rows (7) 8 (fwF0 q) true false))], .normal, 67⟩, none⟩ := by kernel_rfl
theorem p15_35gb  : walk (lookF FL) noSc 1000 x15_35 (mkT [16, 15, 14, 13, 11, 7, 8, 9, 10, 2] (.slice none 0 0 :: sEn :: sSt :: pGo :: sl60 n :: R15 a b q true n)) (mkH (h15 q ++ [(60, gB n)])) 64 ⟨[16], [.tmp 16], [7, 8, 9, 10, 2], []⟩ j0_ j0_ =
    bif gg (5 + n) 2 89 && (!Nat.ble (5 + n) 5 && true && true && (Nat.ble (0 + n) n && true) && decide ((5 + n) * 89 <= 1099511627776) && true && true) then bif gg (5 + n + 2) 2 89 && true then some ⟨⟨[some (true, .slice (some ⟨70, 0, none⟩) (5 + n + 2 + 2) (5 + n + 2 + 2))], [(70, some (.rows (5 + n + 2 + 2) 8 (bwF q n) true false))], .normal, 71⟩, none⟩ else none else none := by kernel_rfl
theorem p15_35of  : walk (lookF FL) noSc 1000 x15_35 (mkT [16, 15, 14, 13, 11, 7, 8, 9, 10, 2] (.slice none 0 0 :: sEn :: sSt :: pGo :: sl60 1 :: R15 a b q false 1)) (mkH (h15 q ++ [(60, gB 1)])) 64 ⟨[16], [.tmp 16], [7, 8, 9, 10, 2], []⟩ j0_ j0_ =
    some ⟨⟨[some (true, .slice (some ⟨67, 0, none⟩) (8) (8))], [(67, some (.rows (8) 8 (fwF q 1) true false))], .normal, 68⟩, none⟩ := by kernel_rfl
theorem p15_35tf  : walk (lookF FL) noSc 1000 x15_35 (mkT [16, 15, 14, 13, 11, 7, 8, 9, 10, 2] (.slice none 0 0 :: sEn :: sSt :: pGo :: sl60 (n + 2) :: R15 a b q false (n + 2))) (mkH (h15 q ++ [(60, gB (n + 2))])) 64 ⟨[16], [.tmp 16], [7, 8, 9, 10, 2], []⟩ j0_ j0_ =
    bif gg (1 + (n + 2) + 2) 4 89 && (gg (1 + (n + 2)) 2 89 && (Nat.ble (0 + (n + 2)) (n + 2) && true && decide ((1 + (n + 2)) * 89 <= 1099511627776) && true && true)) then some ⟨⟨[some (true, .slice (some ⟨67, 0, none⟩) (1 + (n + 2) + 2 + 4) (1 + (n + 2) + 2 + 4))], [(67, some (.rows (1 + (n + 2) + 2 + 4) 8 (fwF q (n + 2)) true false))], .normal, 68⟩, none⟩ else none := by kernel_rfl
end
section
variable (a b q : Int) (bk tk : Bool) (n N k sz z : Nat) (I : Its) (W : Nat -> Int) (lm : LMap) (m : MS) (s : RSt) (c mk : Int)
theorem p15_36  : walk (lookF FL) (sc15a N I k W lm) 1000 (.region x15_36) (mkT [16, 7, 8, 9, 10, 2] (sl60 N :: R15 a b q bk n)) (mkH [(60, itB8 I N)]) 61 ⟨[17, 19], [.id 61], [7, 8, 9, 10, 2], []⟩ j0_ j0_ =
    bif decP ([sl60 N, .int .i64 0] = [sl60 N, .int .i64 0] /\ Has (mkH [(60, itB8 I N)]) [(60, itB8 I N)] /\ AtN 17 [sl60 N, .int .i64 0] [(60, itB8 I N)] (.tuple ⟨[.slice (some ⟨61, 0, none⟩) k k, .map (some 62), .int .i64 0]⟩) (mkH [(61, wB0 k W), (62, lm.blk)]) 61 2) && true && true then some ⟨⟨[some (true, .slice (some ⟨61, 0, none⟩) k k), some (true, .int .i64 0)], [(61, some (wB0 k W))], .normal, 63⟩, none⟩ else none := by kernel_rfl
theorem p15_41  : walk (lookF FL) noSc 1000 x15_41 (mkT [17, 19, 7, 8, 9, 10, 2] (sl60 k :: .int .i64 0 :: R15 a b q bk n)) (mkH [(60, wB0 k W)]) 130 ⟨[], [], [17, 7, 8, 9, 10, 2], [60]⟩ j0_ j0_ =
    some ⟨⟨[], [], .normal, 130⟩, none⟩ := by kernel_rfl
theorem p15_42  : walk (lookF FL) (sc14b k W sz m) 1000 (.region x15_42) (mkT [17, 7, 8, 9, 10, 2] (sl60 k :: R15 a b q bk n)) (mkH [(60, wB0 k W)]) 130 ⟨[20, 21], [.id 131, .id 132, .id 133], [7, 8, 9, 10, 2], []⟩ j0_ j0_ =
    bif decP ([newS 130 (4 * k), .int .i64 (IntKind.i64.wrap (IntKind.i64.wrap (4 * (k : Int)) + 64))] = [newS 130 (4 * k), .int .i64 (sz : Int)] /\ Has (mkH [(130, outB (4 * k) (bw W k))]) [(130, outB (4 * k) (bw W k))] /\ AtN 22 [newS 130 (4 * k), .int .i64 (sz : Int)] [(130, outB (4 * k) (bw W k))] (vM3 133) (mkH [(131, m.memB), (132, m.kn.blk), (133, m.mAt 131 132)]) 131 3) && true && (decP ([sl60 k] = [sl60 k] /\ Has (mkH [(60, wB0 k W)]) [(60, wB0 k W)] /\ AtN 38 [sl60 k] [(60, wB0 k W)] (newS 130 (4 * k)) (mkH [(130, outB (4 * k) (bw W k))]) 130 1) && true && true) then some ⟨⟨[some (true, pAt 133), some (true, .int .i64 0)], [(131, some m.memB), (132, some m.kn.blk), (133, some (m.mAt 131 132))], .normal, 134⟩, none⟩ else none := by kernel_rfl
theorem p15_47  : walk (lookF FL) noSc 1000 x15_47 (mkT [20, 21, 7, 8, 9, 10, 2] (pAt 92 :: .int .i64 0 :: R15 a b q bk n)) (mkH (m.HA 90 91 92)) 130 ⟨[], [], [20, 7, 8, 9, 10, 2], [90, 91, 92]⟩ j0_ j0_ =
    some ⟨⟨[], [], .normal, 130⟩, none⟩ := by kernel_rfl
theorem p15_48  : walk (lookF FL) noSc 1000 (.region x15_48) (mkT [20, 7, 8, 9, 10, 2] (pAt 92 :: R15 a b q bk n)) (mkH (m.HA 90 91 92)) 130 ⟨[], [.id 90, .id 91, .id 92], [20, 7, 8, 9, 10, 2], []⟩ j0_ j0_ =
    some ⟨⟨[], [(90, some m.memB), (91, some m.kn.blk), (92, some ((setR m 5 a).mAt 90 91))], .normal, 130⟩, none⟩ := by kernel_rfl
theorem p15_49  : walk (lookF FL) noSc 1000 (.region x15_49) (mkT [20, 7, 8, 9, 10, 2] (pAt 92 :: R15 a b q bk n)) (mkH (m.HA 90 91 92)) 130 ⟨[], [.id 90, .id 91, .id 92], [20, 7, 8, 9, 10, 2], []⟩ j0_ j0_ =
    some ⟨⟨[], [(90, some m.memB), (91, some m.kn.blk), (92, some ((setR m 6 b).mAt 90 91))], .normal, 130⟩, none⟩ := by kernel_rfl
theorem p15_50  : walk (lookF FL) (sc15c m s z) 1000 (.region x15_50) (mkT [20, 7, 8, 9, 10, 2] (pAt 92 :: R15 a b q bk n)) (mkH (m.HA 90 91 92)) 130 ⟨[22], [.id 132, .id 90, .id 91, .id 92], [20, 7, 8, 9, 10, 2], []⟩ j0_ j0_ =
    bif decP ([pAt 92, .slice none 0 0, .int .i64 ((4000 : Nat) : Int)] = [pAt 92, .slice none 0 0, .int .i64 ((4000 : Nat) : Int)] /\ Has (mkH (m.HA 90 91 92)) (m.HA 90 91 92) /\ AtN 24 [pAt 92, .slice none 0 0, .int .i64 ((4000 : Nat) : Int)] (m.HA 90 91 92) (resV24 s.m (vOa 131 false s.oN) (z : Nat) s.mark) (upd24g 90 91 92 s.m false s.oN s.of (z : Nat) s.mark) 130 2) && true && true then some ⟨⟨[some (true, pAt 132)], [(132, some (rB15 s.m.st s.m.cd s.mark z)), (90, some s.m.memB), (91, some s.m.kn.blk), (92, some (s.m.mAt 90 91))], .normal, 133⟩, none⟩ else none := by kernel_rfl
theorem p15_51 : ∀ j : Nat, j < 6 -> walk (lookF FL) noSc 1000 (.region x15_51) (mkT [22, 20, 7, 8, 9, 10, 2] (pAt 62 :: pAt 92 :: R15 a b (.ofNat (45 + j)) bk n)) (mkH ((62, rB15 1 c mk z) :: m.HA 90 91 92)) 130 ⟨[23], [], [22, 20, 10, 2], [62, 90, 91, 92]⟩ j0_ j0_ =
    some ⟨⟨[some (true, .bool (tkF j a b))], [], .normal, 130⟩, none⟩
  | 0, _ => by kernel_rfl
  | 1, _ => by kernel_rfl
  | 2, _ => by kernel_rfl
  | 3, _ => by kernel_rfl
  | 4, _ => by kernel_rfl
  | 5, _ => by kernel_rfl
  | j + 6, h => by omega
theorem p15_52  : walk (lookF FL) noSc 1000 (.region x15_52) (mkT [23, 22, 20, 10, 2] [.bool tk, pAt 62, pAt 92, .bool bk, .int .i64 (n : Int)]) (mkH ((62, rB15 1 c mk z) :: m.HA 90 91 92)) 130 ⟨[24], [], [23, 22, 20, 10], [62, 90, 91, 92]⟩ j0_ j0_ =
    some ⟨⟨[some (true, .int .u64 (IntKind.u64.wrap (n : Int)))], [], .normal, 130⟩, none⟩ := by kernel_rfl
theorem p15_56  : walk (lookF FL) noSc 1000 x15_56 (mkT [24, 23, 22, 20, 10] [.int .u64 (n : Int), .bool tk, pAt 62, pAt 92, .bool bk]) (mkH ((62, rB15 1 c mk z) :: m.HA 90 91 92)) 130 ⟨[24], [], [23, 22, 20], [62, 90, 91, 92]⟩ j0_ j0_ =
    some ⟨⟨[some (true, .int .u64 (bif tk || bk then 0 else (n : Int)))], [], .normal, 130⟩, none⟩ := by
  cases tk <;> cases bk <;> kernel_rfl
theorem p15_58  : walk (lookF FL) noSc 1000 x15_58 (mkT [24, 23, 22, 20] [.int .u64 c, .bool tk, pAt 62, pAt 92]) (mkH ((62, rB15 1 (bif tk then 1 else 0) mk z) :: m.HA 90 91 92)) 130 ⟨[6], [], [], []⟩ ⟨[6], [], [], []⟩ j0_ =
    some ⟨⟨[some (true, .bool (m.x 7 == c))], [], .ret, 130⟩, none⟩ := by
  cases tk <;> kernel_rfl
end
def rowI (r : It1) : List Value := [.string r.lb, .int .i64 r.op, .int .i64 r.rd, .int .i64 r.rs1, .int .i64 r.rs2, .int .i64 r.imm, .string r.to, .int .i64 r.part]
theorem cat_lt {f g : Nat -> List Value} {m j : Nat} (h : j < m) : rowCat f 0 m g j = f j := by simp only [rowCat, lt_blt h, cond_true, Nat.zero_add]
theorem cat_ge {f g : Nat -> List Value} {m : Nat} (i : Nat) : rowCat f 0 m g (m + i) = g i := by
  have hb0 : Nat.blt (m + i) m = false := by rw [blt_dec]; simp
  simp only [rowCat, hb0, cond_false, Nat.add_sub_cancel_left]
theorem bis_row2 {P : Program} {σ : Nm} {m : Nat} {I : Its} {f : Nat -> List Value} {o r : Bool} (h : ∀ j, j < m -> f j = I.row j) : BIs P σ (.rows m 8 I.row o r) (.rows m 8 f o r) :=
  ⟨rfl, rfl, fun j hj => by rw [h j hj]; rfl, by cases o <;> simp, by cases r <;> simp⟩
theorem gB_1 : ∀ j, j < 1 -> rowCat (fun _ => []) 0 0 adR j = (itsR fun _ => gI).row j
  | 0, _ => rfl
  | j + 1, h => by omega
theorem gB_s (i : Nat) : ∀ j, j < i + 1 -> rowCat gR 0 i adR j = (itsR fun _ => gI).row j := fun j hj => by
  by_cases h : j < i
  · rw [cat_lt h]; rfl
  · have : j = i := by omega
    subst this
    exact (cat_ge (f := gR) (g := adR) (m := j) 0).trans rfl
theorem st_rows : ∀ j, j < 2 -> stR j = (itsR fwC).row j
  | 0, _ => rfl
  | 1, _ => rfl
  | j + 2, h => by omega
theorem ed_rows : ∀ j, j < 4 -> edR j = (itsR fun j => fwC (2 + j)).row j
  | 0, _ => rfl
  | 1, _ => rfl
  | 2, _ => rfl
  | 3, _ => rfl
  | j + 4, h => by omega
section
variable (q : Int) (n : Nat)
theorem fw_rows0 : ∀ j, j < 7 -> fwF0 q j = (itsR (fwG q 1)).row j
  | 0, _ => rfl
  | 1, _ => rfl
  | 2, _ => rfl
  | 3, _ => rfl
  | 4, _ => rfl
  | 5, _ => rfl
  | 6, _ => rfl
  | j + 7, h => by omega
theorem bw_rows0 : ∀ j, j < 9 -> bwF0 q j = (itsR (bwG q 5)).row j
  | 0, _ => rfl
  | 1, _ => rfl
  | 2, _ => rfl
  | 3, _ => rfl
  | 4, _ => rfl
  | 5, _ => rfl
  | 6, _ => rfl
  | 7, _ => rfl
  | 8, _ => rfl
  | j + 9, h => by omega
theorem fw_rows : ∀ j, j < n + 7 -> fwF q n j = (itsR (fwG q (n + 1))).row j := fun j hj => by
  show _ = rowI (fwG q (n + 1) j)
  unfold fwF
  by_cases h0 : j = 0
  · subst h0
    rw [cat_lt (by omega), cat_lt (by omega), cat_lt (by omega)]; rfl
  by_cases h1 : j < n + 1
  · rw [cat_lt (by omega), cat_lt (by omega), fw_mid j (by omega) h1]
    obtain ⟨i, rfl⟩ : ∃ i, j = 1 + i := ⟨j - 1, by omega⟩
    rw [cat_ge]; rfl
  obtain ⟨i, rfl⟩ : ∃ i, j = n + 1 + i := ⟨j - (n + 1), by omega⟩
  rw [fw_c (by omega)]
  by_cases h2 : i < 2
  · rw [cat_lt (by omega), show n + 1 + i = 1 + n + i by omega, cat_ge]
    show rowI (fwC (0 + i)) = _
    rw [Nat.zero_add]
  · obtain ⟨e, rfl⟩ : ∃ e, i = 2 + e := ⟨i - 2, by omega⟩
    rw [show n + 1 + (2 + e) = 1 + n + 2 + e by omega, cat_ge]
    show rowI (fwC (2 + (0 + e))) = _
    rw [Nat.zero_add]
theorem bw_rows : ∀ j, j < n + 9 -> bwF q n j = (itsR (bwG q (n + 5))).row j := fun j hj => by
  show _ = rowI (bwG q (n + 5) j)
  unfold bwF
  by_cases h0 : j < 5
  · rw [cat_lt (by omega), cat_lt (by omega), cat_lt (by omega), show bwG q (n + 5) j = bwP j from cat_p h0]
    match j, h0 with
    | 0, _ => rfl
    | 1, _ => rfl
    | 2, _ => rfl
    | 3, _ => rfl
    | 4, _ => rfl
    | j + 5, h => omega
  by_cases h1 : j < n + 5
  · rw [cat_lt (by omega), cat_lt (by omega), bw_mid j (by omega) h1]
    obtain ⟨i, rfl⟩ : ∃ i, j = 5 + i := ⟨j - 5, by omega⟩
    rw [cat_ge]; rfl
  obtain ⟨i, rfl⟩ : ∃ i, j = n + 5 + i := ⟨j - (n + 5), by omega⟩
  rw [bw_c (by omega)]
  match i, hj with
  | 0, _ => rw [cat_lt (by omega), show n + 5 + 0 = 5 + n + 0 by omega, cat_ge]; rfl
  | 1, _ => rw [cat_lt (by omega), show n + 5 + 1 = 5 + n + 1 by omega, cat_ge]; rfl
  | 2, _ => rw [show n + 5 + 2 = 5 + n + 2 + 0 by omega, cat_ge]; rfl
  | 3, _ => rw [show n + 5 + 3 = 5 + n + 2 + 1 by omega, cat_ge]; rfl
  | i + 4, h => omega
end
theorem c15_22 {k : Nat} {W : Nat -> Int} (hk : 4 * k + 64 <= 4194304) : AtN 22 [newS 130 (4 * k), .int .i64 ((4 * k + 64 : Nat) : Int)] [(130, outB (4 * k) (bw W k))] (vM3 133) (mkH [(131, (mW W k (4 * k + 64)).memB), (132, (mW W k (4 * k + 64)).kn.blk), (133, (mW W k (4 * k + 64)).mAt 131 132)]) 131 3 :=
  ⟨rfl, c22_at (L := 4 * k) (C := 4 * k) (sz := 4 * k + 64) (inp := bw W k) (by omega) hk 130 131 (by omega) (Nat.le_refl _) (o := true) (r := false) fun j _ => rfl⟩
abbrev m15 (L : List Ins) (a b : Int) : MS := setR (setR (mW (wL L) L.length (4 * L.length + 64)) 5 a) 6 b
theorem at15 (L : List Ins) (a b : Int) : AtW L (RSt.init (m15 L a b)) 0 a b 0 0 0 := ⟨rfl, rfl, rfl, rfl, rfl, rfl, rfl, rfl, rfl, rfl, rfl⟩
theorem ok15 {L : List Ins} {a b : Int} (hl : L.length < 2000) (ha : uB a = true) (hb : uB b = true) : OKM (m15 L a b) :=
  ⟨by show szB (4 * L.length + 64) = true; unfold szB; simp; omega, rfl, setX_ok (setX_ok (fun _ => rfl) ha) hb, fun w h => by cases h⟩
theorem gg_ok {l k s : Nat} (hk : 0 < k) (hs : (l + k) * s <= 1099511627776) : gg l k s = true := by
  unfold gg
  simp only [ble_dec, Nat.zero_add]
  rw [decide_eq_false (show ¬ l + k <= l by omega), decide_eq_true (Nat.le_refl l), decide_eq_true hs]; rfl
def S15 (a b q : Int) (bk : Bool) (n : Nat) : Nat -> St
  | 0 => ⟨mkT [12, 11, 7, 8, 9, 10, 2] (V15 0 (.slice none 0 0) a b q bk n), mkH [], 61⟩
  | i + 1 => ⟨mkT [12, 11, 7, 8, 9, 10, 2] (V15 (i + 1) (sl60 (i + 1)) a b q bk n), mkH [(60, gB (i + 1))], 61⟩
end Go.X
