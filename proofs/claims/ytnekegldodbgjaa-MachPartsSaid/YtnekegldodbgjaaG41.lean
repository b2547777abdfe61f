import Derived.Test.YtnekegldodbgjaaG40
set_option linter.all false
namespace Go.X
open Go Go.Proofs
def vR (br : Bool) (R RC : Nat) : Value := bif br then .slice (some ⟨41, 0, none⟩) R RC else .slice none 0 0
def rgB (R : Nat) (rg : Nat -> Int) : Blk := .rows R 1 (fun j => [.int .u64 (rg j)]) false true
def exR (br : Bool) (b : Blk) : List (Nat × Blk) := bif br then [(41, b)] else []
def exJr (br : Bool) : List Nat := bif br then [41] else []
def exIn (bi br : Bool) (L : Nat) (inp : Nat -> Int) (R : Nat) (rg : Nat -> Int) : List (Nat × Blk) := exI bi (inB L inp) ++ exR br (rgB R rg)
def idIn (bi br : Bool) : List Nat := exJ' bi ++ exJr br
theorem bis_rgB {P : Program} {σ : Nm} {R : Nat} {rg : Nat -> Int} : BIs P σ (rgB R rg) (rgB R rg) := bis_rw fun _ _ => rfl
theorem c22_40 {bi : Bool} {L C sz : Nat} {inp : Nat -> Int} (hL : bi = false -> L = 0) (h1 : L <= sz) (h2 : sz <= 4194304) :
    AtN 22 [vI bi 0 L C, .int .i64 (sz : Int)] (exI bi (inB L inp)) (vM3 132) (mkH [(130, (newM 0 L inp sz).memB), (131, (newM 0 L inp sz).kn.blk), (132, (newM 0 L inp sz).mAt 130 131)]) 130 3 := by
  have hk : ∀ {σ : Nm}, BIs Try.prog σ (newM 0 L inp sz).kn.blk (newM 0 L inp sz).kn.blk := bis_kn
  have h := b22 (bi := bi) (k := 0) (L := L) (C := C) (T := L) (sz := sz) (inp := inp) hL h1 h2 (fun _ => by omega)
  cases bi with
  | false => exact ⟨rfl, adet_of_body h [(40, 40)] [(130, 100), (131, 101), (132, 102)] rfl rfl trivial rfl rfl ⟨bis_mem, hk, bis_mAt rfl rfl, trivial⟩ rfl⟩
  | true => exact ⟨rfl, adet_of_body h [(40, 40)] [(130, 100), (131, 101), (132, 102)] rfl rfl ⟨bis_inB, trivial⟩ rfl rfl ⟨bis_mem, hk, bis_mAt rfl rfl, bis_inB, trivial⟩ rfl⟩
abbrev nilP : Value := .pointer none
def arr8 : Nat -> List Value
  | 0 => [nilP, nilP, nilP]
  | 1 => [pAt 92, nilP, nilP]
  | 2 => [pAt 92, pAt 95, nilP]
  | _ => [pAt 92, pAt 95, pAt 98]
def ms8 (m : MS) : Nat -> List (Nat × Blk)
  | 0 => []
  | 1 => m.HA 90 91 92
  | 2 => m.HA 90 91 92 ++ m.HA 93 94 95
  | _ => m.HA 90 91 92 ++ m.HA 93 94 95 ++ m.HA 96 97 98
def idm8 : Nat -> List Nat
  | 0 => []
  | 1 => [90, 91, 92]
  | 2 => [90, 91, 92, 93, 94, 95]
  | _ => [90, 91, 92, 93, 94, 95, 96, 97, 98]
def box8 (p q : Int) : Blk := .var [.int .u8 p, .int .u8 q]
noncomputable abbrev sc8n (vb : Value) (pre : List (Nat × Blk)) (sz : Nat) (m : MS) : Short := scOf [conAt 22 [vb, .int .i64 (sz : Int)] pre (vM3 132) (mkH [(130, m.memB), (131, m.kn.blk), (132, m.mAt 130 131)]) 130 3]
end Go.X
namespace Go.X
open Go Go.Proofs
def big8 (L R : Nat) : Bool := bif decide ((L : Int) > 2000) then true else decide ((R : Int) > 40)
def tau8 (b : Bool) : Bool := ((!b || b) && true || false) && ((!b && true || !!b) && ((!b && true || !!b) && true))
theorem tau8_true (b : Bool) : tau8 b = true := by cases b <;> rfl
def setsM (m : MS) (rg : Nat -> Int) : Nat -> MS
  | 0 => m
  | k + 1 => setM (setsM m rg k) (k : Int) (rg k)
section
variable (bi br : Bool) (p q : Int) (L C R RC : Nat) (inp rg : Nat -> Int) (m m2 : MS) (sz : Nat) (k : Nat) (hb : bi = false -> L = 0) (hr : br = false -> R = 0)
include hb hr
theorem q8_0 : walk (lookF FL) sc6 1000 x8 (argTm 0 [vI bi 0 L C, vR br R RC, .agg ⟨[.int .u8 p, .int .u8 q]⟩]) (mkH (exIn bi br L inp R rg)) 50 ⟨[], [], [], []⟩ ⟨[6], [], [], idIn bi br⟩ ⟨[33, 5, 7], [.id 50, .id 51], [0, 1], idIn bi br⟩ =
    bif tau8 (decide ((L : Int) > 2000)) then bif big8 L R then some ⟨⟨[some (true, .bool true)], [], .ret, 51⟩, none⟩
      else some ⟨⟨[some (true, .int .i64 0), some (true, pAt 50), some (true, pAt 51)], [(50, some (box8 p q)), (51, some (.var (arr8 0)))], .normal, 52⟩, some (x8_40, [.bl 0, .sq x8_59])⟩ else none := by
  cases bi <;> cases br <;> first | (obtain rfl := hb rfl; obtain rfl := hr rfl; kernel_rfl) | (obtain rfl := hb rfl; kernel_rfl) | (obtain rfl := hr rfl; kernel_rfl) | kernel_rfl
theorem q8_a0 : walk (lookF FL) (sc8n (vI bi 0 L C) (exI bi (inB L inp)) sz m) 1000 x8_40 (mkT [33, 5, 7, 0, 1] [.int .i64 0, pAt 60, pAt 61, vI bi 0 L C, vR br R RC]) (mkH (ms8 m2 0 ++ ([(60, box8 p q), (61, .var (arr8 0))] ++ exIn bi br L inp R rg))) 130 ⟨[], [], [], []⟩ ⟨[], [], [], []⟩ ⟨[52, 51, 50, 9, 8], [.id 130, .id 131, .id 132], [33, 5, 7, 0, 1], idm8 0 ++ ([60, 61] ++ idIn bi br)⟩ =
    bif decP ([vI bi 0 L C, .int .i64 (IntKind.i64.wrap ((L : Int) + 256))] = [vI bi 0 L C, .int .i64 (sz : Int)] /\ Has (mkH (ms8 m2 0 ++ ([(60, box8 p q), (61, .var (arr8 0))] ++ exIn bi br L inp R rg))) (exI bi (inB L inp)) /\ AtN 22 [vI bi 0 L C, .int .i64 (sz : Int)] (exI bi (inB L inp)) (vM3 132) (mkH [(130, m.memB), (131, m.kn.blk), (132, m.mAt 130 131)]) 130 3) && true && true then
      some ⟨⟨[some (true, .int .i64 ((0 : Nat) : Int)), some (true, .int .i64 (R : Int)), some (true, vR br R RC), some (true, pAt 132), some (true, .int .i64 0)], [(130, some m.memB), (131, some m.kn.blk), (132, some (m.mAt 130 131))], .normal, 133⟩, some (x8_27, [.bl 2, .sq (.region x8_31), .bl 1, .sq (.region x8_37)])⟩ else none := by
  cases bi <;> cases br <;> first | (obtain rfl := hb rfl; obtain rfl := hr rfl; kernel_rfl) | (obtain rfl := hb rfl; kernel_rfl) | (obtain rfl := hr rfl; kernel_rfl) | kernel_rfl
theorem q8_b0 : walk (lookF FL) (scOf [con26_0 m]) 1000 x8_27 (mkT [52, 51, 50, 9, 8, 33, 5, 7, 0, 1] [.int .i64 (k : Int), .int .i64 (R : Int), vR br R RC, pAt 92, .int .i64 0, .int .i64 0, pAt 60, pAt 61, vI bi 0 L C, vR br R RC]) (mkH (m.HA 90 91 92 ++ (ms8 m2 0 ++ ([(60, box8 p q), (61, .var (arr8 0))] ++ exIn bi br L inp R rg)))) 130 ⟨[52], [.id 90, .id 91, .id 92], [51, 50, 9, 8, 33, 5, 7, 0, 1], idm8 0 ++ ([60, 61] ++ idIn bi br)⟩ ⟨[], [], [], []⟩ ⟨[], [], [], []⟩ =
    bif decide ((k : Int) < (R : Int)) then bif br && ((Nat.blt (0 + k) R && true || false) && ((intRange (k : Int) R && true || false) && true)) then bif decP (Has (mkH (m.HA 90 91 92)) [(92, m.mAt 90 91)]) && true then
      some ⟨⟨[some (true, .int .i64 (IntKind.i64.wrap ((k : Int) + 1)))], [(90, some m.memB), (91, some m.kn.blk), (92, some ((setM m k (rg (0 + k))).mAt 90 91))], .normal, 130⟩, none⟩ else none else none
    else some ⟨⟨[some (true, .int .i64 (k : Int))], [(90, some m.memB), (91, some m.kn.blk), (92, some (m.mAt 90 91))], .exit 2, 130⟩, none⟩ := by
  cases bi <;> cases br <;> first | (obtain rfl := hb rfl; obtain rfl := hr rfl; kernel_rfl) | (obtain rfl := hb rfl; kernel_rfl) | (obtain rfl := hr rfl; kernel_rfl) | kernel_rfl
theorem q8_c0 : walk (lookF FL) noSc 1000 (.region x8_31) (mkT [52, 51, 50, 9, 8, 33, 5, 7, 0, 1] [.int .i64 (k : Int), .int .i64 (R : Int), vR br R RC, pAt 92, .int .i64 0, .int .i64 0, pAt 60, pAt 61, vI bi 0 L C, vR br R RC]) (mkH (m.HA 90 91 92 ++ (ms8 m2 0 ++ ([(60, box8 p q), (61, .var (arr8 0))] ++ exIn bi br L inp R rg)))) 130 ⟨[], [.id 90, .id 91, .id 92, .id 61], [33, 5, 7, 0, 1], idm8 0 ++ ([60] ++ idIn bi br)⟩ ⟨[], [], [], []⟩ ⟨[], [], [], []⟩ =
    some ⟨⟨[], [(90, some m.memB), (91, some m.kn.blk), (92, some (m.mAt 90 91)), (61, some (.var (arr8 1)))], .normal, 130⟩, none⟩ := by
  cases bi <;> cases br <;> first | (obtain rfl := hb rfl; obtain rfl := hr rfl; kernel_rfl) | (obtain rfl := hb rfl; kernel_rfl) | (obtain rfl := hr rfl; kernel_rfl) | kernel_rfl
theorem q8_d0 : walk (lookF FL) noSc 1000 (.region x8_37) (mkT [33, 5, 7, 0, 1] [.int .i64 0, pAt 60, pAt 61, vI bi 0 L C, vR br R RC]) (mkH (ms8 m2 1 ++ ([(60, box8 p q), (61, .var (arr8 1))] ++ exIn bi br L inp R rg))) 130 ⟨[33], [], [5, 7, 0, 1], idm8 1 ++ ([60, 61] ++ idIn bi br)⟩ ⟨[], [], [], []⟩ ⟨[], [], [], []⟩ =
    some ⟨⟨[some (true, .int .i64 1)], [], .normal, 130⟩, none⟩ := by
  cases bi <;> cases br <;> first | (obtain rfl := hb rfl; obtain rfl := hr rfl; kernel_rfl) | (obtain rfl := hb rfl; kernel_rfl) | (obtain rfl := hr rfl; kernel_rfl) | kernel_rfl
theorem q8_a1 : walk (lookF FL) (sc8n (vI bi 0 L C) (exI bi (inB L inp)) sz m) 1000 x8_40 (mkT [33, 5, 7, 0, 1] [.int .i64 1, pAt 60, pAt 61, vI bi 0 L C, vR br R RC]) (mkH (ms8 m2 1 ++ ([(60, box8 p q), (61, .var (arr8 1))] ++ exIn bi br L inp R rg))) 130 ⟨[], [], [], []⟩ ⟨[], [], [], []⟩ ⟨[52, 51, 50, 9, 8], [.id 130, .id 131, .id 132], [33, 5, 7, 0, 1], idm8 1 ++ ([60, 61] ++ idIn bi br)⟩ =
    bif decP ([vI bi 0 L C, .int .i64 (IntKind.i64.wrap ((L : Int) + 256))] = [vI bi 0 L C, .int .i64 (sz : Int)] /\ Has (mkH (ms8 m2 1 ++ ([(60, box8 p q), (61, .var (arr8 1))] ++ exIn bi br L inp R rg))) (exI bi (inB L inp)) /\ AtN 22 [vI bi 0 L C, .int .i64 (sz : Int)] (exI bi (inB L inp)) (vM3 132) (mkH [(130, m.memB), (131, m.kn.blk), (132, m.mAt 130 131)]) 130 3) && true && true then
      some ⟨⟨[some (true, .int .i64 ((0 : Nat) : Int)), some (true, .int .i64 (R : Int)), some (true, vR br R RC), some (true, pAt 132), some (true, .int .i64 1)], [(130, some m.memB), (131, some m.kn.blk), (132, some (m.mAt 130 131))], .normal, 133⟩, some (x8_27, [.bl 2, .sq (.region x8_31), .bl 1, .sq (.region x8_37)])⟩ else none := by
  cases bi <;> cases br <;> first | (obtain rfl := hb rfl; obtain rfl := hr rfl; kernel_rfl) | (obtain rfl := hb rfl; kernel_rfl) | (obtain rfl := hr rfl; kernel_rfl) | kernel_rfl
theorem q8_b1 : walk (lookF FL) (scOf [con26_1 m]) 1000 x8_27 (mkT [52, 51, 50, 9, 8, 33, 5, 7, 0, 1] [.int .i64 (k : Int), .int .i64 (R : Int), vR br R RC, pAt 95, .int .i64 1, .int .i64 1, pAt 60, pAt 61, vI bi 0 L C, vR br R RC]) (mkH (m.HA 93 94 95 ++ (ms8 m2 1 ++ ([(60, box8 p q), (61, .var (arr8 1))] ++ exIn bi br L inp R rg)))) 130 ⟨[52], [.id 93, .id 94, .id 95], [51, 50, 9, 8, 33, 5, 7, 0, 1], idm8 1 ++ ([60, 61] ++ idIn bi br)⟩ ⟨[], [], [], []⟩ ⟨[], [], [], []⟩ =
    bif decide ((k : Int) < (R : Int)) then bif br && ((Nat.blt (0 + k) R && true || false) && ((intRange (k : Int) R && true || false) && true)) then bif decP (Has (mkH (m.HA 93 94 95)) [(95, m.mAt 93 94)]) && true then
      some ⟨⟨[some (true, .int .i64 (IntKind.i64.wrap ((k : Int) + 1)))], [(93, some m.memB), (94, some m.kn.blk), (95, some ((setM m k (rg (0 + k))).mAt 93 94))], .normal, 130⟩, none⟩ else none else none
    else some ⟨⟨[some (true, .int .i64 (k : Int))], [(93, some m.memB), (94, some m.kn.blk), (95, some (m.mAt 93 94))], .exit 2, 130⟩, none⟩ := by
  cases bi <;> cases br <;> first | (obtain rfl := hb rfl; obtain rfl := hr rfl; kernel_rfl) | (obtain rfl := hb rfl; kernel_rfl) | (obtain rfl := hr rfl; kernel_rfl) | kernel_rfl
theorem q8_c1 : walk (lookF FL) noSc 1000 (.region x8_31) (mkT [52, 51, 50, 9, 8, 33, 5, 7, 0, 1] [.int .i64 (k : Int), .int .i64 (R : Int), vR br R RC, pAt 95, .int .i64 1, .int .i64 1, pAt 60, pAt 61, vI bi 0 L C, vR br R RC]) (mkH (m.HA 93 94 95 ++ (ms8 m2 1 ++ ([(60, box8 p q), (61, .var (arr8 1))] ++ exIn bi br L inp R rg)))) 130 ⟨[], [.id 93, .id 94, .id 95, .id 61], [33, 5, 7, 0, 1], idm8 1 ++ ([60] ++ idIn bi br)⟩ ⟨[], [], [], []⟩ ⟨[], [], [], []⟩ =
    some ⟨⟨[], [(93, some m.memB), (94, some m.kn.blk), (95, some (m.mAt 93 94)), (61, some (.var (arr8 2)))], .normal, 130⟩, none⟩ := by
  cases bi <;> cases br <;> first | (obtain rfl := hb rfl; obtain rfl := hr rfl; kernel_rfl) | (obtain rfl := hb rfl; kernel_rfl) | (obtain rfl := hr rfl; kernel_rfl) | kernel_rfl
theorem q8_d1 : walk (lookF FL) noSc 1000 (.region x8_37) (mkT [33, 5, 7, 0, 1] [.int .i64 1, pAt 60, pAt 61, vI bi 0 L C, vR br R RC]) (mkH (ms8 m2 2 ++ ([(60, box8 p q), (61, .var (arr8 2))] ++ exIn bi br L inp R rg))) 130 ⟨[33], [], [5, 7, 0, 1], idm8 2 ++ ([60, 61] ++ idIn bi br)⟩ ⟨[], [], [], []⟩ ⟨[], [], [], []⟩ =
    some ⟨⟨[some (true, .int .i64 2)], [], .normal, 130⟩, none⟩ := by
  cases bi <;> cases br <;> first | (obtain rfl := hb rfl; obtain rfl := hr rfl; kernel_rfl) | (obtain rfl := hb rfl; kernel_rfl) | (obtain rfl := hr rfl; kernel_rfl) | kernel_rfl
theorem q8_a2 : walk (lookF FL) (sc8n (vI bi 0 L C) (exI bi (inB L inp)) sz m) 1000 x8_40 (mkT [33, 5, 7, 0, 1] [.int .i64 2, pAt 60, pAt 61, vI bi 0 L C, vR br R RC]) (mkH (ms8 m2 2 ++ ([(60, box8 p q), (61, .var (arr8 2))] ++ exIn bi br L inp R rg))) 130 ⟨[], [], [], []⟩ ⟨[], [], [], []⟩ ⟨[52, 51, 50, 9, 8], [.id 130, .id 131, .id 132], [33, 5, 7, 0, 1], idm8 2 ++ ([60, 61] ++ idIn bi br)⟩ =
    bif decP ([vI bi 0 L C, .int .i64 (IntKind.i64.wrap ((L : Int) + 256))] = [vI bi 0 L C, .int .i64 (sz : Int)] /\ Has (mkH (ms8 m2 2 ++ ([(60, box8 p q), (61, .var (arr8 2))] ++ exIn bi br L inp R rg))) (exI bi (inB L inp)) /\ AtN 22 [vI bi 0 L C, .int .i64 (sz : Int)] (exI bi (inB L inp)) (vM3 132) (mkH [(130, m.memB), (131, m.kn.blk), (132, m.mAt 130 131)]) 130 3) && true && true then
      some ⟨⟨[some (true, .int .i64 ((0 : Nat) : Int)), some (true, .int .i64 (R : Int)), some (true, vR br R RC), some (true, pAt 132), some (true, .int .i64 2)], [(130, some m.memB), (131, some m.kn.blk), (132, some (m.mAt 130 131))], .normal, 133⟩, some (x8_27, [.bl 2, .sq (.region x8_31), .bl 1, .sq (.region x8_37)])⟩ else none := by
  cases bi <;> cases br <;> first | (obtain rfl := hb rfl; obtain rfl := hr rfl; kernel_rfl) | (obtain rfl := hb rfl; kernel_rfl) | (obtain rfl := hr rfl; kernel_rfl) | kernel_rfl
theorem q8_b2 : walk (lookF FL) (scOf [con26_2 m]) 1000 x8_27 (mkT [52, 51, 50, 9, 8, 33, 5, 7, 0, 1] [.int .i64 (k : Int), .int .i64 (R : Int), vR br R RC, pAt 98, .int .i64 2, .int .i64 2, pAt 60, pAt 61, vI bi 0 L C, vR br R RC]) (mkH (m.HA 96 97 98 ++ (ms8 m2 2 ++ ([(60, box8 p q), (61, .var (arr8 2))] ++ exIn bi br L inp R rg)))) 130 ⟨[52], [.id 96, .id 97, .id 98], [51, 50, 9, 8, 33, 5, 7, 0, 1], idm8 2 ++ ([60, 61] ++ idIn bi br)⟩ ⟨[], [], [], []⟩ ⟨[], [], [], []⟩ =
    bif decide ((k : Int) < (R : Int)) then bif br && ((Nat.blt (0 + k) R && true || false) && ((intRange (k : Int) R && true || false) && true)) then bif decP (Has (mkH (m.HA 96 97 98)) [(98, m.mAt 96 97)]) && true then
      some ⟨⟨[some (true, .int .i64 (IntKind.i64.wrap ((k : Int) + 1)))], [(96, some m.memB), (97, some m.kn.blk), (98, some ((setM m k (rg (0 + k))).mAt 96 97))], .normal, 130⟩, none⟩ else none else none
    else some ⟨⟨[some (true, .int .i64 (k : Int))], [(96, some m.memB), (97, some m.kn.blk), (98, some (m.mAt 96 97))], .exit 2, 130⟩, none⟩ := by
  cases bi <;> cases br <;> first | (obtain rfl := hb rfl; obtain rfl := hr rfl; kernel_rfl) | (obtain rfl := hb rfl; kernel_rfl) | (obtain rfl := hr rfl; kernel_rfl) | kernel_rfl
theorem q8_c2 : walk (lookF FL) noSc 1000 (.region x8_31) (mkT [52, 51, 50, 9, 8, 33, 5, 7, 0, 1] [.int .i64 (k : Int), .int .i64 (R : Int), vR br R RC, pAt 98, .int .i64 2, .int .i64 2, pAt 60, pAt 61, vI bi 0 L C, vR br R RC]) (mkH (m.HA 96 97 98 ++ (ms8 m2 2 ++ ([(60, box8 p q), (61, .var (arr8 2))] ++ exIn bi br L inp R rg)))) 130 ⟨[], [.id 96, .id 97, .id 98, .id 61], [33, 5, 7, 0, 1], idm8 2 ++ ([60] ++ idIn bi br)⟩ ⟨[], [], [], []⟩ ⟨[], [], [], []⟩ =
    some ⟨⟨[], [(96, some m.memB), (97, some m.kn.blk), (98, some (m.mAt 96 97)), (61, some (.var (arr8 3)))], .normal, 130⟩, none⟩ := by
  cases bi <;> cases br <;> first | (obtain rfl := hb rfl; obtain rfl := hr rfl; kernel_rfl) | (obtain rfl := hb rfl; kernel_rfl) | (obtain rfl := hr rfl; kernel_rfl) | kernel_rfl
theorem q8_d2 : walk (lookF FL) noSc 1000 (.region x8_37) (mkT [33, 5, 7, 0, 1] [.int .i64 2, pAt 60, pAt 61, vI bi 0 L C, vR br R RC]) (mkH (ms8 m2 3 ++ ([(60, box8 p q), (61, .var (arr8 3))] ++ exIn bi br L inp R rg))) 130 ⟨[33], [], [5, 7, 0, 1], idm8 3 ++ ([60, 61] ++ idIn bi br)⟩ ⟨[], [], [], []⟩ ⟨[], [], [], []⟩ =
    some ⟨⟨[some (true, .int .i64 3)], [], .normal, 130⟩, none⟩ := by
  cases bi <;> cases br <;> first | (obtain rfl := hb rfl; obtain rfl := hr rfl; kernel_rfl) | (obtain rfl := hb rfl; kernel_rfl) | (obtain rfl := hr rfl; kernel_rfl) | kernel_rfl
theorem q8_x : walk (lookF FL) noSc 1000 x8_40 (mkT [33, 5, 7, 0, 1] [.int .i64 3, pAt 60, pAt 61, vI bi 0 L C, vR br R RC]) (mkH (ms8 m2 3 ++ ([(60, box8 p q), (61, .var (arr8 3))] ++ exIn bi br L inp R rg))) 130 ⟨[], [], [5, 7], idm8 3 ++ ([60, 61] ++ idIn bi br)⟩ ⟨[], [], [], []⟩ ⟨[], [], [], []⟩ =
    some ⟨⟨[], [], .exit 0, 130⟩, none⟩ := by
  cases bi <;> cases br <;> first | (obtain rfl := hb rfl; obtain rfl := hr rfl; kernel_rfl) | (obtain rfl := hb rfl; kernel_rfl) | (obtain rfl := hr rfl; kernel_rfl) | kernel_rfl
end
end Go.X
namespace Go.X
open Go Go.Proofs
def S8 (bi br : Bool) (p q : Int) (L C R RC : Nat) (inp rg : Nat -> Int) (m : MS) (i : Nat) : St :=
  ⟨mkT [33, 5, 7, 0, 1] [.int .i64 (i : Int), pAt 60, pAt 61, vI bi 0 L C, vR br R RC], mkH (ms8 m i ++ ([(60, box8 p q), (61, .var (arr8 i))] ++ exIn bi br L inp R rg)), 130⟩
def T8 (bi br : Bool) (p q : Int) (L C R RC : Nat) (inp rg : Nat -> Int) (m mk : MS) (a b c i k : Nat) : St :=
  ⟨mkT [52, 51, 50, 9, 8, 33, 5, 7, 0, 1] [.int .i64 (k : Int), .int .i64 (R : Int), vR br R RC, pAt c, .int .i64 (i : Int), .int .i64 (i : Int), pAt 60, pAt 61, vI bi 0 L C, vR br R RC], mkH (mk.HA a b c ++ (ms8 m i ++ ([(60, box8 p q), (61, .var (arr8 i))] ++ exIn bi br L inp R rg))), 130⟩
theorem setM_mem (m : MS) (k v : Int) : (setM m k v).memB = m.memB := by unfold setM; cases inK k <;> rfl
theorem setM_kn (m : MS) (k v : Int) : (setM m k v).kn = m.kn := by unfold setM; cases inK k <;> rfl
section
variable {E : FEnv} {Q : Post} (hP : E.P = Try.prog) (hn : E.B.n = 50) (hcl : Cl E.toEnv Q) {bi br : Bool} {p q : Int} {L C R RC : Nat} {inp rg : Nat -> Int} (m m0 : MS) (hb : bi = false -> L = 0) (hr : br = false -> R = 0) (hR : R <= 40)
include hP hn hcl hb hr hR
theorem in8_0 (hQ : Q (.exit 2) (T8 bi br p q L C R RC inp rg m (setsM m0 rg R) 90 91 92 0 R)) : XWP E.toEnv (.loop x8_27) Q (T8 bi br p q L C R RC inp rg m (setsM m0 rg 0) 90 91 92 0 0) := by
  refine xwp_loopR (ι := Nat) (fun k => T8 bi br p q L C R RC inp rg m (setsM m0 rg k) 90 91 92 0 k) (fun k => k <= R) (fun k => R - k) 0 (Nat.zero_le _) fun k hk => ?_
  have hcr := cl_round (S := fun k => T8 bi br p q L C R RC inp rg m (setsM m0 rg k) 90 91 92 0 k) (I := fun k => k <= R) (μ := fun k => R - k) (i := k) hcl
  have e := q8_b0 bi br p q L C R RC inp rg (setsM m0 rg k) m k hb hr
  by_cases hlt : k < R
  · have hbr : br = true := by
      cases hx : br with
      | true => rfl
      | false => have := hr hx; omega
    have hir : intRange (k : Int) R = true := by rw [ir_nat, decide_eq_true hlt]
    have hcd : (br && ((Nat.blt (0 + k) R && true || false) && ((intRange (k : Int) R && true || false) && true))) = true := by rw [hbr, Nat.zero_add, lt_blt hlt, hir]; rfl
    rw [decide_eq_true (show (k : Int) < R by omega), hcd, Nat.zero_add, decP_true ⟨rfl, trivial⟩, wrap_i (n := (k : Int) + 1) (by omega) (by omega)] at e
    simp only [Bool.and_self, cond_true] at e
    refine xwp_toEnd (s := T8 bi br p q L C R RC inp rg m (setsM m0 rg k) 90 91 92 0 k) hcr (fokE hP _) 1000 e (T8 bi br p q L C R RC inp rg m (setsM m0 rg (k + 1)) 90 91 92 0 (k + 1)) ⟨_, (setsM m0 rg (k + 1)).HA 90 91 92 ++ (ms8 m 0 ++ ([(60, box8 p q), (61, .var (arr8 0))] ++ exIn bi br L inp R rg)), 130, rfl, ?_, ?_, ?_⟩ ⟨k + 1, hlt, by simp only; omega, Wk.refl _ _⟩ <;> rw [hn]
    · cases bi <;> cases br <;> rfl
    · cases bi <;> cases br <;> exact ⟨rfl, rfl, rfl, rfl, rfl, rfl, rfl, rfl, rfl, rfl, trivial⟩
    · rw [hP]
      have hmm : ∀ {σ : Nm}, BIs Try.prog σ (setsM m0 rg (k + 1)).memB (setsM m0 rg k).memB := fun {σ} => by
        rw [show (setsM m0 rg (k + 1)).memB = (setsM m0 rg k).memB from setM_mem _ _ _]; exact bis_mem
      have hkk : ∀ {σ : Nm}, BIs Try.prog σ (setsM m0 rg (k + 1)).kn.blk (setsM m0 rg k).kn.blk := fun {σ} => by
        rw [show (setsM m0 rg (k + 1)).kn = (setsM m0 rg k).kn from setM_kn _ _ _]; exact bis_kn
      cases bi <;> cases br
      · exact ⟨hmm, hkk, bis_mAt (m := setsM m0 rg (k + 1)) rfl rfl, rfl, rfl, trivial⟩
      · exact ⟨hmm, hkk, bis_mAt (m := setsM m0 rg (k + 1)) rfl rfl, rfl, rfl, bis_rgB, trivial⟩
      · exact ⟨hmm, hkk, bis_mAt (m := setsM m0 rg (k + 1)) rfl rfl, rfl, rfl, bis_inB, trivial⟩
      · exact ⟨hmm, hkk, bis_mAt (m := setsM m0 rg (k + 1)) rfl rfl, rfl, rfl, bis_inB, bis_rgB, trivial⟩
  · have : k = R := by omega
    subst this
    rw [decide_eq_false (show ¬ (k : Int) < k by omega), cond_false] at e
    refine xwp_toEnd (s := T8 bi br p q L C k RC inp rg m (setsM m0 rg k) 90 91 92 0 k) hcr (fokE hP _) 1000 e (T8 bi br p q L C k RC inp rg m (setsM m0 rg k) 90 91 92 0 k) ⟨_, (setsM m0 rg k).HA 90 91 92 ++ (ms8 m 0 ++ ([(60, box8 p q), (61, .var (arr8 0))] ++ exIn bi br L inp k rg)), 130, rfl, ?_, ?_, ?_⟩ hQ <;> rw [hn]
    · cases bi <;> cases br <;> rfl
    · cases bi <;> cases br <;> exact ⟨rfl, rfl, rfl, rfl, rfl, rfl, rfl, rfl, rfl, rfl, trivial⟩
    · rw [hP]
      cases bi <;> cases br
      · exact ⟨bis_mem, bis_kn, bis_mAt rfl rfl, rfl, rfl, trivial⟩
      · exact ⟨bis_mem, bis_kn, bis_mAt rfl rfl, rfl, rfl, bis_rgB, trivial⟩
      · exact ⟨bis_mem, bis_kn, bis_mAt rfl rfl, rfl, rfl, bis_inB, trivial⟩
      · exact ⟨bis_mem, bis_kn, bis_mAt rfl rfl, rfl, rfl, bis_inB, bis_rgB, trivial⟩
theorem in8_1 (hQ : Q (.exit 2) (T8 bi br p q L C R RC inp rg m (setsM m0 rg R) 93 94 95 1 R)) : XWP E.toEnv (.loop x8_27) Q (T8 bi br p q L C R RC inp rg m (setsM m0 rg 0) 93 94 95 1 0) := by
  refine xwp_loopR (ι := Nat) (fun k => T8 bi br p q L C R RC inp rg m (setsM m0 rg k) 93 94 95 1 k) (fun k => k <= R) (fun k => R - k) 0 (Nat.zero_le _) fun k hk => ?_
  have hcr := cl_round (S := fun k => T8 bi br p q L C R RC inp rg m (setsM m0 rg k) 93 94 95 1 k) (I := fun k => k <= R) (μ := fun k => R - k) (i := k) hcl
  have e := q8_b1 bi br p q L C R RC inp rg (setsM m0 rg k) m k hb hr
  by_cases hlt : k < R
  · have hbr : br = true := by
      cases hx : br with
      | true => rfl
      | false => have := hr hx; omega
    have hir : intRange (k : Int) R = true := by rw [ir_nat, decide_eq_true hlt]
    have hcd : (br && ((Nat.blt (0 + k) R && true || false) && ((intRange (k : Int) R && true || false) && true))) = true := by rw [hbr, Nat.zero_add, lt_blt hlt, hir]; rfl
    rw [decide_eq_true (show (k : Int) < R by omega), hcd, Nat.zero_add, decP_true ⟨rfl, trivial⟩, wrap_i (n := (k : Int) + 1) (by omega) (by omega)] at e
    simp only [Bool.and_self, cond_true] at e
    refine xwp_toEnd (s := T8 bi br p q L C R RC inp rg m (setsM m0 rg k) 93 94 95 1 k) hcr (fokE hP _) 1000 e (T8 bi br p q L C R RC inp rg m (setsM m0 rg (k + 1)) 93 94 95 1 (k + 1)) ⟨_, (setsM m0 rg (k + 1)).HA 93 94 95 ++ (ms8 m 1 ++ ([(60, box8 p q), (61, .var (arr8 1))] ++ exIn bi br L inp R rg)), 130, rfl, ?_, ?_, ?_⟩ ⟨k + 1, hlt, by simp only; omega, Wk.refl _ _⟩ <;> rw [hn]
    · cases bi <;> cases br <;> rfl
    · cases bi <;> cases br <;> exact ⟨rfl, rfl, rfl, rfl, rfl, rfl, rfl, rfl, rfl, rfl, trivial⟩
    · rw [hP]
      have hmm : ∀ {σ : Nm}, BIs Try.prog σ (setsM m0 rg (k + 1)).memB (setsM m0 rg k).memB := fun {σ} => by
        rw [show (setsM m0 rg (k + 1)).memB = (setsM m0 rg k).memB from setM_mem _ _ _]; exact bis_mem
      have hkk : ∀ {σ : Nm}, BIs Try.prog σ (setsM m0 rg (k + 1)).kn.blk (setsM m0 rg k).kn.blk := fun {σ} => by
        rw [show (setsM m0 rg (k + 1)).kn = (setsM m0 rg k).kn from setM_kn _ _ _]; exact bis_kn
      cases bi <;> cases br
      · exact ⟨hmm, hkk, bis_mAt (m := setsM m0 rg (k + 1)) rfl rfl, bis_mem, bis_kn, bis_mAt rfl rfl, rfl, rfl, trivial⟩
      · exact ⟨hmm, hkk, bis_mAt (m := setsM m0 rg (k + 1)) rfl rfl, bis_mem, bis_kn, bis_mAt rfl rfl, rfl, rfl, bis_rgB, trivial⟩
      · exact ⟨hmm, hkk, bis_mAt (m := setsM m0 rg (k + 1)) rfl rfl, bis_mem, bis_kn, bis_mAt rfl rfl, rfl, rfl, bis_inB, trivial⟩
      · exact ⟨hmm, hkk, bis_mAt (m := setsM m0 rg (k + 1)) rfl rfl, bis_mem, bis_kn, bis_mAt rfl rfl, rfl, rfl, bis_inB, bis_rgB, trivial⟩
  · have : k = R := by omega
    subst this
    rw [decide_eq_false (show ¬ (k : Int) < k by omega), cond_false] at e
    refine xwp_toEnd (s := T8 bi br p q L C k RC inp rg m (setsM m0 rg k) 93 94 95 1 k) hcr (fokE hP _) 1000 e (T8 bi br p q L C k RC inp rg m (setsM m0 rg k) 93 94 95 1 k) ⟨_, (setsM m0 rg k).HA 93 94 95 ++ (ms8 m 1 ++ ([(60, box8 p q), (61, .var (arr8 1))] ++ exIn bi br L inp k rg)), 130, rfl, ?_, ?_, ?_⟩ hQ <;> rw [hn]
    · cases bi <;> cases br <;> rfl
    · cases bi <;> cases br <;> exact ⟨rfl, rfl, rfl, rfl, rfl, rfl, rfl, rfl, rfl, rfl, trivial⟩
    · rw [hP]
      cases bi <;> cases br
      · exact ⟨bis_mem, bis_kn, bis_mAt rfl rfl, bis_mem, bis_kn, bis_mAt rfl rfl, rfl, rfl, trivial⟩
      · exact ⟨bis_mem, bis_kn, bis_mAt rfl rfl, bis_mem, bis_kn, bis_mAt rfl rfl, rfl, rfl, bis_rgB, trivial⟩
      · exact ⟨bis_mem, bis_kn, bis_mAt rfl rfl, bis_mem, bis_kn, bis_mAt rfl rfl, rfl, rfl, bis_inB, trivial⟩
      · exact ⟨bis_mem, bis_kn, bis_mAt rfl rfl, bis_mem, bis_kn, bis_mAt rfl rfl, rfl, rfl, bis_inB, bis_rgB, trivial⟩
theorem in8_2 (hQ : Q (.exit 2) (T8 bi br p q L C R RC inp rg m (setsM m0 rg R) 96 97 98 2 R)) : XWP E.toEnv (.loop x8_27) Q (T8 bi br p q L C R RC inp rg m (setsM m0 rg 0) 96 97 98 2 0) := by
  refine xwp_loopR (ι := Nat) (fun k => T8 bi br p q L C R RC inp rg m (setsM m0 rg k) 96 97 98 2 k) (fun k => k <= R) (fun k => R - k) 0 (Nat.zero_le _) fun k hk => ?_
  have hcr := cl_round (S := fun k => T8 bi br p q L C R RC inp rg m (setsM m0 rg k) 96 97 98 2 k) (I := fun k => k <= R) (μ := fun k => R - k) (i := k) hcl
  have e := q8_b2 bi br p q L C R RC inp rg (setsM m0 rg k) m k hb hr
  by_cases hlt : k < R
  · have hbr : br = true := by
      cases hx : br with
      | true => rfl
      | false => have := hr hx; omega
    have hir : intRange (k : Int) R = true := by rw [ir_nat, decide_eq_true hlt]
    have hcd : (br && ((Nat.blt (0 + k) R && true || false) && ((intRange (k : Int) R && true || false) && true))) = true := by rw [hbr, Nat.zero_add, lt_blt hlt, hir]; rfl
    rw [decide_eq_true (show (k : Int) < R by omega), hcd, Nat.zero_add, decP_true ⟨rfl, trivial⟩, wrap_i (n := (k : Int) + 1) (by omega) (by omega)] at e
    simp only [Bool.and_self, cond_true] at e
    refine xwp_toEnd (s := T8 bi br p q L C R RC inp rg m (setsM m0 rg k) 96 97 98 2 k) hcr (fokE hP _) 1000 e (T8 bi br p q L C R RC inp rg m (setsM m0 rg (k + 1)) 96 97 98 2 (k + 1)) ⟨_, (setsM m0 rg (k + 1)).HA 96 97 98 ++ (ms8 m 2 ++ ([(60, box8 p q), (61, .var (arr8 2))] ++ exIn bi br L inp R rg)), 130, rfl, ?_, ?_, ?_⟩ ⟨k + 1, hlt, by simp only; omega, Wk.refl _ _⟩ <;> rw [hn]
    · cases bi <;> cases br <;> rfl
    · cases bi <;> cases br <;> exact ⟨rfl, rfl, rfl, rfl, rfl, rfl, rfl, rfl, rfl, rfl, trivial⟩
    · rw [hP]
      have hmm : ∀ {σ : Nm}, BIs Try.prog σ (setsM m0 rg (k + 1)).memB (setsM m0 rg k).memB := fun {σ} => by
        rw [show (setsM m0 rg (k + 1)).memB = (setsM m0 rg k).memB from setM_mem _ _ _]; exact bis_mem
      have hkk : ∀ {σ : Nm}, BIs Try.prog σ (setsM m0 rg (k + 1)).kn.blk (setsM m0 rg k).kn.blk := fun {σ} => by
        rw [show (setsM m0 rg (k + 1)).kn = (setsM m0 rg k).kn from setM_kn _ _ _]; exact bis_kn
      cases bi <;> cases br
      · exact ⟨hmm, hkk, bis_mAt (m := setsM m0 rg (k + 1)) rfl rfl, bis_mem, bis_kn, bis_mAt rfl rfl, bis_mem, bis_kn, bis_mAt rfl rfl, rfl, rfl, trivial⟩
      · exact ⟨hmm, hkk, bis_mAt (m := setsM m0 rg (k + 1)) rfl rfl, bis_mem, bis_kn, bis_mAt rfl rfl, bis_mem, bis_kn, bis_mAt rfl rfl, rfl, rfl, bis_rgB, trivial⟩
      · exact ⟨hmm, hkk, bis_mAt (m := setsM m0 rg (k + 1)) rfl rfl, bis_mem, bis_kn, bis_mAt rfl rfl, bis_mem, bis_kn, bis_mAt rfl rfl, rfl, rfl, bis_inB, trivial⟩
      · exact ⟨hmm, hkk, bis_mAt (m := setsM m0 rg (k + 1)) rfl rfl, bis_mem, bis_kn, bis_mAt rfl rfl, bis_mem, bis_kn, bis_mAt rfl rfl, rfl, rfl, bis_inB, bis_rgB, trivial⟩
  · have : k = R := by omega
    subst this
    rw [decide_eq_false (show ¬ (k : Int) < k by omega), cond_false] at e
    refine xwp_toEnd (s := T8 bi br p q L C k RC inp rg m (setsM m0 rg k) 96 97 98 2 k) hcr (fokE hP _) 1000 e (T8 bi br p q L C k RC inp rg m (setsM m0 rg k) 96 97 98 2 k) ⟨_, (setsM m0 rg k).HA 96 97 98 ++ (ms8 m 2 ++ ([(60, box8 p q), (61, .var (arr8 2))] ++ exIn bi br L inp k rg)), 130, rfl, ?_, ?_, ?_⟩ hQ <;> rw [hn]
    · cases bi <;> cases br <;> rfl
    · cases bi <;> cases br <;> exact ⟨rfl, rfl, rfl, rfl, rfl, rfl, rfl, rfl, rfl, rfl, trivial⟩
    · rw [hP]
      cases bi <;> cases br
      · exact ⟨bis_mem, bis_kn, bis_mAt rfl rfl, bis_mem, bis_kn, bis_mAt rfl rfl, bis_mem, bis_kn, bis_mAt rfl rfl, rfl, rfl, trivial⟩
      · exact ⟨bis_mem, bis_kn, bis_mAt rfl rfl, bis_mem, bis_kn, bis_mAt rfl rfl, bis_mem, bis_kn, bis_mAt rfl rfl, rfl, rfl, bis_rgB, trivial⟩
      · exact ⟨bis_mem, bis_kn, bis_mAt rfl rfl, bis_mem, bis_kn, bis_mAt rfl rfl, bis_mem, bis_kn, bis_mAt rfl rfl, rfl, rfl, bis_inB, trivial⟩
      · exact ⟨bis_mem, bis_kn, bis_mAt rfl rfl, bis_mem, bis_kn, bis_mAt rfl rfl, bis_mem, bis_kn, bis_mAt rfl rfl, rfl, rfl, bis_inB, bis_rgB, trivial⟩
end
end Go.X
