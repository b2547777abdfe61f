import Derived.Test.YtnekegldodbgjaaH40
import Derived.Test.YtnekegldodbgjaaH18
set_option linter.all false
namespace Go.X
open Go Go.Proofs
def setsM (m : MS) (rg : Nat -> Int) : Nat -> MS
  | 0 => m
  | k + 1 => setM (setsM m rg k) (k : Int) (rg k)
section
variable (bi br : Bool) (p q : Int) (L C R RC : Nat) (inp rg : Nat -> Int) (m m2 : MS) (sz : Nat) (k : Nat) (hb : bi = false -> L = 0) (hr : br = false -> R = 0)
include hb hr
end
end Go.X
namespace Go.X
open Go Go.Proofs
section
variable {E : FEnv} {Q : Post} (hP : E.P = Try.prog) (hn : E.B.n = 50) (hcl : Cl E.toEnv Q) {bi br : Bool} {p q : Int} {L C R RC : Nat} {inp rg : Nat -> Int} (m m0 : MS) (hb : bi = false -> L = 0) (hr : br = false -> R = 0) (hR : R <= 40)
include hP hn hcl hb hr hR
end
end Go.X
namespace Go.X
open Go Go.Proofs
def m8 (L R : Nat) (inp rg : Nat -> Int) : MS := setsM (newM 0 L inp (L + 256)) rg R
section
variable {E : FEnv} {Q : Post} (hP : E.P = Try.prog) (hn : E.B.n = 50) (hcl : Cl E.toEnv Q) {bi br : Bool} {p q : Int} {L C R RC : Nat} {inp rg : Nat -> Int} {m : MS} (hm : m = m8 L R inp rg) (hb : bi = false -> L = 0) (hr : br = false -> R = 0) (hR : R <= 40) (hL : L <= 2000)
include hP hn hcl hb hr hR hL hm
end
end Go.X
namespace Go.X
open Go Go.Proofs
theorem blt_ff {a b : Nat} (h : ¬ a < b) : Nat.blt a b = false := by rw [blt_dec]; simp; omega
section
variable {o1 : Nat} {of1 : Nat -> Int} {mk1 : Int} {n1 : Nat} {sf1 : Nat -> List Value}
end
end Go.X
namespace Go.X
open Go Go.Proofs
section
variable (st cd n mk : Int) (oN oN2 : Nat) (of of2 : Nat -> Int)
end
section
variable (l k : Nat) (f g : Nat -> List Value)
end
end Go.X
namespace Go.X
open Go Go.Proofs
end Go.X
namespace Go.X
open Go Go.Proofs
end Go.X
namespace Go.X
open Go Go.Proofs
end Go.X
namespace Go.X
open Go Go.Proofs
end Go.X
namespace Go.X
open Go Go.Proofs
section
variable {E : FEnv} {Q : Post} (hP : E.P = Try.prog) (hn : E.B.n = 50) (hcl : Cl E.toEnv Q) {p q : Int} {m : MS} {al x y z : RSt} {na nx ny nz : Nat} {b0 b1 b2 s1 s2 : Bool} {fu : Int} {yy : XCode}
  (hs1 : ∀ {σ : Nm}, BIs Try.prog σ (seB x.sN x.sf) (seB x.sN x.sf)) (hs2 : ∀ {σ : Nm}, BIs Try.prog σ (seB y.sN y.sf) (seB y.sN y.sf)) (hs3 : ∀ {σ : Nm}, BIs Try.prog σ (seB z.sN z.sf) (seB z.sN z.sf))
include hP hn hcl hs1 hs2 hs3
end
end Go.X
namespace Go.X
open Go Go.Proofs
end Go.X
namespace Go.X
open Go Go.Proofs
def setR (m : MS) (r : Nat) (v : Int) : MS := { m with x := fun j => bif Nat.beq j r then v else m.x j }
section
variable (m : MS) (kk a b o : Int) (tk : Bool)
end
end Go.X
namespace Go.X
open Go Go.Proofs
def F9 (i : Ins) : Int × Int := encF i.op i.rd i.rs1 i.rs2 i.imm
noncomputable abbrev sc9c (L : Nat) (f : Nat -> List Value) (oN : Nat) (of : Nat -> Int) (sz : Nat) (m : MS) : Short := scOf [conAt 23 [L60 L L] [(60, .rows L 5 f false false)] (newS 61 oN) (mkH [(61, outB oN of)]) 61 1,
  conAt 22 [newS 61 oN, .int .i64 (sz : Int)] [(61, outB oN of)] (vM3 64) (mkH [(62, m.memB), (63, m.kn.blk), (64, m.mAt 62 63)]) 62 3]
end Go.X
namespace Go.X
open Go Go.Proofs
theorem setX_ok {x : Nat -> Int} (h : ∀ j, uB (x j) = true) {r : Nat} {v : Int} (hv : uB v = true) : ∀ j, uB (bif Nat.beq j r then v else x j) = true := fun j => by
  cases Nat.beq j r
  · exact h j
  · exact hv
end Go.X
namespace Go.X
open Go Go.Proofs
def d12_9x : XCode := match x12_67 with
  | .seq a _ => a
  | y => y
def f12 (sk lk o : Int) : Nat -> List Value := fun j => slab [.int .i64 sk, .int .i64 0, .int .i64 0, .int .i64 5, .int .i64 o, .int .i64 lk, .int .i64 6, .int .i64 0, .int .i64 0, .int .i64 o, .int .i64 39, .int .i64 7, .int .i64 0, .int .i64 0, .int .i64 o] (j * 5) 5
noncomputable abbrev sc12w (m : MS) (s : RSt) (sf : Nat -> List Value) : Short := scOf [conAt 27 [pAt 92, .slice none 0 0, .int .i64 3] (m.HA 90 91 92) (.tuple ⟨[resV24 s.m (vOa 131 false 0) (3 : Nat) s.mark, vOa 132 true 3]⟩) (upd27g 90 91 92 s.m false true 0 s.of 3 sf (3 : Nat) s.mark) 130 3]
def rw3 (z : Int) (o : Int) : Nat -> List Value
  | 0 => [.int .u64 0, .int .u64 o, .int .i64 z, .bool true]
  | 1 => [.int .u64 4, .int .u64 o, .int .i64 z, .bool false]
  | _ => [.int .u64 8, .int .u64 o, .int .i64 1, .bool false]
def m256 (m : MS) (x6 x7 : Int) : MS := { m with sz := 256, x := fun j => bif Nat.beq j 6 then x6 else bif Nat.beq j 7 then x7 else m.x j }
def r12 (st cd mk : Int) : Blk := .var [.int .i64 st, .int .u8 cd, .int .i64 0, .slice none 0 0, .int .i64 ((3 : Nat) : Int), .int .i64 mk]
def b12 (g : Nat -> Int) : Blk := .rows 128 1 (fun j => [.int .u8 (g j)]) true false
end Go.X
namespace Go.X
open Go Go.Proofs
theorem p12_0 (x w a : Int) : walk (lookF FL) noSc 1000 (.region x12_0) (argTm 0 [.int .u64 x, .int .u8 a, .int .u8 w]) [] 50 ⟨[], [], [0, 1, 2], []⟩ ⟨[], [], [], []⟩ ⟨[], [], [], []⟩ = some ⟨⟨[], [], .normal, 50⟩, none⟩ := by kernel_rfl
theorem p12_5 (x w a : Int) : walk (lookF FL) sc6 1000 x12_5 (mkT [0, 1, 2] [.int .u64 x, .int .u8 a, .int .u8 w]) [] 50 ⟨[], [], [0, 1, 2], []⟩ ⟨[], [], [], []⟩ ⟨[], [], [], []⟩ = some ⟨⟨[], [], .normal, 50⟩, none⟩ := by kernel_rfl
theorem p12_6 (x w a : Int) : walk (lookF FL) noSc 1000 (.region x12_6) (mkT [0, 1, 2] [.int .u64 x, .int .u8 a, .int .u8 w]) [] 50 ⟨[7], [], [0, 1], []⟩ ⟨[], [], [], []⟩ ⟨[], [], [], []⟩ = some ⟨⟨[some (true, .int .i64 ((IntKind.i64.wrap w).tmod 3))], [], .normal, 50⟩, none⟩ := by kernel_rfl
def kk12 (k : Int) : Prop := k = 0 \/ k = 1 \/ k = 2
def nK (k : Int) : Int := bif k == 0 then 1 else bif k == 1 then 4 else 8
def sK (k : Int) : Int := bif k == 0 then 42 else bif k == 1 then 43 else 44
def lK (k : Int) : Int := bif k == 0 then 38 else bif k == 1 then 40 else 41
def qK (k : Int) : Int := bif k == 0 then 64 else bif k == 1 then 16 else 8
theorem p12_7 (x a k : Int) (hk : kk12 k) : walk (lookF FL) noSc 1000 (.region x12_7) (mkT [7, 0, 1] [.int .i64 k, .int .u64 x, .int .u8 a]) [] 50 ⟨[8], [], [7, 0, 1], []⟩ ⟨[], [], [], []⟩ ⟨[], [], [], []⟩ = some ⟨⟨[some (true, .int .i64 (nK k))], [], .normal, 50⟩, none⟩ := by
  rcases hk with rfl | rfl | rfl <;> kernel_rfl
theorem p12_8 (x a k : Int) (hk : kk12 k) : walk (lookF FL) noSc 1000 (.region x12_8) (mkT [8, 7, 0, 1] [.int .i64 (nK k), .int .i64 k, .int .u64 x, .int .u8 a]) [] 50 ⟨[9], [], [8, 7, 0], []⟩ ⟨[], [], [], []⟩ ⟨[], [], [], []⟩ = some ⟨⟨[some (true, .int .i64 (IntKind.i64.wrap (64 + IntKind.i64.wrap (nK k * (IntKind.i64.wrap a).tmod (qK k)))))], [], .normal, 50⟩, none⟩ := by
  rcases hk with rfl | rfl | rfl <;> kernel_rfl
theorem p12_9 (x o k : Int) (hk : kk12 k) : walk (lookF FL) noSc 1000 d12_9x (mkT [9, 8, 7, 0] [.int .i64 o, .int .i64 (nK k), .int .i64 k, .int .u64 x]) [] 50 ⟨[10, 11], [], [9, 8, 0], []⟩ ⟨[], [], [], []⟩ ⟨[], [], [], []⟩ = some ⟨⟨[some (true, .int .i64 (sK k)), some (true, .int .i64 (lK k))], [], .normal, 50⟩, none⟩ := by
  rcases hk with rfl | rfl | rfl <;> kernel_rfl
section
variable (x o sk lk n : Int) (m : MS) (oN : Nat) (of : Nat -> Int) (s : RSt) (sf : Nat -> List Value) (v6 v7 st cd mk : Int) (i : Nat) (g : Nat -> Int)
theorem p12_10 : walk (lookF FL) (sc9c 3 (f12 sk lk o) oN of 256 m) 1000 (.region x12_10) (mkT [10, 11, 9, 8, 0] [.int .i64 sk, .int .i64 lk, .int .i64 o, .int .i64 n, .int .u64 x]) [] 60 ⟨[12, 13], [.id 62, .id 63, .id 64], [9, 8, 0], []⟩ ⟨[], [], [], []⟩ ⟨[], [], [], []⟩ =
    bif decP ([newS 61 oN, .int .i64 256] = [newS 61 oN, .int .i64 ((256 : Nat) : Int)] /\ Has (mkH [(61, outB oN of), (60, .rows 3 5 (f12 sk lk o) false false)]) [(61, outB oN of)] /\ AtN 22 [newS 61 oN, .int .i64 ((256 : Nat) : Int)] [(61, outB oN of)] (vM3 64) (mkH [(62, m.memB), (63, m.kn.blk), (64, m.mAt 62 63)]) 62 3) && true &&
      (decP ([L60 3 3] = [L60 3 3] /\ Has (mkH [(60, .rows 3 5 (f12 sk lk o) false false)]) [(60, .rows 3 5 (f12 sk lk o) false false)] /\ AtN 23 [L60 3 3] [(60, .rows 3 5 (f12 sk lk o) false false)] (newS 61 oN) (mkH [(61, outB oN of)]) 61 1) && true && true) then
      some ⟨⟨[some (true, .pointer (some ⟨64, 0, some 0⟩)), some (true, .int .i64 0)], [(62, some m.memB), (63, some m.kn.blk), (64, some (m.mAt 62 63))], .normal, 65⟩, none⟩ else none := by kernel_rfl
theorem p12_15 : walk (lookF FL) noSc 1000 x12_15 (mkT [12, 13, 9, 8, 0] [pAt 92, .int .i64 0, .int .i64 o, .int .i64 n, .int .u64 x]) (mkH (m.HA 90 91 92)) 130 ⟨[], [], [12, 9, 8, 0], [90, 91, 92]⟩ ⟨[], [], [], []⟩ ⟨[], [], [], []⟩ = some ⟨⟨[], [], .normal, 130⟩, none⟩ := by kernel_rfl
theorem p12_16 : walk (lookF FL) noSc 1000 (.region x12_16) (mkT [12, 9, 8, 0] [pAt 92, .int .i64 o, .int .i64 n, .int .u64 x]) (mkH (m.HA 90 91 92)) 130 ⟨[], [.id 90, .id 91, .id 92], [12, 9, 8, 0], []⟩ ⟨[], [], [], []⟩ ⟨[], [], [], []⟩ = some ⟨⟨[], [(90, some m.memB), (91, some m.kn.blk), (92, some ((setR m 5 x).mAt 90 91))], .normal, 130⟩, none⟩ := by kernel_rfl
theorem p12_17 : walk (lookF FL) (sc12w m s sf) 1000 (.region x12_17) (mkT [12, 9, 8, 0] [pAt 92, .int .i64 o, .int .i64 n, .int .u64 x]) (mkH (m.HA 90 91 92)) 130 ⟨[14, 15], [.tmp 14, .id 132, .id 90, .id 91, .id 92], [12, 9, 8, 0], []⟩ ⟨[], [], [], []⟩ ⟨[], [], [], []⟩ =
    bif decP ([pAt 92, .slice none 0 0, .int .i64 3] = [pAt 92, .slice none 0 0, .int .i64 3] /\ Has (mkH (m.HA 90 91 92)) (m.HA 90 91 92) /\ AtN 27 [pAt 92, .slice none 0 0, .int .i64 3] (m.HA 90 91 92) (.tuple ⟨[resV24 s.m (vOa 131 false 0) (3 : Nat) s.mark, vOa 132 true 3]⟩) (upd27g 90 91 92 s.m false true 0 s.of 3 sf (3 : Nat) s.mark) 130 3) && true && true then
      some ⟨⟨[some (true, pAt 133), some (true, vOa 132 true 3)], [(133, some (r12 s.m.st s.m.cd s.mark)), (132, some (seB 3 sf)), (90, some s.m.memB), (91, some s.m.kn.blk), (92, some (s.m.mAt 90 91))], .normal, 134⟩, none⟩ else none := by kernel_rfl
theorem p12_18 (k : Int) (hk : kk12 k) : walk (lookF FL) (scOf [con36]) 1000 (.region x12_18) (mkT [14, 15, 12, 9, 8, 0] [pAt 62, vOa 63 true 3, pAt 92, .int .i64 o, .int .i64 (nK k), .int .u64 x]) (mkH ([(62, r12 st cd mk), (63, seB 3 (rw3 (nK k) o))] ++ m.HA 90 91 92)) 130 ⟨[16], [], [14, 15, 12, 9, 8, 0], [62, 63, 90, 91, 92]⟩ ⟨[], [], [], []⟩ ⟨[], [], [], []⟩ =
    some ⟨⟨[some (true, .int .u64 (narF (8 * nK k) true x))], [], .normal, 130⟩, none⟩ := by
  rcases hk with rfl | rfl | rfl <;> kernel_rfl
def q12c23 (a b c : Bool) : Bool := (((!bif bif bif a then true else b then true else false then true else !c) || bif bif bif a then true else b then true else false then true else !c) && true || false) && (((!bif bif bif a then true else b then true else false then true else !c) && ((!bif bif bif a then true else b then true else false then true else !c) && true) || !!bif bif bif a then true else b then true else false then true else !c) && (((!bif bif bif a then true else b then true else false then true else !c) && ((!bif bif bif a then true else b then true else false then true else !c) && true) || !!bif bif bif a then true else b then true else false then true else !c) && (((!bif bif bif a then true else b then true else false then true else !c) && true || !!bif bif bif a then true else b then true else false then true else !c) && (((!bif bif bif a then true else b then true else false then true else !c) && true || !!bif bif bif a then true else b then true else false then true else !c) && (((!bif bif bif a then true else b then true else false then true else !c) && true || !!bif bif bif a then true else b then true else false then true else !c) && ((((!bif bif a then true else b then true else false) || bif bif a then true else b then true else false) && true || false) && (((!bif bif a then true else b then true else false) && ((!bif bif a then true else b then true else false) && true) || !!bif bif a then true else b then true else false) && (((!bif bif a then true else b then true else false) && ((!bif bif a then true else b then true else false) && true) || !!bif bif a then true else b then true else false) && (((!bif bif a then true else b then true else false) && true || !!bif bif a then true else b then true else false) && (((!bif bif a then true else b then true else false) && true || !!bif bif a then true else b then true else false) && (((!bif bif a then true else b then true else false) && true || !!bif bif a then true else b then true else false) && ((((!bif a then true else b) || bif a then true else b) && true || false) && (((!bif a then true else b) && true || !!bif a then true else b) && (((!bif a then true else b) && true || !!bif a then true else b) && (((!a || a) && true || false) && ((!a && (!a && true) || !!a) && ((!a && true || !!a) && ((!a && true && true || !!a) && true))))))))))))))))))
def q12v23 (a b c : Bool) : Bool := bif bif bif bif a then true else b then true else false then true else !c then true else !c
theorem p12_23 : walk (lookF FL) noSc 1000 x12_23 (mkT [16, 14, 15, 12, 9, 8, 0] [.int .u64 v6, pAt 62, vOa 63 true 3, pAt 92, .int .i64 o, .int .i64 n, .int .u64 x]) (mkH ([(62, r12 st cd mk), (63, seB 3 (rw3 n o))] ++ (m256 m v6 v7).HA 90 91 92)) 130 ⟨[], [], [12, 9, 8, 0], [90, 91, 92]⟩ ⟨[6], [], [], []⟩ ⟨[], [], [], []⟩ =
    bif q12c23 (v6 != v6) (v7 != bits2 .and .u64 x 255) (o == IntKind.u64.wrap o && (n == n && true)) then bif q12v23 (v6 != v6) (v7 != bits2 .and .u64 x 255) (o == IntKind.u64.wrap o && (n == n && true)) then some ⟨⟨[some (true, .bool false)], [], .ret, 130⟩, none⟩ else some ⟨⟨[], [], .normal, 130⟩, none⟩ else none := by kernel_rfl
theorem p12_24 : walk (lookF FL) noSc 1000 (.region x12_24) (mkT [12, 9, 8, 0] [pAt 92, .int .i64 o, .int .i64 n, .int .u64 x]) (mkH ((m256 m v6 v7).HA 90 91 92)) 130 ⟨[18, 19], [.tmp 18], [9, 8, 0], []⟩ ⟨[], [], [], []⟩ ⟨[], [], [], []⟩ =
    some ⟨⟨[some (true, .slice (some ⟨131, 0, none⟩) 128 128), some (true, .int .i64 0)], [(131, some (.rows 128 1 (rowCat (fun j => slab [] (j * 1) 1) 0 0 (fun j => [.int .u8 (m.mem (64 + j))])) true false))], .normal, 132⟩, none⟩ := by kernel_rfl
theorem p12_59 : walk (lookF FL) noSc 1000 x12_59 (mkT [18, 19, 9, 8, 0] [.slice (some ⟨65, 0, none⟩) 128 128, .int .i64 0, .int .i64 o, .int .i64 n, .int .u64 x]) (mkH [(65, b12 g)]) 130 ⟨[], [], [], []⟩ ⟨[], [], [], []⟩ ⟨[129, 128, 127], [.id 65], [9, 8, 0], []⟩ =
    some ⟨⟨[some (true, .int .i64 ((0 : Nat) : Int)), some (true, .int .i64 128), some (true, .slice (some ⟨65, 0, none⟩) 128 128)], [(65, some (b12 g))], .normal, 130⟩, some (x12_52, [.bl 0, .sq x12_57])⟩ := by kernel_rfl
def t12 (b : Bool) : Bool := ((!b || b) && true || false) && ((!b && (!b && true) || !!b) && ((!b && (!b && true) || !!b) && ((!b && true || !!b) && true)))
theorem p12_52 : walk (lookF FL) noSc 1000 x12_52 (mkT [129, 128, 127, 9, 8, 0] [.int .i64 (i : Int), .int .i64 128, .slice (some ⟨65, 0, none⟩) 128 128, .int .i64 o, .int .i64 n, .int .u64 x]) (mkH [(65, b12 g)]) 130 ⟨[129], [.id 65], [128, 127, 9, 8, 0], []⟩ ⟨[6], [], [], []⟩ ⟨[], [], [], []⟩ =
    bif decide ((i : Int) < 128) then bif ((0 + i).blt 128 && true || false) && ((intRange (i : Int) 128 && true || false) && true) then bif t12 (decide (IntKind.i64.wrap ((i : Int) + 64) < o)) then
      bif bif decide (IntKind.i64.wrap ((i : Int) + 64) < o) then true else decide (IntKind.i64.wrap ((i : Int) + 64) >= IntKind.i64.wrap (o + n)) then
        bif g (0 + i) != 0 then some ⟨⟨[some (true, .bool false)], [], .ret, 130⟩, none⟩ else some ⟨⟨[some (true, .int .i64 (IntKind.i64.wrap ((i : Int) + 1)))], [(65, some (b12 g))], .normal, 130⟩, none⟩
      else bif (decide (0 <= IntKind.i64.wrap (8 * IntKind.i64.wrap (IntKind.i64.wrap ((i : Int) + 64) - o))) && true || false) && true then
        bif g (0 + i) != IntKind.u8.wrap (x.fdiv (2 ^ min (IntKind.i64.wrap (8 * IntKind.i64.wrap (IntKind.i64.wrap ((i : Int) + 64) - o))).toNat 64)) then some ⟨⟨[some (true, .bool false)], [], .ret, 130⟩, none⟩ else some ⟨⟨[some (true, .int .i64 (IntKind.i64.wrap ((i : Int) + 1)))], [(65, some (b12 g))], .normal, 130⟩, none⟩ else none
      else none else none
    else some ⟨⟨[some (true, .int .i64 (i : Int))], [(65, some (b12 g))], .exit 0, 130⟩, none⟩ := by kernel_rfl
theorem p12_57 : walk (lookF FL) noSc 1000 x12_57 (mkT [] []) (mkH [(65, b12 g)]) 130 ⟨[], [], [], []⟩ ⟨[6], [], [], []⟩ ⟨[], [], [], []⟩ = some ⟨⟨[some (true, .bool true)], [], .ret, 130⟩, none⟩ := by kernel_rfl
end
end Go.X
namespace Go.X
open Go Go.Proofs
theorem u64w (a : Int) : IntKind.u64.wrap a = a % 18446744073709551616 := by simp [IntKind.wrap, IntKind.bits, IntKind.signed]
theorem u8w (a : Int) : IntKind.u8.wrap a = a % 256 := by simp [IntKind.wrap, IntKind.bits, IntKind.signed]
theorem bv64 (x : Nat) (h : x < 18446744073709551616) : (BitVec.ofInt 64 (x : Int)).toNat = x := by
  rw [BitVec.toNat_ofInt]; omega
theorem or_add {a b : Int} (n : Nat) (ha0 : 0 <= a) (ha : a < 2 ^ n) (hb0 : 0 <= b) (hb : b < 18446744073709551616) (hm : b % 2 ^ n = 0) (han : a < 18446744073709551616) (hs : a + b < 18446744073709551616) : bits2 .or .u64 a b = a + b := by
  obtain ⟨a, rfl⟩ : ∃ k : Nat, a = k := ⟨a.toNat, by omega⟩
  obtain ⟨b, rfl⟩ : ∃ k : Nat, b = k := ⟨b.toNat, by omega⟩
  show IntKind.u64.wrap (BitVec.ofInt 64 (a : Int) ||| BitVec.ofInt 64 (b : Int)).toNat = _
  rw [BitVec.toNat_or, bv64 a (by omega), bv64 b (by omega), u64w]
  have ha' : a < 2 ^ n := by exact_mod_cast ha
  have hm' : b % 2 ^ n = 0 := by exact_mod_cast hm
  obtain ⟨q, rfl⟩ : ∃ q, b = 2 ^ n * q := ⟨b / 2 ^ n, by rw [Nat.mul_div_cancel' (Nat.dvd_of_mod_eq_zero hm')]⟩
  rw [Nat.or_comm, <- Nat.two_pow_add_eq_or_of_lt ha' q]
  omega
theorem and255 {x : Int} (h0 : 0 <= x) (h1 : x < 18446744073709551616) : bits2 .and .u64 x 255 = x % 256 := by
  obtain ⟨x, rfl⟩ : ∃ k : Nat, x = k := ⟨x.toNat, by omega⟩
  show IntKind.u64.wrap (BitVec.ofInt 64 (x : Int) &&& BitVec.ofInt 64 ((255 : Nat) : Int)).toNat = _
  rw [BitVec.toNat_and, bv64 x (by omega), bv64 255 (by omega), u64w, show (255 : Nat) = 2 ^ 8 - 1 from rfl, Nat.and_two_pow_sub_one_eq_mod]
  omega
theorem pow2_64 (k : Nat) (h : k < 8) : (2 : Int) ^ min (IntKind.i64.wrap (8 * (k : Int))).toNat 64 = 2 ^ (8 * k) := by
  rw [wrap_i (by omega) (by omega), show min (8 * (k : Int)).toNat 64 = 8 * k by omega]
theorem byteX_val {x : Int} (h0 : 0 <= x) (k : Nat) (h : k < 8) : byteX x k = x / 2 ^ (8 * k) % 256 := by
  unfold byteX
  rw [pow2_64 k h, u8w, Int.fdiv_eq_ediv_of_nonneg _ (Int.le_of_lt (Int.pow_pos (by decide)))]
theorem num1_val {x : Int} (h0 : 0 <= x) {f : Nat -> Int} {i : Nat} (h : f (i + 0) = byteX x 0) : num1 f i = x % 256 := by
  unfold num1
  rw [h, byteX_val h0 0 (by omega), u64w, u64w]
  rw [or_add 0 (by omega) (by decide) (by omega) (by omega) (by omega) (by omega) (by omega)]
  omega
theorem num4_val {x : Int} (h0 : 0 <= x) (h1 : x < 18446744073709551616) {f : Nat -> Int} {i : Nat} (h : ∀ j, j < 4 -> f (i + j) = byteX x j) : num4 f i = x % 4294967296 := by
  unfold num4
  rw [h 0 (by omega), h 1 (by omega), h 2 (by omega), h 3 (by omega), byteX_val h0 0 (by omega), byteX_val h0 1 (by omega), byteX_val h0 2 (by omega), byteX_val h0 3 (by omega)]
  simp only [u64w, Nat.mul_zero, Nat.mul_one, Int.reducePow, Nat.reduceMul]
  rw [show bits2 .or .u64 0 (x / 1 % 256 % 18446744073709551616 * 1 % 18446744073709551616) = (x % 256) by rw [or_add 0 (by omega) (by omega) (by omega) (by omega) (by omega) (by omega) (by omega)]; omega]
  rw [show bits2 .or .u64 (x % 256) (x / 256 % 256 % 18446744073709551616 * 256 % 18446744073709551616) = (x % 65536) by rw [or_add 8 (by omega) (by omega) (by omega) (by omega) (by omega) (by omega) (by omega)]; omega]
  rw [show bits2 .or .u64 (x % 65536) (x / 65536 % 256 % 18446744073709551616 * 65536 % 18446744073709551616) = (x % 16777216) by rw [or_add 16 (by omega) (by omega) (by omega) (by omega) (by omega) (by omega) (by omega)]; omega]
  rw [show bits2 .or .u64 (x % 16777216) (x / 16777216 % 256 % 18446744073709551616 * 16777216 % 18446744073709551616) = (x % 4294967296) by rw [or_add 24 (by omega) (by omega) (by omega) (by omega) (by omega) (by omega) (by omega)]; omega]
theorem num8_val {x : Int} (h0 : 0 <= x) (h1 : x < 18446744073709551616) {f : Nat -> Int} {i : Nat} (h : ∀ j, j < 8 -> f (i + j) = byteX x j) : num8 f i = x := by
  unfold num8
  rw [num4_val h0 h1 fun j hj => h j (by omega), h 4 (by omega), h 5 (by omega), h 6 (by omega), h 7 (by omega), byteX_val h0 4 (by omega), byteX_val h0 5 (by omega), byteX_val h0 6 (by omega), byteX_val h0 7 (by omega)]
  simp only [u64w, Int.reducePow, Nat.reduceMul]
  rw [show bits2 .or .u64 (x % 4294967296) (x / 4294967296 % 256 % 18446744073709551616 * 4294967296 % 18446744073709551616) = (x % 1099511627776) by rw [or_add 32 (by omega) (by omega) (by omega) (by omega) (by omega) (by omega) (by omega)]; omega]
  rw [show bits2 .or .u64 (x % 1099511627776) (x / 1099511627776 % 256 % 18446744073709551616 * 1099511627776 % 18446744073709551616) = (x % 281474976710656) by rw [or_add 40 (by omega) (by omega) (by omega) (by omega) (by omega) (by omega) (by omega)]; omega]
  rw [show bits2 .or .u64 (x % 281474976710656) (x / 281474976710656 % 256 % 18446744073709551616 * 281474976710656 % 18446744073709551616) = (x % 72057594037927936) by rw [or_add 48 (by omega) (by omega) (by omega) (by omega) (by omega) (by omega) (by omega)]; omega]
  rw [show bits2 .or .u64 (x % 72057594037927936) (x / 72057594037927936 % 256 % 18446744073709551616 * 72057594037927936 % 18446744073709551616) = x by rw [or_add 56 (by omega) (by omega) (by omega) (by omega) (by omega) (by omega) (by omega)]; omega]
end Go.X
namespace Go.X
open Go Go.Proofs
theorem p60_a (x f n : Int) : walk (lookF FL) noSc 1000 x60 (argTm 0 [.int .i64 x, .int .i64 f, .int .i64 n]) [] 100 ⟨[], [], [], []⟩ ⟨[], [], [], []⟩ ⟨[7, 0], [], [1, 2], []⟩ =
    bif decide (x < 0) then some ⟨⟨[some (true, .int .i64 0), some (true, .int .i64 (IntKind.i64.wrap (x + 2097152)))], [], .normal, 100⟩, some (x60_13, [.bl 0, .sq x60_33])⟩ else some ⟨⟨[some (true, .int .i64 0), some (true, .int .i64 x)], [], .normal, 100⟩, some (x60_13, [.bl 0, .sq x60_33])⟩ := by kernel_rfl
theorem p60_b (y f n i : Int) : walk (lookF FL) noSc 1000 x60_13 (mkT [7, 0, 1, 2] [.int .i64 i, .int .i64 y, .int .i64 f, .int .i64 n]) [] 100 ⟨[7, 0], [], [1, 2], []⟩ ⟨[], [], [], []⟩ ⟨[], [], [], []⟩ =
    bif decide (i < f) then some ⟨⟨[some (true, .int .i64 (IntKind.i64.wrap (i + 1))), some (true, .int .i64 (IntKind.i64.wrap (y.tdiv 2)))], [], .normal, 100⟩, none⟩ else some ⟨⟨[some (true, .int .i64 i), some (true, .int .i64 y)], [], .exit 0, 100⟩, none⟩ := by kernel_rfl
theorem p60_c (y n f i : Int) : walk (lookF FL) noSc 1000 x60_33 (mkT [7, 0, 1, 2] [.int .i64 i, .int .i64 y, .int .i64 f, .int .i64 n]) [] 100 ⟨[], [], [], []⟩ ⟨[], [], [], []⟩ ⟨[9, 8], [], [0, 2], []⟩ =
    some ⟨⟨[some (true, .int .i64 0), some (true, .int .i64 1)], [], .normal, 100⟩, some (x60_26, [.bl 2, .sq x60_31])⟩ := by kernel_rfl
theorem p60_d (y n p i : Int) : walk (lookF FL) noSc 1000 x60_26 (mkT [9, 8, 0, 2] [.int .i64 i, .int .i64 p, .int .i64 y, .int .i64 n]) [] 100 ⟨[9, 8], [], [0, 2], []⟩ ⟨[], [], [], []⟩ ⟨[], [], [], []⟩ =
    bif decide (i < n) then some ⟨⟨[some (true, .int .i64 (IntKind.i64.wrap (i + 1))), some (true, .int .i64 (IntKind.i64.wrap (p * 2)))], [], .normal, 100⟩, none⟩ else some ⟨⟨[some (true, .int .i64 i), some (true, .int .i64 p)], [], .exit 2, 100⟩, none⟩ := by kernel_rfl
theorem p60_e (y n p i : Int) : walk (lookF FL) noSc 1000 x60_31 (mkT [9, 8, 0, 2] [.int .i64 i, .int .i64 p, .int .i64 y, .int .i64 n]) [] 100 ⟨[], [], [], []⟩ ⟨[6], [], [], []⟩ ⟨[], [], [], []⟩ =
    bif (!decide (p = 0) && true || false) && true then some ⟨⟨[some (true, .int .i64 (y.tmod p))], [], .ret, 100⟩, none⟩ else none := by kernel_rfl
def bitR (x : Int) (f n : Nat) : Int := (bif decide (x < 0) then x + 2097152 else x) / 2 ^ f % 2 ^ n
def rng60 (x : Int) (f n : Nat) : Bool := decide (-2097152 <= x) && (decide (x < 4611686018427387904) && (decide (f <= 60) && decide (n <= 60)))
theorem p2le {n : Nat} (h : n <= 61) : (2 : Int) ^ n <= 2305843009213693952 := by
  have : (2 : Nat) ^ n <= 2 ^ 61 := Nat.pow_le_pow_right (by decide) h
  have : ((2 ^ n : Nat) : Int) <= ((2 ^ 61 : Nat) : Int) := by exact_mod_cast this
  simpa using this
theorem b60 {x : Int} {f n : Nat} (h : rng60 x f n = true) : Body Try.prog 60 [.int .i64 x, .int .i64 (f : Int), .int .i64 (n : Int)] [] (.int .i64 (bitR x f n)) [] 100 0 := by
  simp only [rng60, Bool.and_eq_true, decide_eq_true_eq] at h
  obtain ⟨hx0, hx1, hf, hn⟩ := h
  obtain ⟨y, hy⟩ : ∃ y, y = (bif decide (x < 0) then x + 2097152 else x) := ⟨_, rfl⟩
  have hy0 : 0 <= y /\ y < 4611686018427387904 := by
    rw [hy]
    by_cases h : x < 0
    · rw [decide_eq_true h, cond_true]; omega
    · rw [decide_eq_false h, cond_false]; omega
  refine body_of' mixed fx60 (by simp) fun E Q hP hE hcl hfin => ?_
  have hF : FnsOK E.P (lookF FL) noSc := hP ▸ FOK
  have ea := p60_a x (f : Int) (n : Int)
  have ea' : walk (lookF FL) noSc 1000 x60 (argTm 0 [.int .i64 x, .int .i64 (f : Int), .int .i64 (n : Int)]) [] 100 ⟨[], [], [], []⟩ ⟨[], [], [], []⟩ ⟨[7, 0], [], [1, 2], []⟩ = some ⟨⟨[some (true, .int .i64 0), some (true, .int .i64 y)], [], .normal, 100⟩, some (x60_13, [.bl 0, .sq x60_33])⟩ := by
    rw [ea, hy]
    by_cases h : x < 0
    · rw [decide_eq_true h, cond_true, cond_true, wrap_i (by omega) (by omega)]
    · rw [decide_eq_false h]; rfl
  let S : Nat -> St := fun i => ⟨mkT [7, 0, 1, 2] [.int .i64 (i : Int), .int .i64 (y / 2 ^ i), .int .i64 (f : Int), .int .i64 (n : Int)], mkH [], 100⟩
  refine xwp_toLoop (s := ⟨_, _, _⟩) hF 1000 ea' (S 0) ⟨_, _, _, rfl, by rw [hE]; rfl, by rw [hE]; exact ⟨rfl, by rw [Int.pow_zero, Int.ediv_one]; rfl, rfl, rfl, trivial⟩, trivial⟩ ?_
  refine xwp_loopR (ι := Nat) S (fun i => i <= f) (fun i => f - i) 0 (Nat.zero_le _) fun i hi => ?_
  have hcr := cl_round (S := S) (I := fun i => i <= f) (μ := fun i => f - i) (i := i) (cl_ctx hcl [.bl 0, .sq x60_33])
  have e := p60_b (y / 2 ^ i) (f : Int) (n : Int) (i : Int)
  have hd : 0 <= y / 2 ^ i /\ y / 2 ^ i <= y := ⟨Int.ediv_nonneg hy0.1 (Int.le_of_lt (Int.pow_pos (by decide))), Int.ediv_le_self _ hy0.1⟩
  by_cases hlt : i < f
  · rw [decide_eq_true (show (i : Int) < f by omega), cond_true, wrap_i (n := (i : Int) + 1) (by omega) (by omega), Int.tdiv_eq_ediv_of_nonneg hd.1, wrap_i (n := y / 2 ^ i / 2) (by omega) (by omega)] at e
    exact xwp_toEnd (s := S i) hcr hF 1000 e (S (i + 1)) ⟨_, _, _, rfl, by rw [hE]; rfl, by rw [hE]; exact ⟨rfl, by rw [Int.ediv_ediv_of_nonneg (by exact Int.le_of_lt (Int.pow_pos (by decide))), <- Int.pow_succ]; rfl, rfl, rfl, trivial⟩, trivial⟩ ⟨i + 1, hlt, by simp only; omega, Wk.refl _ _⟩
  · have : i = f := by omega
    subst this
    rw [decide_eq_false (show ¬ (i : Int) < i by omega), cond_false] at e
    refine xwp_toEnd (s := S i) hcr hF 1000 e (S i) ⟨_, _, _, rfl, by rw [hE]; rfl, by rw [hE]; exact ⟨rfl, rfl, rfl, rfl, trivial⟩, trivial⟩ ?_
    show XWP E.toEnv x60_33 Q (S i)
    let T : Nat -> St := fun j => ⟨mkT [9, 8, 0, 2] [.int .i64 (j : Int), .int .i64 (2 ^ j), .int .i64 (y / 2 ^ i), .int .i64 (n : Int)], mkH [], 100⟩
    refine xwp_toLoop (s := S i) hF 1000 (p60_c (y / 2 ^ i) (n : Int) (i : Int) (i : Int)) (T 0) ⟨_, _, _, rfl, by rw [hE]; rfl, by rw [hE]; exact ⟨rfl, rfl, rfl, rfl, trivial⟩, trivial⟩ ?_
    refine xwp_loopR (ι := Nat) T (fun j => j <= n) (fun j => n - j) 0 (Nat.zero_le _) fun j hj => ?_
    have hcr := cl_round (S := T) (I := fun j => j <= n) (μ := fun j => n - j) (i := j) (cl_ctx hcl [.bl 2, .sq x60_31])
    have e := p60_d (y / 2 ^ i) (n : Int) (2 ^ j) (j : Int)
    have hp : (0 : Int) < 2 ^ j := Int.pow_pos (by decide)
    by_cases hlt : j < n
    · have l1 := p2le (n := j + 1) (by omega)
      rw [decide_eq_true (show (j : Int) < n by omega), cond_true, wrap_i (n := (j : Int) + 1) (by omega) (by omega), <- Int.pow_succ, wrap_i (n := (2 : Int) ^ (j + 1)) (by have : (0 : Int) < 2 ^ (j + 1) := Int.pow_pos (by decide); omega) (by omega)] at e
      exact xwp_toEnd (s := T j) hcr hF 1000 e (T (j + 1)) ⟨_, _, _, rfl, by rw [hE]; rfl, by rw [hE]; exact ⟨rfl, rfl, rfl, rfl, trivial⟩, trivial⟩ ⟨j + 1, hlt, by simp only; omega, Wk.refl _ _⟩
    · have : j = n := by omega
      subst this
      rw [decide_eq_false (show ¬ (j : Int) < j by omega), cond_false] at e
      refine xwp_toEnd (s := T j) hcr hF 1000 e (T j) ⟨_, _, _, rfl, by rw [hE]; rfl, by rw [hE]; exact ⟨rfl, rfl, rfl, rfl, trivial⟩, trivial⟩ ?_
      show XWP E.toEnv x60_31 Q (T j)
      have e2 := p60_e (y / 2 ^ i) (j : Int) (2 ^ j) (j : Int)
      rw [decide_eq_false (show ¬ (2 : Int) ^ j = 0 by omega), Int.tmod_eq_emod_of_nonneg hd.1] at e2
      refine xwp_toEnd (s := T j) hcl hF 1000 e2 ⟨mkT [6] [.int .i64 (bitR x i j)], mkH [], 100⟩ ⟨_, _, _, rfl, by rw [hE]; rfl, by rw [hE]; exact ⟨by unfold bitR; rw [<- hy]; rfl, trivial⟩, trivial⟩ (hfin _ _ (fin_of rfl trivial (by rw [hE]) rfl))
theorem c60 {x : Int} {f n : Nat} (h : rng60 x f n = true) (k : Nat) : ADet Try.prog 60 [.int .i64 x, .int .i64 (f : Int), .int .i64 (n : Int)] [] (.int .i64 (bitR x f n)) [] k 0 :=
  adet_of_body (b60 h) [] [] rfl rfl trivial rfl rfl trivial rfl
def con60 : Con Try.prog where
  f := 60
  run := fun vs h n => match vs with
    | [.int .i64 x, .int .i64 (.ofNat f), .int .i64 (.ofNat k)] => some ([], .int .i64 (bitR x f k), [], 0, rng60 x f k)
    | _ => none
  ok := fun vs h n pre v upd news hx => by
    split at hx
    · simp only [Option.some.injEq, Prod.mk.injEq] at hx
      obtain ⟨rfl, rfl, rfl, rfl, hA⟩ := hx
      exact ⟨fun id hid => by simp [fstL] at hid, c60 hA n⟩
    · cases hx
end Go.X
namespace Go.X
open Go Go.Proofs
def rowR (F o f3 f7 : Int) : Value := .agg ⟨[.int .u8 F, .int .i64 o, .int .i64 f3, .int .i64 f7]⟩
def rowRB (F o f3 f7 : Int) : Blk := .var [.int .u8 F, .int .i64 o, .int .i64 f3, .int .i64 f7]
def At58 (op F o f3 f7 : Int) : Prop := ∀ n, ADet Try.prog 58 [.int .i64 op] [] (rowR F o f3 f7) (mkH [(n, rowRB F o f3 f7)]) n 1
noncomputable def con58 (op F o f3 f7 : Int) : Con Try.prog where
  f := 58
  run := fun vs h n => some ([], rowR F o f3 f7, mkH [(n, rowRB F o f3 f7)], 1, decP (vs = [.int .i64 op] /\ At58 op F o f3 f7))
  ok := fun vs h n pre v upd news hx => by
    simp only [Option.some.injEq, Prod.mk.injEq] at hx
    obtain ⟨h1, h2, h3, h4, hA⟩ := hx
    subst h1; subst h2; subst h3; subst h4
    have hB := of_decP hA
    refine ⟨fun id hid => by simp [fstL] at hid, ?_⟩
    rw [hB.1]; exact hB.2 n
noncomputable abbrev sc47 (op F o f3 f7 : Int) : Short := scOf [con58 op F o f3 f7, con60]
def W58 (k : Nat) (op F o f3 f7 : Int) : Prop := walk (lookF FL) noSc 1000 x58 (argTm 0 [.int .i64 op]) (mkH []) 100 ⟨[], [], [], []⟩ ⟨[2], [.tmp 2], [], []⟩ ⟨[], [], [], []⟩ = some ⟨⟨[some (true, .pointer (some ⟨100, 0, some 0⟩))], [(100, some (rowRB F o f3 f7))], .ret, k⟩, none⟩
theorem at58 {op F o f3 f7 : Int} {k : Nat} (h : W58 k op F o f3 f7) : At58 op F o f3 f7 := by
  have hb : Body Try.prog 58 [.int .i64 op] (mkH []) (rowR F o f3 f7) (mkH [(100, rowRB F o f3 f7)]) 100 1 :=
    body_walk FOK fx58 (by simp) h rfl ⟨mkT [2] [.pointer (some ⟨100, 0, some 0⟩)], mkH [(100, rowRB F o f3 f7)], 101⟩ (fun ρ w hd => ⟨_, _, _, rfl, rfl, ⟨rfl, trivial⟩, rfl, trivial⟩) ⟨rfl, trivial⟩ rfl rfl
  intro n
  have bn := beq_tt n
  refine adet_of_body hb [] [(n, 100)] ?_ rfl trivial rfl rfl ?_ ?_
  · show ((true && ((Nat.ble n n && Nat.blt n (n + 1)) && true)) && true && true) = true
    simp [lt_blt]
  · simp only [mkH, List.cons_append, List.nil_append, HsOK, natMem, asc, bn, cond_true]
    exact ⟨rfl, trivial⟩
  · simp only [mkH, List.cons_append, List.nil_append, namesOf, natMem, asc, bn, cond_true]; rfl

end Go.X
