import Derived.Test.YtnekegldodbgjaaG42
import Derived.Test.YtnekegldodbgjaaG18
set_option linter.all false
namespace Go.X
open Go Go.Proofs
def resA (st cd : Int) (v : Value) (n mk : Int) : Value := .agg ⟨[.int .i64 st, .int .u8 cd, .int .i64 0, v, .int .i64 n, .int .i64 mk]⟩
def exO (a : Nat) (bo : Bool) (b : Blk) : List (Nat × Blk) := bif bo then [(a, b)] else []
def exKo (a : Nat) (bo : Bool) : List Nat := bif bo then [a] else []
def seQ (f : Nat -> List Value) : Nat -> List Value := fun j => [.int .u64 (asI ((f j).getD 0 undefd)), .int .u64 (asI ((f j).getD 1 undefd)), .int .i64 (asI ((f j).getD 2 undefd)), .bool (asB ((f j).getD 3 undefd))]
def strO (oN : Nat) (of : Nat -> Int) : List UInt8 := (ByteArray.mk (List.map (fun j => u8Of [Value.int IntKind.u8 (of (0 + j))]) (List.range oN)).toArray).toList
def okO (oN : Nat) (of : Nat -> Int) : Bool := (0 + oN).ble oN && true && (List.range oN).all fun j => isU8 [Value.int IntKind.u8 (of (0 + j))]
theorem okO_true (oN : Nat) (of : Nat -> Int) : okO oN of = true := by
  unfold okO
  rw [Nat.zero_add, show oN.ble oN = true by simp, show ((List.range oN).all fun j => isU8 [Value.int IntKind.u8 (of (0 + j))]) = true from List.all_eq_true.2 fun _ _ => rfl]; rfl
theorem strO_congr {oN : Nat} {of of2 : Nat -> Int} (h : ∀ j, j < oN -> of j = of2 j) : strO oN of = strO oN of2 := by
  unfold strO
  have : List.map (fun j => u8Of [Value.int IntKind.u8 (of (0 + j))]) (List.range oN) = List.map (fun j => u8Of [Value.int IntKind.u8 (of2 (0 + j))]) (List.range oN) := List.map_congr_left fun j hj => by rw [Nat.zero_add, h j (List.mem_range.1 hj)]
  rw [this]
def c28t (a b c d e u w : Bool) : Bool := (((bif bif bif bif a then b else false then true else false then c else false then d else false) || !bif bif bif bif a then b else false then true else false then c else false then d else false) && true || false) && (((bif bif bif bif a then b else false then true else false then c else false then d else false) && ((bif bif bif bif a then b else false then true else false then c else false then d else false) && true) || !bif bif bif bif a then b else false then true else false then c else false then d else false) && (((bif bif bif bif a then b else false then true else false then c else false then d else false) && true || !bif bif bif bif a then b else false then true else false then c else false then d else false) && (((bif bif bif bif a then b else false then true else false then c else false then d else false) && true || !bif bif bif bif a then b else false then true else false then c else false then d else false) && ((((bif bif bif a then b else false then true else false then c else false) || !bif bif bif a then b else false then true else false then c else false) && true || false) && (((bif bif bif a then b else false then true else false then c else false) && ((bif bif bif a then b else false then true else false then c else false) && true) || !bif bif bif a then b else false then true else false then c else false) && (((bif bif bif a then b else false then true else false then c else false) && true || !bif bif bif a then b else false then true else false then c else false) && (((bif bif bif a then b else false then true else false then c else false) && true || !bif bif bif a then b else false then true else false then c else false) && ((((bif bif a then b else false then true else false) || !bif bif a then b else false then true else false) && true || false) && (((bif bif a then b else false then true else false) && ((bif bif a then b else false then true else false) && true) || !bif bif a then b else false then true else false) && ((w && ((bif bif a then b else false then true else false) && true) || !bif bif a then b else false then true else false) && (((bif bif a then b else false then true else false) && true || !bif bif a then b else false then true else false) && ((u && ((bif bif a then b else false then true else false) && true) || !bif bif a then b else false then true else false) && (((bif bif a then b else false then true else false) && true || !bif bif a then b else false then true else false) && ((((bif a then b else false) || !bif a then b else false) && true || false) && (((bif a then b else false) && ((bif a then b else false) && true) || !bif a then b else false) && (((bif a then b else false) && true || !bif a then b else false) && (((bif a then b else false) && true || !bif a then b else false) && (((a || !a) && true || false) && ((a && (a && true) || !a) && ((a && true || !a) && ((a && true || !a) && true)))))))))))))))))))))
def v28t (a b c d e : Bool) : Bool := (bif bif bif bif bif a then b else false then true else false then c else false then d else false then e else false)
def c28f (a b d e : Bool) : Bool := (((bif bif bif bif a then b else false then true else false then true else false then d else false) || !bif bif bif bif a then b else false then true else false then true else false then d else false) && true || false) && (((bif bif bif bif a then b else false then true else false then true else false then d else false) && ((bif bif bif bif a then b else false then true else false then true else false then d else false) && true) || !bif bif bif bif a then b else false then true else false then true else false then d else false) && (((bif bif bif bif a then b else false then true else false then true else false then d else false) && true || !bif bif bif bif a then b else false then true else false then true else false then d else false) && (((bif bif bif bif a then b else false then true else false then true else false then d else false) && true || !bif bif bif bif a then b else false then true else false then true else false then d else false) && ((((bif bif bif a then b else false then true else false then true else false) || !bif bif bif a then b else false then true else false then true else false) && true || false) && (((bif bif bif a then b else false then true else false then true else false) && ((bif bif bif a then b else false then true else false then true else false) && true) || !bif bif bif a then b else false then true else false then true else false) && (((bif bif bif a then b else false then true else false then true else false) && true || !bif bif bif a then b else false then true else false then true else false) && (((bif bif bif a then b else false then true else false then true else false) && true || !bif bif bif a then b else false then true else false then true else false) && ((((bif bif a then b else false then true else false) || !bif bif a then b else false then true else false) && true || false) && (((bif bif a then b else false then true else false) && ((bif bif a then b else false then true else false) && true) || !bif bif a then b else false then true else false) && (((bif bif a then b else false then true else false) && true || !bif bif a then b else false then true else false) && (((bif bif a then b else false then true else false) && true || !bif bif a then b else false then true else false) && (((bif bif a then b else false then true else false) && true || !bif bif a then b else false then true else false) && (((bif bif a then b else false then true else false) && true || !bif bif a then b else false then true else false) && ((((bif a then b else false) || !bif a then b else false) && true || false) && (((bif a then b else false) && ((bif a then b else false) && true) || !bif a then b else false) && (((bif a then b else false) && true || !bif a then b else false) && (((bif a then b else false) && true || !bif a then b else false) && (((a || !a) && true || false) && ((a && (a && true) || !a) && ((a && true || !a) && ((a && true || !a) && true)))))))))))))))))))))
def v28f (a b d e : Bool) : Bool := (bif bif bif bif bif a then b else false then true else false then true else false then d else false then e else false)
section
variable (st cd n mk : Int) (oN oN2 : Nat) (of of2 : Nat -> Int)
theorem p28t : walk (lookF FL) noSc 1000 x28 (argTm 0 [resA st cd (vOa 40 true oN) n mk, resA st cd (vOa 41 true oN2) n mk]) (mkH (exO 40 true (outB oN of) ++ exO 41 true (outB oN2 of2))) 100 ⟨[], [], [], []⟩ ⟨[4], [], [], [40, 41]⟩ ⟨[], [], [], []⟩ =
    bif c28t (st == st) (cd == cd) (strO oN of == strO oN2 of2) (n == n) (mk == mk) (okO oN of) (okO oN2 of2) then some ⟨⟨[some (true, .bool (v28t (st == st) (cd == cd) (strO oN of == strO oN2 of2) (n == n) (mk == mk)))], [], .ret, 102⟩, none⟩ else none := by kernel_rfl
theorem p28f : walk (lookF FL) noSc 1000 x28 (argTm 0 [resA st cd (vOa 40 false oN) n mk, resA st cd (vOa 41 false oN2) n mk]) (mkH []) 100 ⟨[], [], [], []⟩ ⟨[4], [], [], []⟩ ⟨[], [], [], []⟩ =
    bif c28f (st == st) (cd == cd) (n == n) (mk == mk) then some ⟨⟨[some (true, .bool (v28f (st == st) (cd == cd) (n == n) (mk == mk)))], [], .ret, 102⟩, none⟩ else none := by kernel_rfl
end
theorem b28 {bo : Bool} {st cd n mk : Int} {oN : Nat} {of of2 : Nat -> Int} (h : ∀ j, j < oN -> of j = of2 j) : Body Try.prog 28 [resA st cd (vOa 40 bo oN) n mk, resA st cd (vOa 41 bo oN) n mk] (mkH (exO 40 bo (outB oN of) ++ exO 41 bo (outB oN of2))) (.bool true) [] 100 0 := by
  have e1 : (st == st) = true := by simp
  have e2 : (cd == cd) = true := by simp
  have e3 : (n == n) = true := by simp
  have e4 : (mk == mk) = true := by simp
  have e5 : (strO oN of == strO oN of2) = true := by rw [strO_congr h]; simp
  cases bo with
  | true =>
    have e := p28t st cd n mk oN oN of of2
    rw [e1, e2, e3, e4, e5, okO_true, okO_true] at e
    exact body_walk FOK fx28 (by simp) e rfl ⟨mkT [4] [.bool true], mkH [(40, outB oN of), (41, outB oN of2)], 100⟩ (fun ρ w hd => ⟨_, _, _, rfl, rfl, ⟨rfl, trivial⟩, bis_outB, bis_outB, trivial⟩) ⟨rfl, rfl, trivial⟩ rfl rfl
  | false =>
    have e := p28f st cd n mk oN oN
    rw [e1, e2, e3, e4] at e
    exact body_walk FOK fx28 (by simp) e rfl ⟨mkT [4] [.bool true], mkH [], 100⟩ (fun ρ w hd => ⟨_, _, _, rfl, rfl, ⟨rfl, trivial⟩, trivial⟩) trivial rfl rfl
section
variable (l k : Nat) (f g : Nat -> List Value)
theorem p29_a : walk (lookF FL) noSc 1000 x29 (argTm 0 [newS 40 l, newS 41 l]) (mkH [(40, seB l (seQ f)), (41, seB l (seQ g))]) 100 ⟨[], [], [], []⟩ ⟨[4], [], [], [40, 41]⟩ ⟨[13, 12], [], [0, 1], [40, 41]⟩ =
    bif (l : Int) != (l : Int) then some ⟨⟨[some (true, .bool false)], [], .ret, 100⟩, none⟩ else some ⟨⟨[some (true, .int .i64 ((0 : Nat) : Int)), some (true, .int .i64 (l : Int))], [], .normal, 100⟩, some (x29_20, [.bl 0, .sq x29_25])⟩ := by kernel_rfl
def rowEq (r r' : List Value) : Bool := asI (r.getD 0 undefd) == asI (r'.getD 0 undefd) && (asI (r.getD 1 undefd) == asI (r'.getD 1 undefd) && (asI (r.getD 2 undefd) == asI (r'.getD 2 undefd) && (asB (r.getD 3 undefd) == asB (r'.getD 3 undefd) && true)))
theorem p29_b : walk (lookF FL) noSc 1000 x29_20 (mkT [13, 12, 0, 1] [.int .i64 (k : Int), .int .i64 (l : Int), newS 40 l, newS 41 l]) (mkH [(40, seB l (seQ f)), (41, seB l (seQ g))]) 101 ⟨[13], [], [12, 0, 1], [40, 41]⟩ ⟨[4], [], [], [40, 41]⟩ ⟨[], [], [], []⟩ =
    bif decide ((k : Int) < (l : Int)) then bif ((0 + k).blt l && true || false) && ((intRange (k : Int) l && true || false) && (((0 + k).blt l && true || false) && ((intRange (k : Int) l && true || false) && true))) then
      bif !rowEq (f (0 + k)) (g (0 + k)) then some ⟨⟨[some (true, .bool false)], [], .ret, 101⟩, none⟩ else some ⟨⟨[some (true, .int .i64 (IntKind.i64.wrap ((k : Int) + 1)))], [], .normal, 101⟩, none⟩ else none
    else some ⟨⟨[some (true, .int .i64 (k : Int))], [], .exit 0, 101⟩, none⟩ := by kernel_rfl
theorem p29_e : walk (lookF FL) noSc 1000 x29_25 (mkT [13, 12, 0, 1] [.int .i64 (k : Int), .int .i64 (l : Int), newS 40 l, newS 41 l]) (mkH [(40, seB l (seQ f)), (41, seB l (seQ g))]) 101 ⟨[], [], [], []⟩ ⟨[4], [], [], [40, 41]⟩ ⟨[], [], [], []⟩ =
    some ⟨⟨[some (true, .bool true)], [], .ret, 101⟩, none⟩ := by kernel_rfl
end
theorem seQ_ren (f : Nat -> List Value) (σ : Nm) (j : Nat) : rnL σ (seQ f j) = seQ f j := rfl
theorem bis_seQ {P : Program} {σ : Nm} {n : Nat} {f : Nat -> List Value} : BIs P σ (seB n (seQ f)) (seB n (seQ f)) := bis_seB fun j hj => seQ_ren f _ j
theorem b29 {l : Nat} {f g : Nat -> List Value} (hl : l <= 1000000000) (h : ∀ j, j < l -> f j = g j) : Body Try.prog 29 [newS 40 l, newS 41 l] (mkH [(40, seB l (seQ f)), (41, seB l (seQ g))]) (.bool true) [] 100 0 := by
  refine body_of mixed fx29 (by simp) fun ρ w hd => ?_
  let E := envOf Try.prog 26 100 (mkH [(40, seB l (seQ f)), (41, seB l (seQ g))]) mixed ρ w hd
  let S : Nat -> St := fun k => ⟨mkT [13, 12, 0, 1] [.int .i64 (k : Int), .int .i64 (l : Int), newS 40 l, newS 41 l], mkH [(40, seB l (seQ f)), (41, seB l (seQ g))], 101⟩
  have ea := p29_a l f g
  rw [show ((l : Int) != (l : Int)) = false by simp, cond_false] at ea
  refine xwp_toLoop (E := E) (s := ⟨_, _, _⟩) FOK 1000 ea (S 0) ⟨_, _, _, rfl, rfl, ⟨rfl, rfl, rfl, rfl, trivial⟩, bis_seQ, bis_seQ, trivial⟩ ?_
  refine xwp_loopR (ι := Nat) S (fun k => k <= l) (fun k => l - k) 0 (Nat.zero_le _) fun k hk => ?_
  have hcr := cl_round (S := S) (I := fun k => k <= l) (μ := fun k => l - k) (i := k) (cl_ctx (E := E.toEnv) (Q := finP E.toEnv [(4, none)] (mkH [(40, seB l (seQ f)), (41, seB l (seQ g))]) (.bool true) [] 0) cl_fin [.bl 0, .sq x29_25])
  have e := p29_b l k f g
  by_cases hlt : k < l
  · have hir : intRange (k : Int) l = true := by rw [ir_nat, decide_eq_true hlt]
    have hrow : rowEq (f k) (g k) = true := by rw [h k hlt]; simp [rowEq]
    rw [decide_eq_true (show (k : Int) < l by omega), Nat.zero_add, lt_blt hlt, hir, hrow, wrap_i (n := (k : Int) + 1) (by omega) (by omega)] at e
    exact xwp_toEnd (E := E) (s := S k) hcr FOK 1000 e (S (k + 1)) ⟨_, _, _, rfl, rfl, ⟨rfl, rfl, rfl, rfl, trivial⟩, bis_seQ, bis_seQ, trivial⟩ ⟨k + 1, hlt, by simp only; omega, Wk.refl _ _⟩
  · have : k = l := by omega
    subst this
    rw [decide_eq_false (show ¬ (k : Int) < k by omega), cond_false] at e
    refine xwp_toEnd (E := E) (s := S k) hcr FOK 1000 e (S k) ⟨_, _, _, rfl, rfl, ⟨rfl, rfl, rfl, rfl, trivial⟩, bis_seQ, bis_seQ, trivial⟩ ?_
    show XWP E.toEnv x29_25 _ (S k)
    exact xwp_toEnd (E := E) (s := S k) cl_fin FOK 1000 (p29_e k k f g) ⟨mkT [4] [.bool true], mkH [(40, seB k (seQ f)), (41, seB k (seQ g))], 100⟩ ⟨_, _, _, rfl, rfl, ⟨rfl, trivial⟩, bis_seQ, bis_seQ, trivial⟩ (fin_of rfl ⟨rfl, rfl, trivial⟩ rfl rfl)
end Go.X
namespace Go.X
open Go Go.Proofs
def rO (r o : Nat) (bo : Bool) (m : MS) (oN : Nat) (of : Nat -> Int) (n : Nat) (mk : Int) : List (Nat × Blk) := [(r, resB m (vOa o bo oN) n mk)] ++ exO o bo (outB oN of)
def irO (r o : Nat) (bo : Bool) : List Nat := [r] ++ exKo o bo
noncomputable abbrev sc8a (m : MS) (fuel : Int) (s : RSt) (n : Nat) (bo : Bool) : Short := scOf [conAt 24 [pAt 92, .slice none 0 0, .int .i64 fuel] (m.HA 90 91 92) (resV24 s.m (vOa 131 bo s.oN) n s.mark) (upd24g 90 91 92 s.m bo s.oN s.of n s.mark) 130 2]
noncomputable abbrev sc8b (a b c : Nat) (m : MS) (fuel : Int) (s : RSt) (n : Nat) (bo bs : Bool) : Short := scOf [conAt 27 [pAt c, .slice none 0 0, .int .i64 fuel] (m.HA a b c) (.tuple ⟨[resV24 s.m (vOa 131 bo s.oN) n s.mark, vOa 132 bs s.sN]⟩) (upd27g a b c s.m bo bs s.oN s.of s.sN s.sf n s.mark) 130 3]
def AtA (f : FuncId) (vs : List Value) (pre : List (Nat × Blk)) (v : Value) : Prop := nodupB (pre.map (·.1)) = true /\ ∀ n, ADet Try.prog f vs (mkH pre) v [] n 0
noncomputable def conAny (f : FuncId) (vs0 : List Value) (pre : List (Nat × Blk)) (v : Value) : Con Try.prog where
  f := f
  run := fun vs h n => some (mkH pre, v, [], 0, decP (vs = vs0 /\ Has h pre /\ AtA f vs0 pre v))
  ok := fun vs h n pre' v' upd' news' hx => by
    simp only [Option.some.injEq, Prod.mk.injEq] at hx
    obtain ⟨rfl, rfl, rfl, rfl, hA⟩ := hx
    obtain ⟨rfl, hh, hnd, hd⟩ := of_decP hA
    exact ⟨has_pre hh hnd, hd n⟩
def seen8 (s1 s2 : Bool) (a b : Nat) : Value := bif s1 then (bif s2 then .slice (some ⟨132, 0, none⟩) (0 + a + b) (0 + a + b) else .slice (some ⟨131, 0, none⟩) (0 + a) (0 + a)) else (bif s2 then .slice (some ⟨131, 0, none⟩) (0 + b) (0 + b) else .slice (some ⟨130, 0, none⟩) 0 0)
def c1f (f : Nat -> List Value) (c : Nat -> List Value) : Nat -> List Value := rowCat c 0 0 (fun j => f (0 + j))
def z0f : Nat -> List Value := fun j => slab [] (j * 4) 4
def nfr : Nat -> List Value := fun _ => []
def seenB (s1 s2 : Bool) (a b : Nat) (f g : Nat -> List Value) : List (Nat × Blk) :=
  bif s1 then (bif s2 then [(132, .rows (0 + a + b) 4 (rowCat (c1f f z0f) 0 (0 + a) (fun j => g (0 + j))) true false)] else [(131, .rows (0 + a) 4 (rowPut (c1f f z0f) (0 + (0 + a)) 0 nfr) true false)])
  else (bif s2 then [(131, .rows (0 + b) 4 (c1f g (rowPut z0f (0 + 0) 0 nfr)) true false)] else [(130, .rows 0 4 (rowPut (rowPut z0f (0 + 0) 0 nfr) (0 + 0) 0 nfr) false false)])
noncomputable abbrev sc8c (b0 s1 s2 : Bool) (m : MS) (oN : Nat) (of ofz : Nat -> Int) (n : Nat) (mk : Int) (a b c : Nat) (f g h : Nat -> List Value) : Short := scOf
  [conAny 28 [resA m.st m.cd (vOa 63 b0 oN) n mk, resA m.st m.cd (vOa 71 b0 oN) n mk] (exO 63 b0 (outB oN of) ++ exO 71 b0 (outB oN ofz)) (.bool true),
   conAny 29 [vOa 72 (s1 || s2) c, seen8 s1 s2 a b] (exO 72 (s1 || s2) (seB c h) ++ seenB s1 s2 a b f g) (.bool true)]
end Go.X
namespace Go.X
open Go Go.Proofs
def bx8 (p q : Int) : List (Nat × Blk) := [(60, box8 p q), (61, .var (arr8 3))]
def h8_0 (p q : Int) (m : MS) : List (Nat × Blk) := m.HA 90 91 92 ++ (m.HA 93 94 95 ++ (m.HA 96 97 98 ++ bx8 p q))
def r8O (r o : Nat) (s : RSt) (n : Nat) (b : Bool) : List (Nat × Blk) := rO r o b s.m s.oN s.of n s.mark
def h8_1 (p q : Int) (m : MS) (al : RSt) (na : Nat) (b0 : Bool) : List (Nat × Blk) := r8O 62 63 al na b0 ++ (al.m.HA 90 91 92 ++ (m.HA 93 94 95 ++ (m.HA 96 97 98 ++ bx8 p q)))
def h8_2 (p q : Int) (m : MS) (al x : RSt) (na nx : Nat) (b0 b1 s1 : Bool) : List (Nat × Blk) := r8O 64 65 x nx b1 ++ (exO 66 s1 (seB x.sN x.sf) ++ (x.m.HA 93 94 95 ++ (r8O 62 63 al na b0 ++ (al.m.HA 90 91 92 ++ (m.HA 96 97 98 ++ bx8 p q)))))
def h8_3 (p q : Int) (m : MS) (al x y : RSt) (na nx ny : Nat) (b0 b1 b2 s1 s2 : Bool) : List (Nat × Blk) := r8O 67 68 y ny b2 ++ (exO 69 s2 (seB y.sN y.sf) ++ (y.m.HA 93 94 95 ++ (r8O 64 65 x nx b1 ++ (exO 66 s1 (seB x.sN x.sf) ++ (r8O 62 63 al na b0 ++ (al.m.HA 90 91 92 ++ (m.HA 96 97 98 ++ bx8 p q)))))))
def h8_4 (p q : Int) (al x y z : RSt) (na nx ny nz : Nat) (b0 b1 b2 s1 s2 : Bool) : List (Nat × Blk) := r8O 70 71 z nz b0 ++ (exO 72 (s1 || s2) (seB z.sN z.sf) ++ (z.m.HA 96 97 98 ++ (r8O 67 68 y ny b2 ++ (exO 69 s2 (seB y.sN y.sf) ++ (y.m.HA 93 94 95 ++ (r8O 64 65 x nx b1 ++ (exO 66 s1 (seB x.sN x.sf) ++ (r8O 62 63 al na b0 ++ (al.m.HA 90 91 92 ++ bx8 p q)))))))))
def v8_0 : List Value := [pAt 60, pAt 61]
def v8_1 : List Value := [pAt 62, pAt 60, pAt 61]
def v8_2 (x : RSt) (s1 : Bool) : List Value := [pAt 64, vOa 66 s1 x.sN, pAt 62, pAt 60, pAt 61]
def v8_3 (x y : RSt) (s1 s2 : Bool) : List Value := [pAt 67, vOa 69 s2 y.sN, pAt 64, vOa 66 s1 x.sN, pAt 62, pAt 60, pAt 61]
def v8_4 (x y z : RSt) (s1 s2 : Bool) : List Value := [pAt 70, vOa 72 (s1 || s2) z.sN, pAt 67, vOa 69 s2 y.sN, pAt 64, vOa 66 s1 x.sN, pAt 62, pAt 60, pAt 61]
theorem p8_44 (p q : Int) (m : MS) (al x y z : RSt) (na nx ny nz : Nat) (b0 b1 b2 s1 s2 : Bool) (fu : Int) : walk (lookF FL) (sc8a m fu al na b0) 1000 (.region x8_44) (mkT [5, 7] v8_0) (mkH (h8_0 p q m)) 130 ⟨[13], [.tmp 13] ++ ((bif b0 then [.id 131] else []) ++ ([.id 90, .id 91, .id 92])), [5, 7], [93, 94, 95, 96, 97, 98, 60, 61]⟩ ⟨[], [], [], []⟩ ⟨[], [], [], []⟩ =
    bif decP ([pAt 92, .slice none 0 0, .int .i64 (IntKind.i64.wrap (IntKind.i64.wrap p + IntKind.i64.wrap q))] = [pAt 92, .slice none 0 0, .int .i64 fu] /\ Has (mkH (h8_0 p q m)) (m.HA 90 91 92) /\ AtN 24 [pAt 92, .slice none 0 0, .int .i64 fu] (m.HA 90 91 92) (resV24 al.m (vOa 131 b0 al.oN) na al.mark) (upd24g 90 91 92 al.m b0 al.oN al.of na al.mark) 130 2) && true && true then some ⟨⟨[some (true, pAt 132)], [(132, some (resB al.m (vOa 131 b0 al.oN) na al.mark))] ++ ((bif b0 then [(131, some (outB al.oN al.of))] else []) ++ ([(90, some al.m.memB), (91, some al.m.kn.blk), (92, some (al.m.mAt 90 91))])), .normal, 133⟩, none⟩ else none := by
  cases b0 <;> kernel_rfl
theorem p8_45 (p q : Int) (m : MS) (al x y z : RSt) (na nx ny nz : Nat) (b0 b1 b2 s1 s2 : Bool) (fu : Int) : walk (lookF FL) (sc8b 93 94 95 m fu x nx b1 s1) 1000 (.region x8_45) (mkT [13, 5, 7] v8_1) (mkH (h8_1 p q m al na b0)) 130 ⟨[14, 15], [.tmp 14] ++ ((bif b1 then [.id 131] else []) ++ ((bif s1 then [.id 132] else []) ++ [.id 93, .id 94, .id 95])), [13, 5, 7], irO 62 63 b0 ++ [90, 91, 92, 96, 97, 98, 60, 61]⟩ ⟨[], [], [], []⟩ ⟨[], [], [], []⟩ =
    bif decP ([pAt 95, .slice none 0 0, .int .i64 (IntKind.i64.wrap p)] = [pAt 95, .slice none 0 0, .int .i64 fu] /\ Has (mkH (h8_1 p q m al na b0)) (m.HA 93 94 95) /\ AtN 27 [pAt 95, .slice none 0 0, .int .i64 fu] (m.HA 93 94 95) (.tuple ⟨[resV24 x.m (vOa 131 b1 x.oN) nx x.mark, vOa 132 s1 x.sN]⟩) (upd27g 93 94 95 x.m b1 s1 x.oN x.of x.sN x.sf nx x.mark) 130 3) && true && true then some ⟨⟨[some (true, pAt 133), some (true, vOa 132 s1 x.sN)], [(133, some (resB x.m (vOa 131 b1 x.oN) nx x.mark))] ++ ((bif b1 then [(131, some (outB x.oN x.of))] else []) ++ ((bif s1 then [(132, some (seB x.sN x.sf))] else []) ++ [(93, some x.m.memB), (94, some x.m.kn.blk), (95, some (x.m.mAt 93 94))])), .normal, 134⟩, none⟩ else none := by
  cases b0 <;> cases b1 <;> cases s1 <;> kernel_rfl
theorem p8_46 (p q : Int) (m : MS) (al x y z : RSt) (na nx ny nz : Nat) (b0 b1 b2 s1 s2 : Bool) (fu : Int) : walk (lookF FL) (sc8b 93 94 95 x.m fu y ny b2 s2) 1000 (.region x8_46) (mkT [14, 15, 13, 5, 7] (v8_2 x s1)) (mkH (h8_2 p q m al x na nx b0 b1 s1)) 130 ⟨[16, 17], [.tmp 16] ++ ((bif b2 then [.id 131] else []) ++ ((bif s2 then [.id 132] else []) ++ [.id 93, .id 94, .id 95])), [14, 15, 13, 5, 7], irO 64 65 b1 ++ (exKo 66 s1 ++ (irO 62 63 b0 ++ [90, 91, 92, 96, 97, 98, 60, 61]))⟩ ⟨[], [], [], []⟩ ⟨[], [], [], []⟩ =
    bif decP ([pAt 95, .slice none 0 0, .int .i64 (IntKind.i64.wrap q)] = [pAt 95, .slice none 0 0, .int .i64 fu] /\ Has (mkH (h8_2 p q m al x na nx b0 b1 s1)) (x.m.HA 93 94 95) /\ AtN 27 [pAt 95, .slice none 0 0, .int .i64 fu] (x.m.HA 93 94 95) (.tuple ⟨[resV24 y.m (vOa 131 b2 y.oN) ny y.mark, vOa 132 s2 y.sN]⟩) (upd27g 93 94 95 y.m b2 s2 y.oN y.of y.sN y.sf ny y.mark) 130 3) && true && true then some ⟨⟨[some (true, pAt 133), some (true, vOa 132 s2 y.sN)], [(133, some (resB y.m (vOa 131 b2 y.oN) ny y.mark))] ++ ((bif b2 then [(131, some (outB y.oN y.of))] else []) ++ ((bif s2 then [(132, some (seB y.sN y.sf))] else []) ++ [(93, some y.m.memB), (94, some y.m.kn.blk), (95, some (y.m.mAt 93 94))])), .normal, 134⟩, none⟩ else none := by
  cases b0 <;> cases b1 <;> cases b2 <;> cases s1 <;> cases s2 <;> kernel_rfl
theorem p8_47 (p q : Int) (m : MS) (al x y z : RSt) (na nx ny nz : Nat) (b0 b1 b2 s1 s2 : Bool) (fu : Int) : walk (lookF FL) (sc8b 96 97 98 m fu z nz b0 (s1 || s2)) 1000 (.region x8_47) (mkT [16, 17, 14, 15, 13, 5, 7] (v8_3 x y s1 s2)) (mkH (h8_3 p q m al x y na nx ny b0 b1 b2 s1 s2)) 130 ⟨[18, 19], [.tmp 18] ++ ((bif b0 then [.id 131] else []) ++ ((bif (s1 || s2) then [.id 132] else []) ++ [.id 96, .id 97, .id 98])), [16, 17, 14, 15, 13, 5, 7], irO 67 68 b2 ++ (exKo 69 s2 ++ ([93, 94, 95] ++ (irO 64 65 b1 ++ (exKo 66 s1 ++ (irO 62 63 b0 ++ [90, 91, 92, 60, 61])))))⟩ ⟨[], [], [], []⟩ ⟨[], [], [], []⟩ =
    bif decP ([pAt 98, .slice none 0 0, .int .i64 (IntKind.i64.wrap (IntKind.i64.wrap p + IntKind.i64.wrap q))] = [pAt 98, .slice none 0 0, .int .i64 fu] /\ Has (mkH (h8_3 p q m al x y na nx ny b0 b1 b2 s1 s2)) (m.HA 96 97 98) /\ AtN 27 [pAt 98, .slice none 0 0, .int .i64 fu] (m.HA 96 97 98) (.tuple ⟨[resV24 z.m (vOa 131 b0 z.oN) nz z.mark, vOa 132 (s1 || s2) z.sN]⟩) (upd27g 96 97 98 z.m b0 (s1 || s2) z.oN z.of z.sN z.sf nz z.mark) 130 3) && true && true then some ⟨⟨[some (true, pAt 133), some (true, vOa 132 (s1 || s2) z.sN)], [(133, some (resB z.m (vOa 131 b0 z.oN) nz z.mark))] ++ ((bif b0 then [(131, some (outB z.oN z.of))] else []) ++ ((bif (s1 || s2) then [(132, some (seB z.sN z.sf))] else []) ++ [(96, some z.m.memB), (97, some z.m.kn.blk), (98, some (z.m.mAt 96 97))])), .normal, 134⟩, none⟩ else none := by
  cases b0 <;> cases b1 <;> cases b2 <;> cases s1 <;> cases s2 <;> kernel_rfl
end Go.X
namespace Go.X
open Go Go.Proofs
def q8c54 (e1 e2 e3 e4 d kX kY kA : Bool) : Bool :=
  let Q2 := bif e1 then e2 else false
  let Q3 := bif Q2 then e3 else false
  let Q4 := bif Q3 then e4 else false
  ((Q4 || !Q4) && true || false) && ((Q4 && (Q4 && true) || !Q4) && ((d && (Q4 && (Q4 && true)) || !Q4) && (((kY) && (Q4 && true) || !Q4) && ((Q4 && true || !Q4) && (((kX) && (Q4 && true) || !Q4) && ((Q4 && true || !Q4) && (((kA) && (Q4 && true) || !Q4) && ((Q4 && true || !Q4) && (((Q3 || !Q3) && true || false) && ((Q3 && (Q3 && true) || !Q3) && ((Q3 && (Q3 && true) || !Q3) && ((Q3 && true || !Q3) && ((Q3 && true || !Q3) && ((Q3 && true || !Q3) && (((Q2 || !Q2) && true || false) && ((Q2 && (Q2 && true) || !Q2) && ((Q2 && (Q2 && true) || !Q2) && ((Q2 && true || !Q2) && ((Q2 && true || !Q2) && ((Q2 && true || !Q2) && (((e1 || !e1) && true || false) && ((e1 && (e1 && true) || !e1) && ((e1 && true || !e1) && ((e1 && true || !e1) && true))))))))))))))))))))))))
def v54 (e1 e2 e3 e4 s : Bool) : Bool := bif bif bif bif e1 then e2 else false then e3 else false then e4 else false then s else false
def strB (b : Bool) (o : Nat) (f : Nat -> Int) : ByteArray := bif b then ByteArray.mk (List.map (fun j => u8Of [Value.int IntKind.u8 (f (0 + j))]) (List.range o)).toArray else ByteArray.empty
def kB (b : Bool) (o : Nat) (f : Nat -> Int) : Bool := bif b then okO o f else true
theorem p8_54 (mA mX : MS) (oA oX oY : Nat) (fA fX fY : Nat -> Int) (na nx ny : Nat) (ka kx ky : Int) (b1 b2 : Bool) : walk (lookF FL) noSc 1000 x8_54 (mkT [16, 14, 13] [pAt 67, pAt 64, pAt 62]) (mkH (rO 67 68 b2 mA oY fY ny ky ++ (rO 64 65 b1 mX oX fX nx kx ++ rO 62 63 (b1 || b2) mA oA fA na ka))) 130 ⟨[], [], [], []⟩ ⟨[6], [], [], []⟩ ⟨[], [], [], []⟩ =
    bif q8c54 (mA.st == mA.st) (mA.cd == mA.cd) ((na : Int) == IntKind.i64.wrap ((nx : Int) + (ny : Int))) (ka == IntKind.i64.wrap (kx + ky)) (decide ((strB b1 oX fX).size + (strB b2 oY fY).size <= 9223372036854775807)) (kB b1 oX fX) (kB b2 oY fY) (kB (b1 || b2) oA fA) then
      some ⟨⟨[some (true, .bool (v54 (mA.st == mA.st) (mA.cd == mA.cd) ((na : Int) == IntKind.i64.wrap ((nx : Int) + (ny : Int))) (ka == IntKind.i64.wrap (kx + ky)) ((strB (b1 || b2) oA fA).toList == (strB b1 oX fX ++ strB b2 oY fY).toList)))], [], .ret, 130⟩, none⟩ else none := by
  cases b1 <;> cases b2 <;> kernel_rfl
noncomputable def D28 (b0 : Bool) (mA : MS) (oA : Nat) (fA fZ : Nat -> Int) (na : Nat) (ka : Int) : Bool :=
  decP ([resA mA.st mA.cd (vOa 63 b0 oA) na ka, resA mA.st mA.cd (vOa 71 b0 oA) na ka] = [resA mA.st mA.cd (vOa 63 b0 oA) na ka, resA mA.st mA.cd (vOa 71 b0 oA) na ka] /\ Has (mkH (exO 63 b0 (outB oA fA) ++ exO 71 b0 (outB oA fZ))) (exO 63 b0 (outB oA fA) ++ exO 71 b0 (outB oA fZ)) /\
    AtA 28 [resA mA.st mA.cd (vOa 63 b0 oA) na ka, resA mA.st mA.cd (vOa 71 b0 oA) na ka] (exO 63 b0 (outB oA fA) ++ exO 71 b0 (outB oA fZ)) (.bool true))
noncomputable def D29 (s1 s2 : Bool) (a b c : Nat) (f g h : Nat -> List Value) : Bool :=
  decP ([vOa 72 (s1 || s2) c, seen8 s1 s2 (a + 1) (b + 1)] = [vOa 72 (s1 || s2) c, seen8 s1 s2 (a + 1) (b + 1)] /\ Has (mkH (exO 72 (s1 || s2) (seB c h) ++ seenB s1 s2 (a + 1) (b + 1) f g)) (exO 72 (s1 || s2) (seB c h) ++ seenB s1 s2 (a + 1) (b + 1) f g) /\
    AtA 29 [vOa 72 (s1 || s2) c, seen8 s1 s2 (a + 1) (b + 1)] (exO 72 (s1 || s2) (seB c h) ++ seenB s1 s2 (a + 1) (b + 1) f g) (.bool true))
def q8c52 (s1 s2 : Bool) (a b : Nat) (D28 D29 : Bool) : Bool := bif s1 then (bif s2 then  (D29 || false) && (!(0 + (a + 1) + (b + 1)).ble (0 + (a + 1)) && true && ((0 + (a + 1)).ble (0 + (a + 1)) && (0 + (0 + (a + 1))).ble (0 + (a + 1))) && ((0 + (b + 1)).ble (b + 1) && true) && decide ((0 + (a + 1) + (b + 1)) * 37 <= 1099511627776) && true && ((0 + (a + 1)).ble (a + 1) && true && decide ((0 + (a + 1)) * 37 <= 1099511627776) && true && ((D28 || false) && true))) else  (D29 || false) && ((0 + (a + 1) + 0).ble (0 + (a + 1)) && true && (0 + (0 + (a + 1))).ble (0 + (a + 1)) && true && ((0 + (a + 1)).ble (a + 1) && true && decide ((0 + (a + 1)) * 37 <= 1099511627776) && true && ((D28 || false) && true)))) else (bif s2 then  (D29 || false) && ((0 + (b + 1)).ble (b + 1) && true && decide ((0 + (b + 1)) * 37 <= 1099511627776) && true && ((D28 || false) && true)) else  (D29 || false) && ((D28 || false) && true))
def n52 (s1 s2 : Bool) : Nat := bif s1 then (bif s2 then 133 else 132) else (bif s2 then 132 else 131)
theorem p8_52 (p q : Int) (mA mX : MS) (oA oX oY : Nat) (fA fX fY fZ : Nat -> Int) (na nx ny : Nat) (ka kx ky : Int) (a b c : Nat) (f g h : Nat -> List Value) (b1 b2 s1 s2 : Bool) : walk (lookF FL) (sc8c (b1 || b2) s1 s2 mA oA fA fZ na ka (a + 1) (b + 1) c f g h) 1000 x8_52
    (mkT [18, 19, 16, 17, 14, 15, 13, 5, 7] [pAt 70, vOa 72 (s1 || s2) c, pAt 67, vOa 69 s2 (b + 1), pAt 64, vOa 66 s1 (a + 1), pAt 62, pAt 60, pAt 61])
    (mkH (rO 70 71 (b1 || b2) mA oA fZ na ka ++ (exO 72 (s1 || s2) (seB c h) ++ (mA.HA 96 97 98 ++ (rO 67 68 b2 mA oY fY ny ky ++ (exO 69 s2 (seB (b + 1) g) ++ (mA.HA 93 94 95 ++ (rO 64 65 b1 mX oX fX nx kx ++ (exO 66 s1 (seB (a + 1) f) ++ (rO 62 63 (b1 || b2) mA oA fA na ka ++ (mA.HA 90 91 92 ++ bx8 p q))))))))))) 130
    ⟨[], [], [16, 14, 13], irO 67 68 b2 ++ (irO 64 65 b1 ++ irO 62 63 (b1 || b2))⟩ ⟨[], [], [], []⟩ ⟨[], [], [], []⟩ =
    bif q8c52 s1 s2 a b (D28 (b1 || b2) mA oA fA fZ na ka) (D29 s1 s2 a b c f g h) then bif mA.pl != mA.pl then some ⟨⟨[], [], .ret, n52 s1 s2⟩, none⟩ else some ⟨⟨[], [], .normal, n52 s1 s2⟩, none⟩ else none := by
  cases b1 <;> cases b2 <;> cases s1 <;> cases s2 <;> kernel_rfl
end Go.X
