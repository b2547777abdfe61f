import Derived.Test.YtnekegldodbgjaaG22
import Derived.Test.YtnekegldodbgjaaG15
import Derived.Test.YtnekegldodbgjaaRows
import Derived.WalkKit
import Derived.ProofKit
import Derived.OpenShut
import Derived.ChangeOld
import Derived.WideKeyPair
import Derived.Deep.Slices
import Derived.Below
import Derived.Test.YtnekegldodbgjaaG18
set_option linter.all false
namespace Go.X
open Go Go.Proofs

def fitsF (op : Int) (by_ : Int) : Bool := decide (by_ >= (roomF (rowOf (Value.int IntKind.i64 op)).fst).1) &&
  decide (by_ <= (roomF (rowOf (Value.int IntKind.i64 op)).fst).2)
def goodF (lb : ByteArray) (op : Int) (rd : Int) (rs1 : Int) (rs2 : Int) (imm : Int) (to : ByteArray) (part : Int) : Bool := bif !lb.toList == (ByteArray.mk #[]).toList then
  op == 0 && (rd == 0 && (rs1 == 0 && (rs2 == 0 && imm == 0))) && to.toList == (ByteArray.mk #[]).toList && part == 0
 else
  bif (encF op rd rs1 rs2 imm).2 != 0 then false
  else
    bif to.toList == (ByteArray.mk #[]).toList then part == 0
    else
      bif decide (op >= 45) && decide (op <= 50) || op == 53 then part == 0 && imm == 0
      else bif op == 51 then part == 1 && imm == 0 else bif op == 28 then part == 2 && imm == 0 else false
end Go.X
namespace Go.X
open Go Go.Proofs
structure Its where
  lb : Nat -> ByteArray
  to : Nat -> ByteArray
  op : Nat -> Int
  rd : Nat -> Int
  rs1 : Nat -> Int
  rs2 : Nat -> Int
  imm : Nat -> Int
  part : Nat -> Int
def Its.row (I : Its) : Nat -> List Value := fun j => [.string (I.lb j), .int .i64 (I.op j), .int .i64 (I.rd j), .int .i64 (I.rs1 j), .int .i64 (I.rs2 j), .int .i64 (I.imm j), .string (I.to j), .int .i64 (I.part j)]
structure LMap where
  n : Nat
  has : Value -> Bool
  val : Value -> Int
def LMap.blk (m : LMap) : Blk := .map 9 3 m.n m.has (fun q => .int .i64 (m.val q))
def ints (f : Nat -> Int) : Nat -> List Value := fun j => [.int .i64 (f j)]
def bools (f : Nat -> Bool) : Nat -> List Value := fun j => [.bool (f j)]
def laidB (N C : Nat) (at_ : Int) : Blk := .var [.slice (some ⟨2, 0, none⟩) N C, .slice (some ⟨100, 0, none⟩) N N, .int .i64 at_, .map (some 101), .slice (some ⟨102, 0, none⟩) N N]
def laidH (N C : Nat) (at_ : Int) (I : Its) (wd : Nat -> Bool) (m : LMap) (pl : Nat -> Int) : List (Nat × Blk) :=
  [(103, laidB N C at_), (2, .rows N 8 I.row false true), (100, .rows N 1 (bools wd) false false), (101, m.blk), (102, .rows N 1 (ints pl) false false)]
def isE (s : ByteArray) : Bool := s.toList == (ByteArray.mk #[]).toList
def upd {α : Type} (f : Nat -> α) (k : Nat) (v : α) : Nat -> α := fun j => cond (Nat.beq j k) v (f j)
def LMap.set (m : LMap) (s : ByteArray) (v : Int) : LMap := ⟨bif m.has (.string s) then m.n else m.n + 1, fun q => keq q (.string s) || m.has q, fun q => bif keq q (.string s) then v else m.val q⟩
theorem wrap_i {n : Int} (h : -9223372036854775808 <= n) (h' : n < 9223372036854775808) : IntKind.i64.wrap n = n := by
  rw [IntKind.wrap_i64]
  omega
end Go.X
namespace Go.X
open Go Go.Proofs
attribute [local congr] cond_ctx
end Go.X
namespace Go.X
open Go Go.Proofs
theorem bis_rw {P : Program} {σ : Nm} {n s : Nat} {f : Nat -> List Value} {o r : Bool} (h : ∀ j, j < n -> rnL σ (f j) = f j) : BIs P σ (.rows n s f o r) (.rows n s f o r) :=
  ⟨rfl, rfl, h, by cases o <;> simp, by cases r <;> simp⟩
section
variable (N C : Nat) (at_ : Int) (I : Its)
structure LSt where
  cur : Int
  m : LMap
  pl : Nat -> Int
def layStep (I : Its) (wd : Nat -> Bool) (k : Nat) (s : LSt) : LSt :=
  bif isE (I.lb k) then ⟨bif wd k then IntKind.i64.wrap (s.cur + 8) else IntKind.i64.wrap (s.cur + 4), s.m, upd s.pl k s.cur⟩ else ⟨s.cur, s.m.set (I.lb k) s.cur, upd s.pl k s.cur⟩
def layIt (I : Its) (wd : Nat -> Bool) (s : LSt) : Nat -> LSt
  | 0 => s
  | k + 1 => layStep I wd k (layIt I wd s k)
def farF (I : Its) (m : LMap) (pl : Nat -> Int) (wd : Nat -> Bool) (k : Nat) : Bool :=
  isE (I.lb k) && branchF (I.op k) && !isE (I.to k) && !wd k && !fitsF (I.op k) (IntKind.i64.wrap (m.val (.string (I.to k)) - pl k))
structure WSt where
  more : Bool
  wd : Nat -> Bool
def widStep (I : Its) (m : LMap) (pl : Nat -> Int) (k : Nat) (s : WSt) : WSt := bif farF I m pl s.wd k then ⟨true, upd s.wd k true⟩ else s
def widIt (I : Its) (m : LMap) (pl : Nat -> Int) (s : WSt) : Nat -> WSt
  | 0 => s
  | k + 1 => widStep I m pl k (widIt I m pl s k)
variable (m : LMap) (pl : Nat -> Int)
structure Ins where
  op : Int
  rd : Int
  rs1 : Int
  rs2 : Int
  imm : Int
def Ins.row (i : Ins) : List Value := [.int .i64 i.op, .int .i64 i.rd, .int .i64 i.rs1, .int .i64 i.rs2, .int .i64 i.imm]
def twoF (I : Its) (wd : Nat -> Bool) (k : Nat) : Bool := !isE (I.to k) && (!(I.part k == 1) && (!(I.part k == 2) && wd k))
def wordA (I : Its) (wd : Nat -> Bool) (m : LMap) (pl : Nat -> Int) (k : Nat) : Ins :=
  bif isE (I.to k) then ⟨I.op k, I.rd k, I.rs1 k, I.rs2 k, I.imm k⟩
  else bif I.part k == 1 then ⟨I.op k, I.rd k, I.rs1 k, I.rs2 k, upperF (m.val (.string (I.to k)))⟩
  else bif I.part k == 2 then ⟨I.op k, I.rd k, I.rs1 k, I.rs2 k, lowerF (m.val (.string (I.to k)))⟩
  else bif wd k then ⟨oppF (I.op k), I.rd k, I.rs1 k, I.rs2 k, 8⟩
  else ⟨I.op k, I.rd k, I.rs1 k, I.rs2 k, IntKind.i64.wrap (m.val (.string (I.to k)) - pl k)⟩
def wordJ (I : Its) (m : LMap) (pl : Nat -> Int) (k : Nat) : Ins := ⟨53, 0, 0, 0, IntKind.i64.wrap (IntKind.i64.wrap (m.val (.string (I.to k)) - pl k) - 4)⟩
def wordI (I : Its) (wd : Nat -> Bool) (m : LMap) (pl : Nat -> Int) (k j : Nat) : Ins := cond (Nat.beq j 0) (wordA I wd m pl k) (wordJ I m pl k)
def wordsN (I : Its) (wd : Nat -> Bool) (k : Nat) : Nat := bif twoF I wd k then 2 else 1
end
end Go.X
namespace Go.X
open Go Go.Proofs
section
variable (N C : Nat) (at_ : Int) (I : Its)
def goodK (I : Its) (k : Nat) : Bool := goodF (I.lb k) (I.op k) (I.rd k) (I.rs1 k) (I.rs2 k) (I.imm k) (I.to k) (I.part k)
def goodTo (I : Its) : Nat -> Bool
  | 0 => true
  | k + 1 => goodTo I k && goodK I k
structure CSt where
  m : LMap
  dup : Bool
def chkStep (I : Its) (k : Nat) (s : CSt) : CSt := bif s.dup then s else bif s.m.has (.string (I.lb k)) then ⟨s.m, true⟩ else ⟨bif isE (I.lb k) then s.m else s.m.set (I.lb k) 0, false⟩
def chkIt (I : Its) (m : LMap) : Nat -> CSt
  | 0 => ⟨m, false⟩
  | k + 1 => chkStep I k (chkIt I m k)
def foundTo (I : Its) (m : LMap) : Nat -> Bool
  | 0 => true
  | k + 1 => foundTo I m k && (isE (I.to k) || m.has (.string (I.to k)))
def badAt (at_ : Int) : Bool := at_.tmod 4 != 0 || decide (at_ < 0) || decide (at_ > 4194304)
def chkLate (I : Its) (at_ : Int) (N : Nat) : Bool := !(badAt at_) && (!(decide ((N : Int) > 65536)) && goodTo I N)
def checkE (I : Its) (at_ : Int) (N : Nat) (m : LMap) : Int :=
  bif badAt at_ then 1 else bif decide ((N : Int) > 65536) then 3 else bif !goodTo I N then 2 else bif (chkIt I m N).dup then 18 else bif !foundTo I (chkIt I m N).m N then 17 else 0
def checkM (I : Its) (at_ : Int) (N : Nat) (m : LMap) : LMap := bif chkLate I at_ N then (chkIt I m N).m else m
variable (wd : Nat -> Bool) (pl : Nat -> Int)
end
end Go.X
namespace Go.X
open Go Go.Proofs
structure LD where
  N : Nat
  C : Nat
  at_ : Int
  I : Its
  wd : Nat -> Bool
  m : LMap
  pl : Nat -> Int
def LD.H (D : LD) : List (Nat × Blk) := laidH D.N D.C D.at_ D.I D.wd D.m D.pl
def LD.At (D : LD) (h : Hp) : Prop :=
  hget h 103 = some (laidB D.N D.C D.at_) /\ hget h 2 = some (.rows D.N 8 D.I.row false true) /\ hget h 100 = some (.rows D.N 1 (bools D.wd) false false) /\ hget h 101 = some D.m.blk /\ hget h 102 = some (.rows D.N 1 (ints D.pl) false false) /\ D.N < 9223372036854775808
theorem LD.At.pre {D : LD} {h : Hp} (H : D.At h) : ∀ id ∈ fstL (mkH D.H), hget h id = hget (mkH D.H) id := by
  obtain ⟨h1, h2, h3, h4, h5, _⟩ := H
  intro id hid
  simp only [LD.H, laidH, mkH, fstL, List.mem_cons, List.not_mem_nil, or_false] at hid
  rcases hid with rfl | rfl | rfl | rfl | rfl
  · exact h1
  · exact h2
  · exact h3
  · exact h4
  · exact h5
section
variable (N C : Nat) (at_ : Int) (I : Its) (wd : Nat -> Bool) (m : LMap) (pl : Nat -> Int)
end
end Go.X
namespace Go.X
open Go Go.Proofs
attribute [local congr] cond_ctx
end Go.X
namespace Go.X
open Go Go.Proofs
structure ASt where
  wd : Nat -> Bool
  m : LMap
  pl : Nat -> Int
def widN (I : Its) (N : Nat) (s : ASt) : WSt := widIt I s.m s.pl ⟨false, s.wd⟩ N
def nextA (I : Its) (at_ : Int) (N : Nat) (s : ASt) : ASt :=
  ⟨(widN I N s).wd, (layIt I (widN I N s).wd ⟨at_, s.m, s.pl⟩ N).m, (layIt I (widN I N s).wd ⟨at_, s.m, s.pl⟩ N).pl⟩
def fixN (I : Its) (at_ : Int) (N : Nat) : Nat -> ASt -> ASt
  | 0, s => s
  | f + 1, s => bif (widN I N s).more then fixN I at_ N f (nextA I at_ N s) else s
def insK (I : Its) (s : ASt) (k j : Nat) : List Ins := (List.range j).map (wordI I s.wd s.m s.pl k)
def insTo (I : Its) (s : ASt) : Nat -> List Ins
  | 0 => []
  | k + 1 => insTo I s k ++ (bif isE (I.lb k) then insK I s k (wordsN I s.wd k) else [])
def okI (i : Ins) : Bool := (encF i.op i.rd i.rs1 i.rs2 i.imm).2 == 0
def encW (i : Ins) : Int := (encF i.op i.rd i.rs1 i.rs2 i.imm).1
def m0 : LMap := ⟨0, fun _ => false, fun _ => 0⟩
def startA (I : Its) (at_ : Int) (N : Nat) : ASt := ⟨fun _ => false, (layIt I (fun _ => false) ⟨at_, checkM I at_ N m0, fun _ => 0⟩ N).m, (layIt I (fun _ => false) ⟨at_, checkM I at_ N m0, fun _ => 0⟩ N).pl⟩
def finA (I : Its) (at_ : Int) (N : Nat) : ASt := fixN I at_ N (N + 1) (startA I at_ N)
def asmW (I : Its) (at_ : Int) (N : Nat) : List Int := (insTo I (finA I at_ N) N).map encW
def asmE (I : Its) (at_ : Int) (N : Nat) : Int :=
  bif checkE I at_ N m0 != 0 then checkE I at_ N m0 else bif !(insTo I (finA I at_ N) N).all okI then 16 else bif decide (((asmW I at_ N).length : Int) > 65536) then 3 else 0
end Go.X
namespace Go.X
open Go Go.Proofs
section
variable (N C : Nat) (at_ : Int) (I : Its)
variable {ρ : Rn} {w : World} {hd : ∀ id, 100 <= id -> ρ id = none}
end
end Go.X
namespace Go.X
open Go Go.Proofs
section
variable (N C : Nat) (at_ : Int) (I : Its)
variable {ρ : Rn} {w : World} {hd : ∀ id, 100 <= id -> ρ id = none}
end
end Go.X
namespace Go.X
open Go Go.Proofs
section
variable (N C : Nat) (at_ : Int) (I : Its)
variable {ρ : Rn} {w : World} {hd : ∀ id, 100 <= id -> ρ id = none}
end
section
variable (N C : Nat) (at_ : Int) (I : Its)
end
end Go.X
namespace Go.X
open Go

end Go.X
namespace Go.X
open Go Go.Proofs
theorem beq_ff {a b : Nat} (h : a ≠ b) : Nat.beq a b = false := by
  cases hb : Nat.beq a b with
  | false => rfl
  | true => exact absurd (Nat.eq_of_beq_eq_true hb) h
end Go.X
namespace Go.X
open Go Go.Proofs
end Go.X
namespace Go.X
open Go Go.Proofs
attribute [local congr] cond_ctx
end Go.X
namespace Go.X
open Go Go.Proofs
theorem xwp_seqW {E : FEnv} {Q : Post} {s : St} {F : Fns} {sc : Short} {x y : XCode} {p r q : Pj} {l : Leaf} (hcl : Cl E.toEnv Q) (hF : FnsOK E.P F sc) (k : Nat) (he : walk F sc k x s.t s.h s.n p r q = some ⟨l, none⟩) (hn : l.e = .normal) (s' : St)
    (hl : LeafTo E ((pjOf p r l.e).ks ++ (pjOf p r l.e).uk) (ext (pjOf p r l.e) s.t s.h l) s') (hQ : XWP E.toEnv y Q s') : XWP E.toEnv (.seq x y) Q s :=
  xwp_seq (xwp_toEnd (cl_seqP hcl) hF k he s' hl (by rw [hn]; exact hQ))
end Go.X
namespace Go.X
open Go Go.Proofs
def mvI (n : Nat) : Its where
  lb := fun j => bif Nat.beq j 0 then ⟨#[97]⟩ else bif Nat.beq j (n + 3) then ⟨#[98]⟩ else ⟨#[]⟩
  to := fun j => bif Nat.beq j 1 then ⟨#[98]⟩ else bif Nat.beq j (n + 2) then ⟨#[97]⟩ else bif Nat.beq j (n + 4) then ⟨#[97]⟩ else ⟨#[]⟩
  op := fun j => bif Nat.beq j 0 then 0 else bif Nat.beq j 1 then 46 else bif Nat.blt j (n + 2) then 28 else bif Nat.beq j (n + 2) then 45 else bif Nat.beq j (n + 3) then 0 else 53
  rd := fun _ => 0
  rs1 := fun j => bif Nat.beq j 1 then 5 else bif Nat.beq j (n + 2) then 5 else 0
  rs2 := fun _ => 0
  imm := fun j => bif Nat.blt 1 j && Nat.blt j (n + 2) then ((j - 2 : Nat) : Int).tmod 5 else 0
  part := fun _ => 0
section
variable (a a0 a1 : Int)
variable {ρ : Rn} {w : World} {hd : ∀ id, 2 <= id -> ρ id = none}
structure MvOK (n : Nat) (x y : Int) : Prop where
  ex : asmE (mvI n) x (n + 5) = 0
  ey : asmE (mvI n) y (n + 5) = 0
  same : asmW (mvI n) x (n + 5) = asmW (mvI n) y (n + 5)
  lo : n + 3 <= (asmW (mvI n) x (n + 5)).length
  hi : (asmW (mvI n) x (n + 5)).length <= n + 5
  ax : (finA (mvI n) x (n + 5)).m.val (.string ⟨#[97]⟩) = x
  ay : (finA (mvI n) y (n + 5)).m.val (.string ⟨#[97]⟩) = y
  bd : IntKind.i64.wrap ((finA (mvI n) x (n + 5)).m.val (.string ⟨#[98]⟩) - x) = IntKind.i64.wrap ((finA (mvI n) y (n + 5)).m.val (.string ⟨#[98]⟩) - y)
end
end Go.X
namespace Go.X
open Go Go.Proofs
theorem call_ro {P : Program} {f : FuncId} {vs : List Value} {b : Bool} {n0 : Nat} {pre : Hp} {args : Array Value} {w : World} (h : Body P f vs pre (.bool b) [] n0 0) (ρ : Rn) (hd : ∀ id, n0 <= id -> ρ id = none)
    (hr : RelH P ρ (hget pre) w) (hro : ∀ id b, hget pre id = some b -> b.ro = true) (ha : VL ρ vs args.toList) :
    Calls P f args w fun e w' => e = .returned (.bool b) /\ Go.RowKit.Below w.heap.size w w' := by
  refine (h.2 ρ w args ha hr hd).mono fun e w' he => ?_
  cases e with
  | returned c =>
    obtain ⟨ρ', good, hv⟩ := he
    rw [v_bool hv]
    refine ⟨rfl, good.fr.os, good.fr.tape, good.fr.output, good.fr.size, fun k hk => good.fr.block k hk ?_⟩
    rintro ⟨id, b, l, h0, h1, _⟩
    rw [hro id b h0] at h1; cases h1
  | _ => exact he.elim
theorem lit_has {k : IntKind} {n : Int} (h : (Lit.int k n).wf = true) : k.has n := by simpa [Lit.wf, IntKind.has] using h
structure RoIn where
  id : Nat
  a : Addr
  n : Nat
  k : IntKind
  f : Nat -> Int
def RoIn.blk (x : RoIn) : Nat × Blk := (x.id, .rows x.n 1 (fun j => [.int x.k (x.f j)]) false true)
def rhoOf : List RoIn -> Rn
  | [] => fun _ => none
  | x :: l => fun id => cond (Nat.beq x.id id) (some ⟨x.a, 1, 0⟩) (rhoOf l id)
theorem hget_ro : ∀ {l : List RoIn} {id : Nat} {b : Blk}, hget (mkH (l.map RoIn.blk)) id = some b -> ∃ x ∈ l, x.id = id /\ b = x.blk.2 /\ rhoOf l id = some ⟨x.a, 1, 0⟩
  | [], id, b, h => by cases h
  | x :: l, id, b, h => by
    simp only [List.map_cons, mkH, RoIn.blk, hget] at h
    cases hb : Nat.beq x.id id with
    | true =>
      rw [hb] at h
      simp only [cond_true, Option.some.injEq] at h
      exact ⟨x, List.mem_cons_self, Nat.eq_of_beq_eq_true hb, h.symm, by simp only [rhoOf, hb, cond_true]⟩
    | false =>
      rw [hb] at h
      obtain ⟨y, hy, h1, h2, h3⟩ := hget_ro h
      exact ⟨y, List.mem_cons_of_mem _ hy, h1, h2, by simp only [rhoOf, hb, cond_false]; exact h3⟩
theorem ro_in {l : List RoIn} {id : Nat} {b : Blk} (h : hget (mkH (l.map RoIn.blk)) id = some b) : b.ro = true := by
  obtain ⟨x, _, _, rfl, _⟩ := hget_ro h; rfl
theorem dom_in {n0 : Nat} : ∀ {l : List RoIn}, (∀ x ∈ l, x.id < n0) -> ∀ id, n0 <= id -> rhoOf l id = none
  | [], _, _, _ => rfl
  | x :: l, h, id, hid => by
    have := h x List.mem_cons_self
    simp only [rhoOf]
    rw [show Nat.beq x.id id = false from beq_ff (by omega), cond_false]
    exact dom_in (fun y hy => h y (List.mem_cons_of_mem _ hy)) id hid
theorem relH_in {P : Program} {l : List RoIn} {w : World} (h : ∀ x ∈ l, ∀ i, i < x.n -> w.cell? (x.a.add i) = some (.int x.k (x.f i))) : RelH P (rhoOf l) (hget (mkH (l.map RoIn.blk))) w := by
  refine ⟨fun id b hb => ?_, fun id b id' b' l l' hb hb' hne hro => ?_⟩
  · obtain ⟨x, hx, h1, rfl, h3⟩ := hget_ro hb
    refine ⟨_, h3, rfl, fun _ h => (by cases h), fun i hi => ⟨rfl, fun o v hv => ?_⟩, fun h => (by cases h)⟩
    have ho : o < 1 := (List.getElem?_eq_some_iff.1 hv).1
    obtain rfl : o = 0 := by omega
    cases hv
    refine ⟨_, ?_, rfl, .int _ _⟩
    have := h x hx i hi
    simpa using this
  · rw [ro_in hb] at hro; cases hro
theorem slice_in {H : Type} {enc : TypeId × Value -> H} {P : Program} {W : World} {base : Nat} {t e : TypeId} {v : Value} {d : DataW H} {p : List MemPlace} {k : IntKind} (ht : P.underlying t = some (.slice e)) (he : P.underlying e = some (.int k)) (hc : P.cellsOf e = 1)
    (hok : Value.okWide P W .any base t v) (h : DataW.Trod enc P W 0 (fun _ => true) true t v d p) :
    ∃ (b : Bool) (a : Addr) (L C : Nat) (f : Nat -> Int), v = (bif b then .slice (some a) L C else .slice none 0 0) /\ (b = false -> L = 0) /\ L <= C /\ ∀ i, i < L -> W.cell? (a.add i) = some (.int k (f i)) /\ k.has (f i) := by
  obtain ⟨a0, len0, cap0, rfl⟩ := Go.WideShapes.okWide_slice ht hok
  obtain ⟨fuel, hf⟩ := h
  rcases Go.Deep.open_slice1 ht hc hf with ⟨hcs, _⟩ | ⟨a, len, cap, m, n, V, D, Pl, hcs, hb, hl, hm, hmm, hx, hi⟩
  · simp [Value.cells] at hcs
    obtain ⟨rfl, rfl, rfl⟩ := hcs
    exact ⟨false, ⟨0, 0, none⟩, 0, 0, fun _ => 0, rfl, fun _ => rfl, Nat.le_refl _, fun i hi => absurd hi (Nat.not_lt_zero _)⟩
  · simp [Value.cells] at hcs
    obtain ⟨rfl, rfl, rfl⟩ := hcs
    have hlm : len0 <= m := by rw [hmm]; simpa using hl
    have hE : ∀ i : Nat, ∃ z : Int, i < len0 -> W.cell? (a.add i) = some (.int k z) /\ k.has z := fun i => by
      by_cases hil : i < len0
      · obtain ⟨hc, ht⟩ := hi i (Nat.lt_of_lt_of_le hil hlm)
        obtain ⟨z, e, _, hwf⟩ := DataW.trod_int he ht
        have e := (List.cons.inj e).1
        exact ⟨z, fun _ => ⟨by rw [hc, e], lit_has hwf⟩⟩
      · exact ⟨0, fun h => absurd h hil⟩
    obtain ⟨J, hJ⟩ := Classical.axiomOfChoice hE
    exact ⟨true, a, len0, cap0, J, rfl, fun h => (by cases h), hl, hJ⟩
theorem v_in {ρ : Rn} {b : Bool} {a : Addr} {id L C : Nat} (h : b = true -> ρ id = some ⟨a, 1, 0⟩) : V ρ (bif b then .slice (some ⟨id, 0, none⟩) L C else .slice none 0 0) (bif b then .slice (some a) L C else .slice none 0 0) := by
  cases b with
  | false => exact .snil
  | true => have h := V.slc (ρ := ρ) (id := id) (idx := 0) (l := ⟨a, 1, 0⟩) (len := L) (cap := C) (h rfl); simpa [Addr.add] using h
end Go.X
namespace Go.X
open Go Go.Proofs
attribute [local congr] cond_ctx

theorem t99 (b : Bool) : execC (lookF FL) noSc 1000 x99 (argTm 0 [Value.bool b]) [] 100 (valK [2]) = bif b then some [Value.int IntKind.u64 1] else some [Value.int IntKind.u64 0] := by kernel_rfl
def bitF (b : Bool) : Int := bif b then 1 else 0
def mk99 (p : Int) : Option (List Value) := some [Value.int IntKind.u64 p]
theorem mk99_cond (c : Bool) (p q : Int) : mk99 (bif c then p else q) = bif c then mk99 p else mk99 q := by cases c <;> rfl
theorem p99 (b : Bool) : execC (lookF FL) noSc 1000 x99 (argTm 0 [Value.bool b]) [] 100 (valK [2]) = mk99 (bitF b) := by
  rw [t99]
  try simp (contextual := true) only [bn, bc]
  unfold bitF
  try simp only [mk99_cond]
  rfl
theorem c99 (b : Bool) (n : Nat) : ADet Try.prog 99 [Value.bool b] [] (Value.int IntKind.u64 (bitF b)) [] n 0 := adet_tree FOK 1000 fx99 (by simp) [2] (p99 b) rfl rfl rfl rfl n
def g99 : List Value -> Option Value
  | [.bool b] => some (Value.int IntKind.u64 (bitF b))
  | _ => none
def con99 : Con Try.prog := pureC 99 g99 fun vs v n h => by
  unfold g99 at h
  split at h
  · cases h; exact c99 _ n
  · cases h
theorem t88 (op : Int) : execC (lookF FL) noSc 1000 x88 (argTm 0 [Value.int IntKind.i64 op]) [] 100 (valK [2]) = bif op == 40 then bif op == 40 then some [Value.int IntKind.i64 4] else bif op == 41 then bif op == 41 then some [Value.int IntKind.i64 8] else some [Value.int IntKind.i64 1] else bif op == 44 then some [Value.int IntKind.i64 8] else some [Value.int IntKind.i64 1] else bif op == 43 then some [Value.int IntKind.i64 4] else bif op == 41 then bif op == 41 then some [Value.int IntKind.i64 8] else some [Value.int IntKind.i64 1] else bif op == 44 then some [Value.int IntKind.i64 8] else some [Value.int IntKind.i64 1] := by kernel_rfl
def sizeF (op : Int) : Int := bif op == 40 then 4 else bif op == 43 then 4 else bif op == 41 then 8 else bif op == 44 then 8 else 1
def mk88 (p : Int) : Option (List Value) := some [Value.int IntKind.i64 p]
theorem mk88_cond (c : Bool) (p q : Int) : mk88 (bif c then p else q) = bif c then mk88 p else mk88 q := by cases c <;> rfl
theorem p88 (op : Int) : execC (lookF FL) noSc 1000 x88 (argTm 0 [Value.int IntKind.i64 op]) [] 100 (valK [2]) = mk88 (sizeF op) := by
  rw [t88]
  try simp (contextual := true) only [bn, bc]
  unfold sizeF
  try simp only [mk88_cond]
  rfl
theorem c88 (op : Int) (n : Nat) : ADet Try.prog 88 [Value.int IntKind.i64 op] [] (Value.int IntKind.i64 (sizeF op)) [] n 0 := adet_tree FOK 1000 fx88 (by simp) [2] (p88 op) rfl rfl rfl rfl n
def g88 : List Value -> Option Value
  | [.int .i64 op] => some (Value.int IntKind.i64 (sizeF op))
  | _ => none
def con88 : Con Try.prog := pureC 88 g88 fun vs v n h => by
  unfold g88 at h
  split at h
  · cases h; exact c88 _ n
  · cases h
theorem t73 (k : Int) : execC (lookF FL) noSc 1000 x73 (argTm 0 [Value.int IntKind.i64 k]) [] 100 (valK [2]) = some [Value.int IntKind.u64 (IntKind.u64.wrap k)] := by kernel_rfl
def ofF (k : Int) : Int := IntKind.u64.wrap k
def mk73 (p : Int) : Option (List Value) := some [Value.int IntKind.u64 p]
theorem mk73_cond (c : Bool) (p q : Int) : mk73 (bif c then p else q) = bif c then mk73 p else mk73 q := by cases c <;> rfl
theorem p73 (k : Int) : execC (lookF FL) noSc 1000 x73 (argTm 0 [Value.int IntKind.i64 k]) [] 100 (valK [2]) = mk73 (ofF k) := by
  rw [t73]
  try simp (contextual := true) only [bn, bc]
  unfold ofF
  try simp only [mk73_cond]
  rfl
theorem c73 (k : Int) (n : Nat) : ADet Try.prog 73 [Value.int IntKind.i64 k] [] (Value.int IntKind.u64 (ofF k)) [] n 0 := adet_tree FOK 1000 fx73 (by simp) [2] (p73 k) rfl rfl rfl rfl n
def g73 : List Value -> Option Value
  | [.int .i64 k] => some (Value.int IntKind.u64 (ofF k))
  | _ => none
def con73 : Con Try.prog := pureC 73 g73 fun vs v n h => by
  unfold g73 at h
  split at h
  · cases h; exact c73 _ n
  · cases h

end Go.X
namespace Go.X
open Go Go.Proofs
theorem t77 (op a b : Int) : execC (lookF FL) noSc 1000 x77 (argTm 0 [Value.int IntKind.i64 op, Value.int IntKind.u64 a, Value.int IntKind.u64 b]) [] 100 (valK [6]) = bif op == 45 then bif op == 45 then some [Value.bool ((a == b) == (op == 45))] else bif op == 47 then bif op == 47 then some [Value.bool (decide (IntKind.i64.wrap a < IntKind.i64.wrap b) == (op == 47))] else some [Value.bool (decide (a < b) == (op == 49))] else bif op == 48 then some [Value.bool (decide (IntKind.i64.wrap a < IntKind.i64.wrap b) == (op == 47))] else some [Value.bool (decide (a < b) == (op == 49))] else bif op == 46 then some [Value.bool ((a == b) == (op == 45))] else bif op == 47 then bif op == 47 then some [Value.bool (decide (IntKind.i64.wrap a < IntKind.i64.wrap b) == (op == 47))] else some [Value.bool (decide (a < b) == (op == 49))] else bif op == 48 then some [Value.bool (decide (IntKind.i64.wrap a < IntKind.i64.wrap b) == (op == 47))] else some [Value.bool (decide (a < b) == (op == 49))] := by kernel_rfl
def takenF (op a b : Int) : Bool := bif op == 45 || op == 46 then (a == b) == (op == 45) else bif op == 47 || op == 48 then decide (IntKind.i64.wrap a < IntKind.i64.wrap b) == (op == 47) else decide (a < b) == (op == 49)
theorem p77 (op a b : Int) : execC (lookF FL) noSc 1000 x77 (argTm 0 [Value.int IntKind.i64 op, Value.int IntKind.u64 a, Value.int IntKind.u64 b]) [] 100 (valK [6]) = some [.bool (takenF op a b)] := by
  rw [t77]
  unfold takenF
  cases op == 45 <;> cases op == 46 <;> cases op == 47 <;> cases op == 48 <;> rfl
theorem c77 (op a b : Int) (n : Nat) : ADet Try.prog 77 [.int .i64 op, .int .u64 a, .int .u64 b] [] (.bool (takenF op a b)) [] n 0 := adet_tree FOK 1000 fx77 (by simp) [6] (p77 op a b) rfl rfl rfl rfl n
def g77 : List Value -> Option Value
  | [.int .i64 op, .int .u64 a, .int .u64 b] => some (.bool (takenF op a b))
  | _ => none
def con77 : Con Try.prog := pureC 77 g77 fun vs v n h => by
  unfold g77 at h
  split at h
  · cases h; exact c77 _ _ _ n
  · cases h
def uB (b : Int) : Bool := decide (0 <= b) && decide (b < 18446744073709551616)
theorem uB_iff {b : Int} : uB b = true ↔ 0 <= b /\ b < 18446744073709551616 := by simp [uB]
theorem i64_zero {b : Int} (h : uB b = true) (h0 : (b == 0) = false) : decide (IntKind.i64.wrap b = 0) = false := by
  have h := uB_iff.1 h
  have h0 : b ≠ 0 := by simpa using h0
  rw [IntKind.wrap_i64]
  simp
  omega
def partsF (op a b : Int) : Int :=
  match op with
  | 14 => bif b == 0 then 18446744073709551615 else IntKind.u64.wrap (IntKind.i64.wrap ((IntKind.i64.wrap a).tdiv (IntKind.i64.wrap b)))
  | 15 => bif b == 0 then 18446744073709551615 else IntKind.u64.wrap (a.tdiv b)
  | 16 => bif b == 0 then a else IntKind.u64.wrap ((IntKind.i64.wrap a).tmod (IntKind.i64.wrap b))
  | _ => bif b == 0 then a else a.tmod b
theorem pp14 (a b : Int) : execC (lookF FL) noSc 1000 x86 (argTm 0 [Value.int IntKind.i64 14, Value.int IntKind.u64 a, Value.int IntKind.u64 b]) [] 100 (valK [6, 7]) = bif b == 0 then some [Value.int IntKind.u64 18446744073709551615, Value.bool true] else bif (!decide (IntKind.i64.wrap b = 0) && true || false) && true then some [Value.int IntKind.u64 (IntKind.u64.wrap (IntKind.i64.wrap ((IntKind.i64.wrap a).tdiv (IntKind.i64.wrap b)))), Value.bool true] else none := by kernel_rfl
theorem pp15 (a b : Int) : execC (lookF FL) noSc 1000 x86 (argTm 0 [Value.int IntKind.i64 15, Value.int IntKind.u64 a, Value.int IntKind.u64 b]) [] 100 (valK [6, 7]) = bif b == 0 then some [Value.int IntKind.u64 18446744073709551615, Value.bool true] else bif (!decide (b = 0) && true || false) && true then some [Value.int IntKind.u64 (IntKind.u64.wrap (a.tdiv b)), Value.bool true] else none := by kernel_rfl
theorem pp16 (a b : Int) : execC (lookF FL) noSc 1000 x86 (argTm 0 [Value.int IntKind.i64 16, Value.int IntKind.u64 a, Value.int IntKind.u64 b]) [] 100 (valK [6, 7]) = bif b == 0 then some [Value.int IntKind.u64 a, Value.bool true] else bif (!decide (IntKind.i64.wrap b = 0) && true || false) && true then some [Value.int IntKind.u64 (IntKind.u64.wrap ((IntKind.i64.wrap a).tmod (IntKind.i64.wrap b))), Value.bool true] else none := by kernel_rfl
theorem pp17 (a b : Int) : execC (lookF FL) noSc 1000 x86 (argTm 0 [Value.int IntKind.i64 17, Value.int IntKind.u64 a, Value.int IntKind.u64 b]) [] 100 (valK [6, 7]) = bif b == 0 then some [Value.int IntKind.u64 a, Value.bool true] else bif (!decide (b = 0) && true || false) && true then some [Value.int IntKind.u64 (a.tmod b), Value.bool true] else none := by kernel_rfl
theorem nw8true (a : Int) : execC (lookF FL) noSc 1000 x36 (argTm 0 [Value.int IntKind.u64 a, Value.int IntKind.i64 8, Value.bool true]) [] 100 (valK [6, 7]) = some [Value.int IntKind.u64 (IntKind.u64.wrap ((IntKind.i64.wrap (IntKind.u64.wrap (a * 72057594037927936))).fdiv 72057594037927936)), Value.int IntKind.i64 0] := by kernel_rfl
theorem nw8false (a : Int) : execC (lookF FL) noSc 1000 x36 (argTm 0 [Value.int IntKind.u64 a, Value.int IntKind.i64 8, Value.bool false]) [] 100 (valK [6, 7]) = some [Value.int IntKind.u64 ((IntKind.u64.wrap (a * 72057594037927936)).fdiv 72057594037927936), Value.int IntKind.i64 0] := by kernel_rfl
theorem nw32true (a : Int) : execC (lookF FL) noSc 1000 x36 (argTm 0 [Value.int IntKind.u64 a, Value.int IntKind.i64 32, Value.bool true]) [] 100 (valK [6, 7]) = some [Value.int IntKind.u64 (IntKind.u64.wrap ((IntKind.i64.wrap (IntKind.u64.wrap (a * 4294967296))).fdiv 4294967296)), Value.int IntKind.i64 0] := by kernel_rfl
theorem nw32false (a : Int) : execC (lookF FL) noSc 1000 x36 (argTm 0 [Value.int IntKind.u64 a, Value.int IntKind.i64 32, Value.bool false]) [] 100 (valK [6, 7]) = some [Value.int IntKind.u64 ((IntKind.u64.wrap (a * 4294967296)).fdiv 4294967296), Value.int IntKind.i64 0] := by kernel_rfl
theorem nw64true (a : Int) : execC (lookF FL) noSc 1000 x36 (argTm 0 [Value.int IntKind.u64 a, Value.int IntKind.i64 64, Value.bool true]) [] 100 (valK [6, 7]) = some [Value.int IntKind.u64 (IntKind.u64.wrap ((IntKind.i64.wrap (IntKind.u64.wrap (a * 1))).fdiv 1)), Value.int IntKind.i64 0] := by kernel_rfl
theorem nw64false (a : Int) : execC (lookF FL) noSc 1000 x36 (argTm 0 [Value.int IntKind.u64 a, Value.int IntKind.i64 64, Value.bool false]) [] 100 (valK [6, 7]) = some [Value.int IntKind.u64 ((IntKind.u64.wrap (a * 1)).fdiv 1), Value.int IntKind.i64 0] := by kernel_rfl
theorem q86_14 (a b : Int) (h : uB b = true) : execC (lookF FL) noSc 1000 x86 (argTm 0 [.int .i64 14, .int .u64 a, .int .u64 b]) [] 100 (valK [6, 7]) = some [.int .u64 (partsF 14 a b), .bool true] := by
  rw [pp14]
  cases h0 : (b == 0) with
  | true => simp only [partsF, h0, cond_true]
  | false =>
    have h1 : decide (IntKind.i64.wrap b = 0) = false := i64_zero h h0
    simp only [partsF, h0, h1, cond_false, Bool.not_false, Bool.true_and, Bool.or_false, cond_true, Bool.and_true]
theorem c86_14 (a b : Int) (h : uB b = true) (n : Nat) : ADet Try.prog 86 [.int .i64 14, .int .u64 a, .int .u64 b] [] (.tuple ⟨[.int .u64 (partsF 14 a b), .bool true]⟩) [] n 0 := adet_tree FOK 1000 fx86 (by simp) [6, 7] (q86_14 a b h) rfl rfl rfl rfl n
theorem q86_15 (a b : Int) (h : uB b = true) : execC (lookF FL) noSc 1000 x86 (argTm 0 [.int .i64 15, .int .u64 a, .int .u64 b]) [] 100 (valK [6, 7]) = some [.int .u64 (partsF 15 a b), .bool true] := by
  rw [pp15]
  cases h0 : (b == 0) with
  | true => simp only [partsF, h0, cond_true]
  | false =>
    have h1 : decide (b = 0) = false := by simpa using h0
    simp only [partsF, h0, h1, cond_false, Bool.not_false, Bool.true_and, Bool.or_false, cond_true, Bool.and_true]
theorem c86_15 (a b : Int) (h : uB b = true) (n : Nat) : ADet Try.prog 86 [.int .i64 15, .int .u64 a, .int .u64 b] [] (.tuple ⟨[.int .u64 (partsF 15 a b), .bool true]⟩) [] n 0 := adet_tree FOK 1000 fx86 (by simp) [6, 7] (q86_15 a b h) rfl rfl rfl rfl n
theorem q86_16 (a b : Int) (h : uB b = true) : execC (lookF FL) noSc 1000 x86 (argTm 0 [.int .i64 16, .int .u64 a, .int .u64 b]) [] 100 (valK [6, 7]) = some [.int .u64 (partsF 16 a b), .bool true] := by
  rw [pp16]
  cases h0 : (b == 0) with
  | true => simp only [partsF, h0, cond_true]
  | false =>
    have h1 : decide (IntKind.i64.wrap b = 0) = false := i64_zero h h0
    simp only [partsF, h0, h1, cond_false, Bool.not_false, Bool.true_and, Bool.or_false, cond_true, Bool.and_true]
theorem c86_16 (a b : Int) (h : uB b = true) (n : Nat) : ADet Try.prog 86 [.int .i64 16, .int .u64 a, .int .u64 b] [] (.tuple ⟨[.int .u64 (partsF 16 a b), .bool true]⟩) [] n 0 := adet_tree FOK 1000 fx86 (by simp) [6, 7] (q86_16 a b h) rfl rfl rfl rfl n
theorem q86_17 (a b : Int) (h : uB b = true) : execC (lookF FL) noSc 1000 x86 (argTm 0 [.int .i64 17, .int .u64 a, .int .u64 b]) [] 100 (valK [6, 7]) = some [.int .u64 (partsF 17 a b), .bool true] := by
  rw [pp17]
  cases h0 : (b == 0) with
  | true => simp only [partsF, h0, cond_true]
  | false =>
    have h1 : decide (b = 0) = false := by simpa using h0
    simp only [partsF, h0, h1, cond_false, Bool.not_false, Bool.true_and, Bool.or_false, cond_true, Bool.and_true]
theorem c86_17 (a b : Int) (h : uB b = true) (n : Nat) : ADet Try.prog 86 [.int .i64 17, .int .u64 a, .int .u64 b] [] (.tuple ⟨[.int .u64 (partsF 17 a b), .bool true]⟩) [] n 0 := adet_tree FOK 1000 fx86 (by simp) [6, 7] (q86_17 a b h) rfl rfl rfl rfl n
def con86 : Con Try.prog where
  f := 86
  run := fun vs _ _ => match vs with
    | [.int .i64 14, .int .u64 a, .int .u64 b] => some ([], .tuple ⟨[.int .u64 (partsF 14 a b), .bool true]⟩, [], 0, uB b)
    | [.int .i64 15, .int .u64 a, .int .u64 b] => some ([], .tuple ⟨[.int .u64 (partsF 15 a b), .bool true]⟩, [], 0, uB b)
    | [.int .i64 16, .int .u64 a, .int .u64 b] => some ([], .tuple ⟨[.int .u64 (partsF 16 a b), .bool true]⟩, [], 0, uB b)
    | [.int .i64 17, .int .u64 a, .int .u64 b] => some ([], .tuple ⟨[.int .u64 (partsF 17 a b), .bool true]⟩, [], 0, uB b)
    | _ => none
  ok := fun vs h n pre v upd news hx => by
    split at hx <;> first
      | (simp only [Option.some.injEq, Prod.mk.injEq] at hx
         obtain ⟨rfl, rfl, rfl, rfl, hu⟩ := hx
         refine ⟨fun id hid => by simp [fstL] at hid, ?_⟩
         first | exact c86_14 _ _ hu n | exact c86_15 _ _ hu n | exact c86_16 _ _ hu n | exact c86_17 _ _ hu n)
      | cases hx
def narF (k : Int) (s : Bool) (a : Int) : Int :=
  match k with
  | 8 => bif s then IntKind.u64.wrap ((IntKind.i64.wrap (IntKind.u64.wrap (a * 72057594037927936))).fdiv 72057594037927936) else (IntKind.u64.wrap (a * 72057594037927936)).fdiv 72057594037927936
  | 32 => bif s then IntKind.u64.wrap ((IntKind.i64.wrap (IntKind.u64.wrap (a * 4294967296))).fdiv 4294967296) else (IntKind.u64.wrap (a * 4294967296)).fdiv 4294967296
  | _ => bif s then IntKind.u64.wrap ((IntKind.i64.wrap (IntKind.u64.wrap (a * 1))).fdiv 1) else (IntKind.u64.wrap (a * 1)).fdiv 1
theorem c36_8 (s : Bool) (a : Int) (n : Nat) : ADet Try.prog 36 [.int .u64 a, .int .i64 8, .bool s] [] (.tuple ⟨[.int .u64 (narF 8 s a), .int .i64 0]⟩) [] n 0 := by
  cases s
  · exact adet_tree FOK 1000 fx36 (by simp) [6, 7] (nw8false a) rfl rfl rfl rfl n
  · exact adet_tree FOK 1000 fx36 (by simp) [6, 7] (nw8true a) rfl rfl rfl rfl n
theorem c36_32 (s : Bool) (a : Int) (n : Nat) : ADet Try.prog 36 [.int .u64 a, .int .i64 32, .bool s] [] (.tuple ⟨[.int .u64 (narF 32 s a), .int .i64 0]⟩) [] n 0 := by
  cases s
  · exact adet_tree FOK 1000 fx36 (by simp) [6, 7] (nw32false a) rfl rfl rfl rfl n
  · exact adet_tree FOK 1000 fx36 (by simp) [6, 7] (nw32true a) rfl rfl rfl rfl n
theorem c36_64 (s : Bool) (a : Int) (n : Nat) : ADet Try.prog 36 [.int .u64 a, .int .i64 64, .bool s] [] (.tuple ⟨[.int .u64 (narF 64 s a), .int .i64 0]⟩) [] n 0 := by
  cases s
  · exact adet_tree FOK 1000 fx36 (by simp) [6, 7] (nw64false a) rfl rfl rfl rfl n
  · exact adet_tree FOK 1000 fx36 (by simp) [6, 7] (nw64true a) rfl rfl rfl rfl n
def g36 : List Value -> Option Value
  | [.int .u64 a, .int .i64 8, .bool s] => some (.tuple ⟨[.int .u64 (narF 8 s a), .int .i64 0]⟩)
  | [.int .u64 a, .int .i64 32, .bool s] => some (.tuple ⟨[.int .u64 (narF 32 s a), .int .i64 0]⟩)
  | [.int .u64 a, .int .i64 64, .bool s] => some (.tuple ⟨[.int .u64 (narF 64 s a), .int .i64 0]⟩)
  | _ => none
def con36 : Con Try.prog := pureC 36 g36 fun vs v n h => by
  unfold g36 at h
  split at h
  · cases h; exact c36_8 _ _ n
  · cases h; exact c36_32 _ _ n
  · cases h; exact c36_64 _ _ n
  · cases h
abbrev scN1 : Short := scOf [con99, con86, con36]
theorem FOKN1 : FnsOK Try.prog (lookF FL) scN1 := fok FOK _
end Go.X
