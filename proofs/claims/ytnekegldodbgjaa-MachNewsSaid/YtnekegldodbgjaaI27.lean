import Derived.Test.YtnekegldodbgjaaI26
set_option linter.all false
namespace Go.X
open Go Go.Proofs
abbrev p102 : Value := .pointer (some ⟨102, 0, some 0⟩)
def q32 (b : Bool) : Bool := ((!b || b) && true || false) && ((!b && true || !!b) && true)
theorem q32_true (b : Bool) : q32 b = true := by cases b <;> rfl
def mb32 (sz : Nat) (mem : Nat -> Int) : Blk := .rows sz 1 (fun j => [.int .u8 (mem j)]) false false
def h32 (sz : Nat) (mem : Nat -> Int) (bi : Bool) (L : Nat) (inp : Nat -> Int) : List (Nat × Blk) := [(101, mb32 sz mem), (102, docB 101 (dm32 sz mem)), (100, docN)] ++ exI bi (inB L inp)
section
variable (bi : Bool) (L C i sz : Nat) (s : Int) (inp mem : Nat -> Int) (hb : bi = false -> L = 0)
include hb
theorem p32_0 : walk (lookF FL) noSc 1000 (.region x32_0) (argTm 0 [vI bi 0 L C, .int .i64 s]) (mkH (exI bi (inB L inp))) 100 ⟨[4, 5], [.tmp 4], [0, 1], exJ' bi⟩ ⟨[], [], [], []⟩ ⟨[], [], [], []⟩ =
    some ⟨⟨[some (true, pB), some (true, .bool false)], [(100, some docN)], .normal, 101⟩, none⟩ := by
  cases bi <;> first | (obtain rfl := hb rfl; kernel_rfl) | kernel_rfl
theorem p32_a : walk (lookF FL) noSc 1000 x32_5 (mkT [4, 5, 0, 1] [pB, .bool false, vI bi 0 L C, .int .i64 s]) (mkH ([(100, docN)] ++ exI bi (inB L inp))) 101 ⟨[4, 5], [], [0, 1], [100] ++ exJ' bi⟩ ⟨[4, 5], [.id 100], [], []⟩ ⟨[], [], [], []⟩ =
    bif q32 (decide (s < (L : Int))) then bif bif decide (s < (L : Int)) then true else decide (s > 4194304) then some ⟨⟨[some (true, pB), some (true, .bool false)], [(100, some docN)], .ret, 101⟩, none⟩ else some ⟨⟨[some (true, pB), some (true, .bool false)], [], .normal, 101⟩, none⟩ else none := by
  cases bi <;> first | (obtain rfl := hb rfl; kernel_rfl) | kernel_rfl
theorem p32_b : walk (lookF FL) noSc 1000 x32_24 (mkT [4, 5, 0, 1] [pB, .bool false, vI bi 0 L C, .int .i64 (sz : Int)]) (mkH ([(100, docN)] ++ exI bi (inB L inp))) 101 ⟨[], [], [], []⟩ ⟨[], [], [], []⟩ ⟨[22, 21, 6], [.id 101, .tmp 6, .tmp 4], [4, 0], exJ' bi⟩ =
    bif decide (0 <= (sz : Int)) && decide ((sz : Int) <= (sz : Int)) && decide ((sz : Int) * 3 <= 1099511627776) && true && true then some ⟨⟨[some (true, .int .i64 ((0 : Nat) : Int)), some (true, .int .i64 (L : Int)), some (true, p102)], [(101, some (.rows (sz : Int).toNat 1 (fun _ => [.int .u8 0]) false false)), (102, some (docB 101 (dm32 (sz : Int).toNat fun _ => 0))), (100, some docN)], .normal, 103⟩, some (x32_17, [.bl 0, .sq x32_22])⟩ else none := by
  cases bi <;> first | (obtain rfl := hb rfl; kernel_rfl) | kernel_rfl
theorem p32_d : walk (lookF FL) noSc 1000 x32_22 (mkT [22, 21, 6, 4, 0] [.int .i64 (i : Int), .int .i64 (L : Int), p102, pB, vI bi 0 L C]) (mkH (h32 sz mem bi L inp)) 103 ⟨[], [], [], []⟩ ⟨[4, 5], [.id 101, .tmp 4], [], []⟩ ⟨[], [], [], []⟩ =
    some ⟨⟨[some (true, pB), some (true, .bool true)], [(101, some (mb32 sz mem)), (100, some (docB 101 (dm32 sz mem)))], .ret, 103⟩, none⟩ := by
  cases bi <;> first | (obtain rfl := hb rfl; kernel_rfl) | kernel_rfl
end
theorem p32_c (L C i sz : Nat) (inp mem : Nat -> Int) : walk (lookF FL) noSc 1000 x32_17 (mkT [22, 21, 6, 4, 0] [.int .i64 (i : Int), .int .i64 (L : Int), p102, pB, vI true 0 L C]) (mkH (h32 sz mem true L inp)) 103 ⟨[22], [.id 101], [21, 6, 4, 0], [102, 100] ++ exJ' true⟩ ⟨[], [], [], []⟩ ⟨[], [], [], []⟩ =
    bif decide ((i : Int) < (L : Int)) then bif (0 + i).blt sz && true && ((intRange (i : Int) sz && true || false) && (((0 + i).blt L && true || false) && ((intRange (i : Int) L && true || false) && true))) then some ⟨⟨[some (true, .int .i64 (IntKind.i64.wrap ((i : Int) + 1)))], [(101, some (.rows sz 1 (rowSet (fun j => [.int .u8 (mem j)]) (0 + i) [.int .u8 (inp (0 + i))]) false false))], .normal, 103⟩, none⟩ else none
    else some ⟨⟨[some (true, .int .i64 (i : Int))], [(101, some (mb32 sz mem))], .exit 0, 103⟩, none⟩ := by kernel_rfl
theorem p32_n (C sz : Nat) (inp mem : Nat -> Int) : walk (lookF FL) noSc 1000 x32_17 (mkT [22, 21, 6, 4, 0] [.int .i64 ((0 : Nat) : Int), .int .i64 ((0 : Nat) : Int), p102, pB, vI false 0 0 C]) (mkH (h32 sz mem false 0 inp)) 103 ⟨[22], [.id 101], [21, 6, 4, 0], [102, 100] ++ exJ' false⟩ ⟨[], [], [], []⟩ ⟨[], [], [], []⟩ =
    some ⟨⟨[some (true, .int .i64 ((0 : Nat) : Int))], [(101, some (mb32 sz mem))], .exit 0, 103⟩, none⟩ := by kernel_rfl
def memI (inp : Nat -> Int) (i : Nat) : Nat -> Int := fun j => bif Nat.blt j i then inp j else 0
theorem bis_mb {P : Program} {σ : Nm} {sz : Nat} {mem : Nat -> Int} {f : Nat -> List Value} (h : ∀ j, j < sz -> f j = [.int .u8 (mem j)]) : BIs P σ (mb32 sz mem) (.rows sz 1 f false false) := ⟨rfl, rfl, fun j hj => by rw [h j hj]; rfl, .inr (.inl rfl), .inr rfl⟩
theorem bis_docN {P : Program} {σ : Nm} : BIs P σ docN docN := rfl
def d32 (L sz : Nat) (inp : Nat -> Int) : MS := dm32 sz (memI inp L)
theorem ro_exI {bi : Bool} {L : Nat} {inp : Nat -> Int} : ∀ id blk, hget (mkH (exI bi (inB L inp))) id = some blk -> blk.ro = false -> hget ([] : Hp) id = some blk := by
  intro id blk h hro
  cases bi
  · cases h
  · simp only [exI, mkH, cond_true, hget] at h
    revert h
    cases Nat.beq 40 id <;> intro h
    · cases h
    · cases h; cases hro
theorem b32 {bi : Bool} {L C sz : Nat} {inp : Nat -> Int} (hb : bi = false -> L = 0) (h1 : L <= sz) (h2 : sz <= 4194304) :
    Body Try.prog 32 [vI bi 0 L C, .int .i64 (sz : Int)] (mkH (exI bi (inB L inp))) (.tuple ⟨[docV 100 (d32 L sz inp), .bool true]⟩) (mkH [(100, mb32 sz (memI inp L)), (101, docB 100 (d32 L sz inp))]) 100 2 := by
  refine body_of_ro [] mixed fx32 (by simp) ro_exI fun E Q hP hn hcl hfin => ?_
  have hF : FnsOK E.P (lookF FL) noSc := hP ▸ FOK
  have ea := p32_a bi L C (sz : Int) inp hb
  rw [q32_true, cond_true, decide_eq_false (show ¬ (sz : Int) < L by omega), cond_false, decide_eq_false (show ¬ (sz : Int) > 4194304 by omega), cond_false] at ea
  have lf0 : ∀ {ex : Exit} {q : Nat} {ks : List Nat} {vs : List Value} {ts : List (Option (Bool × Value))}, (∀ x, tsOK (stayOr 100 ((100, 100) :: x)) ts vs) -> LeafTo E ks ⟨ts, [(100, some docN)] ++ (exJ' bi).map (fun i => (i, hget (mkH (exI bi (inB L inp))) i)), ex, q⟩ ⟨mkT ks vs, mkH ([(100, docN)] ++ exI bi (inB L inp)), 101⟩ := fun {ex q ks vs ts} ht =>
    ⟨_, [(100, docN)] ++ exI bi (inB L inp), 101, rfl, by rw [hn]; cases bi <;> rfl, by rw [hn]; cases bi <;> exact ht _, by
      rw [hn, hP]
      cases bi
      · exact ⟨bis_docN, trivial⟩
      · exact ⟨bis_docN, bis_inB, trivial⟩⟩
  refine xwp_seqW (s := ⟨_, _, _⟩) hcl hF 1000 (p32_0 bi L C (sz : Int) inp hb) rfl ⟨mkT [4, 5, 0, 1] [pB, .bool false, vI bi 0 L C, .int .i64 (sz : Int)], mkH ([(100, docN)] ++ exI bi (inB L inp)), 101⟩
    (by cases bi <;> exact lf0 fun x => ⟨rfl, rfl, rfl, rfl, trivial⟩) ?_
  show XWP E.toEnv (.seq x32_5 x32_24) Q _
  refine xwp_seqW (s := ⟨_, _, _⟩) hcl hF 1000 ea rfl ⟨mkT [4, 5, 0, 1] [pB, .bool false, vI bi 0 L C, .int .i64 (sz : Int)], mkH ([(100, docN)] ++ exI bi (inB L inp)), 101⟩
    (by cases bi <;> exact lf0 fun x => ⟨rfl, rfl, rfl, rfl, trivial⟩) ?_
  have eb := p32_b bi L C sz inp hb
  rw [decide_eq_true (show 0 <= (sz : Int) by omega), decide_eq_true (Int.le_refl _), decide_eq_true (show (sz : Int) * 3 <= 1099511627776 by omega)] at eb
  simp only [Bool.and_self, cond_true, Int.toNat_natCast] at eb
  let S : Nat -> St := fun i => ⟨mkT [22, 21, 6, 4, 0] [.int .i64 (i : Int), .int .i64 (L : Int), p102, pB, vI bi 0 L C], mkH (h32 sz (memI inp i) bi L inp), 103⟩
  have hd : ∀ {σ : Nm} {f : Nat -> Int}, σ 101 = some 101 -> BIs Try.prog σ (docB 101 (dm32 sz f)) (docB 101 (dm32 sz f)) := bis_doc
  refine xwp_toLoop (s := ⟨_, _, _⟩) hF 1000 eb (S 0) ⟨_, h32 sz (memI inp 0) bi L inp, 103, rfl, ?_, ?_, ?_⟩ ?_
  · rw [hn]; cases bi <;> rfl
  · rw [hn]; cases bi <;> exact ⟨rfl, rfl, rfl, rfl, rfl, trivial⟩
  · rw [hn, hP]
    have hz : ∀ {σ : Nm}, BIs Try.prog σ (mb32 sz (memI inp 0)) (.rows sz 1 (fun _ => [.int .u8 0]) false false) := bis_mb fun j hj => by unfold memI; rw [blt_ff (Nat.not_lt_zero _)]; rfl
    cases bi
    · exact ⟨hz, hd rfl, bis_docN, trivial⟩
    · exact ⟨hz, hd rfl, bis_docN, bis_inB, trivial⟩
  refine xwp_loopR (ι := Nat) S (fun i => i <= L) (fun i => L - i) 0 (Nat.zero_le _) fun i hi => ?_
  have hcr := cl_round (S := S) (I := fun i => i <= L) (μ := fun i => L - i) (i := i) (cl_ctx hcl [.bl 0, .sq x32_22])
  have hfinal : XWP E.toEnv x32_22 Q (S L) := by
    have ed := p32_d bi L C L sz inp (memI inp L) hb
    have hd' : ∀ {σ : Nm}, σ 100 = some 101 -> BIs Try.prog σ (docB 100 (d32 L sz inp)) (docB 101 (dm32 sz (memI inp L))) := bis_doc
    refine xwp_toEnd (s := S L) hcl hF 1000 ed ⟨mkT [4, 5] [.pointer (some ⟨101, 0, some 0⟩), .bool true], mkH [(100, mb32 sz (memI inp L)), (101, docB 100 (d32 L sz inp))], 102⟩ ?_ (hfin _ _ (fin_of rfl (by exact ⟨rfl, rfl, trivial⟩) (by rw [hn]) rfl))
    have hlf : LeafTo E ([4, 5] ++ []) ⟨[some (true, pB), some (true, .bool true)], [(101, some (mb32 sz (memI inp L))), (100, some (docB 101 (dm32 sz (memI inp L))))], .ret, 103⟩ ⟨mkT [4, 5] [.pointer (some ⟨101, 0, some 0⟩), .bool true], mkH [(100, mb32 sz (memI inp L)), (101, docB 100 (d32 L sz inp))], 102⟩ :=
      ⟨_, [(100, mb32 sz (memI inp L)), (101, docB 100 (d32 L sz inp))], 102, rfl, by rw [hn]; rfl, by rw [hn]; exact ⟨rfl, rfl, trivial⟩, by rw [hn, hP]; exact ⟨bis_mb fun j hj => rfl, hd' rfl, trivial⟩⟩
    exact hlf
  cases hbi : bi with
  | false =>
    subst hbi
    have h0 := hb rfl
    subst h0
    have hi0 : i = 0 := by omega
    subst hi0
    refine xwp_toEnd (s := S 0) hcr hF 1000 (p32_n C sz inp (memI inp 0)) (S 0) ⟨_, h32 sz (memI inp 0) false 0 inp, 103, rfl, by rw [hn]; rfl, by rw [hn]; exact ⟨rfl, rfl, rfl, rfl, rfl, trivial⟩, by rw [hn, hP]; exact ⟨bis_mb fun j hj => rfl, hd rfl, bis_docN, trivial⟩⟩ ?_
    exact hfinal
  | true =>
    subst hbi
    have e := p32_c L C i sz inp (memI inp i)
    by_cases hlt : i < L
    · have i1 : intRange (i : Int) sz = true := by rw [ir_nat]; exact decide_eq_true (by omega)
      have i2 : intRange (i : Int) L = true := by rw [ir_nat]; exact decide_eq_true hlt
      rw [decide_eq_true (show (i : Int) < L by omega), i1, i2, Nat.zero_add, lt_blt (show i < sz by omega), lt_blt hlt, wrap_i (n := (i : Int) + 1) (by omega) (by omega)] at e
      simp only [Bool.and_self, Bool.or_false, cond_true] at e
      refine xwp_toEnd (s := S i) hcr hF 1000 e (S (i + 1)) ⟨_, h32 sz (memI inp (i + 1)) true L inp, 103, rfl, by rw [hn]; rfl, by rw [hn]; exact ⟨rfl, rfl, rfl, rfl, rfl, trivial⟩, by
        rw [hn, hP]
        refine ⟨bis_mb fun j hj => ?_, hd rfl, bis_docN, bis_inB, trivial⟩
        show (bif Nat.beq j i then [Value.int .u8 (inp i)] else [Value.int .u8 (bif Nat.blt j i then inp j else 0)]) = [Value.int .u8 (bif Nat.blt j (i + 1) then inp j else 0)]
        rw [beq_dec, blt_dec, blt_dec]
        by_cases h1 : j = i
        · subst h1; rw [decide_eq_true (rfl : j = j), decide_eq_true (show j < j + 1 by omega)]; rfl
        · rw [decide_eq_false h1, cond_false]
          by_cases h2 : j < i
          · rw [decide_eq_true h2, decide_eq_true (show j < i + 1 by omega)]
          · rw [decide_eq_false h2, decide_eq_false (show ¬ j < i + 1 by omega)]⟩ ⟨i + 1, hlt, by simp only; omega, Wk.refl _ _⟩
    · have : i = L := by omega
      subst this
      rw [decide_eq_false (show ¬ (i : Int) < i by omega), cond_false] at e
      refine xwp_toEnd (s := S i) hcr hF 1000 e (S i) ⟨_, h32 sz (memI inp i) true i inp, 103, rfl, by rw [hn]; rfl, by rw [hn]; exact ⟨rfl, rfl, rfl, rfl, rfl, trivial⟩, by rw [hn, hP]; exact ⟨bis_mb fun j hj => rfl, hd rfl, bis_docN, bis_inB, trivial⟩⟩ ?_
      exact hfinal
theorem b32_no {bi : Bool} {L C : Nat} {s : Int} {inp : Nat -> Int} (hb : bi = false -> L = 0) (h : s < L \/ 4194304 < s) :
    Body Try.prog 32 [vI bi 0 L C, .int .i64 s] (mkH (exI bi (inB L inp))) (.tuple ⟨[.agg ⟨[.slice none 0 0] ++ regs (fun _ => 0) ++ [.int .u64 0, .int .i64 0, .int .u8 0]⟩, .bool false]⟩) (mkH [(100, docN)]) 100 1 := by
  refine body_of_ro [] mixed fx32 (by simp) ro_exI fun E Q hP hn hcl hfin => ?_
  have hF : FnsOK E.P (lookF FL) noSc := hP ▸ FOK
  have ea := p32_a bi L C s inp hb
  rw [q32_true, cond_true, show (bif decide (s < (L : Int)) then true else decide (s > 4194304)) = true by
    by_cases h1 : s < (L : Int)
    · rw [decide_eq_true h1, cond_true]
    · rw [decide_eq_false h1, cond_false]; exact decide_eq_true (by omega), cond_true] at ea
  refine xwp_seqW (s := ⟨_, _, _⟩) hcl hF 1000 (p32_0 bi L C s inp hb) rfl ⟨mkT [4, 5, 0, 1] [pB, .bool false, vI bi 0 L C, .int .i64 s], mkH ([(100, docN)] ++ exI bi (inB L inp)), 101⟩
    ⟨_, [(100, docN)] ++ exI bi (inB L inp), 101, rfl, by rw [hn]; cases bi <;> rfl, by rw [hn]; cases bi <;> exact ⟨rfl, rfl, rfl, rfl, trivial⟩, by
      rw [hn, hP]
      cases bi
      · exact ⟨bis_docN, trivial⟩
      · exact ⟨bis_docN, bis_inB, trivial⟩⟩ ?_
  show XWP E.toEnv (.seq x32_5 x32_24) Q _
  refine xwp_seq (xwp_toEnd (s := ⟨_, _, _⟩) (cl_seqP hcl) hF 1000 ea ⟨mkT [4, 5] [pB, .bool false], mkH [(100, docN)], 101⟩ ⟨_, [(100, docN)], 101, rfl, by rw [hn]; rfl, by rw [hn]; exact ⟨rfl, rfl, trivial⟩, by rw [hn, hP]; exact ⟨bis_docN, trivial⟩⟩ ?_)
  exact hfin _ _ (fin_of rfl (by exact ⟨rfl, trivial⟩) (by rw [hn]) rfl)
end Go.X
namespace Go.X
open Go Go.Proofs
def docNV : Value := .agg ⟨[.slice none 0 0] ++ regs (fun _ => 0) ++ [.int .u64 0, .int .i64 0, .int .u8 0]⟩
noncomputable abbrev sc10b (vb : Value) (pre : List (Nat × Blk)) (s : Int) : Short := scOf [conG 22 [vb, .int .i64 s] pre (.tuple ⟨[.pointer none, .int .i64 1]⟩)]
noncomputable abbrev sc10c (vb : Value) (pre : List (Nat × Blk)) (sz : Nat) (d : MS) : Short := scOf [conAt 32 [vb, .int .i64 (sz : Int)] pre (.tuple ⟨[docV 130 d, .bool true]⟩) (mkH [(130, mb32 sz d.mem), (131, docB 130 d)]) 130 2]
noncomputable abbrev sc10d (vb : Value) (pre : List (Nat × Blk)) (s : Int) : Short := scOf [conAt 32 [vb, .int .i64 s] pre (.tuple ⟨[docNV, .bool false]⟩) (mkH [(130, docN)]) 130 1]
def h10 (m d : MS) : List (Nat × Blk) := [(93, mb32 d.sz d.mem), (94, docB 93 d)] ++ m.HA 90 91 92
end Go.X
namespace Go.X
open Go Go.Proofs
section
variable (bi : Bool) (L C sz : Nat) (s : Int) (inp : Nat -> Int) (m d : MS) (hb : bi = false -> L = 0)
include hb
theorem p22_0 : walk (lookF FL) noSc 1000 (.region x22_0) (argTm 0 [vI bi 0 L C, .int .i64 s]) (mkH (exI bi (inB L inp))) 100 ⟨[], [], [0, 1], exJ' bi⟩ ⟨[], [], [], []⟩ ⟨[], [], [], []⟩ = some ⟨⟨[], [], .normal, 100⟩, none⟩ := by
  cases bi <;> first | (obtain rfl := hb rfl; kernel_rfl) | kernel_rfl
theorem p22_5 : walk (lookF FL) noSc 1000 x22_5 (mkT [0, 1] [vI bi 0 L C, .int .i64 s]) (mkH (exI bi (inB L inp))) 100 ⟨[], [], [0, 1], exJ' bi⟩ ⟨[4, 5], [], [], exJ' bi⟩ ⟨[], [], [], []⟩ =
    bif q32 (decide (s < (L : Int))) then bif bif decide (s < (L : Int)) then true else decide (s > 4194304) then some ⟨⟨[some (true, .pointer none), some (true, .int .i64 1)], [], .ret, 100⟩, none⟩ else some ⟨⟨[], [], .normal, 100⟩, none⟩ else none := by
  cases bi <;> first | (obtain rfl := hb rfl; kernel_rfl) | kernel_rfl
theorem p10_0 : walk (lookF FL) noSc 1000 (.region x10_0) (argTm 0 [vI bi 0 L C, .int .i64 s]) (mkH (exI bi (inB L inp))) 50 ⟨[], [], [0, 1], exJ' bi⟩ ⟨[], [], [], []⟩ ⟨[], [], [], []⟩ = some ⟨⟨[], [], .normal, 50⟩, none⟩ := by
  cases bi <;> first | (obtain rfl := hb rfl; kernel_rfl) | kernel_rfl
theorem p10_5 : walk (lookF FL) sc6 1000 x10_5 (mkT [0, 1] [vI bi 0 L C, .int .i64 s]) (mkH (exI bi (inB L inp))) 50 ⟨[], [], [0, 1], exJ' bi⟩ ⟨[4], [], [], []⟩ ⟨[], [], [], []⟩ =
    bif decide ((L : Int) > 3000) then some ⟨⟨[some (true, .bool true)], [], .ret, 50⟩, none⟩ else some ⟨⟨[], [], .normal, 50⟩, none⟩ := by
  cases bi <;> first | (obtain rfl := hb rfl; kernel_rfl) | kernel_rfl
theorem p10_6 : walk (lookF FL) (sc8n (vI bi 0 L C) (exI bi (inB L inp)) sz m) 1000 (.region x10_6) (mkT [0, 1] [vI bi 0 L C, .int .i64 (sz : Int)]) (mkH (exI bi (inB L inp))) 130 ⟨[5, 6], [.id 130, .id 131, .id 132], [0, 1], exJ' bi⟩ ⟨[], [], [], []⟩ ⟨[], [], [], []⟩ =
    bif decP ([vI bi 0 L C, .int .i64 (sz : Int)] = [vI bi 0 L C, .int .i64 (sz : Int)] /\ Has (mkH (exI bi (inB L inp))) (exI bi (inB L inp)) /\ AtN 22 [vI bi 0 L C, .int .i64 (sz : Int)] (exI bi (inB L inp)) (vM3 132) (mkH [(130, m.memB), (131, m.kn.blk), (132, m.mAt 130 131)]) 130 3) && true && true then
      some ⟨⟨[some (true, pAt 132), some (true, .int .i64 0)], [(130, some m.memB), (131, some m.kn.blk), (132, some (m.mAt 130 131))], .normal, 133⟩, none⟩ else none := by
  cases bi <;> first | (obtain rfl := hb rfl; kernel_rfl) | kernel_rfl
theorem p10_6n : walk (lookF FL) (sc10b (vI bi 0 L C) (exI bi (inB L inp)) s) 1000 (.region x10_6) (mkT [0, 1] [vI bi 0 L C, .int .i64 s]) (mkH (exI bi (inB L inp))) 130 ⟨[5, 6], [], [0, 1], exJ' bi⟩ ⟨[], [], [], []⟩ ⟨[], [], [], []⟩ =
    bif (decP ([vI bi 0 L C, .int .i64 s] = [vI bi 0 L C, .int .i64 s] /\ Has (mkH (exI bi (inB L inp))) (exI bi (inB L inp)) /\ DetG 22 [vI bi 0 L C, .int .i64 s] (exI bi (inB L inp)) (.tuple ⟨[.pointer none, .int .i64 1]⟩)) || false) && true then
      some ⟨⟨[some (true, nilP), some (true, .int .i64 1)], [], .normal, 130⟩, none⟩ else none := by
  cases bi <;> first | (obtain rfl := hb rfl; kernel_rfl) | kernel_rfl
theorem p10_7 : walk (lookF FL) (sc10c (vI bi 0 L C) (exI bi (inB L inp)) sz d) 1000 (.region x10_7) (mkT [5, 6, 0, 1] [pAt 92, .int .i64 0, vI bi 0 L C, .int .i64 (sz : Int)]) (mkH (m.HA 90 91 92 ++ exI bi (inB L inp))) 130 ⟨[7, 8], [.id 130, .tmp 7], [5, 6, 1], [90, 91, 92]⟩ ⟨[], [], [], []⟩ ⟨[], [], [], []⟩ =
    bif decP ([vI bi 0 L C, .int .i64 (sz : Int)] = [vI bi 0 L C, .int .i64 (sz : Int)] /\ Has (mkH (m.HA 90 91 92 ++ exI bi (inB L inp))) (exI bi (inB L inp)) /\ AtN 32 [vI bi 0 L C, .int .i64 (sz : Int)] (exI bi (inB L inp)) (.tuple ⟨[docV 130 d, .bool true]⟩) (mkH [(130, mb32 sz d.mem), (131, docB 130 d)]) 130 2) && true && true then
      some ⟨⟨[some (true, pAt 132), some (true, .bool true)], [(130, some (mb32 sz d.mem)), (132, some (docB 130 d))], .normal, 133⟩, none⟩ else none := by
  cases bi <;> first | (obtain rfl := hb rfl; kernel_rfl) | kernel_rfl
theorem p10_7n : walk (lookF FL) (sc10d (vI bi 0 L C) (exI bi (inB L inp)) s) 1000 (.region x10_7) (mkT [5, 6, 0, 1] [nilP, .int .i64 1, vI bi 0 L C, .int .i64 s]) (mkH (exI bi (inB L inp))) 130 ⟨[7, 8], [.tmp 7], [5, 6, 1], []⟩ ⟨[], [], [], []⟩ ⟨[], [], [], []⟩ =
    bif decP ([vI bi 0 L C, .int .i64 s] = [vI bi 0 L C, .int .i64 s] /\ Has (mkH (exI bi (inB L inp))) (exI bi (inB L inp)) /\ AtN 32 [vI bi 0 L C, .int .i64 s] (exI bi (inB L inp)) (.tuple ⟨[docNV, .bool false]⟩) (mkH [(130, docN)]) 130 1) && true && true then
      some ⟨⟨[some (true, pAt 131), some (true, .bool false)], [(131, some docN)], .normal, 132⟩, none⟩ else none := by
  cases bi <;> first | (obtain rfl := hb rfl; kernel_rfl) | kernel_rfl
end
section
variable (sz : Nat) (s : Int) (m d : MS)
theorem p10_12 : walk (lookF FL) noSc 1000 x10_12 (mkT [7, 8, 5, 6, 1] [pAt 94, .bool true, pAt 92, .int .i64 0, .int .i64 (sz : Int)]) (mkH (h10 m d)) 130 ⟨[], [], [7, 8, 5, 1], [93, 94, 90, 91, 92]⟩ ⟨[], [], [], []⟩ ⟨[], [], [], []⟩ = some ⟨⟨[], [], .normal, 130⟩, none⟩ := by kernel_rfl
theorem p10_12n : walk (lookF FL) noSc 1000 x10_12 (mkT [7, 8, 5, 6, 1] [pAt 94, .bool false, nilP, .int .i64 1, .int .i64 s]) (mkH [(94, docN)]) 130 ⟨[], [], [7, 8, 5, 1], [94]⟩ ⟨[], [], [], []⟩ ⟨[], [], [], []⟩ = some ⟨⟨[], [], .normal, 130⟩, none⟩ := by kernel_rfl
theorem p10_14 : walk (lookF FL) (scOf [conG 33 [pAt 92, docV 93 d] (m.HA 90 91 92 ++ [(93, mb32 d.sz d.mem)]) (.bool true)]) 1000 x10_14 (mkT [7, 8, 5, 1] [pAt 94, .bool true, pAt 92, .int .i64 (sz : Int)]) (mkH (h10 m d)) 130 ⟨[], [], [], []⟩ ⟨[4], [], [], []⟩ ⟨[], [], [], []⟩ =
    bif ((!decide ((sz : Int) > 65536) || decide ((sz : Int) > 65536)) && true || false) && ((!decide ((sz : Int) > 65536) && (!decide ((sz : Int) > 65536) && true) && decP ([pAt 92, docV 93 d] = [pAt 92, docV 93 d] /\ Has (mkH (h10 m d)) (m.HA 90 91 92 ++ [(93, mb32 d.sz d.mem)]) /\ DetG 33 [pAt 92, docV 93 d] (m.HA 90 91 92 ++ [(93, mb32 d.sz d.mem)]) (.bool true)) || !!decide ((sz : Int) > 65536)) && true) then
      some ⟨⟨[some (true, .bool (bif decide ((sz : Int) > 65536) then true else true))], [], .ret, 130⟩, none⟩ else none := by kernel_rfl
theorem p10_14n : walk (lookF FL) noSc 1000 x10_14 (mkT [7, 8, 5, 1] [pAt 94, .bool false, nilP, .int .i64 s]) (mkH [(94, docN)]) 130 ⟨[], [], [], []⟩ ⟨[4], [], [], []⟩ ⟨[], [], [], []⟩ = some ⟨⟨[some (true, .bool true)], [], .ret, 130⟩, none⟩ := by kernel_rfl
end
theorem b22_no {bi : Bool} {L C : Nat} {s : Int} {inp : Nat -> Int} (hb : bi = false -> L = 0) (h : s < L \/ 4194304 < s) : Body Try.prog 22 [vI bi 0 L C, .int .i64 s] (mkH (exI bi (inB L inp))) (.tuple ⟨[.pointer none, .int .i64 1]⟩) [] 100 0 := by
  refine body_of_ro [] mixed fx22 (by simp) ro_exI fun E Q hP hn hcl hfin => ?_
  have hF : FnsOK E.P (lookF FL) noSc := hP ▸ FOK
  have ea := p22_5 bi L C s inp hb
  rw [q32_true, cond_true, show (bif decide (s < (L : Int)) then true else decide (s > 4194304)) = true by
    by_cases h1 : s < (L : Int)
    · rw [decide_eq_true h1, cond_true]
    · rw [decide_eq_false h1, cond_false]; exact decide_eq_true (by omega), cond_true] at ea
  refine xwp_seqW (s := ⟨_, _, _⟩) hcl hF 1000 (p22_0 bi L C s inp hb) rfl ⟨mkT [0, 1] [vI bi 0 L C, .int .i64 s], mkH (exI bi (inB L inp)), 100⟩
    ⟨_, exI bi (inB L inp), 100, rfl, by rw [hn]; cases bi <;> rfl, by rw [hn]; cases bi <;> exact ⟨rfl, rfl, trivial⟩, by
      rw [hn, hP]
      cases bi
      · exact trivial
      · exact ⟨bis_inB, trivial⟩⟩ ?_
  show XWP E.toEnv (.seq x22_5 x22_11) Q _
  refine xwp_seq (xwp_toEnd (s := ⟨_, _, _⟩) (cl_seqP hcl) hF 1000 ea ⟨mkT [4, 5] [.pointer none, .int .i64 1], mkH (exI bi (inB L inp)), 100⟩ ⟨_, exI bi (inB L inp), 100, rfl, by rw [hn]; cases bi <;> rfl, by rw [hn]; cases bi <;> exact ⟨rfl, rfl, trivial⟩, by
      rw [hn, hP]
      cases bi
      · exact trivial
      · exact ⟨bis_inB, trivial⟩⟩ ?_)
  exact hfin _ _ (fin_of rfl trivial (by rw [hn]) rfl)
section
variable {bi : Bool} {L C sz : Nat} {s : Int} {inp : Nat -> Int} (hb : bi = false -> L = 0)
include hb
theorem d22_no (h : s < L \/ 4194304 < s) : DetG 22 [vI bi 0 L C, .int .i64 s] (exI bi (inB L inp)) (.tuple ⟨[.pointer none, .int .i64 1]⟩) := by
  have h := b22_no (C := C) (inp := inp) hb h
  cases bi with
  | false => exact ⟨rfl, fun k => adet_of_body h [(40, 40)] [] rfl rfl trivial rfl rfl trivial rfl⟩
  | true => exact ⟨rfl, fun k => adet_of_body h [(40, 40)] [] rfl rfl ⟨bis_inB, trivial⟩ rfl rfl ⟨bis_inB, trivial⟩ rfl⟩
theorem a32 (h1 : L <= sz) (h2 : sz <= 4194304) : AtN 32 [vI bi 0 L C, .int .i64 (sz : Int)] (exI bi (inB L inp)) (.tuple ⟨[docV 130 (d32 L sz inp), .bool true]⟩) (mkH [(130, mb32 sz (d32 L sz inp).mem), (131, docB 130 (d32 L sz inp))]) 130 2 := by
  have h := b32 (C := C) (inp := inp) hb h1 h2
  have hm : ∀ {σ : Nm}, BIs Try.prog σ (mb32 sz (memI inp L)) (mb32 sz (memI inp L)) := bis_mb fun _ _ => rfl
  cases bi with
  | false => exact ⟨rfl, adet_of_body h [(40, 40)] [(130, 100), (131, 101)] rfl rfl trivial rfl rfl ⟨hm, bis_doc rfl, trivial⟩ rfl⟩
  | true => exact ⟨rfl, adet_of_body h [(40, 40)] [(130, 100), (131, 101)] rfl rfl ⟨bis_inB, trivial⟩ rfl rfl ⟨hm, bis_doc rfl, bis_inB, trivial⟩ rfl⟩
theorem a32_no (h : s < L \/ 4194304 < s) : AtN 32 [vI bi 0 L C, .int .i64 s] (exI bi (inB L inp)) (.tuple ⟨[docNV, .bool false]⟩) (mkH [(130, docN)]) 130 1 := by
  have h := b32_no (C := C) (inp := inp) hb h
  cases bi with
  | false => exact ⟨rfl, adet_of_body h [(40, 40)] [(130, 100)] rfl rfl trivial rfl rfl ⟨bis_docN, trivial⟩ rfl⟩
  | true => exact ⟨rfl, adet_of_body h [(40, 40)] [(130, 100)] rfl rfl ⟨bis_inB, trivial⟩ rfl rfl ⟨bis_docN, bis_inB, trivial⟩ rfl⟩
end
theorem d33 {m d : MS} (hs : szB m.sz = true) (hsz : d.sz = m.sz) (hx : ∀ j, j < 32 -> m.x j = d.x j) (hpl : m.pl = d.pl) (hm : ∀ j, j < m.sz -> m.mem j = d.mem j) : DetG 33 [pAt 92, docV 93 d] (m.HA 90 91 92 ++ [(93, mb32 d.sz d.mem)]) (.bool true) :=
  ⟨rfl, fun k => adet_of_body (tells33 hs hsz hx hpl hm) [(90, 90), (91, 91), (92, 92), (93, 93)] [] rfl rfl ⟨bis_mem, bis_kn, bis_mAt (a := 90) (b := 91) rfl rfl, bis_mem, trivial⟩ rfl rfl ⟨bis_mem, bis_kn, bis_mAt rfl rfl, bis_mem, trivial⟩ rfl⟩
theorem b10 {bi : Bool} {L C : Nat} {s : Int} {inp : Nat -> Int} (hb : bi = false -> L = 0) (hs : -9223372036854775808 <= s /\ s < 9223372036854775808) :
    Body Try.prog 10 [vI bi 0 L C, .int .i64 s] (mkH (exI bi (inB L inp))) (.bool true) [] 50 0 := by
  refine body_of_ro [] mixed fx10 (by simp) ro_exI fun E Q hP hn hcl hfin => ?_
  have hF : FnsOK E.P (lookF FL) noSc := hP ▸ FOK
  have lfI : ∀ {ex : Exit} {q n1 : Nat}, (n1 = 50 \/ n1 = 130) -> LeafTo E ([] ++ [0, 1]) ⟨[some (true, vI bi 0 L C), some (true, .int .i64 s)], (exJ' bi).map (fun i => (i, hget (mkH (exI bi (inB L inp))) i)), ex, q⟩ ⟨mkT [0, 1] [vI bi 0 L C, .int .i64 s], mkH (exI bi (inB L inp)), n1⟩ := fun {ex q n1} hc =>
    ⟨_, exI bi (inB L inp), n1, rfl, by
      rw [hn]
      rcases hc with rfl | rfl <;> cases bi <;> rfl, by rw [hn]; cases bi <;> exact ⟨rfl, rfl, trivial⟩, by
      rw [hn, hP]
      cases bi
      · exact trivial
      · exact ⟨bis_inB, trivial⟩⟩
  refine xwp_seqW (s := ⟨_, _, _⟩) hcl hF 1000 (p10_0 bi L C s inp hb) rfl ⟨mkT [0, 1] [vI bi 0 L C, .int .i64 s], mkH (exI bi (inB L inp)), 50⟩ (by cases bi <;> exact lfI (.inl rfl)) ?_
  show XWP E.toEnv (.seq x10_5 x10_17) Q _
  have e5 := p10_5 bi L C s inp hb
  by_cases hbig : (L : Int) > 3000
  · rw [decide_eq_true hbig, cond_true] at e5
    refine xwp_seq (xwp_toEnd (s := ⟨_, _, _⟩) (cl_seqP hcl) (hP ▸ fok FOK _) 1000 e5 ⟨mkT [4] [.bool true], mkH [], 50⟩ ⟨_, [], 50, rfl, by rw [hn]; rfl, by rw [hn]; exact ⟨rfl, trivial⟩, trivial⟩ ?_)
    exact hfin _ _ (fin_of rfl trivial (by rw [hn]) rfl)
  rw [decide_eq_false hbig, cond_false] at e5
  refine xwp_seqW (s := ⟨_, _, _⟩) hcl (hP ▸ fok FOK _) 1000 e5 rfl ⟨mkT [0, 1] [vI bi 0 L C, .int .i64 s], mkH (exI bi (inB L inp)), 130⟩ (by cases bi <;> exact lfI (.inr rfl)) ?_
  have hhas : Has (mkH (exI bi (inB L inp))) (exI bi (inB L inp)) := by cases bi <;> first | trivial | exact ⟨rfl, trivial⟩
  by_cases hok : s < L \/ 4194304 < s
  · have e6 := p10_6n bi L C s inp hb
    rw [decP_true ⟨rfl, hhas, d22_no hb hok⟩] at e6
    simp only [Bool.and_self, Bool.or_false, cond_true] at e6
    refine xwp_seqW (s := ⟨_, _, _⟩) hcl (fokE hP _) 1000 e6 rfl ⟨mkT [5, 6, 0, 1] [nilP, .int .i64 1, vI bi 0 L C, .int .i64 s], mkH (exI bi (inB L inp)), 130⟩ ⟨_, exI bi (inB L inp), 130, rfl, by rw [hn]; cases bi <;> rfl, by rw [hn]; cases bi <;> exact ⟨rfl, rfl, rfl, rfl, trivial⟩, by
      rw [hn, hP]
      cases bi
      · exact trivial
      · exact ⟨bis_inB, trivial⟩⟩ ?_
    have e7 := p10_7n bi L C s inp hb
    rw [decP_true ⟨rfl, hhas, a32_no hb hok⟩] at e7
    simp only [Bool.and_self, cond_true] at e7
    refine xwp_seqW (s := ⟨_, _, _⟩) hcl (fokE hP _) 1000 e7 rfl ⟨mkT [7, 8, 5, 6, 1] [pAt 94, .bool false, nilP, .int .i64 1, .int .i64 s], mkH [(94, docN)], 130⟩ ⟨_, [(94, docN)], 130, rfl, by rw [hn]; rfl, by rw [hn]; exact ⟨rfl, rfl, rfl, rfl, rfl, trivial⟩, by rw [hn, hP]; exact ⟨bis_docN, trivial⟩⟩ ?_
    show XWP E.toEnv (.seq x10_12 x10_14) Q _
    refine xwp_seqW (s := ⟨_, _, _⟩) hcl hF 1000 (p10_12n s) rfl ⟨mkT [7, 8, 5, 1] [pAt 94, .bool false, nilP, .int .i64 s], mkH [(94, docN)], 130⟩ ⟨_, [(94, docN)], 130, rfl, by rw [hn]; rfl, by rw [hn]; exact ⟨rfl, rfl, rfl, rfl, trivial⟩, by rw [hn, hP]; exact ⟨bis_docN, trivial⟩⟩ ?_
    exact xwp_toEnd (s := ⟨_, _, _⟩) hcl hF 1000 (p10_14n s) ⟨mkT [4] [.bool true], mkH [], 50⟩ ⟨_, [], 50, rfl, by rw [hn]; rfl, by rw [hn]; exact ⟨rfl, trivial⟩, trivial⟩ (hfin _ _ (fin_of rfl trivial (by rw [hn]) rfl))
  · obtain ⟨sz, rfl⟩ : ∃ n : Nat, s = n := ⟨s.toNat, by omega⟩
    have h1 : L <= sz := by omega
    have h2 : sz <= 4194304 := by omega
    obtain ⟨m, hm⟩ : ∃ m, m = newM 0 L inp sz := ⟨_, rfl⟩
    obtain ⟨d, hd⟩ : ∃ d, d = d32 L sz inp := ⟨_, rfl⟩
    have e6 := p10_6 bi L C sz inp m hb
    rw [decP_true ⟨rfl, hhas, by rw [hm]; exact c22_40 hb h1 h2⟩] at e6
    simp only [Bool.and_self, cond_true] at e6
    refine xwp_seqW (s := ⟨_, _, _⟩) hcl (fokE hP _) 1000 e6 rfl ⟨mkT [5, 6, 0, 1] [pAt 92, .int .i64 0, vI bi 0 L C, .int .i64 (sz : Int)], mkH (m.HA 90 91 92 ++ exI bi (inB L inp)), 130⟩ ⟨_, m.HA 90 91 92 ++ exI bi (inB L inp), 130, rfl, by rw [hn]; cases bi <;> rfl, by rw [hn]; cases bi <;> exact ⟨rfl, rfl, rfl, rfl, trivial⟩, by
      rw [hn, hP]
      cases bi
      · exact ⟨bis_mem, bis_kn, bis_mAt rfl rfl, trivial⟩
      · exact ⟨bis_mem, bis_kn, bis_mAt rfl rfl, bis_inB, trivial⟩⟩ ?_
    have e7 := p10_7 bi L C sz inp m d hb
    rw [decP_true ⟨rfl, by cases bi <;> first | trivial | exact ⟨rfl, trivial⟩, by rw [hd]; exact a32 hb h1 h2⟩] at e7
    simp only [Bool.and_self, cond_true] at e7
    have hdz : d.sz = sz := by rw [hd]; rfl
    refine xwp_seqW (s := ⟨_, _, _⟩) hcl (fokE hP _) 1000 e7 rfl ⟨mkT [7, 8, 5, 6, 1] [pAt 94, .bool true, pAt 92, .int .i64 0, .int .i64 (sz : Int)], mkH (h10 m d), 130⟩ ⟨_, h10 m d, 130, rfl, by rw [hn]; rfl, by rw [hn]; exact ⟨rfl, rfl, rfl, rfl, rfl, trivial⟩, by
      rw [hn, hP]
      refine ⟨?_, bis_doc rfl, bis_mem, bis_kn, bis_mAt rfl rfl, trivial⟩
      rw [hdz]; exact bis_mb fun _ _ => rfl⟩ ?_
    show XWP E.toEnv (.seq x10_12 x10_14) Q _
    have hmb : ∀ {σ : Nm}, BIs Try.prog σ (mb32 d.sz d.mem) (mb32 d.sz d.mem) := bis_mb fun _ _ => rfl
    refine xwp_seqW (s := ⟨_, _, _⟩) hcl hF 1000 (p10_12 sz m d) rfl ⟨mkT [7, 8, 5, 1] [pAt 94, .bool true, pAt 92, .int .i64 (sz : Int)], mkH (h10 m d), 130⟩ ⟨_, h10 m d, 130, rfl, by rw [hn]; rfl, by rw [hn]; exact ⟨rfl, rfl, rfl, rfl, trivial⟩, by rw [hn, hP]; exact ⟨hmb, bis_doc rfl, bis_mem, bis_kn, bis_mAt rfl rfl, trivial⟩⟩ ?_
    have e14 := p10_14 sz m d
    have D := d33 (m := m) (d := d) (by rw [hm]; exact decide_eq_true h2) (by rw [hm, hd]; rfl) (fun j _ => by rw [hm, hd]; rfl) (by rw [hm, hd]; rfl) (fun j _ => by rw [hm, hd]; show (bif Nat.blt j L then inp (0 + j) else 0) = (bif Nat.blt j L then inp j else 0); rw [Nat.zero_add])
    rw [decP_true ⟨rfl, ⟨rfl, rfl, rfl, rfl, trivial⟩, D⟩] at e14
    have e14' : walk (lookF FL) (scOf [conG 33 [pAt 92, docV 93 d] (m.HA 90 91 92 ++ [(93, mb32 d.sz d.mem)]) (.bool true)]) 1000 x10_14 (mkT [7, 8, 5, 1] [pAt 94, .bool true, pAt 92, .int .i64 (sz : Int)]) (mkH (h10 m d)) 130 ⟨[], [], [], []⟩ ⟨[4], [], [], []⟩ ⟨[], [], [], []⟩ = some ⟨⟨[some (true, .bool true)], [], .ret, 130⟩, none⟩ := by
      rw [e14]; cases decide ((sz : Int) > 65536) <;> rfl
    exact xwp_toEnd (s := ⟨_, _, _⟩) hcl (fokE hP _) 1000 e14' ⟨mkT [4] [.bool true], mkH [], 50⟩ ⟨_, [], 50, rfl, by rw [hn]; rfl, by rw [hn]; exact ⟨rfl, trivial⟩, trivial⟩ (hfin _ _ (fin_of rfl trivial (by rw [hn]) rfl))
end Go.X
