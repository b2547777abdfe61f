import Derived.Test.YtnekegldodbgjaaF25
import Derived.Test.YtnekegldodbgjaaF23
import Derived.Test.YtnekegldodbgjaaF24
set_option linter.all false
set_option linter.unusedVariables false
set_option linter.unusedSimpArgs false
namespace Go.X
open Go Go.Proofs
set_option linter.unusedVariables false
set_option linter.unusedSimpArgs false
theorem fn20 : Try.prog.funcs[20]? = some Try.f20 := by kernel_rfl
theorem fb20 : Try.f20.body = some body20 := by kernel_rfl
theorem rt20 : tmpRes Try.prog Try.f20.results.toList = some rts20 := by kernel_rfl
theorem nm20 : (Try.f20.name == "runtime.NumGoroutine") = false := by kernel_rfl
theorem nt20 : Try.f20.ntmps = 124 := by kernel_rfl
theorem tmR_sub {ρ : Rn} {t : Tm} {tmps : Array Value} (h : TmR ρ t tmps) : ∀ {t' : Tm}, (∀ p ∈ t', look t p.1 = some p.2) → TmR ρ t' tmps
  | [], _ => fun k b v hl => by cases hl
  | (j, c, u) :: t', hs => fun k b v hl => by
    simp only [look] at hl
    cases hb : Nat.beq j k with
    | true =>
      rw [hb] at hl
      simp only [cond_true, Option.some.injEq, Prod.mk.injEq] at hl
      obtain ⟨rfl, rfl⟩ := hl
      rw [← Nat.eq_of_beq_eq_true hb]
      exact h j c u (hs _ (.head _))
    | false => rw [hb] at hl; exact tmR_sub h (fun p hp => hs p (.tail _ hp)) k b v hl
def t1 (w : Int) : Tm := [(3, true, .int .i64 0), (2, true, .pointer (some ⟨100, 0, some 0⟩)), (0, true, .int .u32 w)]
def t2 (w : Int) : Tm := (18, true, .map (some 101)) :: t1 w
def h2 : Hp := (101, some shBlk) :: hS
theorem e20_0 (w : Int) : exec (lookF FL) scB 10 [] (.region r20_0) (argTm 0 [.int .u32 w]) [] 100 = some ⟨[], .normal, t1 w, hS, 101, true⟩ := by kernel_rfl
abbrev run1 (w : Int) : Option RS := xrun (callE (lookF FL) scB (exec (lookF FL) scB 10 [])) [] r20_1 0 (t1 w) hS 101 true True []
theorem run1_is (w : Int) : run1 w = some ⟨t2 w, h2, 102, true, rsP (run1 w), rsR (run1 w)⟩ := by kernel_rfl
def tZ (w : Int) : Tm := (3, true, .int .i64 2) :: (123, true, i18 0 0 0 0 0) :: tS w
def hZ : Hp := (100, some (iB 0 0 0 0 0)) :: hS
theorem e20_z (w : Int) : exec (lookF FL) scB 10 [] z20 (tS w) hS 103 = some ⟨[], .ret, tZ w, hZ, 103, true⟩ := by kernel_rfl
theorem core_alloc {P : Program} {N : Nat} {B : Base} {ρ : Rn} {t t' : Tm} {g g' : G} {a : Act} {w : World} {it : Nat} {o : Obj} (h : Core P N B ρ t g a w) (hg : ∀ id b, g' id = some b → g id = some b) (hi : ρ it = none) (hBi : B.n ≤ it)
    (hgi : g' it = none) (ht : ∀ {tmps : Array Value}, TmR (rset ρ it ⟨⟨w.heap.size, 0, none⟩, 0, 0⟩) ((19, true, .pointer (some ⟨it, 0, some 0⟩)) :: t) tmps → TmR (rset ρ it ⟨⟨w.heap.size, 0, none⟩, 0, 0⟩) t' tmps) (h19 : 19 < N) :
    Core P N B (rset ρ it ⟨⟨w.heap.size, 0, none⟩, 0, 0⟩) t' g' (a.put (some 19) (.pointer (some ⟨w.heap.size, 0, none⟩))) (w.alloc o) := by
  have hle := le_rset (ρ := ρ) ⟨⟨w.heap.size, 0, none⟩, 0, 0⟩ hi
  have hback : ∀ id b l, g' id = some b → rset ρ it ⟨⟨w.heap.size, 0, none⟩, 0, 0⟩ id = some l → ρ id = some l := fun id b l h1 h2 => by
    have : id ≠ it := by rintro rfl; rw [hgi] at h1; cases h1
    rwa [rset_ne _ _ this] at h2
  have hold : ∀ k, k < w.heap.size → (w.alloc o).heap[k]? = w.heap[k]? := fun k hk => heap_alloc_old w o hk
  have c1 : Core P N B (rset ρ it ⟨⟨w.heap.size, 0, none⟩, 0, 0⟩) t g' a (w.alloc o) := {
    tm := h.tm.mono hle
    sz := h.sz
    df := h.df
    rel := ⟨fun id b hb => by
        obtain ⟨l, hl, hh⟩ := h.rel.holds id b (hg id b hb)
        exact ⟨l, hle id l hl, hh.stay hle fun ht => hold _ (hh.lt ht)⟩,
      fun id b id' b' l l' h1 h2 h3 h4 h5 h6 h7 => h.rel.sep id b id' b' l l' (hg _ _ h1) (hg _ _ h2) h3 h4 h5 (hback id b l h1 h6) (hback id' b' l' h2 h7)⟩
    fr := h.fr.trans ⟨rfl, rfl, rfl, by show w.heap.size ≤ (w.heap.push o).size; simp, fun k hk _ => hold k hk⟩
    own := fun k ⟨id, b, l, h1, h2, h3, h4⟩ => h.own k ⟨id, b, l, hg _ _ h1, h2, hback id b l h1 h3, h4⟩
    le := h.le.trans hle
    new := fun id h0 h1 => by
      by_cases e : id = it
      · rw [e]; exact hBi
      · rw [rset_ne _ _ e] at h1; exact h.new id h0 h1 }
  have c2 := core_put (d := 19) (v := .pointer (some ⟨it, 0, some 0⟩)) (c := .pointer (some ⟨w.heap.size, 0, none⟩)) c1 h19 (by
    have := V.ptr (ρ := rset ρ it ⟨⟨w.heap.size, 0, none⟩, 0, 0⟩) (idx := 0) (fo := 0) (rset_same ρ it ⟨⟨w.heap.size, 0, none⟩, 0, 0⟩)
    exact this)
  exact { c2 with tm := ht c2.tm }
theorem fin20 {E : FEnv} (hn : E.B.n = 100) (x : Ans) (t : Tm) (h : Hp) (ht : TmsOK (stayOr 100 [(100, 100)]) t (mkT [2, 3] [.pointer (some ⟨100, 0, some 0⟩), .int .i64 x.err])) (hh : hget h 100 = some x.b) {e : Exit} (he : e = .ret) :
    finP E.toEnv rts20 [] x.v [(100, some x.b)] 1 e ⟨t, h, 103⟩ := by
  refine ⟨.inr he, mkT [2, 3] [.pointer (some ⟨100, 0, some 0⟩), .int .i64 x.err], ?_, rfl⟩
  rw [hn]
  refine weak [(100, 100)] ?_ ?_ ?_ ?_ <;> rw [hn]
  · rfl
  · rfl
  · exact ht
  · simp only [HsOK, List.append_nil, natMem]
    refine ⟨?_, trivial⟩
    show (match hget h 100 with | some b => BIs _ _ x.b b | none => False)
    rw [hh]
    exact rfl
end Go.X
namespace Go.X
open Go Go.Proofs
set_option linter.unusedVariables false
set_option linter.unusedSimpArgs false
theorem decA_some {w q : Int} {c : Cand} (h : decF w = some (q, c)) : decA w = ⟨q, c, 0⟩ := by unfold decA; rw [h]
theorem decA_none {w : Int} (h : decF w = none) : decA w = ⟨0, ⟨0, 0, 0, 0⟩, 2⟩ := by unfold decA; rw [h]
theorem bd20 (w : Int) (hu : DecU w) : Body Try.prog 20 [.int .u32 w] [] (decA w).v [(100, some (decA w).b)] 100 1 := by
  refine body_code mixed fn20 fb20 rt20 nm20 nt20 (show 1 ≤ 124 by decide) fun ρ0 w0 hd a0 wd hr0 => ?_
  let E : FEnv := envOf Try.prog 124 100 [] mixed ρ0 w0 hd
  change body20.wp Try.prog (E.toEnv.post (finP E.toEnv rts20 [] (decA w).v [(100, some (decA w).b)] 1)) a0 wd
  rw [shape3]
  refine wp_seq (wp_mono ((xwp_exec (E := E) (Q := fun e s => e = .normal ∧ s = ⟨t1 w, hS, 101⟩) FOKB 10 [] (s := ⟨argTm 0 [.int .u32 w], [], 100⟩) (e20_0 w) rfl ⟨rfl, rfl⟩) _ comp20_0 a0 wd hr0) ?_)
  rintro e a1 w1 ⟨s1, ⟨rfl, rfl⟩, hr1⟩
  refine wp_seq (wp_seq (wp_region ?_))
  rw [size20.1, show List.range 2 = List.range' 0 r20_1.length ++ [1] from rfl]
  refine ops_pre (E := E) FOKB 10 [1] cmp20_1 (s := ⟨t1 w, hS, 101⟩) (run1_is w) rfl hr1 fun a2 w2 hr2 => ?_
  obtain ⟨hBn, ρ2, hcore, hfree⟩ := hr2
  obtain ⟨l, hl, hh⟩ := hcore.rel.holds 101 shBlk rfl
  obtain ⟨es, clock, hwb, hst, hrow, hall⟩ := rows_of hh
  obtain ⟨x1, hx1, d1, p1, g1⟩ := opIs_some op20_1
  have hev : a2.eval (.tmp 18) = .map (some l.addr.block) := by
    have := at_of hcore.tm (k := 18) (v := .map (some 101)) rfl
    generalize a2.eval (.tmp 18) = c at this
    cases this with
    | map h => rw [hl] at h; cases h; rfl
  have hexec : (execOp a2.eval x1).run Try.prog w2 = .ok (.value (.pointer (some ⟨w2.heap.size, 0, none⟩))) (w2.alloc (.mapIter (some l.addr.block) clock #[] clock)) :=
    exec_range p1 (by rw [hev]; exact run_range_map w2 106 3 104 l.addr.block es clock under106 hwb)
  rw [wpOps_cons]
  refine wpOp_ok hx1 g1 hexec ?_
  rw [d1]
  have hi : ρ2 102 = none := by rw [hfree 102 (by simp)]; exact hd 102 (by decide)
  have hg : ∀ id b, hget hS id = some b → hget h2 id = some b := fun id b hb => by
    simp only [h2, hget]
    cases hx : Nat.beq 101 id with
    | true => rw [← Nat.eq_of_beq_eq_true hx] at hb; cases hb
    | false => exact hb
  have hc3 := core_alloc (t' := tS w) (o := .mapIter (some l.addr.block) clock #[] clock) (it := 102) hcore hg hi (show 100 ≤ 102 by decide) rfl (fun h => tmR_sub h (by
    intro p hp
    simp only [tS, mkT, List.mem_cons, List.not_mem_nil, or_false] at hp
    rcases hp with rfl | rfl | rfl | rfl <;> rfl)) (show 19 < 124 by decide)
  have hlt : l.addr.block < w2.heap.size := hh.lt trivial
  have hback : ∀ id b m, hget hS id = some b → rset ρ2 102 ⟨⟨w2.heap.size, 0, none⟩, 0, 0⟩ id = some m → ρ2 id = some m := fun id b m h1 h2 => by
    have : id ≠ 102 := by rintro rfl; cases h1
    rwa [rset_ne _ _ this] at h2
  have hRI : RI E (S20 w) 102 w2.heap.size l.addr.block es clock (fun e => ∀ q : Int, e.key = .int .i64 q → dec1 q w = none) _ _ _ := ⟨_, #[], show 100 ≤ 103 by decide, hc3, fun id hid => by
      have : id ≠ 102 := by rintro rfl; simp [S20] at hid
      rw [rset_ne _ _ this]
      exact hfree id (by simp [S20] at hid ⊢; omega), rset_same _ _ _, heap_alloc_new _ _, by rw [heap_alloc_old _ _ hlt]; exact hwb,
    fun id b m h1 h2 h3 => by
      obtain ⟨m', hm', hx⟩ := hcore.rel.holds id b (hg id b h1)
      have := hback id b m h1 h3
      rw [hm'] at this; cases this
      have := hx.lt h2
      omega,
    fun id b m h1 h2 h3 => hcore.rel.sep id b 101 shBlk m l (hg id b h1) rfl (by rintro rfl; cases h1) h2 trivial (hback id b m h1 h3) hl,
    rfl, fun x _ hs => by simp at hs⟩
  show (Code.block 0 (.loop round20)).wp Try.prog _ _ _
  rw [shape4]
  refine wp_block (wp_mono (wp_rangeMap (E := E) (S := S20 w) (Qr := fun s => ∃ q c, tabHas shTab (.int .i64 q) = true ∧ dec1 q w = some c ∧ s = A20 q c 0) FOKB 10 (l3 := r20_3) ⟨rfl, rfl⟩ rfl hcore.fr.size hst.2.1 hst.1 (show 22 < 124 by decide) op20_2 size20.2.1 cmp20_2 op20_3 size20.2.2 cmp20_3 comp20_r
    (fun e he ρ => ?_) (fun e he E' hP hN hn => ?_) hRI) ?_)
  · obtain ⟨q, h1, _, h2⟩ := hrow e he
    rw [h1, h2]
    exact ⟨.int _ _, row_v _ _ _ _ _⟩
  · obtain ⟨q, h1, hq, h2⟩ := hrow e he
    rw [h1, h2]
    refine ⟨_, _, _, _, _, run3_is q _ _ _ _ w, ?_⟩
    exact xround20 E' hP hn q _ _ _ _ w (form_of hq) _ _ e (fun hx q' hq' => by rw [h1] at hq'; cases hq'; exact hx) (fun c hc => ⟨q, c, hq, hc, rfl⟩)
  · rintro e a4 w4 (⟨rfl, hr4, hT⟩ | ⟨rfl, s2, ⟨q, c, hq, hc, rfl⟩, hr4⟩)
    · show tail20.wp Try.prog _ a4 w4
      have hF : decF w = none := firstD_none fun p hp => by
        obtain ⟨e, he, hk⟩ := hall p.1 (mem_has hp rfl)
        exact hT e he p.1 hk
      refine wp_mono ((xwp_exec (E := E) (Q := finP E.toEnv rts20 [] (decA w).v [(100, some (decA w).b)] 1) FOKB 10 [] (s := S20 w) (e20_z w) rfl ?_) _ comp20_t a4 w4 hr4) fun _ _ _ h => h
      rw [decA_none hF]
      exact fin20 rfl _ _ _ ⟨⟨rfl, rfl⟩, ⟨rfl, rfl⟩, trivial⟩ rfl rfl
    · refine ⟨_, ?_, hr4⟩
      rw [decA_some (hu q c hq hc)]
      exact fin20 rfl _ _ _ ⟨⟨rfl, rfl⟩, ⟨rfl, rfl⟩, trivial⟩ rfl rfl
end Go.X
namespace Go.X
open Go Go.Proofs
set_option linter.unusedVariables false
set_option linter.unusedSimpArgs false
theorem c20 (w : Int) (hu : DecU w) (n : Nat) : ADet Try.prog 20 [.int .u32 w] [] (decA w).v [(n, some (decA w).b)] n 1 := by
  refine adet_of_body (bd20 w hu) [] [(n, 100)] ?_ rfl trivial rfl rfl ?_ ?_
  · show (true && (Nat.ble n n && Nat.blt n (n + 1) && true) && (!(Ans.b (decA w)).ro && true) && true) = true
    simp [lt_blt, Ans.b, iB, Blk.ro]
  · simp only [List.append_nil, HsOK, natMem, asc, flip, Nat.beq_refl, cond_true, and_true, hget, List.nil_append, List.cons_append]
    exact rfl
  · simp [namesOf, natMem, asc, flip, nodupB]
noncomputable def con20 : Con Try.prog where
  f := 20
  run := fun vs _ n => match vs with
    | [.int .u32 w] => some ([], (decA w).v, [(n, some (decA w).b)], 1, decP (DecU w))
    | _ => none
  ok := fun vs h n pre v upd news hx => by
    split at hx
    · rename_i w
      simp only [Option.some.injEq, Prod.mk.injEq] at hx
      obtain ⟨rfl, rfl, rfl, rfl, hu⟩ := hx
      exact ⟨fun id hid => by simp [fstL] at hid, c20 w (of_decP hu) n⟩
    · cases hx
def decB (w : Int) : Bool := shTab.all fun p => match dec1 p.1 w, decF w with
  | none, _ => true
  | some c, some (q, d) => p.1 == q && (c.rd == d.rd && (c.rs1 == d.rs1 && (c.rs2 == d.rs2 && c.imm == d.imm)))
  | some _, none => false
theorem decU_of {w : Int} (h : decB w = true) : DecU w := by
  intro q c hq hc
  obtain ⟨p, hp, h1, _⟩ := has_mem hq
  have h3 := List.all_eq_true.1 h p hp
  rw [h1, hc] at h3
  cases hd : decF w with
  | none => rw [hd] at h3; cases h3
  | some x =>
    obtain ⟨q', d⟩ := x
    rw [hd] at h3
    simp only [Bool.and_eq_true, beq_iff_eq] at h3
    obtain ⟨rfl, g1, g2, g3, g4⟩ := h3
    cases c; cases d; simp_all
end Go.X
namespace Go.X
open Go Go.Proofs
set_option linter.unusedVariables false
set_option linter.unusedSimpArgs false
def regs (x : Nat → Int) : List Value := [.int .u64 (x 0), .int .u64 (x 1), .int .u64 (x 2), .int .u64 (x 3), .int .u64 (x 4), .int .u64 (x 5), .int .u64 (x 6), .int .u64 (x 7), .int .u64 (x 8), .int .u64 (x 9), .int .u64 (x 10), .int .u64 (x 11), .int .u64 (x 12), .int .u64 (x 13), .int .u64 (x 14), .int .u64 (x 15), .int .u64 (x 16), .int .u64 (x 17), .int .u64 (x 18), .int .u64 (x 19), .int .u64 (x 20), .int .u64 (x 21), .int .u64 (x 22), .int .u64 (x 23), .int .u64 (x 24), .int .u64 (x 25), .int .u64 (x 26), .int .u64 (x 27), .int .u64 (x 28), .int .u64 (x 29), .int .u64 (x 30), .int .u64 (x 31)]
structure KM where
  n : Nat
  has : Value → Bool
def ans0 : Ans := ⟨0, ⟨0, 0, 0, 0⟩, 0⟩
def KM.ans (k : KM) (q : Value) : Ans := bif k.has q then decA (asI q) else ans0
def Ans.i (x : Ans) : Value := i18 x.q x.c.rd x.c.rs1 x.c.rs2 x.c.imm
def KM.blk (k : KM) : Blk := .map 35 26 k.n k.has (fun q => (k.ans q).i)
structure MS where
  sz : Nat
  mem : Nat → Int
  x : Nat → Int
  pl : Int
  st : Int
  cd : Int
  kn : KM
def MS.memB (m : MS) : Blk := .rows m.sz 1 (fun j => [.int .u8 (m.mem j)]) false false
def MS.mB (m : MS) : Blk := .var ([.slice (some ⟨90, 0, none⟩) m.sz m.sz] ++ regs m.x ++ [.int .u64 m.pl, .int .i64 m.st, .int .u8 m.cd, .map (some 91)])
abbrev pM : Value := .pointer (some ⟨92, 0, some 0⟩)
abbrev pR : Value := .pointer (some ⟨100, 0, some 0⟩)
def MS.H (m : MS) : List (Nat × Blk) := [(90, m.memB), (91, m.kn.blk), (92, m.mB)]
end Go.X
namespace Go.X
open Go Go.Proofs
set_option linter.unusedVariables false
set_option linter.unusedSimpArgs false
attribute [local congr] cond_ctx
theorem p83_1 (m : MS) (at_ : Int) : walk (lookF FL) noSc 1000 x83 (argTm 0 [pM, Value.int IntKind.u64 at_, Value.int IntKind.i64 1]) (mkH [(90, m.memB), (92, m.mB)]) 100 (Pj.mk [] [] [] []) (Pj.mk [6, 7] [] [] [90, 92]) (Pj.mk [] [] [] []) = bif at_.tmod 1 != 0 || decide (at_ > IntKind.u64.wrap (↑m.sz : Int)) || decide (IntKind.u64.wrap (IntKind.u64.wrap (↑m.sz : Int) - at_) < 1) then some (Stop.mk (Leaf.mk [some (true, Value.slice none 0 0), some (true, Value.bool false)] [] Exit.ret 100) none) else bif decide (0 ≤ at_) && decide (at_ ≤ IntKind.u64.wrap (at_ + 1)) && decide (IntKind.u64.wrap (at_ + 1) ≤ (↑m.sz : Int)) then some (Stop.mk (Leaf.mk [some (true, Value.slice (some (Addr.mk 90 (at_.toNat * 1) none)) (IntKind.u64.wrap (at_ + 1) - at_).toNat (m.sz - at_.toNat)), some (true, Value.bool true)] [] Exit.ret 100) none) else none := Eq.trans (b := bif (((!bif at_.tmod 1 != 0 then true else decide (at_ > IntKind.u64.wrap (↑m.sz : Int))) || bif at_.tmod 1 != 0 then true else decide (at_ > IntKind.u64.wrap (↑m.sz : Int))) && true || false) && (((!bif at_.tmod 1 != 0 then true else decide (at_ > IntKind.u64.wrap (↑m.sz : Int))) && ((!bif at_.tmod 1 != 0 then true else decide (at_ > IntKind.u64.wrap (↑m.sz : Int))) && true) || !!bif at_.tmod 1 != 0 then true else decide (at_ > IntKind.u64.wrap (↑m.sz : Int))) && (((!bif at_.tmod 1 != 0 then true else decide (at_ > IntKind.u64.wrap (↑m.sz : Int))) && true || !!bif at_.tmod 1 != 0 then true else decide (at_ > IntKind.u64.wrap (↑m.sz : Int))) && (((!bif at_.tmod 1 != 0 then true else decide (at_ > IntKind.u64.wrap (↑m.sz : Int))) && ((!bif at_.tmod 1 != 0 then true else decide (at_ > IntKind.u64.wrap (↑m.sz : Int))) && true) || !!bif at_.tmod 1 != 0 then true else decide (at_ > IntKind.u64.wrap (↑m.sz : Int))) && (((!bif at_.tmod 1 != 0 then true else decide (at_ > IntKind.u64.wrap (↑m.sz : Int))) && true || !!bif at_.tmod 1 != 0 then true else decide (at_ > IntKind.u64.wrap (↑m.sz : Int))) && (((!bif at_.tmod 1 != 0 then true else decide (at_ > IntKind.u64.wrap (↑m.sz : Int))) && true || !!bif at_.tmod 1 != 0 then true else decide (at_ > IntKind.u64.wrap (↑m.sz : Int))) && (((!bif at_.tmod 1 != 0 then true else decide (at_ > IntKind.u64.wrap (↑m.sz : Int))) && true || !!bif at_.tmod 1 != 0 then true else decide (at_ > IntKind.u64.wrap (↑m.sz : Int))) && (((!bif at_.tmod 1 != 0 then true else decide (at_ > IntKind.u64.wrap (↑m.sz : Int))) && true || !!bif at_.tmod 1 != 0 then true else decide (at_ > IntKind.u64.wrap (↑m.sz : Int))) && (((!bif at_.tmod 1 != 0 then true else decide (at_ > IntKind.u64.wrap (↑m.sz : Int))) && true || !!bif at_.tmod 1 != 0 then true else decide (at_ > IntKind.u64.wrap (↑m.sz : Int))) && (((!at_.tmod 1 != 0 || at_.tmod 1 != 0) && true || false) && ((!at_.tmod 1 != 0 && (!at_.tmod 1 != 0 && true) || !!at_.tmod 1 != 0) && ((!at_.tmod 1 != 0 && true || !!at_.tmod 1 != 0) && ((!at_.tmod 1 != 0 && true || !!at_.tmod 1 != 0) && ((!at_.tmod 1 != 0 && true || !!at_.tmod 1 != 0) && ((!at_.tmod 1 != 0 && true || !!at_.tmod 1 != 0) && ((!at_.tmod 1 != 0 && true || !!at_.tmod 1 != 0) && true))))))))))))))) then bif bif bif at_.tmod 1 != 0 then true else decide (at_ > IntKind.u64.wrap (↑m.sz : Int)) then true else decide (IntKind.u64.wrap (IntKind.u64.wrap (↑m.sz : Int) - at_) < 1) then some (Stop.mk (Leaf.mk [some (true, Value.slice none 0 0), some (true, Value.bool false)] [] Exit.ret 100) none) else bif (decide (0 ≤ at_) && decide (at_ ≤ IntKind.u64.wrap (at_ + 1)) && decide (IntKind.u64.wrap (at_ + 1) ≤ (↑m.sz : Int)) && true || false) && true then some (Stop.mk (Leaf.mk [some (true, Value.slice (some (Addr.mk 90 (0 + at_.toNat * 1) none)) (IntKind.u64.wrap (at_ + 1) - at_).toNat (m.sz - at_.toNat)), some (true, Value.bool true)] [] Exit.ret 100) none) else none else none) (by kernel_rfl) (by simp (contextual := true) only [bn, bc])
theorem p83_4 (m : MS) (at_ : Int) : walk (lookF FL) noSc 1000 x83 (argTm 0 [pM, Value.int IntKind.u64 at_, Value.int IntKind.i64 4]) (mkH [(90, m.memB), (92, m.mB)]) 100 (Pj.mk [] [] [] []) (Pj.mk [6, 7] [] [] [90, 92]) (Pj.mk [] [] [] []) = bif at_.tmod 4 != 0 || decide (at_ > IntKind.u64.wrap (↑m.sz : Int)) || decide (IntKind.u64.wrap (IntKind.u64.wrap (↑m.sz : Int) - at_) < 4) then some (Stop.mk (Leaf.mk [some (true, Value.slice none 0 0), some (true, Value.bool false)] [] Exit.ret 100) none) else bif decide (0 ≤ at_) && decide (at_ ≤ IntKind.u64.wrap (at_ + 4)) && decide (IntKind.u64.wrap (at_ + 4) ≤ (↑m.sz : Int)) then some (Stop.mk (Leaf.mk [some (true, Value.slice (some (Addr.mk 90 (at_.toNat * 1) none)) (IntKind.u64.wrap (at_ + 4) - at_).toNat (m.sz - at_.toNat)), some (true, Value.bool true)] [] Exit.ret 100) none) else none := Eq.trans (b := bif (((!bif at_.tmod 4 != 0 then true else decide (at_ > IntKind.u64.wrap (↑m.sz : Int))) || bif at_.tmod 4 != 0 then true else decide (at_ > IntKind.u64.wrap (↑m.sz : Int))) && true || false) && (((!bif at_.tmod 4 != 0 then true else decide (at_ > IntKind.u64.wrap (↑m.sz : Int))) && ((!bif at_.tmod 4 != 0 then true else decide (at_ > IntKind.u64.wrap (↑m.sz : Int))) && true) || !!bif at_.tmod 4 != 0 then true else decide (at_ > IntKind.u64.wrap (↑m.sz : Int))) && (((!bif at_.tmod 4 != 0 then true else decide (at_ > IntKind.u64.wrap (↑m.sz : Int))) && true || !!bif at_.tmod 4 != 0 then true else decide (at_ > IntKind.u64.wrap (↑m.sz : Int))) && (((!bif at_.tmod 4 != 0 then true else decide (at_ > IntKind.u64.wrap (↑m.sz : Int))) && ((!bif at_.tmod 4 != 0 then true else decide (at_ > IntKind.u64.wrap (↑m.sz : Int))) && true) || !!bif at_.tmod 4 != 0 then true else decide (at_ > IntKind.u64.wrap (↑m.sz : Int))) && (((!bif at_.tmod 4 != 0 then true else decide (at_ > IntKind.u64.wrap (↑m.sz : Int))) && true || !!bif at_.tmod 4 != 0 then true else decide (at_ > IntKind.u64.wrap (↑m.sz : Int))) && (((!bif at_.tmod 4 != 0 then true else decide (at_ > IntKind.u64.wrap (↑m.sz : Int))) && true || !!bif at_.tmod 4 != 0 then true else decide (at_ > IntKind.u64.wrap (↑m.sz : Int))) && (((!bif at_.tmod 4 != 0 then true else decide (at_ > IntKind.u64.wrap (↑m.sz : Int))) && true || !!bif at_.tmod 4 != 0 then true else decide (at_ > IntKind.u64.wrap (↑m.sz : Int))) && (((!bif at_.tmod 4 != 0 then true else decide (at_ > IntKind.u64.wrap (↑m.sz : Int))) && true || !!bif at_.tmod 4 != 0 then true else decide (at_ > IntKind.u64.wrap (↑m.sz : Int))) && (((!bif at_.tmod 4 != 0 then true else decide (at_ > IntKind.u64.wrap (↑m.sz : Int))) && true || !!bif at_.tmod 4 != 0 then true else decide (at_ > IntKind.u64.wrap (↑m.sz : Int))) && (((!at_.tmod 4 != 0 || at_.tmod 4 != 0) && true || false) && ((!at_.tmod 4 != 0 && (!at_.tmod 4 != 0 && true) || !!at_.tmod 4 != 0) && ((!at_.tmod 4 != 0 && true || !!at_.tmod 4 != 0) && ((!at_.tmod 4 != 0 && true || !!at_.tmod 4 != 0) && ((!at_.tmod 4 != 0 && true || !!at_.tmod 4 != 0) && ((!at_.tmod 4 != 0 && true || !!at_.tmod 4 != 0) && ((!at_.tmod 4 != 0 && true || !!at_.tmod 4 != 0) && true))))))))))))))) then bif bif bif at_.tmod 4 != 0 then true else decide (at_ > IntKind.u64.wrap (↑m.sz : Int)) then true else decide (IntKind.u64.wrap (IntKind.u64.wrap (↑m.sz : Int) - at_) < 4) then some (Stop.mk (Leaf.mk [some (true, Value.slice none 0 0), some (true, Value.bool false)] [] Exit.ret 100) none) else bif (decide (0 ≤ at_) && decide (at_ ≤ IntKind.u64.wrap (at_ + 4)) && decide (IntKind.u64.wrap (at_ + 4) ≤ (↑m.sz : Int)) && true || false) && true then some (Stop.mk (Leaf.mk [some (true, Value.slice (some (Addr.mk 90 (0 + at_.toNat * 1) none)) (IntKind.u64.wrap (at_ + 4) - at_).toNat (m.sz - at_.toNat)), some (true, Value.bool true)] [] Exit.ret 100) none) else none else none) (by kernel_rfl) (by simp (contextual := true) only [bn, bc])
theorem p83_8 (m : MS) (at_ : Int) : walk (lookF FL) noSc 1000 x83 (argTm 0 [pM, Value.int IntKind.u64 at_, Value.int IntKind.i64 8]) (mkH [(90, m.memB), (92, m.mB)]) 100 (Pj.mk [] [] [] []) (Pj.mk [6, 7] [] [] [90, 92]) (Pj.mk [] [] [] []) = bif at_.tmod 8 != 0 || decide (at_ > IntKind.u64.wrap (↑m.sz : Int)) || decide (IntKind.u64.wrap (IntKind.u64.wrap (↑m.sz : Int) - at_) < 8) then some (Stop.mk (Leaf.mk [some (true, Value.slice none 0 0), some (true, Value.bool false)] [] Exit.ret 100) none) else bif decide (0 ≤ at_) && decide (at_ ≤ IntKind.u64.wrap (at_ + 8)) && decide (IntKind.u64.wrap (at_ + 8) ≤ (↑m.sz : Int)) then some (Stop.mk (Leaf.mk [some (true, Value.slice (some (Addr.mk 90 (at_.toNat * 1) none)) (IntKind.u64.wrap (at_ + 8) - at_).toNat (m.sz - at_.toNat)), some (true, Value.bool true)] [] Exit.ret 100) none) else none := Eq.trans (b := bif (((!bif at_.tmod 8 != 0 then true else decide (at_ > IntKind.u64.wrap (↑m.sz : Int))) || bif at_.tmod 8 != 0 then true else decide (at_ > IntKind.u64.wrap (↑m.sz : Int))) && true || false) && (((!bif at_.tmod 8 != 0 then true else decide (at_ > IntKind.u64.wrap (↑m.sz : Int))) && ((!bif at_.tmod 8 != 0 then true else decide (at_ > IntKind.u64.wrap (↑m.sz : Int))) && true) || !!bif at_.tmod 8 != 0 then true else decide (at_ > IntKind.u64.wrap (↑m.sz : Int))) && (((!bif at_.tmod 8 != 0 then true else decide (at_ > IntKind.u64.wrap (↑m.sz : Int))) && true || !!bif at_.tmod 8 != 0 then true else decide (at_ > IntKind.u64.wrap (↑m.sz : Int))) && (((!bif at_.tmod 8 != 0 then true else decide (at_ > IntKind.u64.wrap (↑m.sz : Int))) && ((!bif at_.tmod 8 != 0 then true else decide (at_ > IntKind.u64.wrap (↑m.sz : Int))) && true) || !!bif at_.tmod 8 != 0 then true else decide (at_ > IntKind.u64.wrap (↑m.sz : Int))) && (((!bif at_.tmod 8 != 0 then true else decide (at_ > IntKind.u64.wrap (↑m.sz : Int))) && true || !!bif at_.tmod 8 != 0 then true else decide (at_ > IntKind.u64.wrap (↑m.sz : Int))) && (((!bif at_.tmod 8 != 0 then true else decide (at_ > IntKind.u64.wrap (↑m.sz : Int))) && true || !!bif at_.tmod 8 != 0 then true else decide (at_ > IntKind.u64.wrap (↑m.sz : Int))) && (((!bif at_.tmod 8 != 0 then true else decide (at_ > IntKind.u64.wrap (↑m.sz : Int))) && true || !!bif at_.tmod 8 != 0 then true else decide (at_ > IntKind.u64.wrap (↑m.sz : Int))) && (((!bif at_.tmod 8 != 0 then true else decide (at_ > IntKind.u64.wrap (↑m.sz : Int))) && true || !!bif at_.tmod 8 != 0 then true else decide (at_ > IntKind.u64.wrap (↑m.sz : Int))) && (((!bif at_.tmod 8 != 0 then true else decide (at_ > IntKind.u64.wrap (↑m.sz : Int))) && true || !!bif at_.tmod 8 != 0 then true else decide (at_ > IntKind.u64.wrap (↑m.sz : Int))) && (((!at_.tmod 8 != 0 || at_.tmod 8 != 0) && true || false) && ((!at_.tmod 8 != 0 && (!at_.tmod 8 != 0 && true) || !!at_.tmod 8 != 0) && ((!at_.tmod 8 != 0 && true || !!at_.tmod 8 != 0) && ((!at_.tmod 8 != 0 && true || !!at_.tmod 8 != 0) && ((!at_.tmod 8 != 0 && true || !!at_.tmod 8 != 0) && ((!at_.tmod 8 != 0 && true || !!at_.tmod 8 != 0) && ((!at_.tmod 8 != 0 && true || !!at_.tmod 8 != 0) && true))))))))))))))) then bif bif bif at_.tmod 8 != 0 then true else decide (at_ > IntKind.u64.wrap (↑m.sz : Int)) then true else decide (IntKind.u64.wrap (IntKind.u64.wrap (↑m.sz : Int) - at_) < 8) then some (Stop.mk (Leaf.mk [some (true, Value.slice none 0 0), some (true, Value.bool false)] [] Exit.ret 100) none) else bif (decide (0 ≤ at_) && decide (at_ ≤ IntKind.u64.wrap (at_ + 8)) && decide (IntKind.u64.wrap (at_ + 8) ≤ (↑m.sz : Int)) && true || false) && true then some (Stop.mk (Leaf.mk [some (true, Value.slice (some (Addr.mk 90 (0 + at_.toNat * 1) none)) (IntKind.u64.wrap (at_ + 8) - at_).toNat (m.sz - at_.toNat)), some (true, Value.bool true)] [] Exit.ret 100) none) else none else none) (by kernel_rfl) (by simp (contextual := true) only [bn, bc])
def plB (sz : Nat) (a n : Int) : Bool := a % n == 0 && (decide (0 ≤ a) && decide (a + n ≤ sz))
theorem u64_id {x : Int} (h : 0 ≤ x) (h' : x < 18446744073709551616) : IntKind.u64.wrap x = x := by
  have : IntKind.u64.wrap x = x % 18446744073709551616 := by simp [IntKind.wrap, IntKind.bits, IntKind.signed]
  omega
def szB (sz : Nat) : Bool := decide (sz ≤ 4194304)
theorem szB_iff {sz : Nat} : szB sz = true ↔ sz ≤ 4194304 := by simp [szB]
def slM (m : MS) (a n : Int) : Value := .slice (some ⟨90, a.toNat * 1, none⟩) n.toNat (m.sz - a.toNat)
theorem bis_mem {P : Program} {σ : Nm} {m : MS} : BIs P σ m.memB m.memB := bis_rw fun _ _ => rfl
section
variable (m : MS) (a : Int)
theorem w83_1 (hs : szB m.sz = true) (ha : uB a = true) : walk (lookF FL) noSc 1000 x83 (argTm 0 [pM, .int .u64 a, .int .i64 1]) (mkH [(90, m.memB), (92, m.mB)]) 100 (Pj.mk [] [] [] []) (Pj.mk [6, 7] [] [] [90, 92]) (Pj.mk [] [] [] []) =
    bif plB m.sz a 1 then some (Stop.mk (Leaf.mk [some (true, slM m a 1), some (true, .bool true)] [] Exit.ret 100) none) else some (Stop.mk (Leaf.mk [some (true, Value.slice none 0 0), some (true, Value.bool false)] [] Exit.ret 100) none) := by
  have hs := szB_iff.1 hs
  have ha := uB_iff.1 ha
  rw [p83_1, u64_id (x := (m.sz : Int)) (by omega) (by omega)]
  have e0 : a.tmod 1 = a % 1 := Int.tmod_eq_emod_of_nonneg ha.1
  rw [e0]
  unfold plB
  by_cases h1 : a % 1 = 0
  · by_cases h2 : a ≤ m.sz
    · rw [u64_id (x := (m.sz : Int) - a) (by omega) (by omega)]
      by_cases h3 : a + 1 ≤ m.sz
      · have g1 : ((a % 1 != 0) || decide (a > (m.sz : Int)) || decide ((m.sz : Int) - a < 1)) = false := by simp [h1]; omega
        have g2 : (a % 1 == 0 && (decide (0 ≤ a) && decide (a + 1 ≤ (m.sz : Int)))) = true := by simp [h1, h3, ha.1]
        rw [g1, g2, cond_false, cond_true, u64_id (x := a + 1) (by omega) (by omega)]
        have g3 : (decide (0 ≤ a) && decide (a ≤ a + 1) && decide (a + 1 ≤ (m.sz : Int))) = true := by simp; omega
        rw [g3, cond_true, show a + 1 - a = 1 by omega]
        rfl
      · have g1 : ((a % 1 != 0) || decide (a > (m.sz : Int)) || decide ((m.sz : Int) - a < 1)) = true := by simp; omega
        have g2 : (a % 1 == 0 && (decide (0 ≤ a) && decide (a + 1 ≤ (m.sz : Int)))) = false := by simp; omega
        rw [g1, g2]; rfl
    · have g1 : ((a % 1 != 0) || decide (a > (m.sz : Int)) || decide (IntKind.u64.wrap ((m.sz : Int) - a) < 1)) = true := by simp; omega
      have g2 : (a % 1 == 0 && (decide (0 ≤ a) && decide (a + 1 ≤ (m.sz : Int)))) = false := by simp; omega
      rw [g1, g2]; rfl
  · have g0 : (a % 1 != 0) = true := bne_iff_ne.2 h1
    have g0' : (a % 1 == 0) = false := beq_eq_false_iff_ne.2 h1
    rw [g0, g0']; rfl
theorem w83_4 (hs : szB m.sz = true) (ha : uB a = true) : walk (lookF FL) noSc 1000 x83 (argTm 0 [pM, .int .u64 a, .int .i64 4]) (mkH [(90, m.memB), (92, m.mB)]) 100 (Pj.mk [] [] [] []) (Pj.mk [6, 7] [] [] [90, 92]) (Pj.mk [] [] [] []) =
    bif plB m.sz a 4 then some (Stop.mk (Leaf.mk [some (true, slM m a 4), some (true, .bool true)] [] Exit.ret 100) none) else some (Stop.mk (Leaf.mk [some (true, Value.slice none 0 0), some (true, Value.bool false)] [] Exit.ret 100) none) := by
  have hs := szB_iff.1 hs
  have ha := uB_iff.1 ha
  rw [p83_4, u64_id (x := (m.sz : Int)) (by omega) (by omega)]
  have e0 : a.tmod 4 = a % 4 := Int.tmod_eq_emod_of_nonneg ha.1
  rw [e0]
  unfold plB
  by_cases h1 : a % 4 = 0
  · by_cases h2 : a ≤ m.sz
    · rw [u64_id (x := (m.sz : Int) - a) (by omega) (by omega)]
      by_cases h3 : a + 4 ≤ m.sz
      · have g1 : ((a % 4 != 0) || decide (a > (m.sz : Int)) || decide ((m.sz : Int) - a < 4)) = false := by simp [h1]; omega
        have g2 : (a % 4 == 0 && (decide (0 ≤ a) && decide (a + 4 ≤ (m.sz : Int)))) = true := by simp [h1, h3, ha.1]
        rw [g1, g2, cond_false, cond_true, u64_id (x := a + 4) (by omega) (by omega)]
        have g3 : (decide (0 ≤ a) && decide (a ≤ a + 4) && decide (a + 4 ≤ (m.sz : Int))) = true := by simp; omega
        rw [g3, cond_true, show a + 4 - a = 4 by omega]
        rfl
      · have g1 : ((a % 4 != 0) || decide (a > (m.sz : Int)) || decide ((m.sz : Int) - a < 4)) = true := by simp; omega
        have g2 : (a % 4 == 0 && (decide (0 ≤ a) && decide (a + 4 ≤ (m.sz : Int)))) = false := by simp; omega
        rw [g1, g2]; rfl
    · have g1 : ((a % 4 != 0) || decide (a > (m.sz : Int)) || decide (IntKind.u64.wrap ((m.sz : Int) - a) < 4)) = true := by simp; omega
      have g2 : (a % 4 == 0 && (decide (0 ≤ a) && decide (a + 4 ≤ (m.sz : Int)))) = false := by simp; omega
      rw [g1, g2]; rfl
  · have g0 : (a % 4 != 0) = true := bne_iff_ne.2 h1
    have g0' : (a % 4 == 0) = false := beq_eq_false_iff_ne.2 h1
    rw [g0, g0']; rfl
theorem w83_8 (hs : szB m.sz = true) (ha : uB a = true) : walk (lookF FL) noSc 1000 x83 (argTm 0 [pM, .int .u64 a, .int .i64 8]) (mkH [(90, m.memB), (92, m.mB)]) 100 (Pj.mk [] [] [] []) (Pj.mk [6, 7] [] [] [90, 92]) (Pj.mk [] [] [] []) =
    bif plB m.sz a 8 then some (Stop.mk (Leaf.mk [some (true, slM m a 8), some (true, .bool true)] [] Exit.ret 100) none) else some (Stop.mk (Leaf.mk [some (true, Value.slice none 0 0), some (true, Value.bool false)] [] Exit.ret 100) none) := by
  have hs := szB_iff.1 hs
  have ha := uB_iff.1 ha
  rw [p83_8, u64_id (x := (m.sz : Int)) (by omega) (by omega)]
  have e0 : a.tmod 8 = a % 8 := Int.tmod_eq_emod_of_nonneg ha.1
  rw [e0]
  unfold plB
  by_cases h1 : a % 8 = 0
  · by_cases h2 : a ≤ m.sz
    · rw [u64_id (x := (m.sz : Int) - a) (by omega) (by omega)]
      by_cases h3 : a + 8 ≤ m.sz
      · have g1 : ((a % 8 != 0) || decide (a > (m.sz : Int)) || decide ((m.sz : Int) - a < 8)) = false := by simp [h1]; omega
        have g2 : (a % 8 == 0 && (decide (0 ≤ a) && decide (a + 8 ≤ (m.sz : Int)))) = true := by simp [h1, h3, ha.1]
        rw [g1, g2, cond_false, cond_true, u64_id (x := a + 8) (by omega) (by omega)]
        have g3 : (decide (0 ≤ a) && decide (a ≤ a + 8) && decide (a + 8 ≤ (m.sz : Int))) = true := by simp; omega
        rw [g3, cond_true, show a + 8 - a = 8 by omega]
        rfl
      · have g1 : ((a % 8 != 0) || decide (a > (m.sz : Int)) || decide ((m.sz : Int) - a < 8)) = true := by simp; omega
        have g2 : (a % 8 == 0 && (decide (0 ≤ a) && decide (a + 8 ≤ (m.sz : Int)))) = false := by simp; omega
        rw [g1, g2]; rfl
    · have g1 : ((a % 8 != 0) || decide (a > (m.sz : Int)) || decide (IntKind.u64.wrap ((m.sz : Int) - a) < 8)) = true := by simp; omega
      have g2 : (a % 8 == 0 && (decide (0 ≤ a) && decide (a + 8 ≤ (m.sz : Int)))) = false := by simp; omega
      rw [g1, g2]; rfl
  · have g0 : (a % 8 != 0) = true := bne_iff_ne.2 h1
    have g0' : (a % 8 == 0) = false := beq_eq_false_iff_ne.2 h1
    rw [g0, g0']; rfl
end
end Go.X
namespace Go.X
open Go Go.Proofs
set_option linter.unusedVariables false
set_option linter.unusedSimpArgs false
attribute [local congr] cond_ctx
end Go.X
namespace Go.X
open Go Go.Proofs
set_option linter.unusedVariables false
set_option linter.unusedSimpArgs false
def mvI (n : Nat) : Its where
  lb := fun j => bif Nat.beq j 0 then ⟨#[97]⟩ else bif Nat.beq j (n + 3) then ⟨#[98]⟩ else ⟨#[]⟩
  to := fun j => bif Nat.beq j 1 then ⟨#[98]⟩ else bif Nat.beq j (n + 2) then ⟨#[97]⟩ else bif Nat.beq j (n + 4) then ⟨#[97]⟩ else ⟨#[]⟩
  op := fun j => bif Nat.beq j 0 then 0 else bif Nat.beq j 1 then 46 else bif Nat.blt j (n + 2) then 28 else bif Nat.beq j (n + 2) then 45 else bif Nat.beq j (n + 3) then 0 else 53
  rd := fun _ => 0
  rs1 := fun j => bif Nat.beq j 1 then 5 else bif Nat.beq j (n + 2) then 5 else 0
  rs2 := fun _ => 0
  imm := fun j => bif Nat.blt 1 j && Nat.blt j (n + 2) then ((j - 2 : Nat) : Int).tmod 5 else 0
  part := fun _ => 0
section
variable (a a0 a1 : Int)
variable {ρ : Rn} {w : World} {hd : ∀ id, 2 ≤ id → ρ id = none}
structure MvOK (n : Nat) (x y : Int) : Prop where
  ex : asmE (mvI n) x (n + 5) = 0
  ey : asmE (mvI n) y (n + 5) = 0
  same : asmW (mvI n) x (n + 5) = asmW (mvI n) y (n + 5)
  lo : n + 3 ≤ (asmW (mvI n) x (n + 5)).length
  hi : (asmW (mvI n) x (n + 5)).length ≤ n + 5
  ax : (finA (mvI n) x (n + 5)).m.val (.string ⟨#[97]⟩) = x
  ay : (finA (mvI n) y (n + 5)).m.val (.string ⟨#[97]⟩) = y
  bd : IntKind.i64.wrap ((finA (mvI n) x (n + 5)).m.val (.string ⟨#[98]⟩) - x) = IntKind.i64.wrap ((finA (mvI n) y (n + 5)).m.val (.string ⟨#[98]⟩) - y)
end
end Go.X
