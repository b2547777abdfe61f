import Derived.Test.YtnekegldodbgjaaI24
import Derived.Test.YtnekegldodbgjaaI23
set_option linter.all false
namespace Go.X
open Go Go.Proofs
theorem fn20 : Try.prog.funcs[20]? = some Try.f20 := by kernel_rfl
theorem fb20 : Try.f20.body = some body20 := by kernel_rfl
theorem rt20 : tmpRes Try.prog Try.f20.results.toList = some rts20 := by kernel_rfl
theorem nm20 : (Try.f20.name == "runtime.NumGoroutine") = false := by kernel_rfl
theorem nt20 : Try.f20.ntmps = 124 := by kernel_rfl
theorem tmR_sub {ρ : Rn} {t : Tm} {tmps : Array Value} (h : TmR ρ t tmps) : ∀ {t' : Tm}, (∀ p ∈ t', look t p.1 = some p.2) -> TmR ρ t' tmps
  | [], _ => fun k b v hl => by cases hl
  | (j, c, u) :: t', hs => fun k b v hl => by
    simp only [look] at hl
    cases hb : Nat.beq j k with
    | true =>
      rw [hb] at hl
      simp only [cond_true, Option.some.injEq, Prod.mk.injEq] at hl
      obtain ⟨rfl, rfl⟩ := hl
      rw [<- Nat.eq_of_beq_eq_true hb]
      exact h j c u (hs _ (.head _))
    | false => rw [hb] at hl; exact tmR_sub h (fun p hp => hs p (.tail _ hp)) k b v hl
def t1 (w : Int) : Tm := [(3, true, .int .i64 0), (2, true, .pointer (some ⟨100, 0, some 0⟩)), (0, true, .int .u32 w)]
def t2 (w : Int) : Tm := (18, true, .map (some 101)) :: t1 w
def h2 : Hp := (101, some shBlk) :: hS
theorem e20_0 (w : Int) : exec (lookF FL) scB 10 [] (.region r20_0) (argTm 0 [.int .u32 w]) [] 100 = some ⟨[], .normal, t1 w, hS, 101, true⟩ := by kernel_rfl
abbrev run1 (w : Int) : Option RS := xrun (callE (lookF FL) scB (exec (lookF FL) scB 10 [])) [] r20_1 0 (t1 w) hS 101 true True []
theorem run1_is (w : Int) : run1 w = some ⟨t2 w, h2, 102, true, rsP (run1 w), rsR (run1 w)⟩ := by kernel_rfl
def tZ (w : Int) : Tm := (3, true, .int .i64 2) :: (123, true, i18 0 0 0 0 0) :: tS w
def hZ : Hp := (100, some (iB 0 0 0 0 0)) :: hS
theorem e20_z (w : Int) : exec (lookF FL) scB 10 [] z20 (tS w) hS 103 = some ⟨[], .ret, tZ w, hZ, 103, true⟩ := by kernel_rfl
theorem core_alloc {P : Program} {N : Nat} {B : Base} {ρ : Rn} {t t' : Tm} {g g' : G} {a : Act} {w : World} {it : Nat} {o : Obj} (h : Core P N B ρ t g a w) (hg : ∀ id b, g' id = some b -> g id = some b) (hi : ρ it = none) (hBi : B.n <= it)
    (hgi : g' it = none) (ht : ∀ {tmps : Array Value}, TmR (rset ρ it ⟨⟨w.heap.size, 0, none⟩, 0, 0⟩) ((19, true, .pointer (some ⟨it, 0, some 0⟩)) :: t) tmps -> TmR (rset ρ it ⟨⟨w.heap.size, 0, none⟩, 0, 0⟩) t' tmps) (h19 : 19 < N) :
    Core P N B (rset ρ it ⟨⟨w.heap.size, 0, none⟩, 0, 0⟩) t' g' (a.put (some 19) (.pointer (some ⟨w.heap.size, 0, none⟩))) (w.alloc o) := by
  have hle := le_rset (ρ := ρ) ⟨⟨w.heap.size, 0, none⟩, 0, 0⟩ hi
  have hback : ∀ id b l, g' id = some b -> rset ρ it ⟨⟨w.heap.size, 0, none⟩, 0, 0⟩ id = some l -> ρ id = some l := fun id b l h1 h2 => by
    have : id ≠ it := by rintro rfl; rw [hgi] at h1; cases h1
    rwa [rset_ne _ _ this] at h2
  have hold : ∀ k, k < w.heap.size -> (w.alloc o).heap[k]? = w.heap[k]? := fun k hk => heap_alloc_old w o hk
  have c1 : Core P N B (rset ρ it ⟨⟨w.heap.size, 0, none⟩, 0, 0⟩) t g' a (w.alloc o) := {
    tm := h.tm.mono hle
    sz := h.sz
    df := h.df
    rel := ⟨fun id b hb => by
        obtain ⟨l, hl, hh⟩ := h.rel.holds id b (hg id b hb)
        exact ⟨l, hle id l hl, hh.stay hle fun ht => hold _ (hh.lt ht)⟩,
      fun id b id' b' l l' h1 h2 h3 h4 h5 h6 h7 => h.rel.sep id b id' b' l l' (hg _ _ h1) (hg _ _ h2) h3 h4 h5 (hback id b l h1 h6) (hback id' b' l' h2 h7)⟩
    fr := h.fr.trans ⟨rfl, rfl, rfl, by show w.heap.size <= (w.heap.push o).size; simp, fun k hk _ => hold k hk⟩
    own := fun k ⟨id, b, l, h1, h2, h3, h4⟩ => h.own k ⟨id, b, l, hg _ _ h1, h2, hback id b l h1 h3, h4⟩
    le := h.le.trans hle
    new := fun id h0 h1 => by
      by_cases e : id = it
      · rw [e]; exact hBi
      · rw [rset_ne _ _ e] at h1; exact h.new id h0 h1 }
  have c2 := core_put (d := 19) (v := .pointer (some ⟨it, 0, some 0⟩)) (c := .pointer (some ⟨w.heap.size, 0, none⟩)) c1 h19 (by
    have := V.ptr (ρ := rset ρ it ⟨⟨w.heap.size, 0, none⟩, 0, 0⟩) (idx := 0) (fo := 0) (rset_same ρ it ⟨⟨w.heap.size, 0, none⟩, 0, 0⟩)
    exact this)
  exact { c2 with tm := ht c2.tm }
theorem fin20 {E : FEnv} (hn : E.B.n = 100) (x : Ans) (t : Tm) (h : Hp) (ht : TmsOK (stayOr 100 [(100, 100)]) t (mkT [2, 3] [.pointer (some ⟨100, 0, some 0⟩), .int .i64 x.err])) (hh : hget h 100 = some x.b) {e : Exit} (he : e = .ret) :
    finP E.toEnv rts20 [] x.v [(100, some x.b)] 1 e ⟨t, h, 103⟩ := by
  refine ⟨.inr he, mkT [2, 3] [.pointer (some ⟨100, 0, some 0⟩), .int .i64 x.err], ?_, rfl⟩
  rw [hn]
  refine weak [(100, 100)] ?_ ?_ ?_ ?_ <;> rw [hn]
  · rfl
  · rfl
  · exact ht
  · simp only [HsOK, List.append_nil, natMem]
    refine ⟨?_, trivial⟩
    show (match hget h 100 with | some b => BIs _ _ x.b b | none => False)
    rw [hh]
    exact rfl
end Go.X
namespace Go.X
open Go Go.Proofs
theorem decA_some {w q : Int} {c : Cand} (h : decF w = some (q, c)) : decA w = ⟨q, c, 0⟩ := by unfold decA; rw [h]
theorem decA_none {w : Int} (h : decF w = none) : decA w = ⟨0, ⟨0, 0, 0, 0⟩, 2⟩ := by unfold decA; rw [h]
theorem bd20 (w : Int) (hu : DecU w) : Body Try.prog 20 [.int .u32 w] [] (decA w).v [(100, some (decA w).b)] 100 1 := by
  refine body_code mixed fn20 fb20 rt20 nm20 nt20 (show 1 <= 124 by decide) fun ρ0 w0 hd a0 wd hr0 => ?_
  let E : FEnv := envOf Try.prog 124 100 [] mixed ρ0 w0 hd
  change body20.wp Try.prog (E.toEnv.post (finP E.toEnv rts20 [] (decA w).v [(100, some (decA w).b)] 1)) a0 wd
  rw [shape3]
  refine wp_seq (wp_mono ((xwp_exec (E := E) (Q := fun e s => e = .normal /\ s = ⟨t1 w, hS, 101⟩) FOKB 10 [] (s := ⟨argTm 0 [.int .u32 w], [], 100⟩) (e20_0 w) rfl ⟨rfl, rfl⟩) _ comp20_0 a0 wd hr0) ?_)
  rintro e a1 w1 ⟨s1, ⟨rfl, rfl⟩, hr1⟩
  refine wp_seq (wp_seq (wp_region ?_))
  rw [size20.1, show List.range 2 = List.range' 0 r20_1.length ++ [1] from rfl]
  refine ops_pre (E := E) FOKB 10 [1] cmp20_1 (s := ⟨t1 w, hS, 101⟩) (run1_is w) rfl hr1 fun a2 w2 hr2 => ?_
  obtain ⟨hBn, ρ2, hcore, hfree⟩ := hr2
  obtain ⟨l, hl, hh⟩ := hcore.rel.holds 101 shBlk rfl
  obtain ⟨es, clock, hwb, hst, hrow, hall⟩ := rows_of hh
  obtain ⟨x1, hx1, d1, p1, g1⟩ := opIs_some op20_1
  have hev : a2.eval (.tmp 18) = .map (some l.addr.block) := by
    have := at_of hcore.tm (k := 18) (v := .map (some 101)) rfl
    generalize a2.eval (.tmp 18) = c at this
    cases this with
    | map h => rw [hl] at h; cases h; rfl
  have hexec : (execOp a2.eval x1).run Try.prog w2 = .ok (.value (.pointer (some ⟨w2.heap.size, 0, none⟩))) (w2.alloc (.mapIter (some l.addr.block) clock #[] clock)) :=
    exec_range p1 (by rw [hev]; exact run_range_map w2 106 3 104 l.addr.block es clock under106 hwb)
  rw [wpOps_cons]
  refine wpOp_ok hx1 g1 hexec ?_
  rw [d1]
  have hi : ρ2 102 = none := by rw [hfree 102 (by simp)]; exact hd 102 (by decide)
  have hg : ∀ id b, hget hS id = some b -> hget h2 id = some b := fun id b hb => by
    simp only [h2, hget]
    cases hx : Nat.beq 101 id with
    | true => rw [<- Nat.eq_of_beq_eq_true hx] at hb; cases hb
    | false => exact hb
  have hc3 := core_alloc (t' := tS w) (o := .mapIter (some l.addr.block) clock #[] clock) (it := 102) hcore hg hi (show 100 <= 102 by decide) rfl (fun h => tmR_sub h (by
    intro p hp
    simp only [tS, mkT, List.mem_cons, List.not_mem_nil, or_false] at hp
    rcases hp with rfl | rfl | rfl | rfl <;> rfl)) (show 19 < 124 by decide)
  have hlt : l.addr.block < w2.heap.size := hh.lt trivial
  have hback : ∀ id b m, hget hS id = some b -> rset ρ2 102 ⟨⟨w2.heap.size, 0, none⟩, 0, 0⟩ id = some m -> ρ2 id = some m := fun id b m h1 h2 => by
    have : id ≠ 102 := by rintro rfl; cases h1
    rwa [rset_ne _ _ this] at h2
  have hRI : RI E (S20 w) 102 w2.heap.size l.addr.block es clock (fun e => ∀ q : Int, e.key = .int .i64 q -> dec1 q w = none) _ _ _ := ⟨_, #[], show 100 <= 103 by decide, hc3, fun id hid => by
      have : id ≠ 102 := by rintro rfl; simp [S20] at hid
      rw [rset_ne _ _ this]
      exact hfree id (by simp [S20] at hid ⊢; omega), rset_same _ _ _, heap_alloc_new _ _, by rw [heap_alloc_old _ _ hlt]; exact hwb,
    fun id b m h1 h2 h3 => by
      obtain ⟨m', hm', hx⟩ := hcore.rel.holds id b (hg id b h1)
      have := hback id b m h1 h3
      rw [hm'] at this; cases this
      have := hx.lt h2
      omega,
    fun id b m h1 h2 h3 => hcore.rel.sep id b 101 shBlk m l (hg id b h1) rfl (by rintro rfl; cases h1) h2 trivial (hback id b m h1 h3) hl,
    rfl, fun x _ hs => by simp at hs⟩
  show (Code.block 0 (.loop round20)).wp Try.prog _ _ _
  rw [shape4]
  refine wp_block (wp_mono (wp_rangeMap (E := E) (S := S20 w) (Qr := fun s => ∃ q c, tabHas shTab (.int .i64 q) = true /\ dec1 q w = some c /\ s = A20 q c 0) FOKB 10 (l3 := r20_3) ⟨rfl, rfl⟩ rfl hcore.fr.size hst.2.1 hst.1 (show 22 < 124 by decide) op20_2 size20.2.1 cmp20_2 op20_3 size20.2.2 cmp20_3 comp20_r
    (fun e he ρ => ?_) (fun e he E' hP hN hn => ?_) hRI) ?_)
  · obtain ⟨q, h1, _, h2⟩ := hrow e he
    rw [h1, h2]
    exact ⟨.int _ _, row_v _ _ _ _ _⟩
  · obtain ⟨q, h1, hq, h2⟩ := hrow e he
    rw [h1, h2]
    refine ⟨_, _, _, _, _, run3_is q _ _ _ _ w, ?_⟩
    exact xround20 E' hP hn q _ _ _ _ w (form_of hq) _ _ e (fun hx q' hq' => by rw [h1] at hq'; cases hq'; exact hx) (fun c hc => ⟨q, c, hq, hc, rfl⟩)
  · rintro e a4 w4 (⟨rfl, hr4, hT⟩ | ⟨rfl, s2, ⟨q, c, hq, hc, rfl⟩, hr4⟩)
    · show tail20.wp Try.prog _ a4 w4
      have hF : decF w = none := firstD_none fun p hp => by
        obtain ⟨e, he, hk⟩ := hall p.1 (mem_has hp rfl)
        exact hT e he p.1 hk
      refine wp_mono ((xwp_exec (E := E) (Q := finP E.toEnv rts20 [] (decA w).v [(100, some (decA w).b)] 1) FOKB 10 [] (s := S20 w) (e20_z w) rfl ?_) _ comp20_t a4 w4 hr4) fun _ _ _ h => h
      rw [decA_none hF]
      exact fin20 rfl _ _ _ ⟨⟨rfl, rfl⟩, ⟨rfl, rfl⟩, trivial⟩ rfl rfl
    · refine ⟨_, ?_, hr4⟩
      rw [decA_some (hu q c hq hc)]
      exact fin20 rfl _ _ _ ⟨⟨rfl, rfl⟩, ⟨rfl, rfl⟩, trivial⟩ rfl rfl
end Go.X
namespace Go.X
open Go Go.Proofs
theorem c20 (w : Int) (hu : DecU w) (n : Nat) : ADet Try.prog 20 [.int .u32 w] [] (decA w).v [(n, some (decA w).b)] n 1 := by
  refine adet_of_body (bd20 w hu) [] [(n, 100)] ?_ rfl trivial rfl rfl ?_ ?_
  · show (true && (Nat.ble n n && Nat.blt n (n + 1) && true) && (!(Ans.b (decA w)).ro && true) && true) = true
    simp [lt_blt, Ans.b, iB, Blk.ro]
  · simp only [List.append_nil, HsOK, natMem, asc, flip, Nat.beq_refl, cond_true, and_true, hget, List.nil_append, List.cons_append]
    exact rfl
  · simp [namesOf, natMem, asc, flip, nodupB]
def decB (w : Int) : Bool := shTab.all fun p => match dec1 p.1 w, decF w with
  | none, _ => true
  | some c, some (q, d) => p.1 == q && (c.rd == d.rd && (c.rs1 == d.rs1 && (c.rs2 == d.rs2 && c.imm == d.imm)))
  | some _, none => false
theorem decU_of {w : Int} (h : decB w = true) : DecU w := by
  intro q c hq hc
  obtain ⟨p, hp, h1, _⟩ := has_mem hq
  have h3 := List.all_eq_true.1 h p hp
  rw [h1, hc] at h3
  cases hd : decF w with
  | none => rw [hd] at h3; cases h3
  | some x =>
    obtain ⟨q', d⟩ := x
    rw [hd] at h3
    simp only [Bool.and_eq_true, beq_iff_eq] at h3
    obtain ⟨rfl, g1, g2, g3, g4⟩ := h3
    cases c; cases d; simp_all
end Go.X
namespace Go.X
open Go Go.Proofs
def regs (x : Nat -> Int) : List Value := [.int .u64 (x 0), .int .u64 (x 1), .int .u64 (x 2), .int .u64 (x 3), .int .u64 (x 4), .int .u64 (x 5), .int .u64 (x 6), .int .u64 (x 7), .int .u64 (x 8), .int .u64 (x 9), .int .u64 (x 10), .int .u64 (x 11), .int .u64 (x 12), .int .u64 (x 13), .int .u64 (x 14), .int .u64 (x 15), .int .u64 (x 16), .int .u64 (x 17), .int .u64 (x 18), .int .u64 (x 19), .int .u64 (x 20), .int .u64 (x 21), .int .u64 (x 22), .int .u64 (x 23), .int .u64 (x 24), .int .u64 (x 25), .int .u64 (x 26), .int .u64 (x 27), .int .u64 (x 28), .int .u64 (x 29), .int .u64 (x 30), .int .u64 (x 31)]
structure KM where
  n : Nat
  has : Value -> Bool
def ans0 : Ans := ⟨0, ⟨0, 0, 0, 0⟩, 0⟩
def KM.ans (k : KM) (q : Value) : Ans := bif k.has q then decA (asI q) else ans0
def Ans.i (x : Ans) : Value := i18 x.q x.c.rd x.c.rs1 x.c.rs2 x.c.imm
def KM.blk (k : KM) : Blk := .map 35 26 k.n k.has (fun q => (k.ans q).i)
structure MS where
  sz : Nat
  mem : Nat -> Int
  x : Nat -> Int
  pl : Int
  st : Int
  cd : Int
  kn : KM
def MS.memB (m : MS) : Blk := .rows m.sz 1 (fun j => [.int .u8 (m.mem j)]) false false
def MS.mB (m : MS) : Blk := .var ([.slice (some ⟨90, 0, none⟩) m.sz m.sz] ++ regs m.x ++ [.int .u64 m.pl, .int .i64 m.st, .int .u8 m.cd, .map (some 91)])
abbrev pM : Value := .pointer (some ⟨92, 0, some 0⟩)
def MS.H (m : MS) : List (Nat × Blk) := [(90, m.memB), (91, m.kn.blk), (92, m.mB)]
end Go.X
namespace Go.X
open Go Go.Proofs
attribute [local congr] cond_ctx
def szB (sz : Nat) : Bool := decide (sz <= 4194304)
theorem bis_mem {P : Program} {σ : Nm} {m : MS} : BIs P σ m.memB m.memB := bis_rw fun _ _ => rfl
section
variable (m : MS) (a : Int)
end
end Go.X
namespace Go.X
open Go Go.Proofs
theorem body_walk {f N n0 news : Nat} {rts : List Rx} {x : XCode} {vs : List Value} {pre upd : Hp} {vv : Value} {F : Fns} {sc : Short} (hF : FnsOK Try.prog F sc) (hf : fnx Try.prog f = some (N, rts, x)) (hlen : vs.length <= N) {p r q : Pj} {l : Leaf}
    (he : walk F sc 1000 x (argTm 0 vs) pre n0 p r q = some ⟨l, none⟩) (hfin : finE l.e = true) (s' : St)
    (hl : ∀ ρ w hd, LeafTo (envOf Try.prog N n0 pre mixed ρ w hd) ((pjOf p r l.e).ks ++ (pjOf p r l.e).uk) (ext (pjOf p r l.e) (argTm 0 vs) pre l) s')
    (hsub : SubB s'.h [] (upd ++ pre)) (hn : s'.n = n0 + news) (hr : resV s'.t (upd ++ pre) rts = some vv) : Body Try.prog f vs pre vv upd n0 news :=
  body_of mixed hf hlen fun ρ w hd => xwp_toEnd (E := envOf Try.prog N n0 pre mixed ρ w hd) (s := ⟨argTm 0 vs, pre, n0⟩) cl_fin hF 1000 he s' (hl ρ w hd) (fin_of hfin hsub hn hr)
def Has (h : Hp) (pre : List (Nat × Blk)) : Prop := match pre with
  | [] => True
  | (id, b) :: l => hget h id = some b /\ Has h l
theorem has_pre {h : Hp} : ∀ {pre : List (Nat × Blk)}, Has h pre -> nodupB (pre.map (·.1)) = true -> ∀ id ∈ fstL (mkH pre), hget h id = hget (mkH pre) id
  | [], _, _, id, hid => by cases hid
  | (k, b) :: l, hh, hnd, id, hid => by
    simp only [mkH, fstL, List.mem_cons] at hid
    simp only [mkH, hget]
    cases hb : Nat.beq k id with
    | true => rw [<- Nat.eq_of_beq_eq_true hb]; exact hh.1
    | false =>
      simp only [List.map_cons, nodupB, Bool.and_eq_true] at hnd
      refine has_pre hh.2 hnd.2 id (hid.resolve_left fun e => ?_)
      subst e; simp at hb
end Go.X
namespace Go.X
open Go Go.Proofs
def num4 (f : Nat -> Int) (k : Nat) : Int := bits2 .or .u64 (bits2 .or .u64 (bits2 .or .u64 (bits2 .or .u64 0 (IntKind.u64.wrap (IntKind.u64.wrap (f (k + 0)) * 1))) (IntKind.u64.wrap (IntKind.u64.wrap (f (k + 1)) * 256))) (IntKind.u64.wrap (IntKind.u64.wrap (f (k + 2)) * 65536))) (IntKind.u64.wrap (IntKind.u64.wrap (f (k + 3)) * 16777216))
def w32 (m : MS) : Int := IntKind.u32.wrap (num4 m.mem (m.pl.toNat * 1))
attribute [local congr] cond_ctx
def KM.add (k : KM) (w : Int) : KM := ⟨bif k.has (.int .u32 w) then k.n else k.n + 1, fun q => keq q (.int .u32 w) || k.has q⟩
theorem bis_kn {σ : Nm} {k : KM} : BIs Try.prog σ k.blk k.blk := ⟨rfl, rfl, rfl, fun d q _ _ => ⟨rfl, rfl⟩⟩
def KM.OK (k : KM) : Prop := ∀ w, k.has (.int .u32 w) = true -> (decA w).err = 0
theorem KM.OK.add {k : KM} (h : k.OK) {w : Int} (hw : (decA w).err = 0) : (k.add w).OK := fun x hx => by
  simp only [KM.add, Bool.or_eq_true] at hx
  rcases hx with hx | hx
  · have : x = w := by simpa [keq] using hx
    rw [this]; exact hw
  · exact h x hx
end Go.X
namespace Go.X
open Go Go.Proofs
end Go.X
namespace Go.X
open Go Go.Proofs
end Go.X
namespace Go.X
open Go Go.Proofs
def rB (vin vout : Value) (mk : Int) (wt : Bool) (vseen : Value) : Blk := .var [pM, vin, vout, .int .i64 mk, .bool wt, vseen]
end Go.X
namespace Go.X
open Go Go.Proofs
def MS.cells (m : MS) : List Value := [.slice (some ⟨90, 0, none⟩) m.sz m.sz] ++ regs m.x ++ [.int .u64 m.pl, .int .i64 m.st, .int .u8 m.cd, .map (some 91)]
end Go.X
namespace Go.X
open Go Go.Proofs
end Go.X
namespace Go.X
open Go Go.Proofs
end Go.X
namespace Go.X
open Go Go.Proofs
end Go.X
namespace Go.X
open Go Go.Proofs
end Go.X
namespace Go.X
open Go Go.Proofs
def Stay (v : Value) : Prop := ∀ σ : Nm, σ 40 = some 40 -> σ 101 = some 101 -> σ 102 = some 102 -> rn σ v = v
theorem bis_mBg {P : Program} {σ : Nm} {m : MS} (s90 : σ 90 = some 90) (s91 : σ 91 = some 91) : BIs P σ m.mB m.mB := by
  show renL (ren σ 4) _ = _
  simp only [MS.mB, regs, List.cons_append, List.nil_append, renL, ren, renP, s90, s91]
section
variable {m : MS} {vin vout se : Value} {mk : Int} {wt : Bool} (h1 : Stay vin) (h2 : Stay vout) (h3 : Stay se)
include h1 h2 h3
end
end Go.X
namespace Go.X
open Go Go.Proofs
def inB (T : Nat) (inp : Nat -> Int) : Blk := .rows T 1 (fun j => [.int .u8 (inp j)]) false true
def outB (n : Nat) (of : Nat -> Int) : Blk := .rows n 1 (fun j => [.int .u8 (of j)]) true false
theorem bis_inB {P : Program} {σ : Nm} {T : Nat} {inp : Nat -> Int} : BIs P σ (inB T inp) (inB T inp) := bis_rw fun _ _ => rfl
section
variable {m : MS} {vout se : Value} {mk : Int} {wt : Bool} {T k L C : Nat} {inp : Nat -> Int} (h2 : Stay vout) (h3 : Stay se)
include h2 h3
end
theorem bis_out {P : Program} {σ : Nm} {n : Nat} {of : Nat -> Int} {f : Nat -> List Value} (h : ∀ j, j < n -> f j = [.int .u8 (of j)]) : BIs P σ (outB n of) (.rows n 1 f true false) := ⟨rfl, rfl, fun j hj => by rw [h j hj]; rfl, .inl rfl, .inr rfl⟩
theorem bis_outB {P : Program} {σ : Nm} {n : Nat} {of : Nat -> Int} : BIs P σ (outB n of) (outB n of) := bis_out fun _ _ => rfl
section
variable {m : MS} {vin se : Value} {mk : Int} {wt : Bool} (h1 : Stay vin) (h3 : Stay se) (h : m.x 17 = 1)
include h1 h3 h
end
end Go.X
namespace Go.X
open Go Go.Proofs
section
variable {m : MS} {vin vout se : Value} {mk : Int} {wt : Bool}
end
end Go.X
namespace Go.X
open Go Go.Proofs
section
variable {m : MS} {vin vout se : Value} {mk : Int} {wt : Bool}
end
end Go.X
namespace Go.X
open Go Go.Proofs
def res0 : Blk := .var [.int .i64 0, .int .u8 0, .int .i64 0, .slice none 0 0, .int .i64 0, .int .i64 0]
def extL (bi bo bs : Bool) (b94 b101 b102 : Blk) : List (Nat × Blk) := (bif bi then [(40, b94)] else []) ++ ((bif bo then [(101, b101)] else []) ++ (bif bs then [(102, b102)] else []))
abbrev core48 (m : MS) (r : Blk) : List (Nat × Blk) := [(90, m.memB), (91, m.kn.blk), (92, m.mB), (100, r), (103, res0)]
end Go.X
namespace Go.X
open Go Go.Proofs
def vO (bo : Bool) (n : Nat) : Value := bif bo then .slice (some ⟨101, 0, none⟩) n n else .slice none 0 0
def vW (bs : Bool) (n : Nat) : Value := bif bs then .slice (some ⟨102, 0, none⟩) n n else .slice none 0 0
def vI (bi : Bool) (k L C : Nat) : Value := bif bi then .slice (some ⟨40, k, none⟩) L C else .slice none 0 0
end Go.X
namespace Go.X
open Go Go.Proofs
structure RSt where
  m : MS
  ik : Nat
  oN : Nat
  of : Nat -> Int
  sN : Nat
  sf : Nat -> List Value
  mark : Int
structure REnv where
  bi : Bool
  T : Nat
  inp : Nat -> Int
  k0 : Nat
  L0 : Nat
  C0 : Nat
  wt : Bool
def bO : Nat -> Bool
  | 0 => false
  | _ + 1 => true
def seB (n : Nat) (f : Nat -> List Value) : Blk := .rows n 4 f true false
def RSt.vin (e : REnv) (s : RSt) : Value := vI e.bi (e.k0 + s.ik) (e.L0 - s.ik) (e.C0 - s.ik)
def RSt.rb (e : REnv) (s : RSt) : Blk := rB (s.vin e) (vO (bO s.oN) s.oN) s.mark e.wt (vW (bO s.sN) s.sN)
def RSt.ex (e : REnv) (s : RSt) : List (Nat × Blk) := extL e.bi (bO s.oN) (bO s.sN) (inB e.T e.inp) (outB s.oN s.of) (seB s.sN s.sf)
def RSt.hp (e : REnv) (s : RSt) : List (Nat × Blk) := core48 s.m (s.rb e) ++ s.ex e
def SeOK (n : Nat) (f : Nat -> List Value) : Prop := ∀ j, j < n -> ∀ σ : Nm, rnL σ (f j) = f j
end Go.X
namespace Go.X
open Go Go.Proofs
end Go.X
namespace Go.X
open Go Go.Proofs
end Go.X
namespace Go.X
open Go Go.Proofs
end Go.X
namespace Go.X
open Go Go.Proofs
def AtN (f : FuncId) (vs : List Value) (pre : List (Nat × Blk)) (v : Value) (upd : Hp) (N news : Nat) : Prop := nodupB (pre.map (·.1)) = true /\ ADet Try.prog f vs (mkH pre) v upd N news
noncomputable def conAt (f : FuncId) (vs0 : List Value) (pre : List (Nat × Blk)) (v : Value) (upd : Hp) (N news : Nat) : Con Try.prog where
  f := f
  run := fun vs h n => some (mkH pre, v, upd, news, decP (vs = vs0 /\ Has h pre /\ AtN f vs0 pre v upd N news) && Nat.beq n N)
  ok := fun vs h n pre' v' upd' news' hx => by
    simp only [Option.some.injEq, Prod.mk.injEq, Bool.and_eq_true] at hx
    obtain ⟨rfl, rfl, rfl, rfl, hA, hn⟩ := hx
    obtain ⟨rfl, hh, hc⟩ := of_decP hA
    rw [Nat.eq_of_beq_eq_true hn]
    exact ⟨has_pre hh hc.1, hc.2⟩
end Go.X
namespace Go.X
open Go Go.Proofs
end Go.X
namespace Go.X
open Go Go.Proofs
structure BaseOK (e : REnv) (n : Nat) (s : RSt) : Prop where
  sz : szB s.m.sz = true
  pl : uB s.m.pl = true
  x : ∀ j, uB (s.m.x j) = true
  kn : s.m.kn.OK
  se : SeOK s.sN s.sf
  out : s.oN <= n
  cap : e.L0 <= e.C0
  top : e.k0 + e.L0 <= e.T
  ik : s.ik <= e.L0
end Go.X
namespace Go.X
open Go Go.Proofs
section
variable {e : REnv} {n : Nat} {s s' : RSt} (hb : BaseOK e n s) (hn : (n : Int) < 1000000000) (D : DecU (w32 s.m)) (h0 : s.m.st = 0)
include hb
include hn D
end
end Go.X
namespace Go.X
open Go Go.Proofs
end Go.X
namespace Go.X
open Go Go.Proofs
def DetG (f : FuncId) (vs : List Value) (pre : List (Nat × Blk)) (v : Value) : Prop := nodupB (pre.map (·.1)) = true /\ ∀ n, ADet Try.prog f vs (mkH pre) v [] n 0
noncomputable def conG (f : FuncId) (vs0 : List Value) (pre : List (Nat × Blk)) (v : Value) : Con Try.prog where
  f := f
  run := fun vs h n => some (mkH pre, v, [], 0, decP (vs = vs0 /\ Has h pre /\ DetG f vs0 pre v))
  ok := fun vs h n pre' v' upd' news' hx => by
    simp only [Option.some.injEq, Prod.mk.injEq] at hx
    obtain ⟨rfl, rfl, rfl, rfl, hA⟩ := hx
    obtain ⟨rfl, hh, hc⟩ := of_decP hA
    exact ⟨has_pre hh hc.1, hc.2 n⟩
section
variable (op : Int) (c : Cand) (m : MS) (vin vout se : Value) (mk : Int) (wt bs : Bool) (b : Blk) (n a off rd1 : Int) (bv : Value) (ok sto : Bool) (idx cap l : Nat) (v84 v36 : Int) (sN k : Nat) (sf : Nat -> List Value)
end
end Go.X
namespace Go.X
open Go Go.Proofs
theorem fokE {E : FEnv} (hP : E.P = Try.prog) (l : List (Con Try.prog)) : FnsOK E.P (lookF FL) (scOf l) := by rw [hP]; exact fok FOK l
section
variable {op : Int} {c : Cand} {m : MS} {vin vout se : Value} {mk : Int} {wt bs : Bool} {b : Blk} {E : FEnv} {Q : Post}
end
end Go.X
namespace Go.X
open Go Go.Proofs
section
variable {op : Int} {c : Cand} {m : MS} {vin vout se : Value} {mk : Int} {wt bs : Bool} {l : Nat} {sf : Nat -> List Value} {E : FEnv} {Q : Post}
end
end Go.X
namespace Go.X
open Go Go.Proofs
section
variable {op : Int} {c : Cand} {m : MS} {vin vout se : Value} {mk : Int} {wt bs : Bool} {l : Nat} {sf : Nat -> List Value} {E : FEnv} {Q : Post}
end
end Go.X
namespace Go.X
open Go Go.Proofs
section
variable {op : Int} {c : Cand} {m : MS} {vin vout se : Value} {mk : Int} {wt bs : Bool} {l : Nat} {sf : Nat -> List Value} {E : FEnv} {Q : Post}
end
section
variable {op : Int} {c : Cand} {m : MS} {vin vout se : Value} {mk : Int} {wt : Bool}
end
end Go.X
namespace Go.X
open Go Go.Proofs
section
variable {op : Int} {c : Cand} {m : MS} {vin vout : Value} {mk : Int} {sN : Nat} {sf : Nat -> List Value}
end
end Go.X
namespace Go.X
open Go Go.Proofs
section
variable {op : Int} {c : Cand} {m : MS} {vin vout se : Value} {mk : Int} {wt : Bool}
end
end Go.X
namespace Go.X
open Go Go.Proofs
section
variable {op : Int} {c : Cand} {m : MS} {vin vout se : Value} {mk : Int} {wt : Bool} {k : KM}
end
end Go.X
namespace Go.X
open Go Go.Proofs
end Go.X
namespace Go.X
open Go Go.Proofs
section
variable {o f3 f7 rd rs1 rs2 imm w : Int} (ho : 0 <= o /\ o < 128) (h3 : 0 <= f3 /\ f3 < 8) (h7 : 0 <= f7 /\ f7 < 128)
include ho h3 h7
end
end Go.X
namespace Go.X
open Go Go.Proofs
end Go.X
namespace Go.X
open Go Go.Proofs
end Go.X
namespace Go.X
open Go Go.Proofs
end Go.X
namespace Go.X
open Go Go.Proofs
def prog6 : List Int := [147, 8, 32, 0, 115, 0, 0, 0, 99, 74, 5, 0, 147, 8, 16, 0, 115, 0, 0, 0, 147, 130, 18, 0, 111, 240, 159, 254, 19, 133, 2, 0, 147, 8, 48, 0, 115, 0, 0, 0]
def mem6 (j : Nat) : Int := prog6.getD j 0
structure EI (e : REnv) (p a5 a10 a17 : Int) (ik oN : Nat) (s : RSt) : Prop where
  sz : s.m.sz = 64
  mem : s.m.mem = mem6
  pl : s.m.pl = p
  st : s.m.st = 0
  x0 : s.m.x 0 = 0
  x5 : s.m.x 5 = a5
  x10 : s.m.x 10 = a10
  x17 : s.m.x 17 = a17
  fik : s.ik = ik
  foN : s.oN = oN
  out : ∀ j, j < oN -> s.of j = IntKind.u8.wrap (IntKind.u64.wrap (e.inp (e.k0 + j)))
section
variable {e : REnv} {p a5 a10 a17 : Int} {ik oN : Nat} {s : RSt} (h : EI e p a5 a10 a17 ik oN s)
include h
end
section
variable {e : REnv} {a5 a10 a17 : Int} {ik oN : Nat} {s : RSt}
end
end Go.X
namespace Go.X
open Go Go.Proofs
structure In6 (e : REnv) : Prop where
  byte : ∀ j, j < e.L0 -> 0 <= e.inp (e.k0 + j) /\ e.inp (e.k0 + j) < 256
  nil : e.bi = false -> e.L0 = 0
section
variable {e : REnv} (hin : In6 e) (hL : e.L0 <= 200)
end
end Go.X
namespace Go.X
open Go Go.Proofs
def con20b : Con Try.prog where
  f := 20
  run := fun vs _ n => match vs with
    | [.int .u32 w] => some ([], (decA w).v, [(n, some (decA w).b)], 1, decB w)
    | _ => none
  ok := fun vs h n pre v upd news hx => by
    split at hx
    · rename_i w
      simp only [Option.some.injEq, Prod.mk.injEq] at hx
      obtain ⟨rfl, rfl, rfl, rfl, hu⟩ := hx
      exact ⟨fun id hid => by simp [fstL] at hid, c20 w (decU_of hu) n⟩
    · cases hx
abbrev sc21 : Short := scOf [con20b]
theorem FOK21 : FnsOK Try.prog (lookF FL) sc21 := fok FOK _
theorem p21 : execC (lookF FL) sc21 100000 x21 (argTm 0 []) [] 100 (valK [0]) = some [.bool true] := by kernel_rfl
end Go.X
namespace Go.X
open Go Go.Proofs
def c21g : List Value -> Option Value
  | [] => some (.bool true)
  | _ => none
def con21 : Con Try.prog := pureC 21 c21g fun vs v n h => by
  unfold c21g at h
  split at h
  · cases h; exact adet_tree FOK21 100000 fx21 (by simp) [0] p21 rfl rfl rfl rfl n
  · cases h
abbrev sc6 : Short := scOf [con21]
def exI (bi : Bool) (b : Blk) : List (Nat × Blk) := bif bi then [(40, b)] else []
end Go.X
namespace Go.X
open Go Go.Proofs
attribute [local congr] cond_ctx
section
variable (bi : Bool) (k L C T : Nat) (inp : Nat -> Int)
end
end Go.X
namespace Go.X
open Go Go.Proofs
section
variable (bi : Bool) (k L C T : Nat) (inp : Nat -> Int)
end
end Go.X
namespace Go.X
open Go Go.Proofs
def Ins.v (i : Ins) : Value := i18 i.op i.rd i.rs1 i.rs2 i.imm
end Go.X
namespace Go.X
open Go Go.Proofs
section
variable (E : Ins -> Int × Int) (N C T i : Nat) (J : Nat -> Ins) (oN : Nat) (of : Nat -> Int)
end
end Go.X
namespace Go.X
open Go Go.Proofs
end Go.X
namespace Go.X
open Go Go.Proofs
abbrev L60 (N C : Nat) : Value := .slice (some ⟨60, 0, none⟩) N C
end Go.X
namespace Go.X
open Go Go.Proofs
def newM (k L : Nat) (inp : Nat -> Int) (sz : Nat) : MS := ⟨sz, fun j => bif Nat.blt j L then inp (k + j) else 0, fun _ => 0, 0, 0, 0, ⟨0, fun _ => false⟩⟩
def MS.mAt (m : MS) (a b : Nat) : Blk := .var ([.slice (some ⟨a, 0, none⟩) m.sz m.sz] ++ regs m.x ++ [.int .u64 m.pl, .int .i64 m.st, .int .u8 m.cd, .map (some b)])
def exJ' (bi : Bool) : List Nat := bif bi then [40] else []
def mem22 (bi : Bool) (k L : Nat) (inp : Nat -> Int) (sz : Nat) : Blk := .rows sz 1 (rowPut (fun _ => [.int .u8 0]) 0 (min (bif bi then L else 0) sz) (fun j => bif bi then [.int .u8 (inp (k + j))] else [])) false false
def old22 : Blk := .map 35 26 0 (fun _ => false) (fun _ => i18 0 0 0 0 0)
theorem p22 (bi : Bool) (k L C T : Nat) (sz : Nat) (inp : Nat -> Int) (hL : bi = false -> L = 0) (h1 : L <= sz) (h2 : sz <= 4194304) (hT : bi = true -> k + L <= T) :
    walk (lookF FL) noSc 1000 x22 (argTm 0 [vI bi k L C, .int .i64 (sz : Int)]) (mkH (exI bi (inB T inp))) 100 ⟨[], [], [], []⟩ ⟨[4, 5], [.id 100, .id 101, .id 102], [], exJ' bi⟩ ⟨[], [], [], []⟩ =
      some ⟨⟨[some (true, .pointer (some ⟨102, 0, some 0⟩)), some (true, .int .i64 0)], [(100, some (mem22 bi k L inp sz)), (101, some old22), (102, some ((newM k L inp sz).mAt 100 101))], .ret, 103⟩, none⟩ := by
  cases bi with
  | false =>
    have hL0 := hL rfl
    subst hL0
    have e : walk (lookF FL) noSc 1000 x22 (argTm 0 [vI false k 0 C, .int .i64 (sz : Int)]) (mkH (exI false (inB T inp))) 100 ⟨[], [], [], []⟩ ⟨[4, 5], [.id 100, .id 101, .id 102], [], exJ' false⟩ ⟨[], [], [], []⟩ =
      bif bif decide ((sz : Int) < 0) then true else decide ((sz : Int) > 4194304) then some ⟨⟨[some (true, .pointer none), some (true, .int .i64 1)], [(100, none), (101, none), (102, none)], .ret, 100⟩, none⟩
        else bif decide (0 <= (sz : Int)) && decide ((sz : Int) <= (sz : Int)) && decide ((sz : Int) * 3 <= 1099511627776) && true && true then bif (0 + sz).ble sz && true && true then
          some ⟨⟨[some (true, .pointer (some ⟨102, 0, some 0⟩)), some (true, .int .i64 0)], [(100, some (mem22 false k 0 inp sz)), (101, some old22), (102, some ((newM k 0 inp sz).mAt 100 101))], .ret, 103⟩, none⟩ else none else none := by kernel_rfl
    rw [e]
    simp only [decide_eq_false (show ¬ (sz : Int) < 0 by omega), decide_eq_false (show ¬ (sz : Int) > 4194304 by omega), decide_eq_true (show 0 <= (sz : Int) by omega), decide_eq_true (Int.le_refl (sz : Int)), decide_eq_true (show (sz : Int) * 3 <= 1099511627776 by omega), Nat.zero_add, show sz.ble sz = true by simp]
    rfl
  | true =>
    have e : walk (lookF FL) noSc 1000 x22 (argTm 0 [vI true k L C, .int .i64 (sz : Int)]) (mkH (exI true (inB T inp))) 100 ⟨[], [], [], []⟩ ⟨[4, 5], [.id 100, .id 101, .id 102], [], exJ' true⟩ ⟨[], [], [], []⟩ =
      bif ((!decide ((sz : Int) < (L : Int)) || decide ((sz : Int) < (L : Int))) && true || false) && ((!decide ((sz : Int) < (L : Int)) && true || !!decide ((sz : Int) < (L : Int))) && true) then bif bif decide ((sz : Int) < (L : Int)) then true else decide ((sz : Int) > 4194304) then some ⟨⟨[some (true, .pointer none), some (true, .int .i64 1)], [(100, none), (101, none), (102, none)], .ret, 100⟩, none⟩
        else bif decide (0 <= (sz : Int)) && decide ((sz : Int) <= (sz : Int)) && decide ((sz : Int) * 3 <= 1099511627776) && true && true then bif (k + L).ble T && true && (0 + sz).ble sz && true && true then
          some ⟨⟨[some (true, .pointer (some ⟨102, 0, some 0⟩)), some (true, .int .i64 0)], [(100, some (mem22 true k L inp sz)), (101, some old22), (102, some ((newM k L inp sz).mAt 100 101))], .ret, 103⟩, none⟩ else none else none else none := by kernel_rfl
    rw [e]
    simp only [decide_eq_false (show ¬ (sz : Int) < (L : Int) by omega), decide_eq_false (show ¬ (sz : Int) > 4194304 by omega), decide_eq_true (show 0 <= (sz : Int) by omega), decide_eq_true (Int.le_refl (sz : Int)), decide_eq_true (show (sz : Int) * 3 <= 1099511627776 by omega), Nat.zero_add, show sz.ble sz = true by simp, show (k + L).ble T = true by rw [ble_dec]; simp; exact hT rfl]
    rfl
theorem bis_mem22 {P : Program} {σ : Nm} {bi : Bool} {k L : Nat} {inp : Nat -> Int} {sz : Nat} (hL : bi = false -> L = 0) (h1 : L <= sz) : BIs P σ (newM k L inp sz).memB (mem22 bi k L inp sz) := by
  refine ⟨rfl, rfl, fun j hj => ?_, by first | exact .inl rfl | exact .inr rfl | exact .inr (.inl rfl), by first | exact .inl rfl | exact .inr rfl⟩
  show rnL _ [.int .u8 (bif Nat.blt j L then inp (k + j) else 0)] = cond (Nat.ble 0 j && Nat.blt j (0 + min (bif bi then L else 0) sz)) (bif bi then [.int .u8 (inp (k + (j - 0)))] else []) [.int .u8 0]
  have h0 : Nat.ble 0 j = true := by simp
  rw [h0, Bool.true_and, Nat.zero_add, Nat.sub_zero]
  cases bi with
  | false =>
    have := hL rfl
    subst this
    have : Nat.blt j 0 = false := by rw [blt_dec]; simp
    rw [this, cond_false, cond_false]; simp only [Nat.zero_min, this, cond_false]; rfl
  | true =>
    rw [cond_true, Nat.min_eq_left h1, cond_true]
    cases Nat.blt j L <;> rfl
theorem bis_old {P : Program} {σ : Nm} {k L : Nat} {inp : Nat -> Int} {sz : Nat} : BIs P σ (newM k L inp sz).kn.blk old22 := ⟨rfl, rfl, rfl, fun d q _ _ => ⟨rfl, rfl⟩⟩
theorem bis_mAt {P : Program} {σ : Nm} {m : MS} {a b a' b' : Nat} (ha : σ a = some a') (hb : σ b = some b') : BIs P σ (m.mAt a b) (m.mAt a' b') := by
  show ren σ 4 (.slice (some ⟨a, 0, none⟩) m.sz m.sz) :: (rnL σ (regs m.x ++ [.int .u64 m.pl, .int .i64 m.st, .int .u8 m.cd]) ++ [ren σ 4 (.map (some b))]) = _
  simp only [ren, renP, ha, hb]
  rfl
def upd22 (m : MS) : Hp := mkH [(100, m.memB), (101, m.kn.blk), (102, m.mAt 100 101)]
theorem b22 {bi : Bool} {k L C T sz : Nat} {inp : Nat -> Int} (hL : bi = false -> L = 0) (h1 : L <= sz) (h2 : sz <= 4194304) (hT : bi = true -> k + L <= T) :
    Body Try.prog 22 [vI bi k L C, .int .i64 (sz : Int)] (mkH (exI bi (inB T inp))) (.tuple ⟨[.pointer (some ⟨102, 0, some 0⟩), .int .i64 0]⟩) (upd22 (newM k L inp sz)) 100 3 := by
  have e := p22 bi k L C T sz inp hL h1 h2 hT
  refine body_walk FOK fx22 (by simp) e rfl ⟨mkT [4, 5] [.pointer (some ⟨102, 0, some 0⟩), .int .i64 0], upd22 (newM k L inp sz) ++ mkH (exI bi (inB T inp)), 103⟩ (fun ρ w hd => ⟨[.pointer (some ⟨102, 0, some 0⟩), .int .i64 0], (100, (newM k L inp sz).memB) :: (101, (newM k L inp sz).kn.blk) :: (102, (newM k L inp sz).mAt 100 101) :: exI bi (inB T inp), 103, ?_, ?_, ?_, ?_⟩) ?_ rfl ?_
  · cases bi <;> rfl
  · cases bi <;> rfl
  · cases bi <;> exact ⟨rfl, rfl, trivial⟩
  · cases bi
    · exact ⟨bis_mem22 hL h1, bis_old, bis_mAt rfl rfl, trivial⟩
    · exact ⟨bis_mem22 hL h1, bis_old, bis_mAt rfl rfl, bis_inB, trivial⟩
  · cases bi
    · exact ⟨rfl, rfl, rfl, trivial⟩
    · exact ⟨rfl, rfl, rfl, rfl, trivial⟩
  · cases bi <;> rfl
end Go.X
namespace Go.X
open Go Go.Proofs
section
variable (n o : Int) (i N : Nat) (f : Nat -> List Value)
end
def v7 (i : Nat) : Value := bif bO i then L60 (2 * i) (2 * i) else .slice none 0 0
end Go.X
namespace Go.X
open Go Go.Proofs
section
variable {N : Nat} {r : Int} (hN : N <= 510) (h0 : 0 <= r) (h1 : r < 32)
end
end Go.X
namespace Go.X
open Go Go.Proofs
def vM3 (a : Nat) : Value := .tuple ⟨[.pointer (some ⟨a, 0, some 0⟩), .int .i64 0]⟩
end Go.X
namespace Go.X
open Go Go.Proofs
end Go.X
namespace Go.X
open Go Go.Proofs
end Go.X
namespace Go.X
open Go Go.Proofs
end Go.X
namespace Go.X
open Go Go.Proofs
section
variable (m0 m : MS) (mk : Int) (tk : Bool)
end
end Go.X
namespace Go.X
open Go Go.Proofs
end Go.X
namespace Go.X
open Go Go.Proofs
end Go.X
namespace Go.X
open Go Go.Proofs
def inK (k : Int) : Bool := bif decide (k > 0) then decide (k < 32) else false
def setM (m : MS) (k v : Int) : MS := bif inK k then { m with x := fun j => bif Nat.beq (j + 1) (1 + k.toNat * 1) then v else m.x j } else m
end Go.X
