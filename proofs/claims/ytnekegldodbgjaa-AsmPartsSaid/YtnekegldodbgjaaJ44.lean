import Derived.Test.YtnekegldodbgjaaJ43
set_option linter.all false
namespace Go.X
open Go Go.Proofs
def opM (op : Int) : Prop := op = 38 \/ op = 39 \/ op = 40 \/ op = 41 \/ op = 42 \/ op = 43 \/ op = 44
theorem opM_of {op : Int} (h1 : 38 <= op) (h2 : op <= 44) : opM op := by unfold opM; omega
theorem w61m (m m2 : MS) (op : Int) (h : opM op) (c : Cand) (k : KM) (vin vout se : Value) (mk : Int) (wt ret : Bool) (pre : List (Nat × Blk)) (me : Blk) :
    walk (lookF FL) (scC0 m ⟨op, c, 0⟩ k 76 [pR, (⟨op, c, 0⟩ : Ans).i] pre ret me m2 vin vout se mk wt) 1000 x61 (argTm 0 [pR]) (mkH [(90, m.memB), (91, m.kn.blk), (92, m.mB), (100, rB vin vout mk wt se)]) 103 ⟨[], [], [], []⟩ ⟨[2], [.id 90, .id 91, .id 92, .id 100], [], []⟩ ⟨[], [], [], []⟩ =
    bif decP (Has (mkH [(90, m.memB), (91, m.kn.blk), (92, m.mB), (100, rB vin vout mk wt se)]) m.H /\ FetchOK m ⟨op, c, 0⟩ k) && true && true then
      bif ((1 + c.rs1.toNat * 1).blt m.cells.length && rdB m c.rs1 && true || false) && ((intRange c.rs1 32 && true || false) && true) then
        bif decP ([pR, (⟨op, c, 0⟩ : Ans).i] = [pR, (⟨op, c, 0⟩ : Ans).i] /\ Has (hC ⟨op, c, 0⟩ k (mkH [(90, m.memB), (91, m.kn.blk), (92, m.mB), (100, rB vin vout mk wt se)])) pre /\ Call0 76 [pR, (⟨op, c, 0⟩ : Ans).i] pre ret me m2 vin vout se mk wt) && true && true then
          bif ret then some ⟨⟨[some (true, .bool ret)], [(90, some me), (91, some k.blk), (92, some (plM m2 (IntKind.u64.wrap (m.pl + 4)))), (100, some (rB vin vout mk wt se))], .ret, 105⟩, none⟩
          else some ⟨⟨[some (true, .bool ret)], [(90, some me), (91, some k.blk), (92, some m2.mB), (100, some (rB vin vout mk wt se))], .ret, 105⟩, none⟩
        else none else none else none := by
  rcases h with rfl | rfl | rfl | rfl | rfl | rfl | rfl
  · exact p61m_38 m m2 c k vin vout se vin vout mk wt ret pre me me
  · exact p61m_39 m m2 c k vin vout se vin vout mk wt ret pre me me
  · exact p61m_40 m m2 c k vin vout se vin vout mk wt ret pre me me
  · exact p61m_41 m m2 c k vin vout se vin vout mk wt ret pre me me
  · exact p61m_42 m m2 c k vin vout se vin vout mk wt ret pre me me
  · exact p61m_43 m m2 c k vin vout se vin vout mk wt ret pre me me
  · exact p61m_44 m m2 c k vin vout se vin vout mk wt ret pre me me
theorem w61sn (m m2 : MS) (op : Int) (h : opM op) (c : Cand) (k : KM) (vin vout se : Value) (mk : Int) (wt : Bool) (pre : List (Nat × Blk)) (me b2 : Blk) (l : Nat) :
    walk (lookF FL) (scS m ⟨op, c, 0⟩ k pre me m2 vin vout l b2 mk wt) 1000 x61 (argTm 0 [pR]) (mkH [(90, m.memB), (91, m.kn.blk), (92, m.mB), (100, rB vin vout mk wt se)]) 103 ⟨[], [], [], []⟩ ⟨[2], [.id 90, .id 91, .id 92, .id 100, .cell 100 5], [], []⟩ ⟨[], [], [], []⟩ =
    bif decP (Has (mkH [(90, m.memB), (91, m.kn.blk), (92, m.mB), (100, rB vin vout mk wt se)]) m.H /\ FetchOK m ⟨op, c, 0⟩ k) && true && true then
      bif ((1 + c.rs1.toNat * 1).blt m.cells.length && rdB m c.rs1 && true || false) && ((intRange c.rs1 32 && true || false) && true) then
        bif decP ([pR, (⟨op, c, 0⟩ : Ans).i] = [pR, (⟨op, c, 0⟩ : Ans).i] /\ Has (hC ⟨op, c, 0⟩ k (mkH [(90, m.memB), (91, m.kn.blk), (92, m.mB), (100, rB vin vout mk wt se)])) pre /\ CallS ⟨op, c, 0⟩ pre me m2 vin vout l b2 mk wt) && true && true then
          some ⟨⟨[some (true, .bool true)], [(90, some me), (91, some k.blk), (92, some (plM m2 (IntKind.u64.wrap (m.pl + 4)))), (100, some (rB vin vout mk wt (newS 105 l))), (105, some b2)], .ret, 106⟩, none⟩
        else none else none else none := by
  rcases h with rfl | rfl | rfl | rfl | rfl | rfl | rfl
  · exact p61s_38n m m2 c k vin vout se mk wt pre me me b2 l
  · exact p61s_39n m m2 c k vin vout se mk wt pre me me b2 l
  · exact p61s_40n m m2 c k vin vout se mk wt pre me me b2 l
  · exact p61s_41n m m2 c k vin vout se mk wt pre me me b2 l
  · exact p61s_42n m m2 c k vin vout se mk wt pre me me b2 l
  · exact p61s_43n m m2 c k vin vout se mk wt pre me me b2 l
  · exact p61s_44n m m2 c k vin vout se mk wt pre me me b2 l
theorem w61sb (m m2 : MS) (op : Int) (h : opM op) (c : Cand) (k : KM) (vin vout se : Value) (mk : Int) (wt : Bool) (pre : List (Nat × Blk)) (me b b2 : Blk) (l : Nat) :
    walk (lookF FL) (scS m ⟨op, c, 0⟩ k pre me m2 vin vout l b2 mk wt) 1000 x61 (argTm 0 [pR]) (mkH [(90, m.memB), (91, m.kn.blk), (92, m.mB), (100, rB vin vout mk wt se), (102, b)]) 103 ⟨[], [], [], []⟩ ⟨[2], [.id 90, .id 91, .id 92, .id 100, .cell 100 5], [], []⟩ ⟨[], [], [], []⟩ =
    bif decP (Has (mkH [(90, m.memB), (91, m.kn.blk), (92, m.mB), (100, rB vin vout mk wt se), (102, b)]) m.H /\ FetchOK m ⟨op, c, 0⟩ k) && true && true then
      bif ((1 + c.rs1.toNat * 1).blt m.cells.length && rdB m c.rs1 && true || false) && ((intRange c.rs1 32 && true || false) && true) then
        bif decP ([pR, (⟨op, c, 0⟩ : Ans).i] = [pR, (⟨op, c, 0⟩ : Ans).i] /\ Has (hC ⟨op, c, 0⟩ k (mkH [(90, m.memB), (91, m.kn.blk), (92, m.mB), (100, rB vin vout mk wt se), (102, b)])) pre /\ CallS ⟨op, c, 0⟩ pre me m2 vin vout l b2 mk wt) && true && true then
          some ⟨⟨[some (true, .bool true)], [(90, some me), (91, some k.blk), (92, some (plM m2 (IntKind.u64.wrap (m.pl + 4)))), (100, some (rB vin vout mk wt (newS 105 l))), (105, some b2)], .ret, 106⟩, none⟩
        else none else none else none := by
  rcases h with rfl | rfl | rfl | rfl | rfl | rfl | rfl
  · exact p61s_38b m m2 c k vin vout se mk wt pre me b b2 l
  · exact p61s_39b m m2 c k vin vout se mk wt pre me b b2 l
  · exact p61s_40b m m2 c k vin vout se mk wt pre me b b2 l
  · exact p61s_41b m m2 c k vin vout se mk wt pre me b b2 l
  · exact p61s_42b m m2 c k vin vout se mk wt pre me b b2 l
  · exact p61s_43b m m2 c k vin vout se mk wt pre me b b2 l
  · exact p61s_44b m m2 c k vin vout se mk wt pre me b b2 l
section
variable {op : Int} {c : Cand} {m : MS} {vin vout se : Value} {mk : Int} {wt : Bool} {k : KM}
theorem step_mem0 (h1 : Stay vin) (h2 : Stay vout) (h3 : Stay se) (ho : opM op) (hf : FetchOK m ⟨op, c, 0⟩ k) (hc : CandOK c) {m2 : MS} {ret : Bool}
    (hcall : Call0 76 [pR, (⟨op, c, 0⟩ : Ans).i] (pre76L m (rB vin vout mk wt se) []) ret m2.memB m2 vin vout se mk wt) : Step0 (preS m (rB vin vout mk wt se) []) ret (finM m m2 k ret) (rB vin vout mk wt se) := by
  refine ⟨rfl, fun n hn => ?_⟩
  have e := w61m m m2 op ho c k vin vout se mk wt ret (pre76L m (rB vin vout mk wt se) []) m2.memB
  obtain ⟨a1, a2, a3, a4⟩ := reg_ok m hc.rs1
  rw [decP_true ⟨hasH m [(100, rB vin vout mk wt se)], hf⟩, decP_true ⟨rfl, ⟨rfl, rfl, rfl, trivial⟩, hcall⟩] at e
  simp only [a1, a2, a3, Bool.and_self, Bool.or_false, cond_true] at e
  have e2 : walk (lookF FL) (scC0 m ⟨op, c, 0⟩ k 76 [pR, (⟨op, c, 0⟩ : Ans).i] (pre76L m (rB vin vout mk wt se) []) ret m2.memB m2 vin vout se mk wt) 1000 x61 (argTm 0 [pR]) (mkH (preS m (rB vin vout mk wt se) [])) 103 ⟨[], [], [], []⟩ ⟨[2], [.id 90, .id 91, .id 92, .id 100], [], []⟩ ⟨[], [], [], []⟩ =
      some ⟨⟨[some (true, .bool ret)], [(90, some (finM m m2 k ret).memB), (91, some k.blk), (92, some (finM m m2 k ret).mB), (100, some (rB vin vout mk wt se))], .ret, 105⟩, none⟩ := by
    cases ret
    · exact e
    · exact e
  have hk : (finM m m2 k ret).kn = k := by cases ret <;> rfl
  have hs : ∀ {σ : Nm}, σ 90 = some 90 -> σ 91 = some 91 -> BIs Try.prog σ (finM m m2 k ret).mB (finM m m2 k ret).mB := fun a b => bis_mBg a b
  refine adet_of_body (body_walk (news := 0) (fok FOK _) fx61 (by simp) e2 rfl ⟨mkT [2] [.bool ret], mkH [(90, (finM m m2 k ret).memB), (91, k.blk), (92, (finM m m2 k ret).mB), (100, rB vin vout mk wt se)], 103⟩
    (fun ρ w hd => ⟨_, _, _, rfl, rfl, ⟨rfl, trivial⟩, bis_mem, bis_kn, hs rfl rfl, bis_rB h1 h2 h3 rfl rfl rfl rfl, trivial⟩) (upd := updS (finM m m2 k ret) (rB vin vout mk wt se)) ⟨rfl, by rw [hk]; rfl, rfl, rfl, trivial, trivial, trivial, trivial, trivial⟩ rfl rfl) πR [] rfl rfl
    ⟨bis_mem, bis_kn, rfl, bis_rB h1 h2 h3 rfl rfl rfl rfl, trivial⟩ rfl rfl ⟨bis_mem, bis_kn, hs rfl rfl, bis_rB h1 h2 h3 rfl rfl rfl rfl, trivial, trivial, trivial, trivial, trivial⟩ rfl
theorem step_memW (h1 : Stay vin) (h2 : Stay vout) {sN : Nat} {sf : Nat -> List Value} (hse : SeOK sN sf) (ho : opM op) (hf : FetchOK m ⟨op, c, 0⟩ k) (hc : CandOK c) {m2 : MS}
    (hcall : CallS ⟨op, c, 0⟩ (pre76L m (rB vin vout mk true (vW (bO sN) sN)) (exS 102 (bO sN) (seB sN sf))) m2.memB m2 vin vout (sN + 1) (seN m op c sN sf) mk true) :
    StepW (preS m (rB vin vout mk true (vW (bO sN) sN)) (exS 102 (bO sN) (seB sN sf))) (finM m m2 k true) vin vout (sN + 1) (seN m op c sN sf) mk true := by
  have hse' := seOK_more hse (m := m) (op := op) (c := c)
  have hs : ∀ {σ : Nm}, σ 90 = some 90 -> σ 91 = some 91 -> BIs Try.prog σ (finM m m2 k true).mB (finM m m2 k true).mB := fun a b => bis_mBg a b
  obtain ⟨a1, a2, a3, a4⟩ := reg_ok m hc.rs1
  cases hbo : bO sN with
  | false =>
    rw [hbo] at hcall
    refine ⟨rfl, fun n hn => ?_⟩
    have e := w61sn m m2 op ho c k vin vout (.slice none 0 0) mk true (pre76L m (rB vin vout mk true (vW false sN)) (exS 102 false (seB sN sf))) m2.memB (seN m op c sN sf) (sN + 1)
    rw [decP_true ⟨hasH m [(100, rB vin vout mk true (.slice none 0 0))], hf⟩, decP_true ⟨rfl, ⟨rfl, rfl, rfl, trivial⟩, hcall⟩] at e
    simp only [a1, a2, a3, Bool.and_self, Bool.or_false, cond_true] at e
    exact adet_newR (upd := fun n => updX (finM m m2 k true) (rB vin vout mk true (newS n (sN + 1))) 102) (body_walk (fok FOK _) fx61 (by simp) e rfl ⟨mkT [2] [.bool true], mkH [(90, m2.memB), (91, k.blk), (92, (finM m m2 k true).mB), (100, rB vin vout mk true (newS 103 (sN + 1))), (103, seN m op c sN sf)], 104⟩
      (fun ρ w hd => ⟨_, _, _, rfl, rfl, ⟨rfl, trivial⟩, bis_mem, bis_kn, hs rfl rfl, bis_rBs h1 h2 rfl rfl rfl rfl rfl, bis_seB fun j hj => hse' j hj _, trivial⟩) ⟨rfl, rfl, rfl, rfl, rfl, trivial, trivial, trivial, trivial, trivial, trivial⟩ rfl rfl)
      rfl ⟨bis_mem, bis_kn, rfl, bis_rB h1 h2 stay_nil rfl rfl rfl rfl, trivial⟩ rfl rfl (fun d => rfl) (fun d => rfl) (fun d => bis_seB fun j hj => hse' j hj _)
      (fun d => ⟨bis_mem, bis_kn, hs rfl rfl, bis_rBs h1 h2 rfl rfl rfl rfl (asc_newR d _), trivial, trivial, trivial, trivial, trivial, trivial⟩) (fun d => ⟨rfl, rfl⟩) hn
  | true =>
    rw [hbo] at hcall
    refine ⟨rfl, fun n hn => ?_⟩
    have e := w61sb m m2 op ho c k vin vout (newS 102 sN) mk true (pre76L m (rB vin vout mk true (vW true sN)) (exS 102 true (seB sN sf))) m2.memB (seB sN sf) (seN m op c sN sf) (sN + 1)
    rw [decP_true ⟨hasH m [(100, rB vin vout mk true (newS 102 sN)), (102, seB sN sf)], hf⟩, decP_true ⟨rfl, ⟨rfl, rfl, rfl, rfl, trivial⟩, hcall⟩] at e
    simp only [a1, a2, a3, Bool.and_self, Bool.or_false, cond_true] at e
    exact adet_newR (upd := fun n => updX (finM m m2 k true) (rB vin vout mk true (newS n (sN + 1))) 102) (body_walk (fok FOK _) fx61 (by simp) e rfl ⟨mkT [2] [.bool true], mkH [(90, m2.memB), (91, k.blk), (92, (finM m m2 k true).mB), (100, rB vin vout mk true (newS 103 (sN + 1))), (103, seN m op c sN sf)], 104⟩
      (fun ρ w hd => ⟨_, _, _, rfl, rfl, ⟨rfl, trivial⟩, bis_mem, bis_kn, hs rfl rfl, bis_rBs h1 h2 rfl rfl rfl rfl rfl, bis_seB fun j hj => hse' j hj _, trivial⟩) ⟨rfl, rfl, rfl, rfl, rfl, trivial, trivial, trivial, trivial, trivial, trivial, trivial⟩ rfl rfl)
      rfl ⟨bis_mem, bis_kn, rfl, bis_rB h1 h2 (stay_seen _ _) rfl rfl rfl rfl, bis_seB fun j hj => hse j hj _, trivial⟩ rfl rfl (fun d => rfl) (fun d => rfl) (fun d => bis_seB fun j hj => hse' j hj _)
      (fun d => ⟨bis_mem, bis_kn, hs rfl rfl, bis_rBs h1 h2 rfl rfl rfl rfl (asc_newR d _), trivial, trivial, trivial, trivial, trivial, trivial, trivial⟩) (fun d => ⟨rfl, rfl⟩) hn
end
theorem uB_narF (k : Int) (s : Bool) (a : Int) : uB (narF k s a) = true := by
  unfold narF
  split <;> cases s <;> first | exact uB_wrap _ | exact uB_fdiv (uB_wrap _) (by omega)
def memF (e : REnv) (s : RSt) (i : Ans) : Bool × RSt :=
  bif plB s.m.sz (atM s.m i.c) (sizeF i.q) then
    (true, { s with m := finM s.m (memM s.m i.q i.c) s.m.kn' true, sN := bif e.wt then s.sN + 1 else s.sN, sf := bif e.wt then seMore s.sf s.sN (rowM s.m i.q i.c) else s.sf })
  else (false, { s with m := finM s.m s.m s.m.kn' false })
theorem memM_facts (m : MS) (op : Int) (c : Cand) (hx : ∀ j, uB (m.x j) = true) : (memM m op c).sz = m.sz /\ (∀ j, uB ((memM m op c).x j) = true) := by
  unfold memM
  cases decide (op >= 42) with
  | true =>
    simp only [cond_true]
    obtain ⟨s1, s2, _⟩ := stB_same m ((atM m c).toNat * 1) (m.x c.rs2.toNat) (nM op)
    exact ⟨s1, fun j => by rw [s2]; exact hx j⟩
  | false =>
    refine ⟨rfl, fun j => ?_⟩
    show uB (bif Nat.beq (j + 1) (1 + c.rd.toNat * 1) then _ else m.x j) = true
    cases Nat.beq (j + 1) (1 + c.rd.toNat * 1)
    · exact hx j
    · exact uB_narF _ _ _
theorem hasS (e : REnv) (s : RSt) : Has (mkH (s.hp e)) (preS s.m (s.rb e) (exS 102 (bO s.sN) (seB s.sN s.sf))) := by
  refine ⟨rfl, rfl, rfl, rfl, ?_⟩
  show Has (mkH (core48 s.m (s.rb e) ++ extL e.bi (bO s.oN) (bO s.sN) _ _ _)) _
  cases e.bi <;> cases bO s.oN <;> cases bO s.sN <;> first | exact trivial | exact ⟨rfl, trivial⟩
theorem memF_ok {e : REnv} {n : Nat} {s : RSt} (hb : BaseOK e n s) (hn : (n : Int) < 1000000000) (hsn : s.sN <= n) : MemOK memF e n s := by
  intro i k hf hc h1 h2 s'
  have ho := opM_of h1 h2
  obtain ⟨op, c, er⟩ := i
  have he := hf.err
  simp only at he
  subst he
  have hk := hf.k
  subst hk
  have hko : s.m.kn'.OK := kn_ok hb.kn
  have sv : Stay (s.vin e) := stay_vI
  have so : Stay (vO (bO s.oN) s.oN) := stay_vO
  have ss : Stay (vW (bO s.sN) s.sN) := stay_vW
  have hx := hb.x
  unfold memF
  simp only
  cases hp : plB s.m.sz (atM s.m c) (sizeF op) with
  | false =>
    simp only [cond_false]
    refine ⟨fun h => (by cases h), fun h => ?_⟩
    cases h
    obtain ⟨q1, q2, q3, q4⟩ := fin_base hb (m2 := s.m) (ret := false) hko rfl hb.x (.inr rfl)
    exact ⟨⟨_, has0 e s, step_mem0 (m2 := s.m) sv so ss ho hf hc (call76_no sv so ss hb.sz hx hc hp), rfl, rfl, rfl, rfl⟩, q1, q2, q3, q4, hb.se, hb.out, hb.cap, hb.top, hb.ik⟩
  | true =>
    simp only [cond_true]
    refine ⟨fun h => ?_, fun h => (by cases h)⟩
    cases h
    obtain ⟨f1, f2⟩ := memM_facts s.m op c hx
    obtain ⟨q1, q2, q3, q4⟩ := fin_base hb (m2 := memM s.m op c) (ret := true) hko f1 f2 (.inl rfl)
    have hout : s.oN <= n + 1 := by have := hb.out; omega
    cases hwt : e.wt with
    | false =>
      refine ⟨.st0 _ (has0 e s) ?_ ⟨rfl, rfl, rfl, rfl⟩, q1, q2, q3, q4, hb.se, hout, hb.cap, hb.top, hb.ik⟩
      have h := step_mem0 (m2 := memM s.m op c) (mk := s.mark) sv so ss ho hf hc (call76_F sv so ss hb.sz hx hc hp)
      unfold RSt.rb
      rw [hwt]
      exact h
    | true =>
      have hse' := seOK_more hb.se (m := s.m) (op := op) (c := c)
      refine ⟨.stW _ (hasS e s) ?_ ⟨Nat.succ_pos _, rfl, rfl, rfl, rfl⟩, q1, q2, q3, q4, hse', hout, hb.cap, hb.top, hb.ik⟩
      have h := step_memW (m2 := memM s.m op c) (mk := s.mark) sv so hb.se ho hf hc (call76_W sv so hb.se (by omega) hb.sz hx hc hp)
      unfold RSt.rb
      rw [hwt]
      exact h
end Go.X
