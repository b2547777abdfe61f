import Derived.Test.YtnekegldodbgjaaC06
import Derived.Laws.BytesString
import Derived.Laws.IdiomStrings
namespace Go.X
open Go

theorem nilck_runs {P : Program} {ρ : Rn} {g : G} {w : World} {n : Nat} {vs : List Value} {x : Operand} {e : Operand → Value} {r : Res} {o : Oper} (ho : o.op = .nilCheck x)
    (ha : aNilck vs = some r) (hv : VL ρ vs [e x]) (hr : RelH P ρ g w) : Runs P (execOp e o) ρ g w n r := by
  unfold aNilck at ha
  split at ha
  · rename_i a
    simp only [rv, Option.some.injEq] at ha; subst ha
    have hv := hv.1
    have : ∃ b, e x = .pointer (some b) := by
      generalize e x = c at hv
      cases hv; exact ⟨_, rfl⟩
    obtain ⟨b, hb⟩ := this
    refine Runs.pure hr (c := e x) ?_ hv
    simp [execOp, ho, hb]
  · rename_i f xs ys
    simp only [rv, Option.some.injEq] at ha; subst ha
    have hv := hv.1
    have : ∃ xs' ys', e x = .func (.func f) xs' ys' := by
      generalize e x = c at hv
      cases hv; exact ⟨_, _, rfl⟩
    obtain ⟨xs', ys', hb⟩ := this
    refine Runs.pure hr (c := e x) ?_ hv
    simp [execOp, ho, hb]
  · cases ha

theorem bits2_run {P : Program} {w : World} {op : BinOp} {k : IntKind} {x y : Int} (h : op = .and ∨ op = .or ∨ op = .xor ∨ op = .andNot) :
    (Op.intBits op k x y).run P w = .ok (.int k (bits2 op k x y)) w := by
  rcases h with rfl | rfl | rfl | rfl <;> simp [Op.intBits, bits2]

theorem binI_run {P : Program} {w : World} {op : BinOp} {t : TypeId} {k k' : IntKind} {a b : Int} {r : Res} (hk : (isShift op || decide (k = k')) = true) (h : binI op k a b = some r) (hok : r.ok = true) :
    ∃ v ok, rv v ok = some r ∧ (binOp op t (.int k a) (.int k' b)).run P w = .ok v w ∧ ∀ ρ, V ρ v v := by
  cases op <;> simp only [binI, rv, Option.some.injEq] at h <;> subst h <;> simp [isShift] at hk
  case shl =>
    simp at hok
    refine ⟨_, _, rfl, ?_, fun ρ => .int _ _⟩
    have : ¬ b < 0 := by omega
    simp [binOp, Op.shift, this]
  case shr =>
    simp at hok
    refine ⟨_, _, rfl, ?_, fun ρ => .int _ _⟩
    have : ¬ b < 0 := by omega
    simp [binOp, Op.shift, this]
  all_goals subst hk
  case quo =>
    simp at hok
    exact ⟨_, _, rfl, by simp [binOp, Op.intDiv, hok], fun ρ => .int _ _⟩
  case rem =>
    simp at hok
    exact ⟨_, _, rfl, by simp [binOp, Op.intDiv, hok], fun ρ => .int _ _⟩
  case and => exact ⟨_, _, rfl, by simp [binOp, bits2_run], fun ρ => .int _ _⟩
  case or => exact ⟨_, _, rfl, by simp [binOp, bits2_run], fun ρ => .int _ _⟩
  case xor => exact ⟨_, _, rfl, by simp [binOp, bits2_run], fun ρ => .int _ _⟩
  case andNot => exact ⟨_, _, rfl, by simp [binOp, bits2_run], fun ρ => .int _ _⟩
  case add => exact ⟨_, _, rfl, by simp [binOp, Op.intArith], fun ρ => .int _ _⟩
  case sub => exact ⟨_, _, rfl, by simp [binOp, Op.intArith], fun ρ => .int _ _⟩
  case mul => exact ⟨_, _, rfl, by simp [binOp, Op.intArith], fun ρ => .int _ _⟩
  case eql => exact ⟨_, _, rfl, by simp [binOp, Op.intCmp], fun ρ => .bool _⟩
  case neq => exact ⟨_, _, rfl, by simp [binOp, Op.intCmp], fun ρ => .bool _⟩
  case lss => exact ⟨_, _, rfl, by simp [binOp, Op.intCmp], fun ρ => .bool _⟩
  case leq => exact ⟨_, _, rfl, by simp [binOp, Op.intCmp], fun ρ => .bool _⟩
  case gtr => exact ⟨_, _, rfl, by simp [binOp, Op.intCmp], fun ρ => .bool _⟩
  case geq => exact ⟨_, _, rfl, by simp [binOp, Op.intCmp], fun ρ => .bool _⟩

theorem binS_run {P : Program} {w : World} {op : BinOp} {t : TypeId} {a b : ByteArray} {r : Res} (h : binS op a b = some r) (hok : r.ok = true) :
    ∃ v ok, rv v ok = some r ∧ (binOp op t (.string a) (.string b)).run P w = .ok v w ∧ ∀ ρ, V ρ v v := by
  cases op <;> simp only [binS, rv, Option.some.injEq, reduceCtorEq] at h <;> subst h
  case add =>
    simp at hok
    refine ⟨_, _, rfl, ?_, fun ρ => .string _⟩
    have : ¬ (9223372036854775807 < ((a.size : Int) + (b.size : Int))) := by omega
    simp [binOp, Op.stringOp, this]
  all_goals exact ⟨_, _, rfl, by simp [binOp, Op.stringOp], fun ρ => .bool _⟩

theorem bin_runs {P : Program} {ρ : Rn} {g : G} {w : World} {n : Nat} {op : BinOp} {t : TypeId} {vs : List Value} {x y : Operand} {c d : Value} {r : Res}
    (ha : aBin op vs = some r) (hok : r.ok = true) (hv : VL ρ vs [c, d]) (hr : RelH P ρ g w) : Runs P (vS (do eqGuard op t x y c d; binOp op t c d)) ρ g w n r := by
  unfold aBin at ha
  split at ha
  · rename_i k a k' b
    split at ha
    · rename_i hk
      obtain ⟨h1, h2, _⟩ := hv
      have := v_int h1; subst this
      have := v_int h2; subst this
      obtain ⟨v, ok, e1, e2, e3⟩ := binI_run (P := P) (w := w) (t := t) hk ha hok
      exact Runs.pureS hr (by rw [eqGuard_at_int]; simp [e2]) ⟨_, e1⟩ (e3 ρ)
    · cases ha
  · obtain ⟨h1, h2, _⟩ := hv
    have := v_string h1; subst this
    have := v_string h2; subst this
    obtain ⟨v, ok, e1, e2, e3⟩ := binS_run (P := P) (w := w) (t := t) ha hok
    exact Runs.pureS hr (by rw [eqGuard_at_string]; simp [e2]) ⟨_, e1⟩ (e3 ρ)
  · cases ha

theorem eqb_runs {P : Program} {ρ : Rn} {g : G} {w : World} {n : Nat} {op : BinOp} {neg : Bool} {t : TypeId} {vs : List Value} {x y : Operand} {c d : Value} {r : Res}
    (hop : op = cond neg .neq .eql) (ht : P.underlying t = some .bool) (ha : aEqb neg vs = some r) (hv : VL ρ vs [c, d]) (hr : RelH P ρ g w) :
    Runs P (vS (do eqGuard op t x y c d; binOp op t c d)) ρ g w n r := by
  unfold aEqb at ha
  split at ha
  · rename_i a b
    obtain ⟨h1, h2, _⟩ := hv
    have := v_bool h1; subst this
    have := v_bool h2; subst this
    cases neg
    · subst hop
      refine Runs.pureS hr ?_ ⟨_, ha⟩ (.bool _)
      have h := run_equalIn_bool' w 9999 t a b ht
      rw [eqGuard_at_bool]
      simp [binOp, Op.equal, Op.maxDepth] at h ⊢
      simp [h]
    · subst hop
      refine Runs.pureS hr ?_ ⟨_, ha⟩ (.bool _)
      have h := run_equalIn_bool' w 9999 t a b ht
      rw [eqGuard_at_bool]
      simp [binOp, Op.equal, Op.maxDepth] at h ⊢
      simp [h]
  · cases ha

theorem un_runs {P : Program} {ρ : Rn} {g : G} {w : World} {n : Nat} {op : UnOp} {vs : List Value} {c : Value} {r : Res}
    (ha : aUn op vs = some r) (hv : VL ρ vs [c]) (hr : RelH P ρ g w) : Runs P (vS (Op.unary op c)) ρ g w n r := by
  unfold aUn at ha
  split at ha
  · have := v_int hv.1; subst this
    split at ha
    · exact Runs.pureS hr (by simp [Op.unary, Op.intArith]) ⟨_, ha⟩ (.int _ _)
    · exact Runs.pureS hr (by simp [Op.unary, bits2_run]) ⟨_, ha⟩ (.int _ _)
    · cases ha
  · have := v_bool hv.1; subst this
    split at ha
    · exact Runs.pureS hr (by simp [Op.unary]) ⟨_, ha⟩ (.bool _)
    · cases ha
  · cases ha

theorem pick_runs {P : Program} {ρ : Rn} {g : G} {w : World} {n : Nat} {vs : List Value} {c a b : Value} {r : Res}
    (ha : aPick vs = some r) (hv : VL ρ vs [c, a, b]) (hr : RelH P ρ g w) : Runs P (do pure (.value (if ← asBool c then a else b))) ρ g w n r := by
  unfold aPick at ha
  split at ha
  · rename_i q a' b'
    obtain ⟨h1, h2, h3, _⟩ := hv
    have := v_bool h1; subst this
    have key : ∃ ok, rv (cond q a' b') ok = some r := by
      split at ha
      · exact ⟨_, by rw [← ha]; cases q <;> rfl⟩
      · exact ⟨_, ha⟩
    obtain ⟨ok, hk⟩ := key
    simp only [rv, Option.some.injEq] at hk; subst hk
    refine Runs.pure hr (c := if q then a else b) (by simp [asBool]) ?_
    cases q
    · exact h3
    · exact h2
  · cases ha

theorem conv_runs {P : Program} {ρ : Rn} {g : G} {w : World} {n s d : Nat} {k k' : IntKind} {vs : List Value} {c : Value} {r : Res} (h1 : P.underlying s = some (.int k')) (h2 : P.underlying d = some (.int k))
    (ha : aConv k vs = some r) (hv : VL ρ vs [c]) (hr : RelH P ρ g w) : Runs P (vS (convert s d c)) ρ g w n r := by
  unfold aConv at ha
  split at ha
  · have := v_int hv.1; subst this
    exact Runs.pureS hr (by simp [convert, run_underlying h1, run_underlying h2, Conv.intToInt]) ⟨_, ha⟩ (.int _ _)
  · cases ha

theorem same_runs {P : Program} {ρ : Rn} {g : G} {w : World} {n s d : Nat} {vs : List Value} {c : Value} {r : Res} (h1 : P.underlying s = some .string) (h2 : P.underlying d = some .string)
    (ha : aSame vs = some r) (hv : VL ρ vs [c]) (hr : RelH P ρ g w) : Runs P (vS (convert s d c)) ρ g w n r := by
  unfold aSame at ha
  split at ha
  · have := v_string hv.1; subst this
    exact Runs.pureS hr (by simp [convert, run_underlying h1, run_underlying h2]) ⟨_, ha⟩ (.string _)
  · cases ha

theorem mkif_runs {P : Program} {ρ : Rn} {g : G} {w : World} {n t : Nat} {vs : List Value} {c : Value} {r : Res} {d : TypeDesc} (h1 : P.underlying t = some d) (h2 : ∀ ms, d ≠ .interface ms)
    (ha : aMkif t vs = some r) (hv : VL ρ vs [c]) (hr : RelH P ρ g w) : Runs P (vS (Instr.makeInterface t c)) ρ g w n r := by
  unfold aMkif at ha
  split at ha
  · refine Runs.pureS (c := .iface t c) hr ?_ ⟨_, ha⟩ (.iface hv.1)
    unfold Instr.makeInterface
    simp only [Sem.run_bind, run_underlying h1, Result.andThen_ok]
    cases d <;> first | rfl | exact absurd rfl (h2 _)
  · cases ha

theorem mkfunc_runs {P : Program} {ρ : Rn} {g : G} {w : World} {n : Nat} {fn : Fn} {vs : List Value} {xs ys : Array Value} {r : Res}
    (ha : rv (.func fn ⟨vs.take xs.size⟩ ⟨vs.drop xs.size⟩) = some r) (hv : VL ρ vs (xs.toList ++ ys.toList)) (hr : RelH P ρ g w) : Runs P (vS (Instr.makeFunc fn xs ys)) ρ g w n r := by
  refine Runs.pureS (c := .func fn xs ys) hr (by simp [Instr.makeFunc]) ⟨_, ha⟩ ?_
  refine VL.func ?_ ?_
  · have := hv.take xs.size; simpa using this
  · have := hv.drop xs.size; simpa using this

theorem field_runs {P : Program} {ρ : Rn} {g : G} {w : World} {n t f off k : Nat} {lk : LK} {vs : List Value} {c : Value} {r : Res} {fs : Array Field} {fd : Field} (hu : P.underlying t = some (.struct fs))
    (hf : fs[f]? = some fd) (h1 : lkT P fd.type = some lk) (h2 : sizeT P fd.type = some k) (hoff : fd.offset = off)
    (ha : aField lk off k vs = some r) (hok : r.ok = true) (hv : VL ρ vs [c]) (hr : RelH P ρ g w) : Runs P (vS (Instr.field t c f)) ρ g w n r := by
  replace h1 := lkT_agg h1
  unfold aField at ha
  split at ha
  · rename_i cs
    obtain ⟨ds, rfl, hvl⟩ := v_agg hv.1
    obtain ⟨_, hag, hna⟩ := readAt_some ha hok
    subst hoff
    have e := hvl.length
    cases hla : lk.isAgg with
    | true =>
      rw [hla] at h1
      obtain ⟨hle, hrv⟩ := hag hla
      refine Runs.pureS (c := .agg (ds.extract fd.offset (fd.offset + k))) hr ?_ ⟨_, hrv⟩ (VL.agg ?_)
      · simp [Instr.field, run_underlying hu, hf, part, asAgg, isAgg_run h1, sizeOf_run h2]
      · have := (hvl.drop fd.offset).take k
        simpa [slab, List.extract_eq_take_drop] using this
    | false =>
      rw [hla] at h1
      obtain ⟨hlt, hrv⟩ := hna hla
      have hlt' : fd.offset < ds.size := by simpa [e] using hlt
      refine Runs.pureS (c := ds[fd.offset]) hr ?_ ⟨_, hrv⟩ ?_
      · simp [Instr.field, run_underlying hu, hf, part, asAgg, isAgg_run h1, hlt']
      · exact hvl.get (getElem?_of_getD hlt) (by simp [hlt'])
  · cases ha

theorem ext_runs {P : Program} {ρ : Rn} {g : G} {w : World} {n i : Nat} {vs : List Value} {c : Value} {r : Res}
    (ha : aExt i vs = some r) (hv : VL ρ vs [c]) (hr : RelH P ρ g w) : Runs P (vS (Instr.extract c i)) ρ g w n r := by
  unfold aExt at ha
  split at ha
  · rename_i ts
    obtain ⟨ds, rfl, hvl⟩ := v_tuple hv.1
    split at ha
    · rename_i v hv'
      have hlt := lt_of_get hv'
      have hlt' : i < ds.size := by simpa [hvl.length] using hlt
      exact Runs.pureS (c := ds[i]) hr (by simp [Instr.extract, hlt']) ⟨_, ha⟩ (hvl.get hv' (by simp [hlt']))
    · cases ha
  · cases ha

theorem intRange_of {i : Int} {n : Nat} (h : intRange i n = true) : 0 ≤ i ∧ i < n := by
  simpa [intRange] using h

theorem idxA_runs {P : Program} {ρ : Rn} {g : G} {w : World} {n t len e k : Nat} {lk : LK} {vs : List Value} {c d : Value} {r : Res} (hu : P.underlying t = some (.array len e))
    (h1 : lkT P e = some lk) (h2 : sizeT P e = some k) (ha : aIdxA len k lk vs = some r) (hok : r.ok = true) (hv : VL ρ vs [c, d]) (hr : RelH P ρ g w) : Runs P (vS (Instr.index t c d)) ρ g w n r := by
  replace h1 := lkT_agg h1
  unfold aIdxA at ha
  split at ha
  · rename_i cs q i
    obtain ⟨hv1, hv2, _⟩ := hv
    obtain ⟨ds, rfl, hvl⟩ := v_agg hv1
    have := v_int hv2; subst this
    obtain ⟨hir, hag, hna⟩ := readAt_some ha hok
    obtain ⟨hi0, hi1⟩ := intRange_of hir
    have e1 := hvl.length
    cases hla : lk.isAgg with
    | true =>
      rw [hla] at h1
      obtain ⟨hle, hrv⟩ := hag hla
      refine Runs.pureS (c := .agg (ds.extract (i.toNat * k) (i.toNat * k + k))) hr ?_ ⟨_, hrv⟩ (VL.agg ?_)
      · simp [Instr.index, asIntOf, run_underlying hu, hi0, hi1, part, isAgg_run h1, sizeOf_run h2]
      · have := (hvl.drop (i.toNat * k)).take k
        simpa [slab, List.extract_eq_take_drop] using this
    | false =>
      rw [hla] at h1
      obtain ⟨hlt, hrv⟩ := hna hla
      have hlt' : i.toNat * k < ds.size := by simpa [e1] using hlt
      refine Runs.pureS (c := ds[i.toNat * k]) hr ?_ ⟨_, hrv⟩ ?_
      · simp [Instr.index, asIntOf, run_underlying hu, hi0, hi1, part, isAgg_run h1, sizeOf_run h2, hlt']
      · exact hvl.get (getElem?_of_getD hlt) (by simp [hlt'])
  · cases ha

theorem byteAt_eq {s : ByteArray} {i : Nat} (h : i < s.size) : byteAt s i = (s[i].toNat : Int) := by
  have h' : i < s.data.toList.length := by simpa using h
  unfold byteAt
  rw [List.getD_eq_getElem?_getD, List.getElem?_eq_getElem h']
  rfl

theorem idxStr_runs {P : Program} {ρ : Rn} {g : G} {w : World} {n t : Nat} {vs : List Value} {c d : Value} {r : Res} (hu : P.underlying t = some .string)
    (ha : aIdxStr vs = some r) (hok : r.ok = true) (hv : VL ρ vs [c, d]) (hr : RelH P ρ g w) : Runs P (vS (Instr.index t c d)) ρ g w n r := by
  unfold aIdxStr at ha
  split at ha
  · rename_i s q i
    obtain ⟨hv1, hv2, _⟩ := hv
    have := v_string hv1; subst this
    have := v_int hv2; subst this
    have ha' := ha
    simp only [rv, Option.some.injEq] at ha'; subst ha'
    obtain ⟨hi0, hi1⟩ := intRange_of hok
    have hlt : i.toNat < s.size := by omega
    refine Runs.pureS hr ?_ ⟨_, ha⟩ (.int _ _)
    rw [run_index_string _ _ _ _ _ hu]
    simp [hi0, hi1, byteAt_eq hlt]
  · cases ha
end Go.X
