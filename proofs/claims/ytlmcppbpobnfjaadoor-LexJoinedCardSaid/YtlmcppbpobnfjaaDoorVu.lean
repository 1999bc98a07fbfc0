/-
  Slices of strings and of slices. No project text.
-/
import Derived.Test.YtlmcppbpobnfjaaDoorVs
namespace Go.Vc
open Go

section
variable {P : Program}
theorem pr_bound {k : IntKind} {n : Int} {m : Nat} (h0 : 0 ≤ n) (h1 : n ≤ m) (c) : pr P (Instr.sliceBound (.int k n) m c) = some n.toNat := by
  unfold Instr.sliceBound
  refine (pr_bind (s := asIntOf (.int k n)) (a := (k, n)) rfl).trans ?_
  simp only [h0, h1, and_self, if_true]
  rfl
theorem bs_extract (l : List UInt8) (i j : Nat) : (bs l).extract i j = bs ((l.drop i).take (j - i)) := by
  apply ByteArray.ext
  rw [ByteArray.data_extract]
  apply Array.ext'
  simp [bs, List.extract_eq_take_drop]
variable {t : TypeId}
theorem pr_sliceAt_str (ht : P.underlying t = some .string) (x : Value) (lo hi mx : Option Value) : pr P (Instr.sliceAt t x lo hi mx) = pr P (Instr.slice t x lo hi mx) := by
  unfold Instr.sliceAt
  exact pr_bind (pr_underlying ht)
theorem xSl_strH (ht : P.underlying t = some .string) (l : List UInt8) (k : IntKind) (n : Int) (h0 : 0 ≤ n) (h1 : n ≤ l.length) : xSl P t (.string (bs l)) none (some (.int k n)) none = some (.string (bs (l.take n.toNat))) := by
  unfold xSl
  rw [pr_sliceAt_str ht]
  unfold Instr.slice
  refine (pr_bind (pr_underlying ht)).trans ?_
  have hb : pr P (Instr.sliceBounds false (bs l).size (bs l).size none (some (.int k n)) none) = some (0, n.toNat, (bs l).size) := by
    unfold Instr.sliceBounds
    refine (pr_bind (s := pure (bs l).size) (a := (bs l).size) rfl).trans ?_
    refine (pr_bind (pr_bound h0 (by rw [bs_size]; exact h1) _)).trans ?_
    rfl
  refine (pr_bind hb).trans ?_
  show some (Value.string ((bs l).extract 0 n.toNat)) = _
  rw [bs_extract]
  simp
theorem xSl_strL (ht : P.underlying t = some .string) (l : List UInt8) (k : IntKind) (n : Int) (h0 : 0 ≤ n) (h1 : n ≤ l.length) : xSl P t (.string (bs l)) (some (.int k n)) none none = some (.string (bs (l.drop n.toNat))) := by
  unfold xSl
  rw [pr_sliceAt_str ht]
  unfold Instr.slice
  refine (pr_bind (pr_underlying ht)).trans ?_
  have hb : pr P (Instr.sliceBounds false (bs l).size (bs l).size (some (.int k n)) none none) = some (n.toNat, (bs l).size, (bs l).size) := by
    unfold Instr.sliceBounds
    refine (pr_bind (s := pure (bs l).size) (a := (bs l).size) rfl).trans ?_
    refine (pr_bind (s := pure (bs l).size) (a := (bs l).size) rfl).trans ?_
    refine (pr_bind (pr_bound h0 (by rw [bs_size]; exact h1) _)).trans ?_
    rfl
  refine (pr_bind hb).trans ?_
  show some (Value.string ((bs l).extract n.toNat (bs l).size)) = _
  rw [bs_extract, bs_size, List.take_of_length_le (by simp)]
theorem xSl_strLH (ht : P.underlying t = some .string) (l : List UInt8) (k k' : IntKind) (n m : Int) (h0 : 0 ≤ n) (h1 : n ≤ m) (h2 : m ≤ l.length) : xSl P t (.string (bs l)) (some (.int k n)) (some (.int k' m)) none = some (.string (bs ((l.drop n.toNat).take (m.toNat - n.toNat)))) := by
  unfold xSl
  rw [pr_sliceAt_str ht]
  unfold Instr.slice
  refine (pr_bind (pr_underlying ht)).trans ?_
  have hb : pr P (Instr.sliceBounds false (bs l).size (bs l).size (some (.int k n)) (some (.int k' m)) none) = some (n.toNat, m.toNat, (bs l).size) := by
    unfold Instr.sliceBounds
    refine (pr_bind (s := pure (bs l).size) (a := (bs l).size) rfl).trans ?_
    refine (pr_bind (pr_bound (by omega) (by rw [bs_size]; exact h2) _)).trans ?_
    refine (pr_bind (pr_bound h0 (by omega) _)).trans ?_
    rfl
  refine (pr_bind hb).trans ?_
  show some (Value.string ((bs l).extract n.toNat m.toNat)) = _
  rw [bs_extract]
end
/-- An element lies at one place in all worlds behind the base world. -/
theorem Sl.fix {P : Program} {w0 : World} {t e n : Nat} {v : Value} {els : List (List Value)} (ht : slE P t = some (e, n)) (s : Sl w0 n v els) (q : Int) {i : Nat} {el : List Value} (hq : q = i) (hi : els[i]? = some el) :
    ∃ g o, (∀ k : IntKind, xIA P t v (.int k q) = some (.pointer (some ⟨g, o, none⟩))) ∧ (∀ (w : World) (L : List (Nat × Obj)), So w0 w L → oRow w.heap[g]? o n = some (.agg el.toArray)) ∧ ∀ (w : World) (L : List (Nat × Obj)), So w0 w L → ∀ j, j < n → oCell w.heap[g]? (o + j) = el[j]? := by
  subst hq
  obtain ⟨g, o, cells, t', f, h1, h2, h3, h4, h5⟩ := s.at ht hi
  refine ⟨g, o, h1, ?_, ?_⟩
  · intro w L h
    rw [h.old h2, oRow_some _ _ _ _ _ h4, h5]
  · intro w L h j hj
    rw [h.old h2, oCell_some, cells_at h5 hj]

end Go.Vc

