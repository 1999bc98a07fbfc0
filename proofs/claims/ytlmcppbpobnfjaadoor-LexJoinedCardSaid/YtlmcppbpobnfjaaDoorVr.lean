/-
  Ranges over functions in steps: the loop's record is a block of one's own. Over any program.
-/
import Derived.Test.YtlmcppbpobnfjaaDoorVs
namespace Go.Vc
open Go

/-- A loop's record. -/
def LO (N : Nat) (ps : Array Tmp) (A B : Code) (E : List (Nat × Value)) (st : LoopState) (pend : Option Code) (o : Obj) : Prop :=
  ∃ fn T df, T.size = N ∧ (∀ x ∈ E, T.getD x.1 undef = x.2) ∧ o = .loop { state := st, pending := pend, fn := fn, tmps := T, params := ps, assign := A, body := B, defers := df }
section
variable {N : Nat} {ps : Array Tmp} {A B : Code} {E : List (Nat × Value)} {st : LoopState} {pend : Option Code} {w0 w : World} {L : List (Nat × Obj)} {o : Obj} {l : Nat}
theorem LO.rec' (h : LO N ps A B E st pend o) (hw : w.heap[l]? = some o) : LRec N ps A B E l st pend w := by
  obtain ⟨fn, T, df, h1, h2, rfl⟩ := h
  exact ⟨fn, T, df, h1, h2, hw⟩
theorem soRFo (h : So w0 w L) {K : Nat → Nat → World → Prop} (k : ∀ d l w' o, LO N ps A B E .ready none o → So w0 w' ((d, .deferred (some [])) :: (l, o) :: L) → K d l w') : RFo N ps A B E w K := by
  intro w' hb hs hd hl
  obtain ⟨fn, T, df, h1, h2, h3⟩ := hl
  refine k _ _ w' _ ⟨fn, T, df, h1, h2, rfl⟩ ?_
  have hso : So w w' [(w.heap.size, .deferred (some [])), (w.heap.size + 1, .loop { state := .ready, pending := none, fn := fn, tmps := T, params := ps, assign := A, body := B, defers := df })] := by
    refine ⟨⟨hb.os, hb.tape, hb.output, by omega, by simp, ?_, fun b hlt _ => hb.block b hlt⟩, ?_⟩
    · intro x hx
      simp only [List.mem_cons, List.not_mem_nil, or_false] at hx
      rcases hx with rfl | rfl
      · exact hd
      · exact h3
    · intro x hx
      simp only [List.mem_cons, List.not_mem_nil, or_false] at hx
      rcases hx with rfl | rfl
      · exact Nat.le_refl _
      · exact Nat.le_succ _
  exact h.calls hso
theorem putO_eq (w : World) (r : Nat) (o : Obj) : putO w r o = { w with heap := w.heap.setIfInBounds r o } := rfl
theorem soBeg (i : Nat) (h : So w0 w L) (hi : L[i]? = some (l, o)) (hl : LO N ps A B E .ready pend o) {K : World → Prop} (k : ∀ w' o', LO N ps A B E .busy pend o' → So w0 w' (L.set i (l, o')) → K w') : rBeg l w K := by
  have hb := h.st.blk _ (List.mem_of_getElem? hi)
  obtain ⟨fn, T, df, h1, h2, rfl⟩ := hl
  unfold rBeg
  simp only at hb
  rw [hb]
  exact ⟨rfl, k _ _ ⟨fn, T, df, h1, h2, rfl⟩ (so_setObj h hi)⟩
theorem soEnd (i : Nat) (h : So w0 w L) (hi : L[i]? = some (l, o)) (hl : LO N ps A B E st pend o) {j : Option Code} {K : World → Prop} (k : ∀ w' o', LO N ps A B E (if j.isNone then .ready else .done) j o' → So w0 w' (L.set i (l, o')) → K w') : rEnd l j w K := by
  have hb := h.st.blk _ (List.mem_of_getElem? hi)
  obtain ⟨fn, T, df, h1, h2, rfl⟩ := hl
  unfold rEnd
  simp only at hb
  rw [hb]
  exact k _ _ ⟨fn, T, df, h1, h2, rfl⟩ (so_setObj h hi)
theorem soRfEnd (i : Nat) (h : So w0 w L) (hi : L[i]? = some (l, o)) (hl : LO N ps A B E st pend o) (hst : (st == .busy) = false) {K : Option Code → World → Prop} (k : ∀ w' o', LO N ps A B E .exhausted pend o' → So w0 w' (L.set i (l, o')) → K pend w') : rfEnd l w K := by
  have hb := h.st.blk _ (List.mem_of_getElem? hi)
  obtain ⟨fn, T, df, h1, h2, rfl⟩ := hl
  unfold rfEnd
  simp only at hb
  rw [hb]
  exact ⟨hst, k _ _ ⟨fn, T, df, h1, h2, rfl⟩ (so_setObj h hi)⟩
theorem soUnw (i : Nat) {d : Nat} {ds : List Nat} (h : So w0 w L) (hi : L[i]? = some (d, .deferred (some []))) {K : World → Prop} (k : ∀ w', So w0 w' (L.set i (d, .deferred none)) → unw ds w' K) : unw (d :: ds) w K := by
  have hb := h.st.blk _ (List.mem_of_getElem? hi)
  simp only at hb
  unfold unw
  rw [hb]
  exact k _ (so_setObj h hi)
end
end Go.Vc
