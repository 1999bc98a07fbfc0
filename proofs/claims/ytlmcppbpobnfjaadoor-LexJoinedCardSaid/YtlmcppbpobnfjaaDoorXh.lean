/-
  lex: tokens written.
-/
import Derived.Test.YtlmcppbpobnfjaaDoorXg
namespace Go.Proofs.YtlmcppbpobnfjaaDoor
open Go Go.Vc
set_option linter.unusedSimpArgs false
set_option linter.unusedVariables false
set_option maxRecDepth 20000

theorem extraJ : Builder.Extra P renJ where
  sizeBuilder := by kernel_rfl
  liesBuilder := by kernel_rfl
  t5 := by kernel_rfl
  a5 := fun w => by kernel_rfl
  z5 := fun w => by kernel_rfl
  v5 := fun w => by kernel_rfl
  infoByte := by kernel_rfl
  cellsByte := by kernel_rfl
  sizeByte := by kernel_rfl
  neB5 := by decide
/-- A token is written so. -/
def WriteC (w0 : World) (k : Int) (t s : List UInt8) : Prop := ∀ (n : Int) (w : World) (L : List (Nat × Obj)), So w0 w L → Cx P 12 #[.agg (tokC k t n).toArray] w fun v w => v = .tuple #[.string (bs s), .bool true] ∧ So w0 w L
section
variable {w0 : World}
theorem wr_word (c : UInt8) (r : List UInt8) (hr : r.length ≤ 1000000) (hc : kindB c.toNat = 2) (hrun : runB (c :: r) = c :: r) : WriteC w0 1 (c :: r) (c :: r) := by
  intro n w L h
  have hsz : Int.toNat (0 : Int) < (bs (c :: r)).size := by rw [bs_size]; simp
  have hb : ((bs (c :: r))[Int.toNat (0 : Int)]'hsz).toNat = c.toNat := rfl
  have hne : (!((c :: r) == ([] : List UInt8))) = true := by simp
  have hix := ix9 (bs (c :: r)) .i64 0 (by omega) hsz
  rw [hb] at hix
  apply F12_ok
  unfold F12
  refine soBox h fun x1 w h => ?_
  have hf0 := h.facts
  have h := h.drew
  have hf := h.facts
  simp only [Facts, Value.cells, tokC] at hf hf0
  try simp (disch := omega) only [cnd_bool, on_some_eq, Dr_eq, xNil_ptr, xNil_func, xNil_yield, xPick_bool, unw_nil, xRes_ptr, xUn_not, xUn_neg, xEx_tuple, xBin_add, xBin_sub, xBin_mul, xBin_eql, xBin_neq, xBin_lss, xBin_leq, xBin_gtr, xBin_geq, xBin_eqls, xBin_neqs, wI64, oCell_some, List.getElem?_toArray, List.getElem?_cons_zero, List.getElem?_cons_succ, Nat.zero_add, Bool.not_true, Bool.not_false, if_true, if_false, ite_true, ite_false, beq_iff_eq, bne_iff_ne, decide_eq_true_eq, ne_eq, Bool.false_eq_true, Bool.true_eq_false, reduceIte, Option.some.injEq, Int.toNat_natCast, beq_self_eq_true, bne_self_eq_false, Value.cells, splice, List.setIfInBounds_toArray, List.set_cons_zero, List.set_cons_succ, List.size_toArray, List.length_cons, List.length_nil, and_self, Nat.reduceLeDiff, Nat.reduceAdd, Nat.reduceMul, Int.reduceToNat, Int.reduceLT, Int.reduceLE, Int.reduceGT, Int.reduceGE, Int.reduceAdd, Int.reduceSub, Int.reduceMul, Int.reduceNeg, Int.reduceEq, Int.reduceNe, true_and, and_true, Int.cast_ofNat_Int, Nat.le_refl, hf, ld3, ld4, ld5, ld9, ln9, ix9, ld27, ln27, ia27, ld28, ld30, fa30_0, bd30, bd30_0_1, ld34, fa34_0, fa34_1, fa34_2, bd34, bd34_0_1, ld44, ln44, ia44, ow2, ow3, ow24, hf0, bs_nil, bs_toList, hne, hix]
  refine Cx.mono (c_kindOf h _) fun v w hv => ?_
  obtain ⟨rfl, h⟩ := hv
  have hf := h.facts
  simp only [Facts, Value.cells, tokC] at hf
  rw [hc]
  try simp (disch := omega) only [cnd_bool, on_some_eq, Dr_eq, xNil_ptr, xNil_func, xNil_yield, xPick_bool, unw_nil, xRes_ptr, xUn_not, xUn_neg, xEx_tuple, xBin_add, xBin_sub, xBin_mul, xBin_eql, xBin_neq, xBin_lss, xBin_leq, xBin_gtr, xBin_geq, xBin_eqls, xBin_neqs, wI64, oCell_some, List.getElem?_toArray, List.getElem?_cons_zero, List.getElem?_cons_succ, Nat.zero_add, Bool.not_true, Bool.not_false, if_true, if_false, ite_true, ite_false, beq_iff_eq, bne_iff_ne, decide_eq_true_eq, ne_eq, Bool.false_eq_true, Bool.true_eq_false, reduceIte, Option.some.injEq, Int.toNat_natCast, beq_self_eq_true, bne_self_eq_false, Value.cells, splice, List.setIfInBounds_toArray, List.set_cons_zero, List.set_cons_succ, List.size_toArray, List.length_cons, List.length_nil, and_self, Nat.reduceLeDiff, Nat.reduceAdd, Nat.reduceMul, Int.reduceToNat, Int.reduceLT, Int.reduceLE, Int.reduceGT, Int.reduceGE, Int.reduceAdd, Int.reduceSub, Int.reduceMul, Int.reduceNeg, Int.reduceEq, Int.reduceNe, true_and, and_true, Int.cast_ofNat_Int, Nat.le_refl, hf, ld3, ld4, ld5, ld9, ln9, ix9, ld27, ln27, ia27, ld28, ld30, fa30_0, bd30, bd30_0_1, ld34, fa34_0, fa34_1, fa34_2, bd34, bd34_0_1, ld44, ln44, ia44, ow2, ow3, ow24]
  refine Cx.mono (c_run h _ (by simp; omega)) fun v w hv => ?_
  obtain ⟨rfl, h⟩ := hv
  have hf := h.facts
  simp only [Facts, Value.cells, tokC] at hf
  rw [hrun]
  try simp (disch := omega) only [cnd_bool, on_some_eq, Dr_eq, xNil_ptr, xNil_func, xNil_yield, xPick_bool, unw_nil, xRes_ptr, xUn_not, xUn_neg, xEx_tuple, xBin_add, xBin_sub, xBin_mul, xBin_eql, xBin_neq, xBin_lss, xBin_leq, xBin_gtr, xBin_geq, xBin_eqls, xBin_neqs, wI64, oCell_some, List.getElem?_toArray, List.getElem?_cons_zero, List.getElem?_cons_succ, Nat.zero_add, Bool.not_true, Bool.not_false, if_true, if_false, ite_true, ite_false, beq_iff_eq, bne_iff_ne, decide_eq_true_eq, ne_eq, Bool.false_eq_true, Bool.true_eq_false, reduceIte, Option.some.injEq, Int.toNat_natCast, beq_self_eq_true, bne_self_eq_false, Value.cells, splice, List.setIfInBounds_toArray, List.set_cons_zero, List.set_cons_succ, List.size_toArray, List.length_cons, List.length_nil, and_self, Nat.reduceLeDiff, Nat.reduceAdd, Nat.reduceMul, Int.reduceToNat, Int.reduceLT, Int.reduceLE, Int.reduceGT, Int.reduceGE, Int.reduceAdd, Int.reduceSub, Int.reduceMul, Int.reduceNeg, Int.reduceEq, Int.reduceNe, true_and, and_true, Int.cast_ofNat_Int, Nat.le_refl, hf, ld3, ld4, ld5, ld9, ln9, ix9, ld27, ln27, ia27, ld28, ld30, fa30_0, bd30, bd30_0_1, ld34, fa34_0, fa34_1, fa34_2, bd34, bd34_0_1, ld44, ln44, ia44, ow2, ow3, ow24, bs_toList]
  exact h.drop
theorem wr_id (n : Nat) (hn : n < 10) : WriteC w0 2 [UInt8.ofNat (48 + n)] [37, UInt8.ofNat (48 + n)] := by
  intro at_ w L h
  apply F12_ok
  unfold F12
  refine soBox h fun x1 w h => ?_
  have hf := h.facts
  simp only [Facts, Value.cells, tokC] at hf
  try simp (disch := omega) only [cnd_bool, on_some_eq, Dr_eq, xNil_ptr, xNil_func, xNil_yield, xPick_bool, unw_nil, xRes_ptr, xUn_not, xUn_neg, xEx_tuple, xBin_add, xBin_sub, xBin_mul, xBin_eql, xBin_neq, xBin_lss, xBin_leq, xBin_gtr, xBin_geq, xBin_eqls, xBin_neqs, wI64, oCell_some, List.getElem?_toArray, List.getElem?_cons_zero, List.getElem?_cons_succ, Nat.zero_add, Bool.not_true, Bool.not_false, if_true, if_false, ite_true, ite_false, beq_iff_eq, bne_iff_ne, decide_eq_true_eq, ne_eq, Bool.false_eq_true, Bool.true_eq_false, reduceIte, Option.some.injEq, Int.toNat_natCast, beq_self_eq_true, bne_self_eq_false, Value.cells, splice, List.setIfInBounds_toArray, List.set_cons_zero, List.set_cons_succ, List.size_toArray, List.length_cons, List.length_nil, and_self, Nat.reduceLeDiff, Nat.reduceAdd, Nat.reduceMul, Int.reduceToNat, Int.reduceLT, Int.reduceLE, Int.reduceGT, Int.reduceGE, Int.reduceAdd, Int.reduceSub, Int.reduceMul, Int.reduceNeg, Int.reduceEq, Int.reduceNe, true_and, and_true, Int.cast_ofNat_Int, Nat.le_refl, hf, ld3, ld4, ld5, ld9, ln9, ix9, ld27, ln27, ia27, ld28, ld30, fa30_0, bd30, bd30_0_1, ld34, fa34_0, fa34_1, fa34_2, bd34, bd34_0_1, ld44, ln44, ia44, ow2, ow3, ow24]
  refine Cx.mono (c_plain1 h n hn) fun v w hv => ?_
  obtain ⟨rfl, h⟩ := hv
  have hf := h.facts
  simp only [Facts, Value.cells, tokC] at hf
  try simp (disch := omega) only [cnd_bool, on_some_eq, Dr_eq, xNil_ptr, xNil_func, xNil_yield, xPick_bool, unw_nil, xRes_ptr, xUn_not, xUn_neg, xEx_tuple, xBin_add, xBin_sub, xBin_mul, xBin_eql, xBin_neq, xBin_lss, xBin_leq, xBin_gtr, xBin_geq, xBin_eqls, xBin_neqs, wI64, oCell_some, List.getElem?_toArray, List.getElem?_cons_zero, List.getElem?_cons_succ, Nat.zero_add, Bool.not_true, Bool.not_false, if_true, if_false, ite_true, ite_false, beq_iff_eq, bne_iff_ne, decide_eq_true_eq, ne_eq, Bool.false_eq_true, Bool.true_eq_false, reduceIte, Option.some.injEq, Int.toNat_natCast, beq_self_eq_true, bne_self_eq_false, Value.cells, splice, List.setIfInBounds_toArray, List.set_cons_zero, List.set_cons_succ, List.size_toArray, List.length_cons, List.length_nil, and_self, Nat.reduceLeDiff, Nat.reduceAdd, Nat.reduceMul, Int.reduceToNat, Int.reduceLT, Int.reduceLE, Int.reduceGT, Int.reduceGE, Int.reduceAdd, Int.reduceSub, Int.reduceMul, Int.reduceNeg, Int.reduceEq, Int.reduceNe, true_and, and_true, Int.cast_ofNat_Int, Nat.le_refl, hf, ld3, ld4, ld5, ld9, ln9, ix9, ld27, ln27, ia27, ld28, ld30, fa30_0, bd30, bd30_0_1, ld34, fa34_0, fa34_1, fa34_2, bd34, bd34_0_1, ld44, ln44, ia44, ow2, ow3, ow24]
  rw [bs_one, xBin_adds _ _ _ _ _ (by simp [bs_size]), bs_append]
  try simp (disch := omega) only [cnd_bool, on_some_eq, Dr_eq, xNil_ptr, xNil_func, xNil_yield, xPick_bool, unw_nil, xRes_ptr, xUn_not, xUn_neg, xEx_tuple, xBin_add, xBin_sub, xBin_mul, xBin_eql, xBin_neq, xBin_lss, xBin_leq, xBin_gtr, xBin_geq, xBin_eqls, xBin_neqs, wI64, oCell_some, List.getElem?_toArray, List.getElem?_cons_zero, List.getElem?_cons_succ, Nat.zero_add, Bool.not_true, Bool.not_false, if_true, if_false, ite_true, ite_false, beq_iff_eq, bne_iff_ne, decide_eq_true_eq, ne_eq, Bool.false_eq_true, Bool.true_eq_false, reduceIte, Option.some.injEq, Int.toNat_natCast, beq_self_eq_true, bne_self_eq_false, Value.cells, splice, List.setIfInBounds_toArray, List.set_cons_zero, List.set_cons_succ, List.size_toArray, List.length_cons, List.length_nil, and_self, Nat.reduceLeDiff, Nat.reduceAdd, Nat.reduceMul, Int.reduceToNat, Int.reduceLT, Int.reduceLE, Int.reduceGT, Int.reduceGE, Int.reduceAdd, Int.reduceSub, Int.reduceMul, Int.reduceNeg, Int.reduceEq, Int.reduceNe, true_and, and_true, Int.cast_ofNat_Int, Nat.le_refl, ld3, ld4, ld5, ld9, ln9, ix9, ld27, ln27, ia27, ld28, ld30, fa30_0, bd30, bd30_0_1, ld34, fa34_0, fa34_1, fa34_2, bd34, bd34_0_1, ld44, ln44, ia44, ow2, ow3, ow24]
  first | exact h.drop | exact ⟨rfl, h.drop⟩
theorem wr_number (hE : ErrS w0) (n : Nat) (h0 : 0 < n) (hn : n < 10) : WriteC w0 3 [45, UInt8.ofNat (48 + n)] [45, UInt8.ofNat (48 + n)] := by
  intro at_ w L h
  apply F12_ok
  unfold F12
  refine soBox h fun x1 w h => ?_
  have hf := h.facts
  simp only [Facts, Value.cells, tokC] at hf
  try simp (disch := omega) only [cnd_bool, on_some_eq, Dr_eq, xNil_ptr, xNil_func, xNil_yield, xPick_bool, unw_nil, xRes_ptr, xUn_not, xUn_neg, xEx_tuple, xBin_add, xBin_sub, xBin_mul, xBin_eql, xBin_neq, xBin_lss, xBin_leq, xBin_gtr, xBin_geq, xBin_eqls, xBin_neqs, wI64, oCell_some, List.getElem?_toArray, List.getElem?_cons_zero, List.getElem?_cons_succ, Nat.zero_add, Bool.not_true, Bool.not_false, if_true, if_false, ite_true, ite_false, beq_iff_eq, bne_iff_ne, decide_eq_true_eq, ne_eq, Bool.false_eq_true, Bool.true_eq_false, reduceIte, Option.some.injEq, Int.toNat_natCast, beq_self_eq_true, bne_self_eq_false, Value.cells, splice, List.setIfInBounds_toArray, List.set_cons_zero, List.set_cons_succ, List.size_toArray, List.length_cons, List.length_nil, and_self, Nat.reduceLeDiff, Nat.reduceAdd, Nat.reduceMul, Int.reduceToNat, Int.reduceLT, Int.reduceLE, Int.reduceGT, Int.reduceGE, Int.reduceAdd, Int.reduceSub, Int.reduceMul, Int.reduceNeg, Int.reduceEq, Int.reduceNe, true_and, and_true, Int.cast_ofNat_Int, Nat.le_refl, hf, ld3, ld4, ld5, ld9, ln9, ix9, ld27, ln27, ia27, ld28, ld30, fa30_0, bd30, bd30_0_1, ld34, fa34_0, fa34_1, fa34_2, bd34, bd34_0_1, ld44, ln44, ia44, ow2, ow3, ow24]
  refine Cx.mono (c_number1 hE h n h0 hn) fun v w hv => ?_
  obtain ⟨rfl, h⟩ := hv
  have hf := h.facts
  simp only [Facts, Value.cells, tokC] at hf
  try simp (disch := omega) only [cnd_bool, on_some_eq, Dr_eq, xNil_ptr, xNil_func, xNil_yield, xPick_bool, unw_nil, xRes_ptr, xUn_not, xUn_neg, xEx_tuple, xBin_add, xBin_sub, xBin_mul, xBin_eql, xBin_neq, xBin_lss, xBin_leq, xBin_gtr, xBin_geq, xBin_eqls, xBin_neqs, wI64, oCell_some, List.getElem?_toArray, List.getElem?_cons_zero, List.getElem?_cons_succ, Nat.zero_add, Bool.not_true, Bool.not_false, if_true, if_false, ite_true, ite_false, beq_iff_eq, bne_iff_ne, decide_eq_true_eq, ne_eq, Bool.false_eq_true, Bool.true_eq_false, reduceIte, Option.some.injEq, Int.toNat_natCast, beq_self_eq_true, bne_self_eq_false, Value.cells, splice, List.setIfInBounds_toArray, List.set_cons_zero, List.set_cons_succ, List.size_toArray, List.length_cons, List.length_nil, and_self, Nat.reduceLeDiff, Nat.reduceAdd, Nat.reduceMul, Int.reduceToNat, Int.reduceLT, Int.reduceLE, Int.reduceGT, Int.reduceGE, Int.reduceAdd, Int.reduceSub, Int.reduceMul, Int.reduceNeg, Int.reduceEq, Int.reduceNe, true_and, and_true, Int.cast_ofNat_Int, Nat.le_refl, hf, ld3, ld4, ld5, ld9, ln9, ix9, ld27, ln27, ia27, ld28, ld30, fa30_0, bd30, bd30_0_1, ld34, fa34_0, fa34_1, fa34_2, bd34, bd34_0_1, ld44, ln44, ia44, ow2, ow3, ow24]
  exact h.drop
theorem wr_text (s : List UInt8) (hs : ∀ b ∈ s, plainC b) (hl : s.length ≤ 1000000) : WriteC w0 4 s (34 :: (s ++ [34])) := by
  intro at_ w L h
  apply F12_ok
  unfold F12
  refine soBox h fun x1 w h => ?_
  have hf := h.facts
  simp only [Facts, Value.cells, tokC] at hf
  try simp (disch := omega) only [cnd_bool, on_some_eq, Dr_eq, xNil_ptr, xNil_func, xNil_yield, xPick_bool, unw_nil, xRes_ptr, xUn_not, xUn_neg, xEx_tuple, xBin_add, xBin_sub, xBin_mul, xBin_eql, xBin_neq, xBin_lss, xBin_leq, xBin_gtr, xBin_geq, xBin_eqls, xBin_neqs, wI64, oCell_some, List.getElem?_toArray, List.getElem?_cons_zero, List.getElem?_cons_succ, Nat.zero_add, Bool.not_true, Bool.not_false, if_true, if_false, ite_true, ite_false, beq_iff_eq, bne_iff_ne, decide_eq_true_eq, ne_eq, Bool.false_eq_true, Bool.true_eq_false, reduceIte, Option.some.injEq, Int.toNat_natCast, beq_self_eq_true, bne_self_eq_false, Value.cells, splice, List.setIfInBounds_toArray, List.set_cons_zero, List.set_cons_succ, List.size_toArray, List.length_cons, List.length_nil, and_self, Nat.reduceLeDiff, Nat.reduceAdd, Nat.reduceMul, Int.reduceToNat, Int.reduceLT, Int.reduceLE, Int.reduceGT, Int.reduceGE, Int.reduceAdd, Int.reduceSub, Int.reduceMul, Int.reduceNeg, Int.reduceEq, Int.reduceNe, true_and, and_true, Int.cast_ofNat_Int, Nat.le_refl, hf, ld3, ld4, ld5, ld9, ln9, ix9, ld27, ln27, ia27, ld28, ld30, fa30_0, bd30, bd30_0_1, ld34, fa34_0, fa34_1, fa34_2, bd34, bd34_0_1, ld44, ln44, ia44, ow2, ow3, ow24]
  refine Cx.mono (c_quote h s hs hl) fun v w hv => ?_
  obtain ⟨rfl, h⟩ := hv
  try simp (disch := omega) only [cnd_bool, on_some_eq, Dr_eq, xNil_ptr, xNil_func, xNil_yield, xPick_bool, unw_nil, xRes_ptr, xUn_not, xUn_neg, xEx_tuple, xBin_add, xBin_sub, xBin_mul, xBin_eql, xBin_neq, xBin_lss, xBin_leq, xBin_gtr, xBin_geq, xBin_eqls, xBin_neqs, wI64, oCell_some, List.getElem?_toArray, List.getElem?_cons_zero, List.getElem?_cons_succ, Nat.zero_add, Bool.not_true, Bool.not_false, if_true, if_false, ite_true, ite_false, beq_iff_eq, bne_iff_ne, decide_eq_true_eq, ne_eq, Bool.false_eq_true, Bool.true_eq_false, reduceIte, Option.some.injEq, Int.toNat_natCast, beq_self_eq_true, bne_self_eq_false, Value.cells, splice, List.setIfInBounds_toArray, List.set_cons_zero, List.set_cons_succ, List.size_toArray, List.length_cons, List.length_nil, and_self, Nat.reduceLeDiff, Nat.reduceAdd, Nat.reduceMul, Int.reduceToNat, Int.reduceLT, Int.reduceLE, Int.reduceGT, Int.reduceGE, Int.reduceAdd, Int.reduceSub, Int.reduceMul, Int.reduceNeg, Int.reduceEq, Int.reduceNe, true_and, and_true, Int.cast_ofNat_Int, Nat.le_refl, ld3, ld4, ld5, ld9, ln9, ix9, ld27, ln27, ia27, ld28, ld30, fa30_0, bd30, bd30_0_1, ld34, fa34_0, fa34_1, fa34_2, bd34, bd34_0_1, ld44, ln44, ia44, ow2, ow3, ow24]
  first | exact h.drop | exact ⟨rfl, h.drop⟩
theorem wr_equal : WriteC w0 5 [61] [61] := by
  intro at_ w L h
  apply F12_ok
  unfold F12
  refine soBox h fun x1 w h => ?_
  have hf0 := h.facts
  have h := h.drew
  have hf := h.facts
  simp only [Facts, Value.cells, tokC] at hf hf0
  try simp (disch := omega) only [cnd_bool, on_some_eq, Dr_eq, xNil_ptr, xNil_func, xNil_yield, xPick_bool, unw_nil, xRes_ptr, xUn_not, xUn_neg, xEx_tuple, xBin_add, xBin_sub, xBin_mul, xBin_eql, xBin_neq, xBin_lss, xBin_leq, xBin_gtr, xBin_geq, xBin_eqls, xBin_neqs, wI64, oCell_some, List.getElem?_toArray, List.getElem?_cons_zero, List.getElem?_cons_succ, Nat.zero_add, Bool.not_true, Bool.not_false, if_true, if_false, ite_true, ite_false, beq_iff_eq, bne_iff_ne, decide_eq_true_eq, ne_eq, Bool.false_eq_true, Bool.true_eq_false, reduceIte, Option.some.injEq, Int.toNat_natCast, beq_self_eq_true, bne_self_eq_false, Value.cells, splice, List.setIfInBounds_toArray, List.set_cons_zero, List.set_cons_succ, List.size_toArray, List.length_cons, List.length_nil, and_self, Nat.reduceLeDiff, Nat.reduceAdd, Nat.reduceMul, Int.reduceToNat, Int.reduceLT, Int.reduceLE, Int.reduceGT, Int.reduceGE, Int.reduceAdd, Int.reduceSub, Int.reduceMul, Int.reduceNeg, Int.reduceEq, Int.reduceNe, true_and, and_true, Int.cast_ofNat_Int, Nat.le_refl, hf, ld3, ld4, ld5, ld9, ln9, ix9, ld27, ln27, ia27, ld28, ld30, fa30_0, bd30, bd30_0_1, ld34, fa34_0, fa34_1, fa34_2, bd34, bd34_0_1, ld44, ln44, ia44, ow2, ow3, ow24, hf0, bs_one, bs_toList]
  exact h.drop
theorem c_join {w : World} {L M : List (Nat × Obj)} {base : Nat} {v : Value} {xs : List (List UInt8)} (hne : xs ≠ []) (hlen : xs.length ≤ 1000000) (hb : (Lib.join xs [32]).length ≤ 1000000000) (ho : OwnS base 9 1 v xs.length (xs.map fun x => Value.string (bs x)) M) (h : So w0 w (M ++ L)) :
    Cx P 13 #[v, .string (bs [32])] w fun v w => v = .string (bs (Lib.join xs [32])) ∧ So w0 w (M ++ L) := by
  rcases ho.2 with ⟨rfl, hn, rfl⟩ | ⟨g, cap, cur, rfl, rfl, hbg, hcap, hmax, hsz, hcur⟩
  · exact absurd (List.length_eq_zero_iff.1 hn) hne
  · have hg : w.heap[g]? = some (cl cur 9) := h.st.blk (g, cl cur 9) (by simp)
    have hlt : g < w.heap.size := (Array.getElem?_eq_some_iff.1 hg).1
    have hmap : (xs.map bs).map (·.data.toList) = xs := by
      rw [List.map_map]
      have : ((fun x : ByteArray => x.data.toList) ∘ bs) = id := by funext x; simp [bs]
      rw [this, List.map_id]
    have := Any.strings_Join lays_renJ extraJ g 0 cap (xs.map bs) (bs [32]) w ?_ hlt (by simp; omega) (by simpa using hcap) ?_
    · simp only [List.length_map, hmap] at this
      refine Cx.of this fun e w' ⟨h1, h2⟩ => ⟨_, h1, rfl, So.below h h2⟩
    · intro j x hj
      unfold World.cell?
      rw [hg]
      show cur[0 + j]? = _
      have hjl : j < xs.length := by have := (List.getElem?_eq_some_iff.1 hj).1; simpa using this
      have : (cur.toList.take (xs.length * 1))[j]? = (xs.map fun x => Value.string (bs x))[j]? := by rw [hcur]
      rw [List.getElem?_take_of_lt (by omega), Array.getElem?_toList] at this
      rw [Nat.zero_add, this]
      rw [List.getElem?_map] at hj ⊢
      cases hx : xs[j]? with
      | none => rw [hx] at hj; cases hj
      | some y => rw [hx] at hj; simp at hj; subst hj; rfl
    · rw [hmap]
      show (Lib.join xs [32]).length ≤ _
      omega
/-- Tokens as a text. -/
theorem write_loop {L : List (Nat × Obj)} {sv : Value} {ts : List (Int × List UInt8 × Nat)} {ss : List (List UInt8)} (hsl : Sl w0 3 sv (ts.map fun x => tokC x.1 x.2.1 x.2.2)) (hlen : ts.length ≤ 1000) (hss : ss.length = ts.length) (hne : ss ≠ []) (hb : (Lib.join ss [32]).length ≤ 1000000000)
    (hw : ∀ (i : Nat) k t n s, ts[i]? = some (k, t, n) → ss[i]? = some s → WriteC w0 k t s) :
    ∀ (m i : Nat) (v : Value) (M : List (Nat × Obj)) (w : World), i + m = ts.length → OwnS w0.heap.size 9 1 v i ((ss.take i).map fun x => Value.string (bs x)) M → So w0 w (M ++ L) →
      F7.l1 (fun v w => v = .tuple #[.string (bs (Lib.join ss [32])), .int .i64 0] ∧ So w0 w L) (m + 1) v sv (.int .i64 (ts.length : Int)) (.int .i64 (i : Int)) w := by
  intro m
  induction m with
  | zero =>
    intro i v M w hi ho h
    have hie : i = ss.length := by omega
    subst hie
    unfold F7.l1
    try simp (disch := omega) only [cnd_bool, on_some_eq, Dr_eq, xNil_ptr, xNil_func, xNil_yield, xPick_bool, unw_nil, xRes_ptr, xUn_not, xUn_neg, xEx_tuple, xBin_add, xBin_sub, xBin_mul, xBin_eql, xBin_neq, xBin_lss, xBin_leq, xBin_gtr, xBin_geq, xBin_eqls, xBin_neqs, wI64, oCell_some, List.getElem?_toArray, List.getElem?_cons_zero, List.getElem?_cons_succ, Nat.zero_add, Bool.not_true, Bool.not_false, if_true, if_false, ite_true, ite_false, beq_iff_eq, bne_iff_ne, decide_eq_true_eq, ne_eq, Bool.false_eq_true, Bool.true_eq_false, reduceIte, Option.some.injEq, Int.toNat_natCast, beq_self_eq_true, bne_self_eq_false, Value.cells, splice, List.setIfInBounds_toArray, List.set_cons_zero, List.set_cons_succ, List.size_toArray, List.length_cons, List.length_nil, and_self, Nat.reduceLeDiff, Nat.reduceAdd, Nat.reduceMul, Int.reduceToNat, Int.reduceLT, Int.reduceLE, Int.reduceGT, Int.reduceGE, Int.reduceAdd, Int.reduceSub, Int.reduceMul, Int.reduceNeg, Int.reduceEq, Int.reduceNe, true_and, and_true, Int.cast_ofNat_Int, Nat.le_refl, ld3, ld4, ld5, ld9, ln9, ix9, ld27, ln27, ia27, ld28, ld30, fa30_0, bd30, bd30_0_1, ld34, fa34_0, fa34_1, fa34_2, bd34, bd34_0_1, ld44, ln44, ia44, ow2, ow3, ow24]
    rw [if_neg (by omega)]
    unfold F7.k2
    rw [List.take_length] at ho
    rw [bs_one]
    refine Cx.mono (c_join hne (by omega) hb ho h) fun v w hv => ?_
    obtain ⟨rfl, h⟩ := hv
    try simp (disch := omega) only [cnd_bool, on_some_eq, Dr_eq, xNil_ptr, xNil_func, xNil_yield, xPick_bool, unw_nil, xRes_ptr, xUn_not, xUn_neg, xEx_tuple, xBin_add, xBin_sub, xBin_mul, xBin_eql, xBin_neq, xBin_lss, xBin_leq, xBin_gtr, xBin_geq, xBin_eqls, xBin_neqs, wI64, oCell_some, List.getElem?_toArray, List.getElem?_cons_zero, List.getElem?_cons_succ, Nat.zero_add, Bool.not_true, Bool.not_false, if_true, if_false, ite_true, ite_false, beq_iff_eq, bne_iff_ne, decide_eq_true_eq, ne_eq, Bool.false_eq_true, Bool.true_eq_false, reduceIte, Option.some.injEq, Int.toNat_natCast, beq_self_eq_true, bne_self_eq_false, Value.cells, splice, List.setIfInBounds_toArray, List.set_cons_zero, List.set_cons_succ, List.size_toArray, List.length_cons, List.length_nil, and_self, Nat.reduceLeDiff, Nat.reduceAdd, Nat.reduceMul, Int.reduceToNat, Int.reduceLT, Int.reduceLE, Int.reduceGT, Int.reduceGE, Int.reduceAdd, Int.reduceSub, Int.reduceMul, Int.reduceNeg, Int.reduceEq, Int.reduceNe, true_and, and_true, Int.cast_ofNat_Int, Nat.le_refl, ld3, ld4, ld5, ld9, ln9, ix9, ld27, ln27, ia27, ld28, ld30, fa30_0, bd30, bd30_0_1, ld34, fa34_0, fa34_1, fa34_2, bd34, bd34_0_1, ld44, ln44, ia44, ow2, ow3, ow24]
    first | exact h.drops | exact ⟨rfl, h.drops⟩
  | succ m ih =>
    intro i v M w hi ho h
    have hlt : i < ts.length := by omega
    obtain ⟨k, t, n, htk⟩ : ∃ k t n, ts[i]? = some (k, t, n) := ⟨_, _, _, List.getElem?_eq_getElem hlt⟩
    obtain ⟨s, hs⟩ : ∃ s, ss[i]? = some s := ⟨_, List.getElem?_eq_getElem (by omega)⟩
    obtain ⟨g, o, k1, k2, k3⟩ := Sl.fix sl27 hsl (i : Int) (i := i) (el := tokC k t n) rfl (by rw [List.getElem?_map, htk]; rfl)
    unfold F7.l1
    try simp (disch := omega) only [cnd_bool, on_some_eq, Dr_eq, xNil_ptr, xNil_func, xNil_yield, xPick_bool, unw_nil, xRes_ptr, xUn_not, xUn_neg, xEx_tuple, xBin_add, xBin_sub, xBin_mul, xBin_eql, xBin_neq, xBin_lss, xBin_leq, xBin_gtr, xBin_geq, xBin_eqls, xBin_neqs, wI64, oCell_some, List.getElem?_toArray, List.getElem?_cons_zero, List.getElem?_cons_succ, Nat.zero_add, Bool.not_true, Bool.not_false, if_true, if_false, ite_true, ite_false, beq_iff_eq, bne_iff_ne, decide_eq_true_eq, ne_eq, Bool.false_eq_true, Bool.true_eq_false, reduceIte, Option.some.injEq, Int.toNat_natCast, beq_self_eq_true, bne_self_eq_false, Value.cells, splice, List.setIfInBounds_toArray, List.set_cons_zero, List.set_cons_succ, List.size_toArray, List.length_cons, List.length_nil, and_self, Nat.reduceLeDiff, Nat.reduceAdd, Nat.reduceMul, Int.reduceToNat, Int.reduceLT, Int.reduceLE, Int.reduceGT, Int.reduceGE, Int.reduceAdd, Int.reduceSub, Int.reduceMul, Int.reduceNeg, Int.reduceEq, Int.reduceNe, true_and, and_true, Int.cast_ofNat_Int, Nat.le_refl, ld3, ld4, ld5, ld9, ln9, ix9, ld27, ln27, ia27, ld28, ld30, fa30_0, bd30, bd30_0_1, ld34, fa34_0, fa34_1, fa34_2, bd34, bd34_0_1, ld44, ln44, ia44, ow2, ow3, ow24, k1, k2 _ _ h]
    rw [if_pos (by omega)]
    refine al34 h fun x6 w h => ?_
    refine soStoreA ty34 0 h (fun w h => ?_) rfl rfl rfl rfl
    simp only [List.set_cons_zero, tokC] at h
    have hf := h.facts
    simp only [Facts] at hf
    try simp (disch := omega) only [cnd_bool, on_some_eq, Dr_eq, xNil_ptr, xNil_func, xNil_yield, xPick_bool, unw_nil, xRes_ptr, xUn_not, xUn_neg, xEx_tuple, xBin_add, xBin_sub, xBin_mul, xBin_eql, xBin_neq, xBin_lss, xBin_leq, xBin_gtr, xBin_geq, xBin_eqls, xBin_neqs, wI64, oCell_some, List.getElem?_toArray, List.getElem?_cons_zero, List.getElem?_cons_succ, Nat.zero_add, Bool.not_true, Bool.not_false, if_true, if_false, ite_true, ite_false, beq_iff_eq, bne_iff_ne, decide_eq_true_eq, ne_eq, Bool.false_eq_true, Bool.true_eq_false, reduceIte, Option.some.injEq, Int.toNat_natCast, beq_self_eq_true, bne_self_eq_false, Value.cells, splice, List.setIfInBounds_toArray, List.set_cons_zero, List.set_cons_succ, List.size_toArray, List.length_cons, List.length_nil, and_self, Nat.reduceLeDiff, Nat.reduceAdd, Nat.reduceMul, Int.reduceToNat, Int.reduceLT, Int.reduceLE, Int.reduceGT, Int.reduceGE, Int.reduceAdd, Int.reduceSub, Int.reduceMul, Int.reduceNeg, Int.reduceEq, Int.reduceNe, true_and, and_true, Int.cast_ofNat_Int, Nat.le_refl, hf, ld3, ld4, ld5, ld9, ln9, ix9, ld27, ln27, ia27, ld28, ld30, fa30_0, bd30, bd30_0_1, ld34, fa34_0, fa34_1, fa34_2, bd34, bd34_0_1, ld44, ln44, ia44, ow2, ow3, ow24]
    refine Cx.mono (hw i k t n s htk hs n _ _ h) fun v2 w hv => ?_
    obtain ⟨rfl, h⟩ := hv
    try simp (disch := omega) only [cnd_bool, on_some_eq, Dr_eq, xNil_ptr, xNil_func, xNil_yield, xPick_bool, unw_nil, xRes_ptr, xUn_not, xUn_neg, xEx_tuple, xBin_add, xBin_sub, xBin_mul, xBin_eql, xBin_neq, xBin_lss, xBin_leq, xBin_gtr, xBin_geq, xBin_eqls, xBin_neqs, wI64, oCell_some, List.getElem?_toArray, List.getElem?_cons_zero, List.getElem?_cons_succ, Nat.zero_add, Bool.not_true, Bool.not_false, if_true, if_false, ite_true, ite_false, beq_iff_eq, bne_iff_ne, decide_eq_true_eq, ne_eq, Bool.false_eq_true, Bool.true_eq_false, reduceIte, Option.some.injEq, Int.toNat_natCast, beq_self_eq_true, bne_self_eq_false, Value.cells, splice, List.setIfInBounds_toArray, List.set_cons_zero, List.set_cons_succ, List.size_toArray, List.length_cons, List.length_nil, and_self, Nat.reduceLeDiff, Nat.reduceAdd, Nat.reduceMul, Int.reduceToNat, Int.reduceLT, Int.reduceLE, Int.reduceGT, Int.reduceGE, Int.reduceAdd, Int.reduceSub, Int.reduceMul, Int.reduceNeg, Int.reduceEq, Int.reduceNe, true_and, and_true, Int.cast_ofNat_Int, Nat.le_refl, ld3, ld4, ld5, ld9, ln9, ix9, ld27, ln27, ia27, ld28, ld30, fa30_0, bd30, bd30_0_1, ld34, fa34_0, fa34_1, fa34_2, bd34, bd34_0_1, ld44, ln44, ia44, ow2, ow3, ow24]
    refine pu44 h.drop ho rfl (by simp [one1, Value.cells]) (by omega) (by omega) fun v' M' w ho' h => ?_
    try simp (disch := omega) only [cnd_bool, on_some_eq, Dr_eq, xNil_ptr, xNil_func, xNil_yield, xPick_bool, unw_nil, xRes_ptr, xUn_not, xUn_neg, xEx_tuple, xBin_add, xBin_sub, xBin_mul, xBin_eql, xBin_neq, xBin_lss, xBin_leq, xBin_gtr, xBin_geq, xBin_eqls, xBin_neqs, wI64, oCell_some, List.getElem?_toArray, List.getElem?_cons_zero, List.getElem?_cons_succ, Nat.zero_add, Bool.not_true, Bool.not_false, if_true, if_false, ite_true, ite_false, beq_iff_eq, bne_iff_ne, decide_eq_true_eq, ne_eq, Bool.false_eq_true, Bool.true_eq_false, reduceIte, Option.some.injEq, Int.toNat_natCast, beq_self_eq_true, bne_self_eq_false, Value.cells, splice, List.setIfInBounds_toArray, List.set_cons_zero, List.set_cons_succ, List.size_toArray, List.length_cons, List.length_nil, and_self, Nat.reduceLeDiff, Nat.reduceAdd, Nat.reduceMul, Int.reduceToNat, Int.reduceLT, Int.reduceLE, Int.reduceGT, Int.reduceGE, Int.reduceAdd, Int.reduceSub, Int.reduceMul, Int.reduceNeg, Int.reduceEq, Int.reduceNe, true_and, and_true, Int.cast_ofNat_Int, Nat.le_refl, ld3, ld4, ld5, ld9, ln9, ix9, ld27, ln27, ia27, ld28, ld30, fa30_0, bd30, bd30_0_1, ld34, fa34_0, fa34_1, fa34_2, bd34, bd34_0_1, ld44, ln44, ia44, ow2, ow3, ow24]
    have := ih (i + 1) v' M' w (by omega) (by rw [List.take_add_one, hs, List.map_append]; exact ho') h
    rw [show ((i + 1 : Nat) : Int) = (i : Int) + 1 by omega] at this
    exact this
theorem c_write {L : List (Nat × Obj)} {sv : Value} {ts : List (Int × List UInt8 × Nat)} {ss : List (List UInt8)} (hsl : Sl w0 3 sv (ts.map fun x => tokC x.1 x.2.1 x.2.2)) (hlen : ts.length ≤ 1000) (hss : ss.length = ts.length) (hne : ss ≠ []) (hb : (Lib.join ss [32]).length ≤ 1000000000)
    (hw : ∀ (i : Nat) k t n s, ts[i]? = some (k, t, n) → ss[i]? = some s → WriteC w0 k t s) {w : World} (h : So w0 w L) :
    Cx P 7 #[sv] w fun v w => v = .tuple #[.string (bs (Lib.join ss [32])), .int .i64 0] ∧ So w0 w L := by
  apply F7_ok
  unfold F7 F7.k1
  try simp (disch := omega) only [cnd_bool, on_some_eq, Dr_eq, xNil_ptr, xNil_func, xNil_yield, xPick_bool, unw_nil, xRes_ptr, xUn_not, xUn_neg, xEx_tuple, xBin_add, xBin_sub, xBin_mul, xBin_eql, xBin_neq, xBin_lss, xBin_leq, xBin_gtr, xBin_geq, xBin_eqls, xBin_neqs, wI64, oCell_some, List.getElem?_toArray, List.getElem?_cons_zero, List.getElem?_cons_succ, Nat.zero_add, Bool.not_true, Bool.not_false, if_true, if_false, ite_true, ite_false, beq_iff_eq, bne_iff_ne, decide_eq_true_eq, ne_eq, Bool.false_eq_true, Bool.true_eq_false, reduceIte, Option.some.injEq, Int.toNat_natCast, beq_self_eq_true, bne_self_eq_false, Value.cells, splice, List.setIfInBounds_toArray, List.set_cons_zero, List.set_cons_succ, List.size_toArray, List.length_cons, List.length_nil, and_self, Nat.reduceLeDiff, Nat.reduceAdd, Nat.reduceMul, Int.reduceToNat, Int.reduceLT, Int.reduceLE, Int.reduceGT, Int.reduceGE, Int.reduceAdd, Int.reduceSub, Int.reduceMul, Int.reduceNeg, Int.reduceEq, Int.reduceNe, true_and, and_true, Int.cast_ofNat_Int, Nat.le_refl, ld3, ld4, ld5, ld9, ln9, ix9, ld27, ln27, ia27, ld28, ld30, fa30_0, bd30, bd30_0_1, ld34, fa34_0, fa34_1, fa34_2, bd34, bd34_0_1, ld44, ln44, ia44, ow2, ow3, ow24, Sl.len sl27 hsl, List.length_map]
  unfold F7.k3
  exact ⟨_, write_loop hsl hlen hss hne hb hw ts.length 0 (.slice none 0 0) [] w (by omega) (OwnS.nil _ _ _) (by simpa using h)⟩
end
/-! ## awake -/
def lineA : List UInt8 := [37, 53, 32, 61, 32, 79, 112, 73, 65, 100, 100, 32, 45, 49, 32, 34, 97, 34, 32, 59, 32, 98]
def toksA : List (Int × List UInt8 × Nat) := [(2, [53], 0), (5, [61], 3), (1, [79, 112, 73, 65, 100, 100], 5), (3, [45, 49], 12), (4, [97], 15)]
def textsA : List (List UInt8) := [[37, 53], [61], [79, 112, 73, 65, 100, 100], [45, 49], [34, 97, 34]]
theorem plainA : ∀ b ∈ ([97] : List UInt8), plainC b := by
  intro b hb
  simp at hb
  subst hb
  unfold plainC
  decide
theorem toks_awake {w0 : World} (hE : ErrS w0) : ToksC w0 lineA 0 toksA := by
  have t1 : TokC w0 (37 :: UInt8.ofNat (48 + 5) :: lineA.drop 2) 2 [UInt8.ofNat (48 + 5)] 2 := tok_id 5 (by omega) (lineA.drop 2) (by decide) (by decide)
  have t2 : TokC w0 (61 :: lineA.drop 4) 5 [61] 1 := tok_equal _
  have t3 : TokC w0 (79 :: lineA.drop 6) 1 (runB (79 :: lineA.drop 6)) (runB (79 :: lineA.drop 6)).length := tok_word 79 _ (by decide) (by decide) (by decide) (by decide) (by decide)
  have t4 : TokC w0 (45 :: UInt8.ofNat (48 + 1) :: lineA.drop 14) 3 [45, UInt8.ofNat (48 + 1)] 2 := tok_minus hE 1 (by omega) (by omega) (lineA.drop 14) (by decide) (by decide)
  have t5 : TokC w0 (34 :: ([97] ++ 34 :: lineA.drop 18)) 4 [97] 3 := tok_text [97] (lineA.drop 18) plainA (by decide) (by decide)
  refine .tok (n := 2) rfl (by decide) (by decide) t1 (by omega) (by decide) ?_
  refine .blank (p := 2) rfl (by decide) (by decide) ?_
  refine .tok (p := 3) (n := 1) rfl (by decide) (by decide) t2 (by omega) (by decide) ?_
  refine .blank (p := 4) rfl (by decide) (by decide) ?_
  refine .tok (p := 5) (n := 6) rfl (by decide) (by decide) t3 (by omega) (by decide) ?_
  refine .blank (p := 11) rfl (by decide) (by decide) ?_
  refine .tok (p := 12) (n := 2) rfl (by decide) (by decide) t4 (by omega) (by decide) ?_
  refine .blank (p := 14) rfl (by decide) (by decide) ?_
  refine .tok (p := 15) (n := 3) rfl (by decide) (by decide) t5 (by omega) (by decide) ?_
  refine .blank (p := 18) rfl (by decide) (by decide) ?_
  exact .note (p := 19) rfl
theorem writes_awake {w0 : World} (hE : ErrS w0) : ∀ (i : Nat) k t n s, toksA[i]? = some (k, t, n) → textsA[i]? = some s → WriteC w0 k t s := by
  intro i k t n s h1 h2
  match i, h1, h2 with
  | 0, h1, h2 =>
    obtain ⟨rfl, rfl, rfl⟩ : 2 = k ∧ [53] = t ∧ 0 = n := by simpa [toksA] using h1
    obtain rfl : [37, 53] = s := by simpa [textsA] using h2
    exact wr_id 5 (by omega)
  | 1, h1, h2 =>
    obtain ⟨rfl, rfl, rfl⟩ : 5 = k ∧ [61] = t ∧ 3 = n := by simpa [toksA] using h1
    obtain rfl : [61] = s := by simpa [textsA] using h2
    exact wr_equal
  | 2, h1, h2 =>
    obtain ⟨rfl, rfl, rfl⟩ : 1 = k ∧ [79, 112, 73, 65, 100, 100] = t ∧ 5 = n := by simpa [toksA] using h1
    obtain rfl : [79, 112, 73, 65, 100, 100] = s := by simpa [textsA] using h2
    exact wr_word 79 _ (by decide) (by decide) (by decide)
  | 3, h1, h2 =>
    obtain ⟨rfl, rfl, rfl⟩ : 3 = k ∧ [45, 49] = t ∧ 12 = n := by simpa [toksA] using h1
    obtain rfl : [45, 49] = s := by simpa [textsA] using h2
    exact wr_number hE 1 (by omega) (by omega)
  | 4, h1, h2 =>
    obtain ⟨rfl, rfl, rfl⟩ : 4 = k ∧ [97] = t ∧ 15 = n := by simpa [toksA] using h1
    obtain rfl : [34, 97, 34] = s := by simpa [textsA] using h2
    exact wr_text [97] plainA (by decide)
  | i + 5, h1, h2 => simp [toksA] at h1
theorem ErrS.at {w0 w : World} {L : List (Nat × Obj)} (hE : ErrS w0) (h : So w0 w L) : ErrS w := by
  have hE' := hE
  obtain ⟨_, h1, _⟩ := hE
  obtain ⟨ev, h2, h3⟩ := hE'.go h
  exact ⟨ev, Nat.lt_of_lt_of_le h1 h.st.size, h2, h3⟩
/-- From the base world to one behind it, and on. -/
theorem So.onto {w0 w1 w2 : World} {K : List (Nat × Obj)} (h : So w0 w1 K) (h' : So w1 w2 []) : So w0 w2 K := by
  have := h.calls h'
  simpa using this
theorem c_awake {w0 w : World} {L : List (Nat × Obj)} (hE : ErrS w0) (h : So w0 w L) : Cx P 4 #[] w fun v w => v = .bool true ∧ So w0 w L := by
  apply F4_ok
  unfold F4
  show Cx P 6 #[.string (bs lineA)] w _
  refine Cx.mono (c_tokens (by decide) (toks_awake hE) h) fun v w hv => ?_
  obtain ⟨lv, M, rfl, ho, h⟩ := hv
  have hsl : Sl w 3 lv (toksA.map fun x => tokC x.1 x.2.1 x.2.2) := OwnS.sl h ho (by decide) (by decide)
  have hE := hE.at h
  have hfin : ∀ {w2 : World} {x : Nat × Obj}, So w w2 [x] → So w0 w2 L := fun h2 => (So.onto h h2.drop).drops
  clear ho
  have hB : So w w [] := So.refl w
  generalize hQ : (fun v w => v = Value.bool true ∧ So w0 w L) = Q
  have fin : ∀ {w2 : World} {x : Nat × Obj}, So w w2 [x] → Q (.bool true) w2 := by intro w2 x h2; rw [← hQ]; exact ⟨rfl, hfin h2⟩
  have hlen : xLen P w #[27] #[lv] = some (.int .i64 5) := Sl.len sl27 hsl
  obtain ⟨g, o, k1, k2, k3⟩ := Sl.fix sl27 hsl 2 (i := 2) (el := tokC 1 [79, 112, 73, 65, 100, 100] 5) rfl rfl
  try simp (disch := omega) only [cnd_bool, on_some_eq, Dr_eq, xNil_ptr, xNil_func, xNil_yield, xPick_bool, unw_nil, xRes_ptr, xUn_not, xUn_neg, xEx_tuple, xBin_add, xBin_sub, xBin_mul, xBin_eql, xBin_neq, xBin_lss, xBin_leq, xBin_gtr, xBin_geq, xBin_eqls, xBin_neqs, wI64, oCell_some, List.getElem?_toArray, List.getElem?_cons_zero, List.getElem?_cons_succ, Nat.zero_add, Bool.not_true, Bool.not_false, if_true, if_false, ite_true, ite_false, beq_iff_eq, bne_iff_ne, decide_eq_true_eq, ne_eq, Bool.false_eq_true, Bool.true_eq_false, reduceIte, Option.some.injEq, Int.toNat_natCast, beq_self_eq_true, bne_self_eq_false, Value.cells, splice, List.setIfInBounds_toArray, List.set_cons_zero, List.set_cons_succ, List.size_toArray, List.length_cons, List.length_nil, and_self, Nat.reduceLeDiff, Nat.reduceAdd, Nat.reduceMul, Int.reduceToNat, Int.reduceLT, Int.reduceLE, Int.reduceGT, Int.reduceGE, Int.reduceAdd, Int.reduceSub, Int.reduceMul, Int.reduceNeg, Int.reduceEq, Int.reduceNe, true_and, and_true, Int.cast_ofNat_Int, Nat.le_refl, ld3, ld4, ld5, ld9, ln9, ix9, ld27, ln27, ia27, ld28, ld30, fa30_0, bd30, bd30_0_1, ld34, fa34_0, fa34_1, fa34_2, bd34, bd34_0_1, ld44, ln44, ia44, ow2, ow3, ow24]
  refine al30 hB fun x2 w2 h2 => ?_
  refine soStoreA ty30 0 h2 (fun w2 h2 => ?_) rfl rfl rfl rfl
  simp only [List.set_cons_zero] at h2
  have hf := h2.facts
  simp only [Facts] at hf
  have hlen2 : xLen P w2 #[27] #[lv] = some (.int .i64 5) := Sl.len sl27 hsl
  have c0 : oCell w2.heap[g]? o = some (.int .u8 1) := k3 _ _ h2 0 (by omega)
  have c1 : oCell w2.heap[g]? (o + 1) = some (.string (bs [79, 112, 73, 65, 100, 100])) := k3 _ _ h2 1 (by omega)
  have c2 : oCell w2.heap[g]? (o + 2) = some (.int .i64 5) := k3 _ _ h2 2 (by omega)
  have hop : ((⟨#[79, 112, 73, 65, 100, 100]⟩ : ByteArray)) = bs [79, 112, 73, 65, 100, 100] := rfl
  try simp (disch := omega) only [cnd_bool, on_some_eq, Dr_eq, xNil_ptr, xNil_func, xNil_yield, xPick_bool, unw_nil, xRes_ptr, xUn_not, xUn_neg, xEx_tuple, xBin_add, xBin_sub, xBin_mul, xBin_eql, xBin_neq, xBin_lss, xBin_leq, xBin_gtr, xBin_geq, xBin_eqls, xBin_neqs, wI64, oCell_some, List.getElem?_toArray, List.getElem?_cons_zero, List.getElem?_cons_succ, Nat.zero_add, Bool.not_true, Bool.not_false, if_true, if_false, ite_true, ite_false, beq_iff_eq, bne_iff_ne, decide_eq_true_eq, ne_eq, Bool.false_eq_true, Bool.true_eq_false, reduceIte, Option.some.injEq, Int.toNat_natCast, beq_self_eq_true, bne_self_eq_false, Value.cells, splice, List.setIfInBounds_toArray, List.set_cons_zero, List.set_cons_succ, List.size_toArray, List.length_cons, List.length_nil, and_self, Nat.reduceLeDiff, Nat.reduceAdd, Nat.reduceMul, Int.reduceToNat, Int.reduceLT, Int.reduceLE, Int.reduceGT, Int.reduceGE, Int.reduceAdd, Int.reduceSub, Int.reduceMul, Int.reduceNeg, Int.reduceEq, Int.reduceNe, true_and, and_true, Int.cast_ofNat_Int, Nat.le_refl, hf, ld3, ld4, ld5, ld9, ln9, ix9, ld27, ln27, ia27, ld28, ld30, fa30_0, bd30, bd30_0_1, ld34, fa34_0, fa34_1, fa34_2, bd34, bd34_0_1, ld44, ln44, ia44, ow2, ow3, ow24, hlen2, k1, c0, c1, c2, hop, bs_toList]
  unfold F4.k1
  refine Cx.mono (c_write (w0 := w) (ts := toksA) (ss := textsA) hsl (by decide) rfl (by decide) (by decide) (writes_awake hE) h2) fun v w2 hv => ?_
  obtain ⟨rfl, h2⟩ := hv
  have hj : (⟨#[37, 53, 32, 61, 32, 79, 112, 73, 65, 100, 100, 32, 45, 49, 32, 34, 97, 34]⟩ : ByteArray) = bs (Lib.join textsA [32]) := by decide
  try simp (disch := omega) only [cnd_bool, on_some_eq, Dr_eq, xNil_ptr, xNil_func, xNil_yield, xPick_bool, unw_nil, xRes_ptr, xUn_not, xUn_neg, xEx_tuple, xBin_add, xBin_sub, xBin_mul, xBin_eql, xBin_neq, xBin_lss, xBin_leq, xBin_gtr, xBin_geq, xBin_eqls, xBin_neqs, wI64, oCell_some, List.getElem?_toArray, List.getElem?_cons_zero, List.getElem?_cons_succ, Nat.zero_add, Bool.not_true, Bool.not_false, if_true, if_false, ite_true, ite_false, beq_iff_eq, bne_iff_ne, decide_eq_true_eq, ne_eq, Bool.false_eq_true, Bool.true_eq_false, reduceIte, Option.some.injEq, Int.toNat_natCast, beq_self_eq_true, bne_self_eq_false, Value.cells, splice, List.setIfInBounds_toArray, List.set_cons_zero, List.set_cons_succ, List.size_toArray, List.length_cons, List.length_nil, and_self, Nat.reduceLeDiff, Nat.reduceAdd, Nat.reduceMul, Int.reduceToNat, Int.reduceLT, Int.reduceLE, Int.reduceGT, Int.reduceGE, Int.reduceAdd, Int.reduceSub, Int.reduceMul, Int.reduceNeg, Int.reduceEq, Int.reduceNe, true_and, and_true, Int.cast_ofNat_Int, Nat.le_refl, ld3, ld4, ld5, ld9, ln9, ix9, ld27, ln27, ia27, ld28, ld30, fa30_0, bd30, bd30_0_1, ld34, fa34_0, fa34_1, fa34_2, bd34, bd34_0_1, ld44, ln44, ia44, ow2, ow3, ow24, hj, bs_toList]
  exact fin h2
end Go.Proofs.YtlmcppbpobnfjaaDoor

