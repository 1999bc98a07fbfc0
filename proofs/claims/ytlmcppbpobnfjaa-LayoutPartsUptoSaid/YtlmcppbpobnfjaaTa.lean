/-
  ref04: None, Id, Whole, Room.
-/
import Derived.Test.YtlmcppbpobnfjaaRh
namespace Go.Proofs.Ytlmcppbpobnfjaa
open Go Go.Vc
set_option linter.unusedSimpArgs false
set_option linter.unusedVariables false
set_option maxRecDepth 20000

section
variable {w0 : World} {L : List (Nat × Obj)}
theorem c_none {w : World} (h : So w0 w L) (n bound : Int) : Cx P 86 #[.int .u32 n, .int .u32 bound] w fun v w => v = .bool (n == 0 || decide (bound ≤ n)) ∧ So w0 w L := by
  apply F86_ok
  unfold F86
  refine case_int (fun e => ?_) fun e => ?_
  · subst e; exact ⟨rfl, h⟩
  · try simp (disch := omega) only [cnd_bool, on_some_eq, Dr_eq, xNil_ptr, xNil_func, xNil_yield, xPick_bool, unw_nil, xRes_ptr, xUn_not, xUn_neg, xEx_tuple, xBin_add, xBin_sub, xBin_mul, xBin_eql, xBin_neq, xBin_lss, xBin_leq, xBin_gtr, xBin_geq, xBin_eqls, xBin_neqs, wI64, oCell_some, List.getElem?_toArray, List.getElem?_cons_zero, List.getElem?_cons_succ, Nat.zero_add, Bool.not_true, Bool.not_false, if_true, if_false, ite_true, ite_false, beq_iff_eq, bne_iff_ne, decide_eq_true_eq, ne_eq, Bool.false_eq_true, Bool.true_eq_false, reduceIte, Option.some.injEq, Int.toNat_natCast, beq_self_eq_true, bne_self_eq_false, Value.cells, splice, List.setIfInBounds_toArray, List.set_cons_zero, List.set_cons_succ, List.size_toArray, List.length_cons, List.length_nil, and_self, Nat.reduceLeDiff, Nat.reduceAdd, Nat.reduceMul, Int.reduceToNat, Int.reduceLT, Int.reduceLE, Int.reduceGT, Int.reduceGE, Int.reduceAdd, Int.reduceSub, Int.reduceMul, Int.reduceNeg, Int.reduceEq, Int.reduceNe, true_and, and_true, Int.cast_ofNat_Int, Nat.le_refl, ld3, ld4, ld9, ln9, ix9, ld22, ld77, fa77_0, fa77_2, fa77_3, fa77_4, fa77_5, fa77_6, fa77_7, bd77, bd77_0_1_2_3_4_5_6_7, bd77_0_1_4_5_7, neq4, ow2, ow3, ow4, ow5, ow6, ow8, ow11, ow20, ow23]
    refine ⟨?_, h⟩
    simp [e]
theorem c_refId {w : World} (h : So w0 w L) (must : Bool) (n bound e : Int) : Cx P 61 #[.bool must, .int .u32 n, .int .u32 bound, .int .i64 e] w fun v w => v = .int .i64 (headE must n bound e) ∧ So w0 w L := by
  apply F61_ok
  unfold F61 headE idE
  try simp (disch := omega) only [cnd_bool, on_some_eq, Dr_eq, xNil_ptr, xNil_func, xNil_yield, xPick_bool, unw_nil, xRes_ptr, xUn_not, xUn_neg, xEx_tuple, xBin_add, xBin_sub, xBin_mul, xBin_eql, xBin_neq, xBin_lss, xBin_leq, xBin_gtr, xBin_geq, xBin_eqls, xBin_neqs, wI64, oCell_some, List.getElem?_toArray, List.getElem?_cons_zero, List.getElem?_cons_succ, Nat.zero_add, Bool.not_true, Bool.not_false, if_true, if_false, ite_true, ite_false, beq_iff_eq, bne_iff_ne, decide_eq_true_eq, ne_eq, Bool.false_eq_true, Bool.true_eq_false, reduceIte, Option.some.injEq, Int.toNat_natCast, beq_self_eq_true, bne_self_eq_false, Value.cells, splice, List.setIfInBounds_toArray, List.set_cons_zero, List.set_cons_succ, List.size_toArray, List.length_cons, List.length_nil, and_self, Nat.reduceLeDiff, Nat.reduceAdd, Nat.reduceMul, Int.reduceToNat, Int.reduceLT, Int.reduceLE, Int.reduceGT, Int.reduceGE, Int.reduceAdd, Int.reduceSub, Int.reduceMul, Int.reduceNeg, Int.reduceEq, Int.reduceNe, true_and, and_true, Int.cast_ofNat_Int, Nat.le_refl, ld3, ld4, ld9, ln9, ix9, ld22, ld77, fa77_0, fa77_2, fa77_3, fa77_4, fa77_5, fa77_6, fa77_7, bd77, bd77_0_1_2_3_4_5_6_7, bd77_0_1_4_5_7, neq4, ow2, ow3, ow4, ow5, ow6, ow8, ow11, ow20, ow23]
  by_cases hm : must = (n != 0)
  · rw [if_neg (by rw [hm]; simp), if_pos hm]
    cases must with
    | false => exact ⟨rfl, h⟩
    | true =>
      have hn : ¬ n = 0 := by simpa using hm.symm
      simp only [if_true, if_neg hn]
      by_cases hb : bound ≤ n
      · rw [if_pos (by omega), if_pos hb]; exact ⟨rfl, h⟩
      · rw [if_neg (by omega), if_neg hb]; exact ⟨rfl, h⟩
  · rw [if_pos (by simpa using hm), if_neg hm]
    exact ⟨rfl, h⟩

/-- Whole: what ref04 says. -/
def wholeR (f : Form) (n : Nat) : Bool := if n < f.fixed.length then false else if f.rest = [] then n == f.fixed.length else (n - f.fixed.length) % f.rest.length == 0
theorem c_refWhole {w : World} (h : So w0 w L) {f : Form} (hok : okF f = true) (op : Int) (n : Nat) (hn : n ≤ 1099511627776) : Cx P 64 #[f.v op, .int .i64 (n : Int)] w fun v w => v = .bool (wholeR f n) ∧ So w0 w L := by
  simp only [okF, Bool.and_eq_true, decide_eq_true_eq] at hok
  obtain ⟨⟨⟨⟨⟨_, _⟩, hl1⟩, hl2⟩, hm1, hm2⟩, _⟩ := hok
  apply F64_ok
  unfold F64 wholeR
  rw [Form.v_size]
  refine soBox h fun b w h => ?_
  try simp only [Facts, and_true, Value.cells, List.setIfInBounds_toArray, List.set_cons_zero, List.set_cons_succ, splice, Nat.zero_add, Nat.reduceAdd, List.cons_append, List.nil_append] at h
  have hf := h.facts
  simp only [Facts, and_true, Value.cells, List.setIfInBounds_toArray, List.set_cons_zero, List.set_cons_succ, splice, Nat.zero_add, Nat.reduceAdd, List.cons_append, List.nil_append] at hf
  try simp (disch := omega) only [cnd_bool, on_some_eq, Dr_eq, xNil_ptr, xNil_func, xNil_yield, xPick_bool, unw_nil, xRes_ptr, xUn_not, xUn_neg, xEx_tuple, xBin_add, xBin_sub, xBin_mul, xBin_eql, xBin_neq, xBin_lss, xBin_leq, xBin_gtr, xBin_geq, xBin_eqls, xBin_neqs, wI64, oCell_some, List.getElem?_toArray, List.getElem?_cons_zero, List.getElem?_cons_succ, Nat.zero_add, Bool.not_true, Bool.not_false, if_true, if_false, ite_true, ite_false, beq_iff_eq, bne_iff_ne, decide_eq_true_eq, ne_eq, Bool.false_eq_true, Bool.true_eq_false, reduceIte, Option.some.injEq, Int.toNat_natCast, beq_self_eq_true, bne_self_eq_false, Value.cells, splice, List.setIfInBounds_toArray, List.set_cons_zero, List.set_cons_succ, List.size_toArray, List.length_cons, List.length_nil, and_self, Nat.reduceLeDiff, Nat.reduceAdd, Nat.reduceMul, Int.reduceToNat, Int.reduceLT, Int.reduceLE, Int.reduceGT, Int.reduceGE, Int.reduceAdd, Int.reduceSub, Int.reduceMul, Int.reduceNeg, Int.reduceEq, Int.reduceNe, true_and, and_true, Int.cast_ofNat_Int, Nat.le_refl, hf, ld3, ld4, ld9, ln9, ix9, ld22, ld77, fa77_0, fa77_2, fa77_3, fa77_4, fa77_5, fa77_6, fa77_7, bd77, bd77_0_1_2_3_4_5_6_7, bd77_0_1_4_5_7, neq4, ow2, ow3, ow4, ow5, ow6, ow8, ow11, ow20, ow23, bs_size]
  by_cases hlt : n < f.fixed.length
  · rw [if_pos (by omega), if_pos hlt]
    exact ⟨rfl, h.drop⟩
  · rw [if_neg (by omega), if_neg hlt]
    by_cases hr : f.rest = []
    · rw [if_pos (by rw [hr]; rfl), if_pos hr]
      refine ⟨?_, h.drop⟩
      congr 1
      rw [Bool.eq_iff_iff]
      simp
      omega
    · have hpos : 0 < f.rest.length := List.length_pos_iff.2 hr
      rw [if_neg (by omega), if_neg hr]
      obtain ⟨k, hk⟩ : ∃ k : Nat, (n : Int) - (f.fixed.length : Int) = (k : Int) := ⟨n - f.fixed.length, by omega⟩
      have hk' : n - f.fixed.length = k := by omega
      have hmod : (k : Int).tmod (f.rest.length : Int) = ((k % f.rest.length : Nat) : Int) := by
        rw [Int.tmod_eq_emod_of_nonneg (by omega)]; rfl
      rw [hk, hk', xBin_rem _ _ _ _ _ _ (by omega), hmod]
      try simp (disch := omega) only [cnd_bool, on_some_eq, Dr_eq, xNil_ptr, xNil_func, xNil_yield, xPick_bool, unw_nil, xRes_ptr, xUn_not, xUn_neg, xEx_tuple, xBin_add, xBin_sub, xBin_mul, xBin_eql, xBin_neq, xBin_lss, xBin_leq, xBin_gtr, xBin_geq, xBin_eqls, xBin_neqs, wI64, oCell_some, List.getElem?_toArray, List.getElem?_cons_zero, List.getElem?_cons_succ, Nat.zero_add, Bool.not_true, Bool.not_false, if_true, if_false, ite_true, ite_false, beq_iff_eq, bne_iff_ne, decide_eq_true_eq, ne_eq, Bool.false_eq_true, Bool.true_eq_false, reduceIte, Option.some.injEq, Int.toNat_natCast, beq_self_eq_true, bne_self_eq_false, Value.cells, splice, List.setIfInBounds_toArray, List.set_cons_zero, List.set_cons_succ, List.size_toArray, List.length_cons, List.length_nil, and_self, Nat.reduceLeDiff, Nat.reduceAdd, Nat.reduceMul, Int.reduceToNat, Int.reduceLT, Int.reduceLE, Int.reduceGT, Int.reduceGE, Int.reduceAdd, Int.reduceSub, Int.reduceMul, Int.reduceNeg, Int.reduceEq, Int.reduceNe, true_and, and_true, Int.cast_ofNat_Int, Nat.le_refl, hf, ld3, ld4, ld9, ln9, ix9, ld22, ld77, fa77_0, fa77_2, fa77_3, fa77_4, fa77_5, fa77_6, fa77_7, bd77, bd77_0_1_2_3_4_5_6_7, bd77_0_1_4_5_7, neq4, ow2, ow3, ow4, ow5, ow6, ow8, ow11, ow20, ow23]
      refine ⟨?_, h.drop⟩
      congr 1
      rw [Bool.eq_iff_iff]
      simp
      omega
end
end Go.Proofs.Ytlmcppbpobnfjaa

