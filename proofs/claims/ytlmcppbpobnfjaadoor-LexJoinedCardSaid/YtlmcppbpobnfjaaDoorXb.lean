/-
  lex.Lines: the cut at a byte 10, the lines.
-/
import Derived.Test.YtlmcppbpobnfjaaDoorX
import Derived.Test.YtlmcppbpobnfjaaDoorVu
namespace Go.Proofs.YtlmcppbpobnfjaaDoor
open Go Go.Vc
set_option linter.unusedSimpArgs false
set_option linter.unusedVariables false
set_option maxRecDepth 20000

theorem bs_one (c : UInt8) : (⟨#[c]⟩ : ByteArray) = bs [c] := rfl
theorem bs_nil : (⟨#[]⟩ : ByteArray) = bs [] := rfl
theorem bs_mk (l : List UInt8) : (⟨l.toArray⟩ : ByteArray) = bs l := rfl
/-- What stands ahead of a byte, and behind it. -/
def aheadB (c : UInt8) : List UInt8 → List UInt8
  | [] => []
  | b :: l => if b = c then [] else b :: aheadB c l
def behindB (c : UInt8) : List UInt8 → List UInt8
  | [] => []
  | b :: l => if b = c then l else behindB c l
theorem indexByte_law (c : UInt8) : ∀ l : List UInt8, (Lib.indexByte l c = -1 ∧ aheadB c l = l ∧ behindB c l = []) ∨ (Lib.indexByte l c = ((aheadB c l).length : Int) ∧ (aheadB c l).length < l.length)
  | [] => .inl ⟨rfl, rfl, rfl⟩
  | b :: l => by
    unfold Lib.indexByte aheadB behindB
    by_cases hb : b = c
    · subst hb
      right
      simp
    · have hb' : (b == c) = false := by simpa using hb
      rw [hb']
      simp only [Bool.false_eq_true, if_false, hb]
      rcases indexByte_law c l with ⟨h1, h2, h3⟩ | ⟨h1, h3⟩
      · left
        rw [h1, h2, h3]
        exact ⟨rfl, rfl, rfl⟩
      · right
        rw [h1]
        rw [if_neg (by simp <;> omega)]
        exact ⟨by simp, by simp; exact h3⟩
theorem take_ahead (c : UInt8) : ∀ l : List UInt8, l.take (aheadB c l).length = aheadB c l
  | [] => rfl
  | b :: l => by
    unfold aheadB
    by_cases hb : b = c
    · rw [if_pos hb]; rfl
    · rw [if_neg hb]; simp [take_ahead c l]
theorem drop_behind (c : UInt8) : ∀ l : List UInt8, l.drop ((aheadB c l).length + 1) = behindB c l
  | [] => rfl
  | b :: l => by
    unfold aheadB behindB
    by_cases hb : b = c
    · rw [if_pos hb, if_pos hb]; rfl
    · rw [if_neg hb, if_neg hb]; simpa using drop_behind c l
theorem c_index {w0 w : World} {L : List (Nat × Obj)} (h : So w0 w L) (l : List UInt8) (c : UInt8) : Cx P 23 #[.string (bs l), .string (bs [c])] w fun v w => v = .int .i64 (Lib.indexByte l c) ∧ So w0 w L := by
  have := Any.stringslite_Index_one lays_renI (bs l) c w
  refine Cx.of this fun e w' ⟨h1, h2⟩ => ⟨_, h1, ?_, h2 ▸ h⟩
  rfl
theorem c_cut {w0 w : World} {L : List (Nat × Obj)} (h : So w0 w L) (l : List UInt8) (hl : l.length ≤ 1099511627776) : Cx P 9 #[.string (bs l), .string (bs [10])] w fun v w => (∃ b, v = .tuple #[.string (bs (aheadB 10 l)), .string (bs (behindB 10 l)), .bool b]) ∧ So w0 w L := by
  apply F9_ok
  unfold F9
  apply F14_ok
  unfold F14
  refine Cx.mono (c_index h l 10) fun v w hv => ?_
  obtain ⟨rfl, h⟩ := hv
  try simp (disch := omega) only [cnd_bool, on_some_eq, Dr_eq, xNil_ptr, xNil_func, xNil_yield, xPick_bool, unw_nil, xRes_ptr, xUn_not, xUn_neg, xEx_tuple, xBin_add, xBin_sub, xBin_mul, xBin_eql, xBin_neq, xBin_lss, xBin_leq, xBin_gtr, xBin_geq, xBin_eqls, xBin_neqs, wI64, oCell_some, List.getElem?_toArray, List.getElem?_cons_zero, List.getElem?_cons_succ, Nat.zero_add, Bool.not_true, Bool.not_false, if_true, if_false, ite_true, ite_false, beq_iff_eq, bne_iff_ne, decide_eq_true_eq, ne_eq, Bool.false_eq_true, Bool.true_eq_false, reduceIte, Option.some.injEq, Int.toNat_natCast, beq_self_eq_true, bne_self_eq_false, Value.cells, splice, List.setIfInBounds_toArray, List.set_cons_zero, List.set_cons_succ, List.size_toArray, List.length_cons, List.length_nil, and_self, Nat.reduceLeDiff, Nat.reduceAdd, Nat.reduceMul, Int.reduceToNat, Int.reduceLT, Int.reduceLE, Int.reduceGT, Int.reduceGE, Int.reduceAdd, Int.reduceSub, Int.reduceMul, Int.reduceNeg, Int.reduceEq, Int.reduceNe, true_and, and_true, Int.cast_ofNat_Int, Nat.le_refl, ld3, ld9, ln9, ix9, ow2, ow3, ow24]
  rcases indexByte_law 10 l with ⟨h1, e1, e2⟩ | ⟨h1, h3⟩
  · rw [h1, e1, e2]
    try simp (disch := omega) only [cnd_bool, on_some_eq, Dr_eq, xNil_ptr, xNil_func, xNil_yield, xPick_bool, unw_nil, xRes_ptr, xUn_not, xUn_neg, xEx_tuple, xBin_add, xBin_sub, xBin_mul, xBin_eql, xBin_neq, xBin_lss, xBin_leq, xBin_gtr, xBin_geq, xBin_eqls, xBin_neqs, wI64, oCell_some, List.getElem?_toArray, List.getElem?_cons_zero, List.getElem?_cons_succ, Nat.zero_add, Bool.not_true, Bool.not_false, if_true, if_false, ite_true, ite_false, beq_iff_eq, bne_iff_ne, decide_eq_true_eq, ne_eq, Bool.false_eq_true, Bool.true_eq_false, reduceIte, Option.some.injEq, Int.toNat_natCast, beq_self_eq_true, bne_self_eq_false, Value.cells, splice, List.setIfInBounds_toArray, List.set_cons_zero, List.set_cons_succ, List.size_toArray, List.length_cons, List.length_nil, and_self, Nat.reduceLeDiff, Nat.reduceAdd, Nat.reduceMul, Int.reduceToNat, Int.reduceLT, Int.reduceLE, Int.reduceGT, Int.reduceGE, Int.reduceAdd, Int.reduceSub, Int.reduceMul, Int.reduceNeg, Int.reduceEq, Int.reduceNe, true_and, and_true, Int.cast_ofNat_Int, Nat.le_refl, ld3, ld9, ln9, ix9, ow2, ow3, ow24]
    exact ⟨⟨false, rfl⟩, h⟩
  · rw [h1]
    have h := h.drew
    rw [xSl_strH un9 l _ _ (by omega) (by omega), Int.toNat_natCast, take_ahead]
    have hlo := xSl_strL (P := P) un9 l .i64 (((aheadB 10 l).length : Int) + 1) (by omega) (by omega)
    rw [show (((aheadB 10 l).length : Int) + 1).toNat = (aheadB 10 l).length + 1 by omega, drop_behind] at hlo
    try simp (disch := omega) only [cnd_bool, on_some_eq, Dr_eq, xNil_ptr, xNil_func, xNil_yield, xPick_bool, unw_nil, xRes_ptr, xUn_not, xUn_neg, xEx_tuple, xBin_add, xBin_sub, xBin_mul, xBin_eql, xBin_neq, xBin_lss, xBin_leq, xBin_gtr, xBin_geq, xBin_eqls, xBin_neqs, wI64, oCell_some, List.getElem?_toArray, List.getElem?_cons_zero, List.getElem?_cons_succ, Nat.zero_add, Bool.not_true, Bool.not_false, if_true, if_false, ite_true, ite_false, beq_iff_eq, bne_iff_ne, decide_eq_true_eq, ne_eq, Bool.false_eq_true, Bool.true_eq_false, reduceIte, Option.some.injEq, Int.toNat_natCast, beq_self_eq_true, bne_self_eq_false, Value.cells, splice, List.setIfInBounds_toArray, List.set_cons_zero, List.set_cons_succ, List.size_toArray, List.length_cons, List.length_nil, and_self, Nat.reduceLeDiff, Nat.reduceAdd, Nat.reduceMul, Int.reduceToNat, Int.reduceLT, Int.reduceLE, Int.reduceGT, Int.reduceGE, Int.reduceAdd, Int.reduceSub, Int.reduceMul, Int.reduceNeg, Int.reduceEq, Int.reduceNe, true_and, and_true, Int.cast_ofNat_Int, Nat.le_refl, ld3, ld9, ln9, ix9, ow2, ow3, ow24, bs_size, hlo]
    rw [if_pos (by omega)]
    exact ⟨⟨true, rfl⟩, h⟩
end Go.Proofs.YtlmcppbpobnfjaaDoor

