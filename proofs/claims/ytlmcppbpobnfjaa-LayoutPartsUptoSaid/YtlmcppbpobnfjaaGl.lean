/-
  grammar.Letter answers what ref03.Letter answers.
-/
import Derived.Test.YtlmcppbpobnfjaaGo2
namespace Go.Proofs.Ytlmcppbpobnfjaa
open Go Go.Vc
set_option linter.unusedSimpArgs false
set_option linter.unusedVariables false
set_option maxRecDepth 20000

def formD (op : Int) : Form := (formOf op).getD ⟨[], false, false, [], [], 0, 0⟩
/-- A letter of the arguments that may stand behind those that must. -/
def restL (f : Form) (k : Nat) : Int := if f.rest = [] then 0 else if 0 < f.most ∧ f.most * (f.rest.length : Int) ≤ (k : Int) then 0 else (((f.rest[k % f.rest.length]?).getD 0).toNat : Int)
def letterF (f : Form) (i : Nat) : Int := if i < f.fixed.length then (((f.fixed[i]?).getD 0).toNat : Int) else restL f (i - f.fixed.length)
def letterOf (op : Int) (i : Nat) : Int := letterF (formD op) i
def okF (f : Form) : Bool := f.fixed.all (fun c => decide (0 < c.toNat)) && f.rest.all (fun c => decide (0 < c.toNat)) && decide (f.fixed.length ≤ 100) && decide (f.rest.length ≤ 100) && decide (0 ≤ f.most ∧ f.most ≤ 100) && decide (0 ≤ f.part ∧ f.part ≤ 8)
theorem forms_ok : forms.all (fun x => match x.2 with | some f => okF f | none => true) = true := by decide +kernel
theorem formD_ok (op : Int) : okF (formD op) = true := by
  unfold formD
  rcases look_mem none forms op with h | ⟨p, hp, h⟩
  · have : formOf op = none := h
    rw [this]; rfl
  · have h2 := List.all_eq_true.1 forms_ok p hp
    have : formOf op = p.2 := h.symm
    rw [this]
    cases hq : p.2 with
    | none => rfl
    | some f => rw [hq] at h2; exact h2
theorem ofV_D (op : Int) : ∃ op', ofV op = .tuple #[(formD op).v op', .bool (formOf op).isSome] := by
  unfold ofV formD
  cases formOf op with
  | none => exact ⟨0, rfl⟩
  | some f => exact ⟨op, rfl⟩
theorem Form.v_size (f : Form) (op : Int) : f.v op = .agg #[.int .u16 op, .string (bs f.name), .bool f.ty, .bool f.res, .string (bs f.fixed), .string (bs f.rest), .int .i64 f.most, .int .u8 f.part] := rfl
theorem c_fixed {w0 w : World} {L : List (Nat × Obj)} (h : So w0 w L) (f : Form) (hf : okF f = true) (op : Int) (i : Nat) (hi : i ≤ 1099511627776) :
    Cx P 121 #[f.v op, .int .i64 (i : Int)] w fun v w => v = .int .u8 (if i < f.fixed.length then (((f.fixed[i]?).getD 0).toNat : Int) else 0) ∧ So w0 w L := by
  apply F121_ok
  unfold F121 Form.v
  refine soBox h fun b w h => ?_
  try simp only [Facts, and_true, Value.cells, List.setIfInBounds_toArray, List.set_cons_zero, List.set_cons_succ, splice, Nat.zero_add, Nat.reduceAdd, List.cons_append, List.nil_append] at h
  have hf := h.facts
  simp only [Facts, and_true, Value.cells, List.setIfInBounds_toArray, List.set_cons_zero, List.set_cons_succ, splice, Nat.zero_add, Nat.reduceAdd, List.cons_append, List.nil_append] at hf
  try simp (disch := omega) only [cnd_bool, on_some_eq, Dr_eq, xNil_ptr, xNil_func, xNil_yield, xPick_bool, unw_nil, xRes_ptr, xUn_not, xUn_neg, xEx_tuple, xBin_add, xBin_sub, xBin_mul, xBin_eql, xBin_neq, xBin_lss, xBin_leq, xBin_gtr, xBin_geq, xBin_eqls, xBin_neqs, wI64, oCell_some, List.getElem?_toArray, List.getElem?_cons_zero, List.getElem?_cons_succ, Nat.zero_add, Bool.not_true, Bool.not_false, if_true, if_false, ite_true, ite_false, beq_iff_eq, bne_iff_ne, decide_eq_true_eq, ne_eq, Bool.false_eq_true, Bool.true_eq_false, reduceIte, Option.some.injEq, Int.toNat_natCast, beq_self_eq_true, bne_self_eq_false, Value.cells, splice, List.setIfInBounds_toArray, List.set_cons_zero, List.set_cons_succ, List.size_toArray, List.length_cons, List.length_nil, and_self, Nat.reduceLeDiff, Nat.reduceAdd, Nat.reduceMul, Int.reduceToNat, Int.reduceLT, Int.reduceLE, Int.reduceGT, Int.reduceGE, Int.reduceAdd, Int.reduceSub, Int.reduceMul, Int.reduceNeg, Int.reduceEq, Int.reduceNe, true_and, and_true, Int.cast_ofNat_Int, Nat.le_refl, hf, ld3, ld5, ld9, ln9, ix9, ld77, fa77_0, fa77_2, fa77_3, fa77_4, fa77_5, fa77_6, fa77_7, bd77, bd77_0_1_2_3_4_5_6_7, bd77_0_1_4_5_7, ld115, fa115_1, bd115, bd115_0_1, ld174, fa174_0, bd174_0, ld175, ld180, ln180, ia180, ow2, ow3, ow4, ow5, ow6, ow8, ow11, ow20, ow23, cv5_3, bs_size]
  rw [if_neg (by omega)]
  by_cases hlt : i < f.fixed.length
  · rw [if_neg (by omega), if_pos hlt]
    unfold F121.k1
    have hs : Int.toNat (i : Int) < (bs f.fixed).size := by rw [bs_size]; simpa using hlt
    try simp (disch := omega) only [cnd_bool, on_some_eq, Dr_eq, xNil_ptr, xNil_func, xNil_yield, xPick_bool, unw_nil, xRes_ptr, xUn_not, xUn_neg, xEx_tuple, xBin_add, xBin_sub, xBin_mul, xBin_eql, xBin_neq, xBin_lss, xBin_leq, xBin_gtr, xBin_geq, xBin_eqls, xBin_neqs, wI64, oCell_some, List.getElem?_toArray, List.getElem?_cons_zero, List.getElem?_cons_succ, Nat.zero_add, Bool.not_true, Bool.not_false, if_true, if_false, ite_true, ite_false, beq_iff_eq, bne_iff_ne, decide_eq_true_eq, ne_eq, Bool.false_eq_true, Bool.true_eq_false, reduceIte, Option.some.injEq, Int.toNat_natCast, beq_self_eq_true, bne_self_eq_false, Value.cells, splice, List.setIfInBounds_toArray, List.set_cons_zero, List.set_cons_succ, List.size_toArray, List.length_cons, List.length_nil, and_self, Nat.reduceLeDiff, Nat.reduceAdd, Nat.reduceMul, Int.reduceToNat, Int.reduceLT, Int.reduceLE, Int.reduceGT, Int.reduceGE, Int.reduceAdd, Int.reduceSub, Int.reduceMul, Int.reduceNeg, Int.reduceEq, Int.reduceNe, true_and, and_true, Int.cast_ofNat_Int, Nat.le_refl, hf, ld3, ld5, ld9, ln9, ix9, ld77, fa77_0, fa77_2, fa77_3, fa77_4, fa77_5, fa77_6, fa77_7, bd77, bd77_0_1_2_3_4_5_6_7, bd77_0_1_4_5_7, ld115, fa115_1, bd115, bd115_0_1, ld174, fa174_0, bd174_0, ld175, ld180, ln180, ia180, ow2, ow3, ow4, ow5, ow6, ow8, ow11, ow20, ow23, cv5_3, ix9 _ _ _ (Int.natCast_nonneg i) hs]
    refine ⟨?_, h.drop⟩
    rw [bs_get]
    simp [hlt]
  · rw [if_pos (by omega), if_neg hlt]
    exact ⟨rfl, h.drop⟩
theorem c_rest {w0 w : World} {L : List (Nat × Obj)} (h : So w0 w L) (f : Form) (hf : okF f = true) (op : Int) (i : Nat) (hi : i ≤ 1099511627776) :
    Cx P 122 #[f.v op, .int .i64 (i : Int)] w fun v w => v = .int .u8 (if i < f.fixed.length then 0 else restL f (i - f.fixed.length)) ∧ So w0 w L := by
  apply F122_ok
  unfold F122 Form.v
  simp only [okF, Bool.and_eq_true, decide_eq_true_eq] at hf
  obtain ⟨⟨⟨⟨⟨_, _⟩, hl1⟩, hl2⟩, hm1, hm2⟩, _⟩ := hf
  refine soBox h fun b w h => ?_
  try simp only [Facts, and_true, Value.cells, List.setIfInBounds_toArray, List.set_cons_zero, List.set_cons_succ, splice, Nat.zero_add, Nat.reduceAdd, List.cons_append, List.nil_append] at h
  have hf := h.facts
  simp only [Facts, and_true, Value.cells, List.setIfInBounds_toArray, List.set_cons_zero, List.set_cons_succ, splice, Nat.zero_add, Nat.reduceAdd, List.cons_append, List.nil_append] at hf
  try simp (disch := omega) only [cnd_bool, on_some_eq, Dr_eq, xNil_ptr, xNil_func, xNil_yield, xPick_bool, unw_nil, xRes_ptr, xUn_not, xUn_neg, xEx_tuple, xBin_add, xBin_sub, xBin_mul, xBin_eql, xBin_neq, xBin_lss, xBin_leq, xBin_gtr, xBin_geq, xBin_eqls, xBin_neqs, wI64, oCell_some, List.getElem?_toArray, List.getElem?_cons_zero, List.getElem?_cons_succ, Nat.zero_add, Bool.not_true, Bool.not_false, if_true, if_false, ite_true, ite_false, beq_iff_eq, bne_iff_ne, decide_eq_true_eq, ne_eq, Bool.false_eq_true, Bool.true_eq_false, reduceIte, Option.some.injEq, Int.toNat_natCast, beq_self_eq_true, bne_self_eq_false, Value.cells, splice, List.setIfInBounds_toArray, List.set_cons_zero, List.set_cons_succ, List.size_toArray, List.length_cons, List.length_nil, and_self, Nat.reduceLeDiff, Nat.reduceAdd, Nat.reduceMul, Int.reduceToNat, Int.reduceLT, Int.reduceLE, Int.reduceGT, Int.reduceGE, Int.reduceAdd, Int.reduceSub, Int.reduceMul, Int.reduceNeg, Int.reduceEq, Int.reduceNe, true_and, and_true, Int.cast_ofNat_Int, Nat.le_refl, hf, ld3, ld5, ld9, ln9, ix9, ld77, fa77_0, fa77_2, fa77_3, fa77_4, fa77_5, fa77_6, fa77_7, bd77, bd77_0_1_2_3_4_5_6_7, bd77_0_1_4_5_7, ld115, fa115_1, bd115, bd115_0_1, ld174, fa174_0, bd174_0, ld175, ld180, ln180, ia180, ow2, ow3, ow4, ow5, ow6, ow8, ow11, ow20, ow23, cv5_3, bs_size, bs_toList]
  by_cases hlt : i < f.fixed.length
  · rw [if_pos (by omega), if_pos hlt]
    exact ⟨rfl, h.drop⟩
  · rw [if_neg (by omega), if_neg hlt]
    unfold restL
    by_cases hr : f.rest = []
    · rw [if_pos hr]
      rw [if_pos hr]
      exact ⟨rfl, h.drop⟩
    · rw [if_neg hr]
      rw [if_neg hr]
      have hpos : 0 < f.rest.length := List.length_pos_iff.2 hr
      obtain ⟨k, hk⟩ : ∃ k : Nat, (i : Int) - (f.fixed.length : Int) = (k : Int) := ⟨i - f.fixed.length, by omega⟩
      have hk' : i - f.fixed.length = k := by omega
      rw [hk, hk']
      have key : ∀ w, So w0 w ((b, cl #[.int .u16 op, .string (bs f.name), .bool f.ty, .bool f.res, .string (bs f.fixed), .string (bs f.rest), .int .i64 f.most, .int .u8 f.part] 174) :: L) →
          F122.k1 (fun v w => v = .int .u8 (((f.rest[k % f.rest.length]?).getD 0).toNat : Int) ∧ So w0 w L) (.int .i64 (k : Int)) (.pointer (some ⟨b, 0, none⟩)) w := by
        intro w h
        unfold F122.k1
        have h := h.drew
        have hf := h.facts
        simp only [Facts] at hf
        have hmod : (k : Int).tmod (f.rest.length : Int) = ((k % f.rest.length : Nat) : Int) := by
          rw [Int.tmod_eq_emod_of_nonneg (by omega)]; rfl
        have hs : Int.toNat ((k % f.rest.length : Nat) : Int) < (bs f.rest).size := by
          rw [bs_size]; have := Nat.mod_lt k hpos; omega
        try simp (disch := omega) only [cnd_bool, on_some_eq, Dr_eq, xNil_ptr, xNil_func, xNil_yield, xPick_bool, unw_nil, xRes_ptr, xUn_not, xUn_neg, xEx_tuple, xBin_add, xBin_sub, xBin_mul, xBin_eql, xBin_neq, xBin_lss, xBin_leq, xBin_gtr, xBin_geq, xBin_eqls, xBin_neqs, wI64, oCell_some, List.getElem?_toArray, List.getElem?_cons_zero, List.getElem?_cons_succ, Nat.zero_add, Bool.not_true, Bool.not_false, if_true, if_false, ite_true, ite_false, beq_iff_eq, bne_iff_ne, decide_eq_true_eq, ne_eq, Bool.false_eq_true, Bool.true_eq_false, reduceIte, Option.some.injEq, Int.toNat_natCast, beq_self_eq_true, bne_self_eq_false, Value.cells, splice, List.setIfInBounds_toArray, List.set_cons_zero, List.set_cons_succ, List.size_toArray, List.length_cons, List.length_nil, and_self, Nat.reduceLeDiff, Nat.reduceAdd, Nat.reduceMul, Int.reduceToNat, Int.reduceLT, Int.reduceLE, Int.reduceGT, Int.reduceGE, Int.reduceAdd, Int.reduceSub, Int.reduceMul, Int.reduceNeg, Int.reduceEq, Int.reduceNe, true_and, and_true, Int.cast_ofNat_Int, Nat.le_refl, hf, ld3, ld5, ld9, ln9, ix9, ld77, fa77_0, fa77_2, fa77_3, fa77_4, fa77_5, fa77_6, fa77_7, bd77, bd77_0_1_2_3_4_5_6_7, bd77_0_1_4_5_7, ld115, fa115_1, bd115, bd115_0_1, ld174, fa174_0, bd174_0, ld175, ld180, ln180, ia180, ow2, ow3, ow4, ow5, ow6, ow8, ow11, ow20, ow23, cv5_3, bs_size]
        rw [xBin_rem _ _ _ _ _ _ (by omega), hmod]
        try simp (disch := omega) only [cnd_bool, on_some_eq, Dr_eq, xNil_ptr, xNil_func, xNil_yield, xPick_bool, unw_nil, xRes_ptr, xUn_not, xUn_neg, xEx_tuple, xBin_add, xBin_sub, xBin_mul, xBin_eql, xBin_neq, xBin_lss, xBin_leq, xBin_gtr, xBin_geq, xBin_eqls, xBin_neqs, wI64, oCell_some, List.getElem?_toArray, List.getElem?_cons_zero, List.getElem?_cons_succ, Nat.zero_add, Bool.not_true, Bool.not_false, if_true, if_false, ite_true, ite_false, beq_iff_eq, bne_iff_ne, decide_eq_true_eq, ne_eq, Bool.false_eq_true, Bool.true_eq_false, reduceIte, Option.some.injEq, Int.toNat_natCast, beq_self_eq_true, bne_self_eq_false, Value.cells, splice, List.setIfInBounds_toArray, List.set_cons_zero, List.set_cons_succ, List.size_toArray, List.length_cons, List.length_nil, and_self, Nat.reduceLeDiff, Nat.reduceAdd, Nat.reduceMul, Int.reduceToNat, Int.reduceLT, Int.reduceLE, Int.reduceGT, Int.reduceGE, Int.reduceAdd, Int.reduceSub, Int.reduceMul, Int.reduceNeg, Int.reduceEq, Int.reduceNe, true_and, and_true, Int.cast_ofNat_Int, Nat.le_refl, hf, ld3, ld5, ld9, ln9, ix9, ld77, fa77_0, fa77_2, fa77_3, fa77_4, fa77_5, fa77_6, fa77_7, bd77, bd77_0_1_2_3_4_5_6_7, bd77_0_1_4_5_7, ld115, fa115_1, bd115, bd115_0_1, ld174, fa174_0, bd174_0, ld175, ld180, ln180, ia180, ow2, ow3, ow4, ow5, ow6, ow8, ow11, ow20, ow23, cv5_3, ix9 _ _ _ (Int.natCast_nonneg (k % f.rest.length)) hs]
        refine ⟨?_, h.drop⟩
        rw [bs_get]
        simp [Nat.mod_lt k hpos]
      have hb1 : f.most * (f.rest.length : Int) ≤ 10000 := by
        have := Int.mul_le_mul hm2 (show (f.rest.length : Int) ≤ 100 by omega) (by omega) (by omega); simpa using this
      have hb0 : 0 ≤ f.most * (f.rest.length : Int) := Int.mul_nonneg hm1 (by omega)
      try simp (disch := omega) only [cnd_bool, on_some_eq, Dr_eq, xNil_ptr, xNil_func, xNil_yield, xPick_bool, unw_nil, xRes_ptr, xUn_not, xUn_neg, xEx_tuple, xBin_add, xBin_sub, xBin_mul, xBin_eql, xBin_neq, xBin_lss, xBin_leq, xBin_gtr, xBin_geq, xBin_eqls, xBin_neqs, wI64, oCell_some, List.getElem?_toArray, List.getElem?_cons_zero, List.getElem?_cons_succ, Nat.zero_add, Bool.not_true, Bool.not_false, if_true, if_false, ite_true, ite_false, beq_iff_eq, bne_iff_ne, decide_eq_true_eq, ne_eq, Bool.false_eq_true, Bool.true_eq_false, reduceIte, Option.some.injEq, Int.toNat_natCast, beq_self_eq_true, bne_self_eq_false, Value.cells, splice, List.setIfInBounds_toArray, List.set_cons_zero, List.set_cons_succ, List.size_toArray, List.length_cons, List.length_nil, and_self, Nat.reduceLeDiff, Nat.reduceAdd, Nat.reduceMul, Int.reduceToNat, Int.reduceLT, Int.reduceLE, Int.reduceGT, Int.reduceGE, Int.reduceAdd, Int.reduceSub, Int.reduceMul, Int.reduceNeg, Int.reduceEq, Int.reduceNe, true_and, and_true, Int.cast_ofNat_Int, Nat.le_refl, hf, ld3, ld5, ld9, ln9, ix9, ld77, fa77_0, fa77_2, fa77_3, fa77_4, fa77_5, fa77_6, fa77_7, bd77, bd77_0_1_2_3_4_5_6_7, bd77_0_1_4_5_7, ld115, fa115_1, bd115, bd115_0_1, ld174, fa174_0, bd174_0, ld175, ld180, ln180, ia180, ow2, ow3, ow4, ow5, ow6, ow8, ow11, ow20, ow23, cv5_3, bs_size]
      by_cases hm : 0 < f.most
      · rw [if_pos hm]
        by_cases hge : f.most * (f.rest.length : Int) ≤ (k : Int)
        · rw [if_pos (by omega), if_pos ⟨hm, hge⟩]
          exact ⟨rfl, h.drop⟩
        · rw [if_neg (by omega), if_neg (fun hh => hge hh.2)]
          exact key w h
      · rw [if_neg hm, if_neg (fun hh => hm hh.1)]
        exact key w h

theorem letterF_fixed_ne {f : Form} (hf : okF f = true) {i : Nat} (hi : i < f.fixed.length) : letterF f i ≠ 0 := by
  unfold letterF
  rw [if_pos hi]
  simp only [okF, Bool.and_eq_true, List.all_eq_true, decide_eq_true_eq] at hf
  have := hf.1.1.1.1.1 f.fixed[i] (List.getElem_mem hi)
  simp [hi]; omega
theorem letterF_range (f : Form) (i : Nat) : 0 ≤ letterF f i ∧ letterF f i < 256 := by
  unfold letterF restL
  repeat' split
  all_goals first | (constructor <;> omega) | (constructor; omega; exact_mod_cast UInt8.toNat_lt _)
theorem c_letterM {w0 w : World} {L : List (Nat × Obj)} (h : So w0 w L) (f : Form) (hok : okF f = true) (op : Int) (i : Nat) (hi : i ≤ 1099511627776) :
    Cx P 115 #[f.v op, .int .i64 (i : Int)] w fun v w => v = .int .u8 (letterF f i) ∧ So w0 w L := by
  apply F115_ok
  unfold F115
  rw [Form.v_size]
  refine soBox h fun b w h => ?_
  try simp only [Facts, and_true, Value.cells, List.setIfInBounds_toArray, List.set_cons_zero, List.set_cons_succ, splice, Nat.zero_add, Nat.reduceAdd, List.cons_append, List.nil_append] at h
  have hf := h.facts
  simp only [Facts, and_true, Value.cells, List.setIfInBounds_toArray, List.set_cons_zero, List.set_cons_succ, splice, Nat.zero_add, Nat.reduceAdd, List.cons_append, List.nil_append] at hf
  try simp (disch := omega) only [cnd_bool, on_some_eq, Dr_eq, xNil_ptr, xNil_func, xNil_yield, xPick_bool, unw_nil, xRes_ptr, xUn_not, xUn_neg, xEx_tuple, xBin_add, xBin_sub, xBin_mul, xBin_eql, xBin_neq, xBin_lss, xBin_leq, xBin_gtr, xBin_geq, xBin_eqls, xBin_neqs, wI64, oCell_some, List.getElem?_toArray, List.getElem?_cons_zero, List.getElem?_cons_succ, Nat.zero_add, Bool.not_true, Bool.not_false, if_true, if_false, ite_true, ite_false, beq_iff_eq, bne_iff_ne, decide_eq_true_eq, ne_eq, Bool.false_eq_true, Bool.true_eq_false, reduceIte, Option.some.injEq, Int.toNat_natCast, beq_self_eq_true, bne_self_eq_false, Value.cells, splice, List.setIfInBounds_toArray, List.set_cons_zero, List.set_cons_succ, List.size_toArray, List.length_cons, List.length_nil, and_self, Nat.reduceLeDiff, Nat.reduceAdd, Nat.reduceMul, Int.reduceToNat, Int.reduceLT, Int.reduceLE, Int.reduceGT, Int.reduceGE, Int.reduceAdd, Int.reduceSub, Int.reduceMul, Int.reduceNeg, Int.reduceEq, Int.reduceNe, true_and, and_true, Int.cast_ofNat_Int, Nat.le_refl, hf, ld3, ld5, ld9, ln9, ix9, ld77, fa77_0, fa77_2, fa77_3, fa77_4, fa77_5, fa77_6, fa77_7, bd77, bd77_0_1_2_3_4_5_6_7, bd77_0_1_4_5_7, ld115, fa115_1, bd115, bd115_0_1, ld174, fa174_0, bd174_0, ld175, ld180, ln180, ia180, ow2, ow3, ow4, ow5, ow6, ow8, ow11, ow20, ow23, cv5_3]
  rw [if_neg (by omega)]
  unfold F115.k1
  try simp (disch := omega) only [cnd_bool, on_some_eq, Dr_eq, xNil_ptr, xNil_func, xNil_yield, xPick_bool, unw_nil, xRes_ptr, xUn_not, xUn_neg, xEx_tuple, xBin_add, xBin_sub, xBin_mul, xBin_eql, xBin_neq, xBin_lss, xBin_leq, xBin_gtr, xBin_geq, xBin_eqls, xBin_neqs, wI64, oCell_some, List.getElem?_toArray, List.getElem?_cons_zero, List.getElem?_cons_succ, Nat.zero_add, Bool.not_true, Bool.not_false, if_true, if_false, ite_true, ite_false, beq_iff_eq, bne_iff_ne, decide_eq_true_eq, ne_eq, Bool.false_eq_true, Bool.true_eq_false, reduceIte, Option.some.injEq, Int.toNat_natCast, beq_self_eq_true, bne_self_eq_false, Value.cells, splice, List.setIfInBounds_toArray, List.set_cons_zero, List.set_cons_succ, List.size_toArray, List.length_cons, List.length_nil, and_self, Nat.reduceLeDiff, Nat.reduceAdd, Nat.reduceMul, Int.reduceToNat, Int.reduceLT, Int.reduceLE, Int.reduceGT, Int.reduceGE, Int.reduceAdd, Int.reduceSub, Int.reduceMul, Int.reduceNeg, Int.reduceEq, Int.reduceNe, true_and, and_true, Int.cast_ofNat_Int, Nat.le_refl, hf, ld3, ld5, ld9, ln9, ix9, ld77, fa77_0, fa77_2, fa77_3, fa77_4, fa77_5, fa77_6, fa77_7, bd77, bd77_0_1_2_3_4_5_6_7, bd77_0_1_4_5_7, ld115, fa115_1, bd115, bd115_0_1, ld174, fa174_0, bd174_0, ld175, ld180, ln180, ia180, ow2, ow3, ow4, ow5, ow6, ow8, ow11, ow20, ow23, cv5_3]
  refine soBSn (cells := #[.func (.func 121) #[f.v op] #[], .func (.func 122) #[f.v op] #[]]) un180 rw180 (by decide) (by decide) (by kernel_rfl) h fun y w h => ?_
  have hf := h.facts
  simp only [Facts] at hf
  unfold F115.k3
  try simp (disch := omega) only [cnd_bool, on_some_eq, Dr_eq, xNil_ptr, xNil_func, xNil_yield, xPick_bool, unw_nil, xRes_ptr, xUn_not, xUn_neg, xEx_tuple, xBin_add, xBin_sub, xBin_mul, xBin_eql, xBin_neq, xBin_lss, xBin_leq, xBin_gtr, xBin_geq, xBin_eqls, xBin_neqs, wI64, oCell_some, List.getElem?_toArray, List.getElem?_cons_zero, List.getElem?_cons_succ, Nat.zero_add, Bool.not_true, Bool.not_false, if_true, if_false, ite_true, ite_false, beq_iff_eq, bne_iff_ne, decide_eq_true_eq, ne_eq, Bool.false_eq_true, Bool.true_eq_false, reduceIte, Option.some.injEq, Int.toNat_natCast, beq_self_eq_true, bne_self_eq_false, Value.cells, splice, List.setIfInBounds_toArray, List.set_cons_zero, List.set_cons_succ, List.size_toArray, List.length_cons, List.length_nil, and_self, Nat.reduceLeDiff, Nat.reduceAdd, Nat.reduceMul, Int.reduceToNat, Int.reduceLT, Int.reduceLE, Int.reduceGT, Int.reduceGE, Int.reduceAdd, Int.reduceSub, Int.reduceMul, Int.reduceNeg, Int.reduceEq, Int.reduceNe, true_and, and_true, Int.cast_ofNat_Int, Nat.le_refl, hf, ld3, ld5, ld9, ln9, ix9, ld77, fa77_0, fa77_2, fa77_3, fa77_4, fa77_5, fa77_6, fa77_7, bd77, bd77_0_1_2_3_4_5_6_7, bd77_0_1_4_5_7, ld115, fa115_1, bd115, bd115_0_1, ld174, fa174_0, bd174_0, ld175, ld180, ln180, ia180, ow2, ow3, ow4, ow5, ow6, ow8, ow11, ow20, ow23, cv5_3]
  refine ⟨3, ?_⟩
  unfold F115.l1
  try simp (disch := omega) only [cnd_bool, on_some_eq, Dr_eq, xNil_ptr, xNil_func, xNil_yield, xPick_bool, unw_nil, xRes_ptr, xUn_not, xUn_neg, xEx_tuple, xBin_add, xBin_sub, xBin_mul, xBin_eql, xBin_neq, xBin_lss, xBin_leq, xBin_gtr, xBin_geq, xBin_eqls, xBin_neqs, wI64, oCell_some, List.getElem?_toArray, List.getElem?_cons_zero, List.getElem?_cons_succ, Nat.zero_add, Bool.not_true, Bool.not_false, if_true, if_false, ite_true, ite_false, beq_iff_eq, bne_iff_ne, decide_eq_true_eq, ne_eq, Bool.false_eq_true, Bool.true_eq_false, reduceIte, Option.some.injEq, Int.toNat_natCast, beq_self_eq_true, bne_self_eq_false, Value.cells, splice, List.setIfInBounds_toArray, List.set_cons_zero, List.set_cons_succ, List.size_toArray, List.length_cons, List.length_nil, and_self, Nat.reduceLeDiff, Nat.reduceAdd, Nat.reduceMul, Int.reduceToNat, Int.reduceLT, Int.reduceLE, Int.reduceGT, Int.reduceGE, Int.reduceAdd, Int.reduceSub, Int.reduceMul, Int.reduceNeg, Int.reduceEq, Int.reduceNe, true_and, and_true, Int.cast_ofNat_Int, Nat.le_refl, hf, ld3, ld5, ld9, ln9, ix9, ld77, fa77_0, fa77_2, fa77_3, fa77_4, fa77_5, fa77_6, fa77_7, bd77, bd77_0_1_2_3_4_5_6_7, bd77_0_1_4_5_7, ld115, fa115_1, bd115, bd115_0_1, ld174, fa174_0, bd174_0, ld175, ld180, ln180, ia180, ow2, ow3, ow4, ow5, ow6, ow8, ow11, ow20, ow23, cv5_3]
  try rw [if_pos (by decide)]
  try simp (disch := omega) only [cnd_bool, on_some_eq, Dr_eq, xNil_ptr, xNil_func, xNil_yield, xPick_bool, unw_nil, xRes_ptr, xUn_not, xUn_neg, xEx_tuple, xBin_add, xBin_sub, xBin_mul, xBin_eql, xBin_neq, xBin_lss, xBin_leq, xBin_gtr, xBin_geq, xBin_eqls, xBin_neqs, wI64, oCell_some, List.getElem?_toArray, List.getElem?_cons_zero, List.getElem?_cons_succ, Nat.zero_add, Bool.not_true, Bool.not_false, if_true, if_false, ite_true, ite_false, beq_iff_eq, bne_iff_ne, decide_eq_true_eq, ne_eq, Bool.false_eq_true, Bool.true_eq_false, reduceIte, Option.some.injEq, Int.toNat_natCast, beq_self_eq_true, bne_self_eq_false, Value.cells, splice, List.setIfInBounds_toArray, List.set_cons_zero, List.set_cons_succ, List.size_toArray, List.length_cons, List.length_nil, and_self, Nat.reduceLeDiff, Nat.reduceAdd, Nat.reduceMul, Int.reduceToNat, Int.reduceLT, Int.reduceLE, Int.reduceGT, Int.reduceGE, Int.reduceAdd, Int.reduceSub, Int.reduceMul, Int.reduceNeg, Int.reduceEq, Int.reduceNe, true_and, and_true, Int.cast_ofNat_Int, Nat.le_refl, hf, ld3, ld5, ld9, ln9, ix9, ld77, fa77_0, fa77_2, fa77_3, fa77_4, fa77_5, fa77_6, fa77_7, bd77, bd77_0_1_2_3_4_5_6_7, bd77_0_1_4_5_7, ld115, fa115_1, bd115, bd115_0_1, ld174, fa174_0, bd174_0, ld175, ld180, ln180, ia180, ow2, ow3, ow4, ow5, ow6, ow8, ow11, ow20, ow23, cv5_3]
  refine callV_func (by kernel_rfl) ?_
  refine Cx.mono (c_fixed h f hok op i hi) fun v w hv => ?_
  obtain ⟨rfl, h⟩ := hv
  try simp (disch := omega) only [cnd_bool, on_some_eq, Dr_eq, xNil_ptr, xNil_func, xNil_yield, xPick_bool, unw_nil, xRes_ptr, xUn_not, xUn_neg, xEx_tuple, xBin_add, xBin_sub, xBin_mul, xBin_eql, xBin_neq, xBin_lss, xBin_leq, xBin_gtr, xBin_geq, xBin_eqls, xBin_neqs, wI64, oCell_some, List.getElem?_toArray, List.getElem?_cons_zero, List.getElem?_cons_succ, Nat.zero_add, Bool.not_true, Bool.not_false, if_true, if_false, ite_true, ite_false, beq_iff_eq, bne_iff_ne, decide_eq_true_eq, ne_eq, Bool.false_eq_true, Bool.true_eq_false, reduceIte, Option.some.injEq, Int.toNat_natCast, beq_self_eq_true, bne_self_eq_false, Value.cells, splice, List.setIfInBounds_toArray, List.set_cons_zero, List.set_cons_succ, List.size_toArray, List.length_cons, List.length_nil, and_self, Nat.reduceLeDiff, Nat.reduceAdd, Nat.reduceMul, Int.reduceToNat, Int.reduceLT, Int.reduceLE, Int.reduceGT, Int.reduceGE, Int.reduceAdd, Int.reduceSub, Int.reduceMul, Int.reduceNeg, Int.reduceEq, Int.reduceNe, true_and, and_true, Int.cast_ofNat_Int, Nat.le_refl, ld3, ld5, ld9, ln9, ix9, ld77, fa77_0, fa77_2, fa77_3, fa77_4, fa77_5, fa77_6, fa77_7, bd77, bd77_0_1_2_3_4_5_6_7, bd77_0_1_4_5_7, ld115, fa115_1, bd115, bd115_0_1, ld174, fa174_0, bd174_0, ld175, ld180, ln180, ia180, ow2, ow3, ow4, ow5, ow6, ow8, ow11, ow20, ow23, cv5_3]
  by_cases hlt : i < f.fixed.length
  · have hne := letterF_fixed_ne hok hlt
    have hl : letterF f i = (((f.fixed[i]?).getD 0).toNat : Int) := by unfold letterF; rw [if_pos hlt]
    rw [if_pos hlt, ← hl, if_pos hne]
    exact ⟨rfl, h.drop.drop⟩
  · have hl : letterF f i = restL f (i - f.fixed.length) := by unfold letterF; rw [if_neg hlt]
    rw [if_neg hlt]
    simp only [not_true_eq_false, if_false]
    have hf := h.facts
    simp only [Facts] at hf
    unfold F115.l1
    try simp (disch := omega) only [cnd_bool, on_some_eq, Dr_eq, xNil_ptr, xNil_func, xNil_yield, xPick_bool, unw_nil, xRes_ptr, xUn_not, xUn_neg, xEx_tuple, xBin_add, xBin_sub, xBin_mul, xBin_eql, xBin_neq, xBin_lss, xBin_leq, xBin_gtr, xBin_geq, xBin_eqls, xBin_neqs, wI64, oCell_some, List.getElem?_toArray, List.getElem?_cons_zero, List.getElem?_cons_succ, Nat.zero_add, Bool.not_true, Bool.not_false, if_true, if_false, ite_true, ite_false, beq_iff_eq, bne_iff_ne, decide_eq_true_eq, ne_eq, Bool.false_eq_true, Bool.true_eq_false, reduceIte, Option.some.injEq, Int.toNat_natCast, beq_self_eq_true, bne_self_eq_false, Value.cells, splice, List.setIfInBounds_toArray, List.set_cons_zero, List.set_cons_succ, List.size_toArray, List.length_cons, List.length_nil, and_self, Nat.reduceLeDiff, Nat.reduceAdd, Nat.reduceMul, Int.reduceToNat, Int.reduceLT, Int.reduceLE, Int.reduceGT, Int.reduceGE, Int.reduceAdd, Int.reduceSub, Int.reduceMul, Int.reduceNeg, Int.reduceEq, Int.reduceNe, true_and, and_true, Int.cast_ofNat_Int, Nat.le_refl, hf, ld3, ld5, ld9, ln9, ix9, ld77, fa77_0, fa77_2, fa77_3, fa77_4, fa77_5, fa77_6, fa77_7, bd77, bd77_0_1_2_3_4_5_6_7, bd77_0_1_4_5_7, ld115, fa115_1, bd115, bd115_0_1, ld174, fa174_0, bd174_0, ld175, ld180, ln180, ia180, ow2, ow3, ow4, ow5, ow6, ow8, ow11, ow20, ow23, cv5_3]
    try rw [if_pos (by decide)]
    try simp (disch := omega) only [cnd_bool, on_some_eq, Dr_eq, xNil_ptr, xNil_func, xNil_yield, xPick_bool, unw_nil, xRes_ptr, xUn_not, xUn_neg, xEx_tuple, xBin_add, xBin_sub, xBin_mul, xBin_eql, xBin_neq, xBin_lss, xBin_leq, xBin_gtr, xBin_geq, xBin_eqls, xBin_neqs, wI64, oCell_some, List.getElem?_toArray, List.getElem?_cons_zero, List.getElem?_cons_succ, Nat.zero_add, Bool.not_true, Bool.not_false, if_true, if_false, ite_true, ite_false, beq_iff_eq, bne_iff_ne, decide_eq_true_eq, ne_eq, Bool.false_eq_true, Bool.true_eq_false, reduceIte, Option.some.injEq, Int.toNat_natCast, beq_self_eq_true, bne_self_eq_false, Value.cells, splice, List.setIfInBounds_toArray, List.set_cons_zero, List.set_cons_succ, List.size_toArray, List.length_cons, List.length_nil, and_self, Nat.reduceLeDiff, Nat.reduceAdd, Nat.reduceMul, Int.reduceToNat, Int.reduceLT, Int.reduceLE, Int.reduceGT, Int.reduceGE, Int.reduceAdd, Int.reduceSub, Int.reduceMul, Int.reduceNeg, Int.reduceEq, Int.reduceNe, true_and, and_true, Int.cast_ofNat_Int, Nat.le_refl, hf, ld3, ld5, ld9, ln9, ix9, ld77, fa77_0, fa77_2, fa77_3, fa77_4, fa77_5, fa77_6, fa77_7, bd77, bd77_0_1_2_3_4_5_6_7, bd77_0_1_4_5_7, ld115, fa115_1, bd115, bd115_0_1, ld174, fa174_0, bd174_0, ld175, ld180, ln180, ia180, ow2, ow3, ow4, ow5, ow6, ow8, ow11, ow20, ow23, cv5_3]
    refine callV_func (by kernel_rfl) ?_
    refine Cx.mono (c_rest h f hok op i hi) fun v w hv => ?_
    obtain ⟨rfl, h⟩ := hv
    try simp (disch := omega) only [cnd_bool, on_some_eq, Dr_eq, xNil_ptr, xNil_func, xNil_yield, xPick_bool, unw_nil, xRes_ptr, xUn_not, xUn_neg, xEx_tuple, xBin_add, xBin_sub, xBin_mul, xBin_eql, xBin_neq, xBin_lss, xBin_leq, xBin_gtr, xBin_geq, xBin_eqls, xBin_neqs, wI64, oCell_some, List.getElem?_toArray, List.getElem?_cons_zero, List.getElem?_cons_succ, Nat.zero_add, Bool.not_true, Bool.not_false, if_true, if_false, ite_true, ite_false, beq_iff_eq, bne_iff_ne, decide_eq_true_eq, ne_eq, Bool.false_eq_true, Bool.true_eq_false, reduceIte, Option.some.injEq, Int.toNat_natCast, beq_self_eq_true, bne_self_eq_false, Value.cells, splice, List.setIfInBounds_toArray, List.set_cons_zero, List.set_cons_succ, List.size_toArray, List.length_cons, List.length_nil, and_self, Nat.reduceLeDiff, Nat.reduceAdd, Nat.reduceMul, Int.reduceToNat, Int.reduceLT, Int.reduceLE, Int.reduceGT, Int.reduceGE, Int.reduceAdd, Int.reduceSub, Int.reduceMul, Int.reduceNeg, Int.reduceEq, Int.reduceNe, true_and, and_true, Int.cast_ofNat_Int, Nat.le_refl, ld3, ld5, ld9, ln9, ix9, ld77, fa77_0, fa77_2, fa77_3, fa77_4, fa77_5, fa77_6, fa77_7, bd77, bd77_0_1_2_3_4_5_6_7, bd77_0_1_4_5_7, ld115, fa115_1, bd115, bd115_0_1, ld174, fa174_0, bd174_0, ld175, ld180, ln180, ia180, ow2, ow3, ow4, ow5, ow6, ow8, ow11, ow20, ow23, cv5_3]
    rw [if_neg hlt, ← hl]
    by_cases h0 : letterF f i = 0
    · rw [if_neg (by simpa using h0)]
      unfold F115.l1
      try simp (disch := omega) only [cnd_bool, on_some_eq, Dr_eq, xNil_ptr, xNil_func, xNil_yield, xPick_bool, unw_nil, xRes_ptr, xUn_not, xUn_neg, xEx_tuple, xBin_add, xBin_sub, xBin_mul, xBin_eql, xBin_neq, xBin_lss, xBin_leq, xBin_gtr, xBin_geq, xBin_eqls, xBin_neqs, wI64, oCell_some, List.getElem?_toArray, List.getElem?_cons_zero, List.getElem?_cons_succ, Nat.zero_add, Bool.not_true, Bool.not_false, if_true, if_false, ite_true, ite_false, beq_iff_eq, bne_iff_ne, decide_eq_true_eq, ne_eq, Bool.false_eq_true, Bool.true_eq_false, reduceIte, Option.some.injEq, Int.toNat_natCast, beq_self_eq_true, bne_self_eq_false, Value.cells, splice, List.setIfInBounds_toArray, List.set_cons_zero, List.set_cons_succ, List.size_toArray, List.length_cons, List.length_nil, and_self, Nat.reduceLeDiff, Nat.reduceAdd, Nat.reduceMul, Int.reduceToNat, Int.reduceLT, Int.reduceLE, Int.reduceGT, Int.reduceGE, Int.reduceAdd, Int.reduceSub, Int.reduceMul, Int.reduceNeg, Int.reduceEq, Int.reduceNe, true_and, and_true, Int.cast_ofNat_Int, Nat.le_refl, ld3, ld5, ld9, ln9, ix9, ld77, fa77_0, fa77_2, fa77_3, fa77_4, fa77_5, fa77_6, fa77_7, bd77, bd77_0_1_2_3_4_5_6_7, bd77_0_1_4_5_7, ld115, fa115_1, bd115, bd115_0_1, ld174, fa174_0, bd174_0, ld175, ld180, ln180, ia180, ow2, ow3, ow4, ow5, ow6, ow8, ow11, ow20, ow23, cv5_3]
      try rw [if_neg (by decide)]
      unfold F115.k2
      rw [h0]
      exact ⟨rfl, h.drop.drop⟩
    · rw [if_pos h0]
      exact ⟨rfl, h.drop.drop⟩
theorem c_letter {w0 w : World} {L : List (Nat × Obj)} (h : So w0 w L) (op : Int) (i : Nat) (hi : i ≤ 1099511627776) :
    Cx P 106 #[.int .u16 op, .int .i64 (i : Int)] w fun v w => v = .int .u8 (letterOf op i) ∧ So w0 w L := by
  apply F106_ok
  unfold F106
  refine Cx.mono (c_of h op) fun v w hv => ?_
  obtain ⟨rfl, h⟩ := hv
  obtain ⟨op', he⟩ := ofV_D op
  rw [he, Form.v_size]
  try simp (disch := omega) only [cnd_bool, on_some_eq, Dr_eq, xNil_ptr, xNil_func, xNil_yield, xPick_bool, unw_nil, xRes_ptr, xUn_not, xUn_neg, xEx_tuple, xBin_add, xBin_sub, xBin_mul, xBin_eql, xBin_neq, xBin_lss, xBin_leq, xBin_gtr, xBin_geq, xBin_eqls, xBin_neqs, wI64, oCell_some, List.getElem?_toArray, List.getElem?_cons_zero, List.getElem?_cons_succ, Nat.zero_add, Bool.not_true, Bool.not_false, if_true, if_false, ite_true, ite_false, beq_iff_eq, bne_iff_ne, decide_eq_true_eq, ne_eq, Bool.false_eq_true, Bool.true_eq_false, reduceIte, Option.some.injEq, Int.toNat_natCast, beq_self_eq_true, bne_self_eq_false, Value.cells, splice, List.setIfInBounds_toArray, List.set_cons_zero, List.set_cons_succ, List.size_toArray, List.length_cons, List.length_nil, and_self, Nat.reduceLeDiff, Nat.reduceAdd, Nat.reduceMul, Int.reduceToNat, Int.reduceLT, Int.reduceLE, Int.reduceGT, Int.reduceGE, Int.reduceAdd, Int.reduceSub, Int.reduceMul, Int.reduceNeg, Int.reduceEq, Int.reduceNe, true_and, and_true, Int.cast_ofNat_Int, Nat.le_refl, ld3, ld5, ld9, ln9, ix9, ld77, fa77_0, fa77_2, fa77_3, fa77_4, fa77_5, fa77_6, fa77_7, bd77, bd77_0_1_2_3_4_5_6_7, bd77_0_1_4_5_7, ld115, fa115_1, bd115, bd115_0_1, ld174, fa174_0, bd174_0, ld175, ld180, ln180, ia180, ow2, ow3, ow4, ow5, ow6, ow8, ow11, ow20, ow23, cv5_3]
  refine al77 h fun b w h => ?_
  try simp only [Facts, and_true, Value.cells, List.setIfInBounds_toArray, List.set_cons_zero, List.set_cons_succ, splice, Nat.zero_add, Nat.reduceAdd, List.cons_append, List.nil_append] at h
  have hf := h.facts
  simp only [Facts, and_true, Value.cells, List.setIfInBounds_toArray, List.set_cons_zero, List.set_cons_succ, splice, Nat.zero_add, Nat.reduceAdd, List.cons_append, List.nil_append] at hf
  refine soStoreA ty77 0 h (fun w h => ?_) rfl rfl rfl rfl
  simp only [List.set_cons_zero] at h
  have hf := h.facts
  simp only [Facts] at hf
  try simp (disch := omega) only [cnd_bool, on_some_eq, Dr_eq, xNil_ptr, xNil_func, xNil_yield, xPick_bool, unw_nil, xRes_ptr, xUn_not, xUn_neg, xEx_tuple, xBin_add, xBin_sub, xBin_mul, xBin_eql, xBin_neq, xBin_lss, xBin_leq, xBin_gtr, xBin_geq, xBin_eqls, xBin_neqs, wI64, oCell_some, List.getElem?_toArray, List.getElem?_cons_zero, List.getElem?_cons_succ, Nat.zero_add, Bool.not_true, Bool.not_false, if_true, if_false, ite_true, ite_false, beq_iff_eq, bne_iff_ne, decide_eq_true_eq, ne_eq, Bool.false_eq_true, Bool.true_eq_false, reduceIte, Option.some.injEq, Int.toNat_natCast, beq_self_eq_true, bne_self_eq_false, Value.cells, splice, List.setIfInBounds_toArray, List.set_cons_zero, List.set_cons_succ, List.size_toArray, List.length_cons, List.length_nil, and_self, Nat.reduceLeDiff, Nat.reduceAdd, Nat.reduceMul, Int.reduceToNat, Int.reduceLT, Int.reduceLE, Int.reduceGT, Int.reduceGE, Int.reduceAdd, Int.reduceSub, Int.reduceMul, Int.reduceNeg, Int.reduceEq, Int.reduceNe, true_and, and_true, Int.cast_ofNat_Int, Nat.le_refl, hf, ld3, ld5, ld9, ln9, ix9, ld77, fa77_0, fa77_2, fa77_3, fa77_4, fa77_5, fa77_6, fa77_7, bd77, bd77_0_1_2_3_4_5_6_7, bd77_0_1_4_5_7, ld115, fa115_1, bd115, bd115_0_1, ld174, fa174_0, bd174_0, ld175, ld180, ln180, ia180, ow2, ow3, ow4, ow5, ow6, ow8, ow11, ow20, ow23, cv5_3]
  refine Cx.mono (c_letterM h (formD op) (formD_ok op) op' i hi) fun v w hv => ?_
  obtain ⟨rfl, h⟩ := hv
  exact ⟨rfl, h.drop⟩
end Go.Proofs.Ytlmcppbpobnfjaa

