/-
  Layout: the parts and the kinds of instructions.
-/
import Derived.Test.YtlmcppbpobnfjaaLa
import Derived.Test.YtlmcppbpobnfjaaGo2
namespace Go.Proofs.Ytlmcppbpobnfjaa
open Go Go.Vc
set_option linter.unusedSimpArgs false
set_option linter.unusedVariables false
set_option maxRecDepth 20000

def partOf (op : Int) : Int := match formOf op with
  | some f => f.part
  | none => 0
def partP (i : Inst) : Int := if isVar i then 8 else partOf i.op
theorem forms_part : forms.all (fun x => match x.2 with | some f => decide (0 ≤ f.part ∧ f.part ≤ 8) | none => true) = true := by decide +kernel
theorem partOf_range (op : Int) : 0 ≤ partOf op ∧ partOf op ≤ 8 := by
  unfold partOf
  rcases look_mem none forms op with h | ⟨p, hp, h⟩
  · have : formOf op = none := h
    rw [this]; simp
  · have h2 := List.all_eq_true.1 forms_part p hp
    have : formOf op = p.2 := h.symm
    rw [this]
    cases hq : p.2 with
    | none => simp
    | some f => rw [hq] at h2; simpa using h2
theorem partP_range (i : Inst) : 0 ≤ partP i ∧ partP i ≤ 8 := by
  unfold partP
  split
  · omega
  · exact partOf_range _
theorem ofV_form (op : Int) : ∃ f b, ofV op = .tuple #[.agg f, .bool b] ∧ f.size = 8 ∧ f[7]? = some (.int .u8 (partOf op)) ∧ f.toList.all one1 = true := by
  unfold ofV partOf
  cases formOf op with
  | none => exact ⟨_, _, rfl, rfl, rfl, rfl⟩
  | some f => exact ⟨_, _, rfl, rfl, rfl, rfl⟩
theorem c_part {w0 w : World} {L : List (Nat × Obj)} (h : So w0 w L) (i : Inst) (ha : ArgsAt w0 i) : Cx P 68 #[i.v] w fun v w => v = .int .u8 (partP i) ∧ So w0 w L := by
  apply F68_ok
  unfold F68
  refine soBox h fun b w h => ?_
  have hf := h.facts
  simp only [Facts, Inst.v, Value.cells] at hf
  try simp (disch := omega) only [cnd_bool, on_some_eq, Dr_eq, xNil_ptr, xNil_func, xNil_yield, xPick_bool, unw_nil, xRes_ptr, xUn_not, xUn_neg, xEx_tuple, xBin_add, xBin_sub, xBin_mul, xBin_eql, xBin_neq, xBin_lss, xBin_leq, xBin_gtr, xBin_geq, xBin_eqls, xBin_neqs, wI64, oCell_some, List.getElem?_toArray, List.getElem?_cons_zero, List.getElem?_cons_succ, Nat.zero_add, Bool.not_true, Bool.not_false, if_true, if_false, ite_true, ite_false, beq_iff_eq, bne_iff_ne, decide_eq_true_eq, ne_eq, Bool.false_eq_true, Bool.true_eq_false, reduceIte, Option.some.injEq, Int.toNat_natCast, beq_self_eq_true, bne_self_eq_false, Value.cells, splice, List.setIfInBounds_toArray, List.set_cons_zero, List.set_cons_succ, List.size_toArray, List.length_cons, List.length_nil, and_self, Nat.reduceLeDiff, Nat.reduceAdd, Nat.reduceMul, Int.reduceToNat, Int.reduceLT, Int.reduceLE, Int.reduceGT, Int.reduceGE, Int.reduceAdd, Int.reduceSub, Int.reduceMul, Int.reduceNeg, Int.reduceEq, Int.reduceNe, true_and, and_true, Int.cast_ofNat_Int, Nat.le_refl, hf, ld3, ld5, ld22, ld50, ld51, ln51, ia51, ld53, fa53_0, fa53_1, fa53_2, fa53_3, ld75, fa75_0, fa75_1, fa75_2, ld77, fa77_0, fa77_2, fa77_3, fa77_4, fa77_5, fa77_6, fa77_7, bd77, bd77_0_1_2_3_4_5_6_7, bd77_0_1_4_5_7, ld94, ln94, ia94, ow2, ow3, ow4, ow5, ow6, ow8, ow11, ow20, ow23, cv5_22, cv5_3]
  refine Cx.mono (c_variable h i ha) fun v w hv => ?_
  obtain ⟨rfl, h⟩ := hv
  have hf := h.facts
  simp only [Facts, Inst.v, Value.cells] at hf
  unfold partP
  try simp (disch := omega) only [cnd_bool, on_some_eq, Dr_eq, xNil_ptr, xNil_func, xNil_yield, xPick_bool, unw_nil, xRes_ptr, xUn_not, xUn_neg, xEx_tuple, xBin_add, xBin_sub, xBin_mul, xBin_eql, xBin_neq, xBin_lss, xBin_leq, xBin_gtr, xBin_geq, xBin_eqls, xBin_neqs, wI64, oCell_some, List.getElem?_toArray, List.getElem?_cons_zero, List.getElem?_cons_succ, Nat.zero_add, Bool.not_true, Bool.not_false, if_true, if_false, ite_true, ite_false, beq_iff_eq, bne_iff_ne, decide_eq_true_eq, ne_eq, Bool.false_eq_true, Bool.true_eq_false, reduceIte, Option.some.injEq, Int.toNat_natCast, beq_self_eq_true, bne_self_eq_false, Value.cells, splice, List.setIfInBounds_toArray, List.set_cons_zero, List.set_cons_succ, List.size_toArray, List.length_cons, List.length_nil, and_self, Nat.reduceLeDiff, Nat.reduceAdd, Nat.reduceMul, Int.reduceToNat, Int.reduceLT, Int.reduceLE, Int.reduceGT, Int.reduceGE, Int.reduceAdd, Int.reduceSub, Int.reduceMul, Int.reduceNeg, Int.reduceEq, Int.reduceNe, true_and, and_true, Int.cast_ofNat_Int, Nat.le_refl, hf, ld3, ld5, ld22, ld50, ld51, ln51, ia51, ld53, fa53_0, fa53_1, fa53_2, fa53_3, ld75, fa75_0, fa75_1, fa75_2, ld77, fa77_0, fa77_2, fa77_3, fa77_4, fa77_5, fa77_6, fa77_7, bd77, bd77_0_1_2_3_4_5_6_7, bd77_0_1_4_5_7, ld94, ln94, ia94, ow2, ow3, ow4, ow5, ow6, ow8, ow11, ow20, ow23, cv5_22, cv5_3]
  split
  · exact ⟨rfl, h.drop⟩
  · refine Cx.mono (c_of h i.op) fun v w hv => ?_
    obtain ⟨rfl, h⟩ := hv
    obtain ⟨f, ok, e1, e2, e3, e4⟩ := ofV_form i.op
    rw [e1]
    try simp (disch := omega) only [cnd_bool, on_some_eq, Dr_eq, xNil_ptr, xNil_func, xNil_yield, xPick_bool, unw_nil, xRes_ptr, xUn_not, xUn_neg, xEx_tuple, xBin_add, xBin_sub, xBin_mul, xBin_eql, xBin_neq, xBin_lss, xBin_leq, xBin_gtr, xBin_geq, xBin_eqls, xBin_neqs, wI64, oCell_some, List.getElem?_toArray, List.getElem?_cons_zero, List.getElem?_cons_succ, Nat.zero_add, Bool.not_true, Bool.not_false, if_true, if_false, ite_true, ite_false, beq_iff_eq, bne_iff_ne, decide_eq_true_eq, ne_eq, Bool.false_eq_true, Bool.true_eq_false, reduceIte, Option.some.injEq, Int.toNat_natCast, beq_self_eq_true, bne_self_eq_false, Value.cells, splice, List.setIfInBounds_toArray, List.set_cons_zero, List.set_cons_succ, List.size_toArray, List.length_cons, List.length_nil, and_self, Nat.reduceLeDiff, Nat.reduceAdd, Nat.reduceMul, Int.reduceToNat, Int.reduceLT, Int.reduceLE, Int.reduceGT, Int.reduceGE, Int.reduceAdd, Int.reduceSub, Int.reduceMul, Int.reduceNeg, Int.reduceEq, Int.reduceNe, true_and, and_true, Int.cast_ofNat_Int, Nat.le_refl, hf, ld3, ld5, ld22, ld50, ld51, ln51, ia51, ld53, fa53_0, fa53_1, fa53_2, fa53_3, ld75, fa75_0, fa75_1, fa75_2, ld77, fa77_0, fa77_2, fa77_3, fa77_4, fa77_5, fa77_6, fa77_7, bd77, bd77_0_1_2_3_4_5_6_7, bd77_0_1_4_5_7, ld94, ln94, ia94, ow2, ow3, ow4, ow5, ow6, ow8, ow11, ow20, ow23, cv5_22, cv5_3]
    refine al77 h fun b2 w h => ?_
    try simp only [Facts, and_true, Value.cells, List.setIfInBounds_toArray, List.set_cons_zero, List.set_cons_succ, splice, Nat.zero_add, Nat.reduceAdd, List.cons_append, List.nil_append] at h
    have hf := h.facts
    simp only [Facts, and_true, Value.cells, List.setIfInBounds_toArray, List.set_cons_zero, List.set_cons_succ, splice, Nat.zero_add, Nat.reduceAdd, List.cons_append, List.nil_append] at hf
    refine soStoreA ty77 0 h (fun w h => ?_) rfl e2 rfl e4
    simp only [List.set_cons_zero] at h
    have hf := h.facts
    simp only [Facts] at hf
    try simp (disch := omega) only [cnd_bool, on_some_eq, Dr_eq, xNil_ptr, xNil_func, xNil_yield, xPick_bool, unw_nil, xRes_ptr, xUn_not, xUn_neg, xEx_tuple, xBin_add, xBin_sub, xBin_mul, xBin_eql, xBin_neq, xBin_lss, xBin_leq, xBin_gtr, xBin_geq, xBin_eqls, xBin_neqs, wI64, oCell_some, List.getElem?_toArray, List.getElem?_cons_zero, List.getElem?_cons_succ, Nat.zero_add, Bool.not_true, Bool.not_false, if_true, if_false, ite_true, ite_false, beq_iff_eq, bne_iff_ne, decide_eq_true_eq, ne_eq, Bool.false_eq_true, Bool.true_eq_false, reduceIte, Option.some.injEq, Int.toNat_natCast, beq_self_eq_true, bne_self_eq_false, Value.cells, splice, List.setIfInBounds_toArray, List.set_cons_zero, List.set_cons_succ, List.size_toArray, List.length_cons, List.length_nil, and_self, Nat.reduceLeDiff, Nat.reduceAdd, Nat.reduceMul, Int.reduceToNat, Int.reduceLT, Int.reduceLE, Int.reduceGT, Int.reduceGE, Int.reduceAdd, Int.reduceSub, Int.reduceMul, Int.reduceNeg, Int.reduceEq, Int.reduceNe, true_and, and_true, Int.cast_ofNat_Int, Nat.le_refl, hf, ld3, ld5, ld22, ld50, ld51, ln51, ia51, ld53, fa53_0, fa53_1, fa53_2, fa53_3, ld75, fa75_0, fa75_1, fa75_2, ld77, fa77_0, fa77_2, fa77_3, fa77_4, fa77_5, fa77_6, fa77_7, bd77, bd77_0_1_2_3_4_5_6_7, bd77_0_1_4_5_7, ld94, ln94, ia94, ow2, ow3, ow4, ow5, ow6, ow8, ow11, ow20, ow23, cv5_22, cv5_3, e3]
    exact h.drop.drop
theorem c_refPart {w0 w : World} {L : List (Nat × Obj)} (h : So w0 w L) (i : Inst) (ha : ArgsAt w0 i) : Cx P 18 #[i.v] w fun v w => v = .int .i64 (partP i) ∧ So w0 w L := by
  apply F18_ok
  unfold F18
  refine soBox h fun b w h => ?_
  have hf := h.facts
  simp only [Facts, Inst.v, Value.cells] at hf
  have key : isVar i = false → F18.k1 (fun v w => v = .int .i64 (partP i) ∧ So w0 w L) (.pointer (some ⟨b, 0, none⟩)) w := by
    intro hv
    unfold F18.k1
    try simp (disch := omega) only [cnd_bool, on_some_eq, Dr_eq, xNil_ptr, xNil_func, xNil_yield, xPick_bool, unw_nil, xRes_ptr, xUn_not, xUn_neg, xEx_tuple, xBin_add, xBin_sub, xBin_mul, xBin_eql, xBin_neq, xBin_lss, xBin_leq, xBin_gtr, xBin_geq, xBin_eqls, xBin_neqs, wI64, oCell_some, List.getElem?_toArray, List.getElem?_cons_zero, List.getElem?_cons_succ, Nat.zero_add, Bool.not_true, Bool.not_false, if_true, if_false, ite_true, ite_false, beq_iff_eq, bne_iff_ne, decide_eq_true_eq, ne_eq, Bool.false_eq_true, Bool.true_eq_false, reduceIte, Option.some.injEq, Int.toNat_natCast, beq_self_eq_true, bne_self_eq_false, Value.cells, splice, List.setIfInBounds_toArray, List.set_cons_zero, List.set_cons_succ, List.size_toArray, List.length_cons, List.length_nil, and_self, Nat.reduceLeDiff, Nat.reduceAdd, Nat.reduceMul, Int.reduceToNat, Int.reduceLT, Int.reduceLE, Int.reduceGT, Int.reduceGE, Int.reduceAdd, Int.reduceSub, Int.reduceMul, Int.reduceNeg, Int.reduceEq, Int.reduceNe, true_and, and_true, Int.cast_ofNat_Int, Nat.le_refl, hf, ld3, ld5, ld22, ld50, ld51, ln51, ia51, ld53, fa53_0, fa53_1, fa53_2, fa53_3, ld75, fa75_0, fa75_1, fa75_2, ld77, fa77_0, fa77_2, fa77_3, fa77_4, fa77_5, fa77_6, fa77_7, bd77, bd77_0_1_2_3_4_5_6_7, bd77_0_1_4_5_7, ld94, ln94, ia94, ow2, ow3, ow4, ow5, ow6, ow8, ow11, ow20, ow23, cv5_22, cv5_3]
    refine Cx.mono (c_refOf h i.op) fun v w hv => ?_
    obtain ⟨rfl, h⟩ := hv
    obtain ⟨f, ok, e1, e2, e3, e4⟩ := ofV_form i.op
    rw [e1]
    try simp (disch := omega) only [cnd_bool, on_some_eq, Dr_eq, xNil_ptr, xNil_func, xNil_yield, xPick_bool, unw_nil, xRes_ptr, xUn_not, xUn_neg, xEx_tuple, xBin_add, xBin_sub, xBin_mul, xBin_eql, xBin_neq, xBin_lss, xBin_leq, xBin_gtr, xBin_geq, xBin_eqls, xBin_neqs, wI64, oCell_some, List.getElem?_toArray, List.getElem?_cons_zero, List.getElem?_cons_succ, Nat.zero_add, Bool.not_true, Bool.not_false, if_true, if_false, ite_true, ite_false, beq_iff_eq, bne_iff_ne, decide_eq_true_eq, ne_eq, Bool.false_eq_true, Bool.true_eq_false, reduceIte, Option.some.injEq, Int.toNat_natCast, beq_self_eq_true, bne_self_eq_false, Value.cells, splice, List.setIfInBounds_toArray, List.set_cons_zero, List.set_cons_succ, List.size_toArray, List.length_cons, List.length_nil, and_self, Nat.reduceLeDiff, Nat.reduceAdd, Nat.reduceMul, Int.reduceToNat, Int.reduceLT, Int.reduceLE, Int.reduceGT, Int.reduceGE, Int.reduceAdd, Int.reduceSub, Int.reduceMul, Int.reduceNeg, Int.reduceEq, Int.reduceNe, true_and, and_true, Int.cast_ofNat_Int, Nat.le_refl, hf, ld3, ld5, ld22, ld50, ld51, ln51, ia51, ld53, fa53_0, fa53_1, fa53_2, fa53_3, ld75, fa75_0, fa75_1, fa75_2, ld77, fa77_0, fa77_2, fa77_3, fa77_4, fa77_5, fa77_6, fa77_7, bd77, bd77_0_1_2_3_4_5_6_7, bd77_0_1_4_5_7, ld94, ln94, ia94, ow2, ow3, ow4, ow5, ow6, ow8, ow11, ow20, ow23, cv5_22, cv5_3]
    refine al77 h fun b2 w h => ?_
    try simp only [Facts, and_true, Value.cells, List.setIfInBounds_toArray, List.set_cons_zero, List.set_cons_succ, splice, Nat.zero_add, Nat.reduceAdd, List.cons_append, List.nil_append] at h
    have hf := h.facts
    simp only [Facts, and_true, Value.cells, List.setIfInBounds_toArray, List.set_cons_zero, List.set_cons_succ, splice, Nat.zero_add, Nat.reduceAdd, List.cons_append, List.nil_append] at hf
    refine soStoreA ty77 0 h (fun w h => ?_) rfl e2 rfl e4
    simp only [List.set_cons_zero] at h
    have hf := h.facts
    simp only [Facts] at hf
    have hr := partOf_range i.op
    try simp (disch := omega) only [cnd_bool, on_some_eq, Dr_eq, xNil_ptr, xNil_func, xNil_yield, xPick_bool, unw_nil, xRes_ptr, xUn_not, xUn_neg, xEx_tuple, xBin_add, xBin_sub, xBin_mul, xBin_eql, xBin_neq, xBin_lss, xBin_leq, xBin_gtr, xBin_geq, xBin_eqls, xBin_neqs, wI64, oCell_some, List.getElem?_toArray, List.getElem?_cons_zero, List.getElem?_cons_succ, Nat.zero_add, Bool.not_true, Bool.not_false, if_true, if_false, ite_true, ite_false, beq_iff_eq, bne_iff_ne, decide_eq_true_eq, ne_eq, Bool.false_eq_true, Bool.true_eq_false, reduceIte, Option.some.injEq, Int.toNat_natCast, beq_self_eq_true, bne_self_eq_false, Value.cells, splice, List.setIfInBounds_toArray, List.set_cons_zero, List.set_cons_succ, List.size_toArray, List.length_cons, List.length_nil, and_self, Nat.reduceLeDiff, Nat.reduceAdd, Nat.reduceMul, Int.reduceToNat, Int.reduceLT, Int.reduceLE, Int.reduceGT, Int.reduceGE, Int.reduceAdd, Int.reduceSub, Int.reduceMul, Int.reduceNeg, Int.reduceEq, Int.reduceNe, true_and, and_true, Int.cast_ofNat_Int, Nat.le_refl, hf, ld3, ld5, ld22, ld50, ld51, ln51, ia51, ld53, fa53_0, fa53_1, fa53_2, fa53_3, ld75, fa75_0, fa75_1, fa75_2, ld77, fa77_0, fa77_2, fa77_3, fa77_4, fa77_5, fa77_6, fa77_7, bd77, bd77_0_1_2_3_4_5_6_7, bd77_0_1_4_5_7, ld94, ln94, ia94, ow2, ow3, ow4, ow5, ow6, ow8, ow11, ow20, ow23, cv5_22, cv5_3, e3]
    refine ⟨?_, h.drop.drop⟩
    unfold partP
    rw [hv]; rfl
  have ha' := ha.go h
  try simp (disch := omega) only [cnd_bool, on_some_eq, Dr_eq, xNil_ptr, xNil_func, xNil_yield, xPick_bool, unw_nil, xRes_ptr, xUn_not, xUn_neg, xEx_tuple, xBin_add, xBin_sub, xBin_mul, xBin_eql, xBin_neq, xBin_lss, xBin_leq, xBin_gtr, xBin_geq, xBin_eqls, xBin_neqs, wI64, oCell_some, List.getElem?_toArray, List.getElem?_cons_zero, List.getElem?_cons_succ, Nat.zero_add, Bool.not_true, Bool.not_false, if_true, if_false, ite_true, ite_false, beq_iff_eq, bne_iff_ne, decide_eq_true_eq, ne_eq, Bool.false_eq_true, Bool.true_eq_false, reduceIte, Option.some.injEq, Int.toNat_natCast, beq_self_eq_true, bne_self_eq_false, Value.cells, splice, List.setIfInBounds_toArray, List.set_cons_zero, List.set_cons_succ, List.size_toArray, List.length_cons, List.length_nil, and_self, Nat.reduceLeDiff, Nat.reduceAdd, Nat.reduceMul, Int.reduceToNat, Int.reduceLT, Int.reduceLE, Int.reduceGT, Int.reduceGE, Int.reduceAdd, Int.reduceSub, Int.reduceMul, Int.reduceNeg, Int.reduceEq, Int.reduceNe, true_and, and_true, Int.cast_ofNat_Int, Nat.le_refl, hf, ld3, ld5, ld22, ld50, ld51, ln51, ia51, ld53, fa53_0, fa53_1, fa53_2, fa53_3, ld75, fa75_0, fa75_1, fa75_2, ld77, fa77_0, fa77_2, fa77_3, fa77_4, fa77_5, fa77_6, fa77_7, bd77, bd77_0_1_2_3_4_5_6_7, bd77_0_1_4_5_7, ld94, ln94, ia94, ow2, ow3, ow4, ow5, ow6, ow8, ow11, ow20, ow23, cv5_22, cv5_3, Sl.len sl51 ha, List.length_map]
  cases hl : i.args with
  | nil =>
    have hv : isVar i = false := by unfold isVar; rw [hl]
    simp only [List.length_nil]
    split
    · exact key hv
    · exact key hv
  | cons a r =>
    obtain ⟨g, o, h1, h2, h3⟩ := ha'.get sl51 0 (i := 0) (el := a.c) rfl (by rw [hl]; rfl)
    have h4 := h3 1 (by omega)
    try simp (disch := omega) only [cnd_bool, on_some_eq, Dr_eq, xNil_ptr, xNil_func, xNil_yield, xPick_bool, unw_nil, xRes_ptr, xUn_not, xUn_neg, xEx_tuple, xBin_add, xBin_sub, xBin_mul, xBin_eql, xBin_neq, xBin_lss, xBin_leq, xBin_gtr, xBin_geq, xBin_eqls, xBin_neqs, wI64, oCell_some, List.getElem?_toArray, List.getElem?_cons_zero, List.getElem?_cons_succ, Nat.zero_add, Bool.not_true, Bool.not_false, if_true, if_false, ite_true, ite_false, beq_iff_eq, bne_iff_ne, decide_eq_true_eq, ne_eq, Bool.false_eq_true, Bool.true_eq_false, reduceIte, Option.some.injEq, Int.toNat_natCast, beq_self_eq_true, bne_self_eq_false, Value.cells, splice, List.setIfInBounds_toArray, List.set_cons_zero, List.set_cons_succ, List.size_toArray, List.length_cons, List.length_nil, and_self, Nat.reduceLeDiff, Nat.reduceAdd, Nat.reduceMul, Int.reduceToNat, Int.reduceLT, Int.reduceLE, Int.reduceGT, Int.reduceGE, Int.reduceAdd, Int.reduceSub, Int.reduceMul, Int.reduceNeg, Int.reduceEq, Int.reduceNe, true_and, and_true, Int.cast_ofNat_Int, Nat.le_refl, hf, ld3, ld5, ld22, ld50, ld51, ln51, ia51, ld53, fa53_0, fa53_1, fa53_2, fa53_3, ld75, fa75_0, fa75_1, fa75_2, ld77, fa77_0, fa77_2, fa77_3, fa77_4, fa77_5, fa77_6, fa77_7, bd77, bd77_0_1_2_3_4_5_6_7, bd77_0_1_4_5_7, ld94, ln94, ia94, ow2, ow3, ow4, ow5, ow6, ow8, ow11, ow20, ow23, cv5_22, cv5_3, h1, h4, Arg.c]
    by_cases h59 : i.op = 59
    · rw [if_pos h59, if_pos (by simp)]
      by_cases h7 : a.n = 7
      · rw [if_pos h7]
        have hv : isVar i = true := by unfold isVar; rw [hl]; simp [h59, h7]
        refine ⟨?_, h.drop⟩
        unfold partP; rw [hv]; rfl
      · rw [if_neg h7]
        exact key (by unfold isVar; rw [hl]; simp [h7])
    · rw [if_neg h59]
      exact key (by unfold isVar; rw [hl]; simp [h59])
theorem c_refEnds {w0 w : World} {L : List (Nat × Obj)} (h : So w0 w L) (op : Int) : Cx P 48 #[.int .u16 op] w fun v w => v = .bool (endsP op) ∧ So w0 w L := by
  apply F48_ok
  unfold F48 endsP
  try simp (disch := omega) only [cnd_bool, on_some_eq, Dr_eq, xNil_ptr, xNil_func, xNil_yield, xPick_bool, unw_nil, xRes_ptr, xUn_not, xUn_neg, xEx_tuple, xBin_add, xBin_sub, xBin_mul, xBin_eql, xBin_neq, xBin_lss, xBin_leq, xBin_gtr, xBin_geq, xBin_eqls, xBin_neqs, wI64, oCell_some, List.getElem?_toArray, List.getElem?_cons_zero, List.getElem?_cons_succ, Nat.zero_add, Bool.not_true, Bool.not_false, if_true, if_false, ite_true, ite_false, beq_iff_eq, bne_iff_ne, decide_eq_true_eq, ne_eq, Bool.false_eq_true, Bool.true_eq_false, reduceIte, Option.some.injEq, Int.toNat_natCast, beq_self_eq_true, bne_self_eq_false, Value.cells, splice, List.setIfInBounds_toArray, List.set_cons_zero, List.set_cons_succ, List.size_toArray, List.length_cons, List.length_nil, and_self, Nat.reduceLeDiff, Nat.reduceAdd, Nat.reduceMul, Int.reduceToNat, Int.reduceLT, Int.reduceLE, Int.reduceGT, Int.reduceGE, Int.reduceAdd, Int.reduceSub, Int.reduceMul, Int.reduceNeg, Int.reduceEq, Int.reduceNe, true_and, and_true, Int.cast_ofNat_Int, Nat.le_refl, ld3, ld5, ld22, ld50, ld51, ln51, ia51, ld53, fa53_0, fa53_1, fa53_2, fa53_3, ld75, fa75_0, fa75_1, fa75_2, ld77, fa77_0, fa77_2, fa77_3, fa77_4, fa77_5, fa77_6, fa77_7, bd77, bd77_0_1_2_3_4_5_6_7, bd77_0_1_4_5_7, ld94, ln94, ia94, ow2, ow3, ow4, ow5, ow6, ow8, ow11, ow20, ow23, cv5_22, cv5_3]
  repeat' split
  all_goals refine ⟨congrArg Value.bool ?_, h⟩
  all_goals first | (symm; rw [decide_eq_true_iff]; omega) | (rw [Bool.eq_iff_iff]; simp only [beq_iff_eq, decide_eq_true_eq]; omega)

/-- kind of an instruction -/
def kindP (i : Inst) : Int :=
  if ¬ partP i = 8 then 9 else if i.op = 54 then 1 else if i.op = 55 then 2 else if i.op = 56 then 8 else if i.op = 248 then 3 else if i.op = 245 then 4 else if i.op = 59 then 5 else if i.op = 246 then 6 else if i.op = 247 then 6 else if endsP i.op = true then 7 else 0
theorem c_kind {w0 w : World} {L : List (Nat × Obj)} (h : So w0 w L) (i : Inst) (ha : ArgsAt w0 i) : Cx P 69 #[i.v] w fun v w => v = .int .i64 (kindP i) ∧ So w0 w L := by
  apply F69_ok
  unfold F69
  refine soBox h fun b w h => ?_
  have hf := h.facts
  simp only [Facts, Inst.v, Value.cells] at hf
  try simp (disch := omega) only [cnd_bool, on_some_eq, Dr_eq, xNil_ptr, xNil_func, xNil_yield, xPick_bool, unw_nil, xRes_ptr, xUn_not, xUn_neg, xEx_tuple, xBin_add, xBin_sub, xBin_mul, xBin_eql, xBin_neq, xBin_lss, xBin_leq, xBin_gtr, xBin_geq, xBin_eqls, xBin_neqs, wI64, oCell_some, List.getElem?_toArray, List.getElem?_cons_zero, List.getElem?_cons_succ, Nat.zero_add, Bool.not_true, Bool.not_false, if_true, if_false, ite_true, ite_false, beq_iff_eq, bne_iff_ne, decide_eq_true_eq, ne_eq, Bool.false_eq_true, Bool.true_eq_false, reduceIte, Option.some.injEq, Int.toNat_natCast, beq_self_eq_true, bne_self_eq_false, Value.cells, splice, List.setIfInBounds_toArray, List.set_cons_zero, List.set_cons_succ, List.size_toArray, List.length_cons, List.length_nil, and_self, Nat.reduceLeDiff, Nat.reduceAdd, Nat.reduceMul, Int.reduceToNat, Int.reduceLT, Int.reduceLE, Int.reduceGT, Int.reduceGE, Int.reduceAdd, Int.reduceSub, Int.reduceMul, Int.reduceNeg, Int.reduceEq, Int.reduceNe, true_and, and_true, Int.cast_ofNat_Int, Nat.le_refl, hf, ld3, ld5, ld22, ld50, ld51, ln51, ia51, ld53, fa53_0, fa53_1, fa53_2, fa53_3, ld75, fa75_0, fa75_1, fa75_2, ld77, fa77_0, fa77_2, fa77_3, fa77_4, fa77_5, fa77_6, fa77_7, bd77, bd77_0_1_2_3_4_5_6_7, bd77_0_1_4_5_7, ld94, ln94, ia94, ow2, ow3, ow4, ow5, ow6, ow8, ow11, ow20, ow23, cv5_22, cv5_3]
  refine Cx.mono (c_part h i ha) fun v w hv => ?_
  obtain ⟨rfl, h⟩ := hv
  have hf := h.facts
  simp only [Facts, Inst.v, Value.cells] at hf
  try simp (disch := omega) only [cnd_bool, on_some_eq, Dr_eq, xNil_ptr, xNil_func, xNil_yield, xPick_bool, unw_nil, xRes_ptr, xUn_not, xUn_neg, xEx_tuple, xBin_add, xBin_sub, xBin_mul, xBin_eql, xBin_neq, xBin_lss, xBin_leq, xBin_gtr, xBin_geq, xBin_eqls, xBin_neqs, wI64, oCell_some, List.getElem?_toArray, List.getElem?_cons_zero, List.getElem?_cons_succ, Nat.zero_add, Bool.not_true, Bool.not_false, if_true, if_false, ite_true, ite_false, beq_iff_eq, bne_iff_ne, decide_eq_true_eq, ne_eq, Bool.false_eq_true, Bool.true_eq_false, reduceIte, Option.some.injEq, Int.toNat_natCast, beq_self_eq_true, bne_self_eq_false, Value.cells, splice, List.setIfInBounds_toArray, List.set_cons_zero, List.set_cons_succ, List.size_toArray, List.length_cons, List.length_nil, and_self, Nat.reduceLeDiff, Nat.reduceAdd, Nat.reduceMul, Int.reduceToNat, Int.reduceLT, Int.reduceLE, Int.reduceGT, Int.reduceGE, Int.reduceAdd, Int.reduceSub, Int.reduceMul, Int.reduceNeg, Int.reduceEq, Int.reduceNe, true_and, and_true, Int.cast_ofNat_Int, Nat.le_refl, hf, ld3, ld5, ld22, ld50, ld51, ln51, ia51, ld53, fa53_0, fa53_1, fa53_2, fa53_3, ld75, fa75_0, fa75_1, fa75_2, ld77, fa77_0, fa77_2, fa77_3, fa77_4, fa77_5, fa77_6, fa77_7, bd77, bd77_0_1_2_3_4_5_6_7, bd77_0_1_4_5_7, ld94, ln94, ia94, ow2, ow3, ow4, ow5, ow6, ow8, ow11, ow20, ow23, cv5_22, cv5_3]
  repeat' split
  all_goals first | (refine ⟨?_, h.drop⟩; simp_all [kindP]; done) | skip
  refine Cx.mono (c_ends h i.op) fun v w hv => ?_
  obtain ⟨rfl, h⟩ := hv
  rw [cnd_bool]
  split
  all_goals (refine ⟨?_, h.drop⟩; simp_all [kindP])
end Go.Proofs.Ytlmcppbpobnfjaa

