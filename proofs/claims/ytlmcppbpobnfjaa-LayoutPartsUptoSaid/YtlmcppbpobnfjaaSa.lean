/-
  ref04: Fault, Shape.
-/
import Derived.Test.YtlmcppbpobnfjaaTd
namespace Go.Proofs.Ytlmcppbpobnfjaa
open Go Go.Vc
set_option linter.unusedSimpArgs false
set_option linter.unusedVariables false
set_option maxRecDepth 20000

theorem ofV_some {op : Int} (h : (formOf op).isSome = true) : ofV op = .tuple #[(formD op).v op, .bool true] := by
  unfold ofV formD
  cases hf : formOf op with
  | none => rw [hf] at h; cases h
  | some f => rfl
/-- An element lies at one place in all worlds behind the base world. -/
theorem Sl.fix {P : Program} {w0 : World} {t e n : Nat} {v : Value} {els : List (List Value)} (ht : slE P t = some (e, n)) (s : Sl w0 n v els) (q : Int) {i : Nat} {el : List Value} (hq : q = i) (hi : els[i]? = some el) :
    ∃ g o, (∀ k : IntKind, xIA P t v (.int k q) = some (.pointer (some ⟨g, o, none⟩))) ∧ (∀ (w : World) (L : List (Nat × Obj)), So w0 w L → oRow w.heap[g]? o n = some (.agg el.toArray)) ∧ ∀ (w : World) (L : List (Nat × Obj)), So w0 w L → ∀ j, j < n → oCell w.heap[g]? (o + j) = el[j]? := by
  subst hq
  obtain ⟨g, o, cells, t', f, h1, h2, h3, h4, h5⟩ := s.at ht hi
  refine ⟨g, o, h1, ?_, ?_⟩
  · intro w L h
    rw [h.old h2, oRow_some _ _ _ _ _ h4, h5]
  · intro w L h j hj
    rw [h.old h2, oCell_some, cells_at h5 hj]
section
variable {w0 : World} {L : List (Nat × Obj)}
theorem fault_loop {i : Inst} {bound : Int} {x2 x5 : Nat} (hz : SizedI i) (ha : ArgsAt w0 i) {Q : Value → World → Prop}
    (hbad : ∀ e w, So w0 w L → e = argsE i.op bound 0 i.args → e ≠ 0 → Q (.int .i64 e) w)
    (hend : argsE i.op bound 0 i.args = 0 → ∀ w, So w0 w ((x5, cl (formC i.op (formD i.op)) 77) :: (x2, cl i.v.cells 53) :: L) → F46.k2 Q (.pointer (some ⟨x2, 0, none⟩)) (.pointer (some ⟨x5, 0, none⟩)) w) :
    ∀ (m k : Nat) (w : World), k + m = i.args.length → argsE i.op bound 0 i.args = argsE i.op bound k (i.args.drop k) → So w0 w ((x5, cl (formC i.op (formD i.op)) 77) :: (x2, cl i.v.cells 53) :: L) →
      F46.l1 Q (m + 1) (.int .u32 bound) (.pointer (some ⟨x2, 0, none⟩)) (.pointer (some ⟨x5, 0, none⟩)) (.int .i64 (k : Int)) w := by
  intro m
  induction m with
  | zero =>
    intro k w hk he h
    have hf := h.facts
    simp only [Facts, Inst.v, Value.cells, formC] at hf
    unfold F46.l1
    try simp (disch := omega) only [cnd_bool, on_some_eq, Dr_eq, xNil_ptr, xNil_func, xNil_yield, xPick_bool, unw_nil, xRes_ptr, xUn_not, xUn_neg, xEx_tuple, xBin_add, xBin_sub, xBin_mul, xBin_eql, xBin_neq, xBin_lss, xBin_leq, xBin_gtr, xBin_geq, xBin_eqls, xBin_neqs, wI64, oCell_some, List.getElem?_toArray, List.getElem?_cons_zero, List.getElem?_cons_succ, Nat.zero_add, Bool.not_true, Bool.not_false, if_true, if_false, ite_true, ite_false, beq_iff_eq, bne_iff_ne, decide_eq_true_eq, ne_eq, Bool.false_eq_true, Bool.true_eq_false, reduceIte, Option.some.injEq, Int.toNat_natCast, beq_self_eq_true, bne_self_eq_false, Value.cells, splice, List.setIfInBounds_toArray, List.set_cons_zero, List.set_cons_succ, List.size_toArray, List.length_cons, List.length_nil, and_self, Nat.reduceLeDiff, Nat.reduceAdd, Nat.reduceMul, Int.reduceToNat, Int.reduceLT, Int.reduceLE, Int.reduceGT, Int.reduceGE, Int.reduceAdd, Int.reduceSub, Int.reduceMul, Int.reduceNeg, Int.reduceEq, Int.reduceNe, true_and, and_true, Int.cast_ofNat_Int, Nat.le_refl, hf, ld3, ld4, ld22, ld23, ln23, ia23, ld25, fa25_1, fa25_2, ld29, ld31, fa31_0, bd31, bd31_0, bd31_0_1, ld50, ld51, ln51, ia51, ld53, fa53_0, fa53_1, fa53_2, fa53_3, ld75, fa75_0, fa75_1, fa75_2, ld77, fa77_0, fa77_2, fa77_3, fa77_4, fa77_5, fa77_6, fa77_7, bd77, bd77_0_1_2_3_4_5_6_7, bd77_0_1_4_5_7, neq4, ow2, ow3, ow4, ow5, ow6, ow8, ow11, ow20, ow23, Sl.len sl51 ha, List.length_map]
    rw [if_neg (by omega)]
    refine hend ?_ w h
    rw [he, List.drop_of_length_le (by omega)]
    rfl
  | succ m ih =>
    intro k w hk he h
    have hlt : k < i.args.length := by omega
    have hzl := hz.1
    rw [List.drop_eq_getElem_cons hlt, argsE] at he
    obtain ⟨g, o, k1, k2, k3⟩ := Sl.fix sl51 ha (k : Int) (i := k) (el := i.args[k].c) rfl (by simp [hlt])
    have hs := hz.2 i.args[k] (List.getElem_mem hlt)
    generalize i.args[k] = a at *
    have k2 : ∀ (w : World) (L : List (Nat × Obj)), So w0 w L → oRow w.heap[g]? o 3 = some a.v := k2
    have hf0 := h.facts
    have h := h.drew
    have hf := h.facts
    simp only [Facts, Inst.v, Value.cells, formC] at hf hf0
    unfold F46.l1
    try simp (disch := omega) only [cnd_bool, on_some_eq, Dr_eq, xNil_ptr, xNil_func, xNil_yield, xPick_bool, unw_nil, xRes_ptr, xUn_not, xUn_neg, xEx_tuple, xBin_add, xBin_sub, xBin_mul, xBin_eql, xBin_neq, xBin_lss, xBin_leq, xBin_gtr, xBin_geq, xBin_eqls, xBin_neqs, wI64, oCell_some, List.getElem?_toArray, List.getElem?_cons_zero, List.getElem?_cons_succ, Nat.zero_add, Bool.not_true, Bool.not_false, if_true, if_false, ite_true, ite_false, beq_iff_eq, bne_iff_ne, decide_eq_true_eq, ne_eq, Bool.false_eq_true, Bool.true_eq_false, reduceIte, Option.some.injEq, Int.toNat_natCast, beq_self_eq_true, bne_self_eq_false, Value.cells, splice, List.setIfInBounds_toArray, List.set_cons_zero, List.set_cons_succ, List.size_toArray, List.length_cons, List.length_nil, and_self, Nat.reduceLeDiff, Nat.reduceAdd, Nat.reduceMul, Int.reduceToNat, Int.reduceLT, Int.reduceLE, Int.reduceGT, Int.reduceGE, Int.reduceAdd, Int.reduceSub, Int.reduceMul, Int.reduceNeg, Int.reduceEq, Int.reduceNe, true_and, and_true, Int.cast_ofNat_Int, Nat.le_refl, hf, ld3, ld4, ld22, ld23, ln23, ia23, ld25, fa25_1, fa25_2, ld29, ld31, fa31_0, bd31, bd31_0, bd31_0_1, ld50, ld51, ln51, ia51, ld53, fa53_0, fa53_1, fa53_2, fa53_3, ld75, fa75_0, fa75_1, fa75_2, ld77, fa77_0, fa77_2, fa77_3, fa77_4, fa77_5, fa77_6, fa77_7, bd77, bd77_0_1_2_3_4_5_6_7, bd77_0_1_4_5_7, neq4, ow2, ow3, ow4, ow5, ow6, ow8, ow11, ow20, ow23, hf0, Sl.len sl51 ha, List.length_map, k1, k2 _ _ h]
    rw [if_pos (by omega)]
    refine Cx.mono (c_refLetter h i.op k (by omega)) fun v w hv => ?_
    obtain ⟨rfl, h⟩ := hv
    have hf := h.facts
    simp only [Facts, Inst.v, Value.cells, formC] at hf
    try simp (disch := omega) only [cnd_bool, on_some_eq, Dr_eq, xNil_ptr, xNil_func, xNil_yield, xPick_bool, unw_nil, xRes_ptr, xUn_not, xUn_neg, xEx_tuple, xBin_add, xBin_sub, xBin_mul, xBin_eql, xBin_neq, xBin_lss, xBin_leq, xBin_gtr, xBin_geq, xBin_eqls, xBin_neqs, wI64, oCell_some, List.getElem?_toArray, List.getElem?_cons_zero, List.getElem?_cons_succ, Nat.zero_add, Bool.not_true, Bool.not_false, if_true, if_false, ite_true, ite_false, beq_iff_eq, bne_iff_ne, decide_eq_true_eq, ne_eq, Bool.false_eq_true, Bool.true_eq_false, reduceIte, Option.some.injEq, Int.toNat_natCast, beq_self_eq_true, bne_self_eq_false, Value.cells, splice, List.setIfInBounds_toArray, List.set_cons_zero, List.set_cons_succ, List.size_toArray, List.length_cons, List.length_nil, and_self, Nat.reduceLeDiff, Nat.reduceAdd, Nat.reduceMul, Int.reduceToNat, Int.reduceLT, Int.reduceLE, Int.reduceGT, Int.reduceGE, Int.reduceAdd, Int.reduceSub, Int.reduceMul, Int.reduceNeg, Int.reduceEq, Int.reduceNe, true_and, and_true, Int.cast_ofNat_Int, Nat.le_refl, hf, ld3, ld4, ld22, ld23, ln23, ia23, ld25, fa25_1, fa25_2, ld29, ld31, fa31_0, bd31, bd31_0, bd31_0_1, ld50, ld51, ln51, ia51, ld53, fa53_0, fa53_1, fa53_2, fa53_3, ld75, fa75_0, fa75_1, fa75_2, ld77, fa77_0, fa77_2, fa77_3, fa77_4, fa77_5, fa77_6, fa77_7, bd77, bd77_0_1_2_3_4_5_6_7, bd77_0_1_4_5_7, neq4, ow2, ow3, ow4, ow5, ow6, ow8, ow11, ow20, ow23, k2 _ _ h]
    refine Cx.mono (c_wrong h (letterOf i.op k) a bound hs) fun v w hv => ?_
    obtain ⟨rfl, h⟩ := hv
    try simp (disch := omega) only [cnd_bool, on_some_eq, Dr_eq, xNil_ptr, xNil_func, xNil_yield, xPick_bool, unw_nil, xRes_ptr, xUn_not, xUn_neg, xEx_tuple, xBin_add, xBin_sub, xBin_mul, xBin_eql, xBin_neq, xBin_lss, xBin_leq, xBin_gtr, xBin_geq, xBin_eqls, xBin_neqs, wI64, oCell_some, List.getElem?_toArray, List.getElem?_cons_zero, List.getElem?_cons_succ, Nat.zero_add, Bool.not_true, Bool.not_false, if_true, if_false, ite_true, ite_false, beq_iff_eq, bne_iff_ne, decide_eq_true_eq, ne_eq, Bool.false_eq_true, Bool.true_eq_false, reduceIte, Option.some.injEq, Int.toNat_natCast, beq_self_eq_true, bne_self_eq_false, Value.cells, splice, List.setIfInBounds_toArray, List.set_cons_zero, List.set_cons_succ, List.size_toArray, List.length_cons, List.length_nil, and_self, Nat.reduceLeDiff, Nat.reduceAdd, Nat.reduceMul, Int.reduceToNat, Int.reduceLT, Int.reduceLE, Int.reduceGT, Int.reduceGE, Int.reduceAdd, Int.reduceSub, Int.reduceMul, Int.reduceNeg, Int.reduceEq, Int.reduceNe, true_and, and_true, Int.cast_ofNat_Int, Nat.le_refl, ld3, ld4, ld22, ld23, ln23, ia23, ld25, fa25_1, fa25_2, ld29, ld31, fa31_0, bd31, bd31_0, bd31_0_1, ld50, ld51, ln51, ia51, ld53, fa53_0, fa53_1, fa53_2, fa53_3, ld75, fa75_0, fa75_1, fa75_2, ld77, fa77_0, fa77_2, fa77_3, fa77_4, fa77_5, fa77_6, fa77_7, bd77, bd77_0_1_2_3_4_5_6_7, bd77_0_1_4_5_7, neq4, ow2, ow3, ow4, ow5, ow6, ow8, ow11, ow20, ow23]
    by_cases h0 : argE (letterOf i.op k) a bound = 0
    · rw [if_neg (by simpa using h0)]
      rw [if_pos h0] at he
      have := ih (k + 1) w (by omega) he h
      rw [show ((k + 1 : Nat) : Int) = (k : Int) + 1 by omega] at this
      exact this
    · rw [if_pos h0]
      rw [if_neg h0] at he
      exact hbad _ w h.drop.drop he.symm h0
theorem c_fault {w : World} (h : So w0 w L) (i : Inst) (bound : Int) (hz : SizedI i) (ha : ArgsAt w0 i) : Cx P 46 #[i.v, .int .u32 bound] w fun v w => v = .int .i64 (rawE i bound) ∧ So w0 w L := by
  rw [← fault_raw]
  apply F46_ok
  unfold F46
  refine soBox h fun x2 w h => ?_
  have hf := h.facts
  simp only [Facts, Inst.v, Value.cells] at hf
  try simp (disch := omega) only [cnd_bool, on_some_eq, Dr_eq, xNil_ptr, xNil_func, xNil_yield, xPick_bool, unw_nil, xRes_ptr, xUn_not, xUn_neg, xEx_tuple, xBin_add, xBin_sub, xBin_mul, xBin_eql, xBin_neq, xBin_lss, xBin_leq, xBin_gtr, xBin_geq, xBin_eqls, xBin_neqs, wI64, oCell_some, List.getElem?_toArray, List.getElem?_cons_zero, List.getElem?_cons_succ, Nat.zero_add, Bool.not_true, Bool.not_false, if_true, if_false, ite_true, ite_false, beq_iff_eq, bne_iff_ne, decide_eq_true_eq, ne_eq, Bool.false_eq_true, Bool.true_eq_false, reduceIte, Option.some.injEq, Int.toNat_natCast, beq_self_eq_true, bne_self_eq_false, Value.cells, splice, List.setIfInBounds_toArray, List.set_cons_zero, List.set_cons_succ, List.size_toArray, List.length_cons, List.length_nil, and_self, Nat.reduceLeDiff, Nat.reduceAdd, Nat.reduceMul, Int.reduceToNat, Int.reduceLT, Int.reduceLE, Int.reduceGT, Int.reduceGE, Int.reduceAdd, Int.reduceSub, Int.reduceMul, Int.reduceNeg, Int.reduceEq, Int.reduceNe, true_and, and_true, Int.cast_ofNat_Int, Nat.le_refl, hf, ld3, ld4, ld22, ld23, ln23, ia23, ld25, fa25_1, fa25_2, ld29, ld31, fa31_0, bd31, bd31_0, bd31_0_1, ld50, ld51, ln51, ia51, ld53, fa53_0, fa53_1, fa53_2, fa53_3, ld75, fa75_0, fa75_1, fa75_2, ld77, fa77_0, fa77_2, fa77_3, fa77_4, fa77_5, fa77_6, fa77_7, bd77, bd77_0_1_2_3_4_5_6_7, bd77_0_1_4_5_7, neq4, ow2, ow3, ow4, ow5, ow6, ow8, ow11, ow20, ow23]
  refine Cx.mono (c_refOf h i.op) fun v w hv => ?_
  obtain ⟨rfl, h⟩ := hv
  unfold faultE
  cases hok : (formOf i.op).isSome with
  | false =>
    obtain ⟨op', he⟩ := ofV_D i.op
    rw [he, hok, Form.v_size]
    try simp (disch := omega) only [cnd_bool, on_some_eq, Dr_eq, xNil_ptr, xNil_func, xNil_yield, xPick_bool, unw_nil, xRes_ptr, xUn_not, xUn_neg, xEx_tuple, xBin_add, xBin_sub, xBin_mul, xBin_eql, xBin_neq, xBin_lss, xBin_leq, xBin_gtr, xBin_geq, xBin_eqls, xBin_neqs, wI64, oCell_some, List.getElem?_toArray, List.getElem?_cons_zero, List.getElem?_cons_succ, Nat.zero_add, Bool.not_true, Bool.not_false, if_true, if_false, ite_true, ite_false, beq_iff_eq, bne_iff_ne, decide_eq_true_eq, ne_eq, Bool.false_eq_true, Bool.true_eq_false, reduceIte, Option.some.injEq, Int.toNat_natCast, beq_self_eq_true, bne_self_eq_false, Value.cells, splice, List.setIfInBounds_toArray, List.set_cons_zero, List.set_cons_succ, List.size_toArray, List.length_cons, List.length_nil, and_self, Nat.reduceLeDiff, Nat.reduceAdd, Nat.reduceMul, Int.reduceToNat, Int.reduceLT, Int.reduceLE, Int.reduceGT, Int.reduceGE, Int.reduceAdd, Int.reduceSub, Int.reduceMul, Int.reduceNeg, Int.reduceEq, Int.reduceNe, true_and, and_true, Int.cast_ofNat_Int, Nat.le_refl, ld3, ld4, ld22, ld23, ln23, ia23, ld25, fa25_1, fa25_2, ld29, ld31, fa31_0, bd31, bd31_0, bd31_0_1, ld50, ld51, ln51, ia51, ld53, fa53_0, fa53_1, fa53_2, fa53_3, ld75, fa75_0, fa75_1, fa75_2, ld77, fa77_0, fa77_2, fa77_3, fa77_4, fa77_5, fa77_6, fa77_7, bd77, bd77_0_1_2_3_4_5_6_7, bd77_0_1_4_5_7, neq4, ow2, ow3, ow4, ow5, ow6, ow8, ow11, ow20, ow23]
    refine al77 h fun x5 w h => ?_
    try simp only [Facts, and_true, Value.cells, List.setIfInBounds_toArray, List.set_cons_zero, List.set_cons_succ, splice, Nat.zero_add, Nat.reduceAdd, List.cons_append, List.nil_append] at h
    have hf := h.facts
    simp only [Facts, and_true, Value.cells, List.setIfInBounds_toArray, List.set_cons_zero, List.set_cons_succ, splice, Nat.zero_add, Nat.reduceAdd, List.cons_append, List.nil_append] at hf
    refine soStoreA ty77 0 h (fun w h => ?_) rfl rfl rfl rfl
    first | exact h.drop.drop | exact ⟨rfl, h.drop.drop⟩
  | true =>
    rw [ofV_some hok, Form.v_size]
    try simp (disch := omega) only [cnd_bool, on_some_eq, Dr_eq, xNil_ptr, xNil_func, xNil_yield, xPick_bool, unw_nil, xRes_ptr, xUn_not, xUn_neg, xEx_tuple, xBin_add, xBin_sub, xBin_mul, xBin_eql, xBin_neq, xBin_lss, xBin_leq, xBin_gtr, xBin_geq, xBin_eqls, xBin_neqs, wI64, oCell_some, List.getElem?_toArray, List.getElem?_cons_zero, List.getElem?_cons_succ, Nat.zero_add, Bool.not_true, Bool.not_false, if_true, if_false, ite_true, ite_false, beq_iff_eq, bne_iff_ne, decide_eq_true_eq, ne_eq, Bool.false_eq_true, Bool.true_eq_false, reduceIte, Option.some.injEq, Int.toNat_natCast, beq_self_eq_true, bne_self_eq_false, Value.cells, splice, List.setIfInBounds_toArray, List.set_cons_zero, List.set_cons_succ, List.size_toArray, List.length_cons, List.length_nil, and_self, Nat.reduceLeDiff, Nat.reduceAdd, Nat.reduceMul, Int.reduceToNat, Int.reduceLT, Int.reduceLE, Int.reduceGT, Int.reduceGE, Int.reduceAdd, Int.reduceSub, Int.reduceMul, Int.reduceNeg, Int.reduceEq, Int.reduceNe, true_and, and_true, Int.cast_ofNat_Int, Nat.le_refl, ld3, ld4, ld22, ld23, ln23, ia23, ld25, fa25_1, fa25_2, ld29, ld31, fa31_0, bd31, bd31_0, bd31_0_1, ld50, ld51, ln51, ia51, ld53, fa53_0, fa53_1, fa53_2, fa53_3, ld75, fa75_0, fa75_1, fa75_2, ld77, fa77_0, fa77_2, fa77_3, fa77_4, fa77_5, fa77_6, fa77_7, bd77, bd77_0_1_2_3_4_5_6_7, bd77_0_1_4_5_7, neq4, ow2, ow3, ow4, ow5, ow6, ow8, ow11, ow20, ow23]
    refine al77 h fun x5 w h => ?_
    try simp only [Facts, and_true, Value.cells, List.setIfInBounds_toArray, List.set_cons_zero, List.set_cons_succ, splice, Nat.zero_add, Nat.reduceAdd, List.cons_append, List.nil_append] at h
    have hf := h.facts
    simp only [Facts, and_true, Value.cells, List.setIfInBounds_toArray, List.set_cons_zero, List.set_cons_succ, splice, Nat.zero_add, Nat.reduceAdd, List.cons_append, List.nil_append] at hf
    refine soStoreA ty77 0 h (fun w h => ?_) rfl rfl rfl rfl
    simp only [List.set_cons_zero] at h
    have h : So w0 w ((x5, cl (formC i.op (formD i.op)) 77) :: (x2, cl i.v.cells 53) :: L) := h
    have hf := h.facts
    simp only [Facts, Inst.v, Value.cells, formC] at hf
    try simp (disch := omega) only [cnd_bool, on_some_eq, Dr_eq, xNil_ptr, xNil_func, xNil_yield, xPick_bool, unw_nil, xRes_ptr, xUn_not, xUn_neg, xEx_tuple, xBin_add, xBin_sub, xBin_mul, xBin_eql, xBin_neq, xBin_lss, xBin_leq, xBin_gtr, xBin_geq, xBin_eqls, xBin_neqs, wI64, oCell_some, List.getElem?_toArray, List.getElem?_cons_zero, List.getElem?_cons_succ, Nat.zero_add, Bool.not_true, Bool.not_false, if_true, if_false, ite_true, ite_false, beq_iff_eq, bne_iff_ne, decide_eq_true_eq, ne_eq, Bool.false_eq_true, Bool.true_eq_false, reduceIte, Option.some.injEq, Int.toNat_natCast, beq_self_eq_true, bne_self_eq_false, Value.cells, splice, List.setIfInBounds_toArray, List.set_cons_zero, List.set_cons_succ, List.size_toArray, List.length_cons, List.length_nil, and_self, Nat.reduceLeDiff, Nat.reduceAdd, Nat.reduceMul, Int.reduceToNat, Int.reduceLT, Int.reduceLE, Int.reduceGT, Int.reduceGE, Int.reduceAdd, Int.reduceSub, Int.reduceMul, Int.reduceNeg, Int.reduceEq, Int.reduceNe, true_and, and_true, Int.cast_ofNat_Int, Nat.le_refl, hf, ld3, ld4, ld22, ld23, ln23, ia23, ld25, fa25_1, fa25_2, ld29, ld31, fa31_0, bd31, bd31_0, bd31_0_1, ld50, ld51, ln51, ia51, ld53, fa53_0, fa53_1, fa53_2, fa53_3, ld75, fa75_0, fa75_1, fa75_2, ld77, fa77_0, fa77_2, fa77_3, fa77_4, fa77_5, fa77_6, fa77_7, bd77, bd77_0_1_2_3_4_5_6_7, bd77_0_1_4_5_7, neq4, ow2, ow3, ow4, ow5, ow6, ow8, ow11, ow20, ow23]
    refine Cx.mono (c_refId h _ _ _ _) fun v w hv => ?_
    obtain ⟨rfl, h⟩ := hv
    have hf := h.facts
    simp only [Facts, Inst.v, Value.cells, formC] at hf
    try simp (disch := omega) only [cnd_bool, on_some_eq, Dr_eq, xNil_ptr, xNil_func, xNil_yield, xPick_bool, unw_nil, xRes_ptr, xUn_not, xUn_neg, xEx_tuple, xBin_add, xBin_sub, xBin_mul, xBin_eql, xBin_neq, xBin_lss, xBin_leq, xBin_gtr, xBin_geq, xBin_eqls, xBin_neqs, wI64, oCell_some, List.getElem?_toArray, List.getElem?_cons_zero, List.getElem?_cons_succ, Nat.zero_add, Bool.not_true, Bool.not_false, if_true, if_false, ite_true, ite_false, beq_iff_eq, bne_iff_ne, decide_eq_true_eq, ne_eq, Bool.false_eq_true, Bool.true_eq_false, reduceIte, Option.some.injEq, Int.toNat_natCast, beq_self_eq_true, bne_self_eq_false, Value.cells, splice, List.setIfInBounds_toArray, List.set_cons_zero, List.set_cons_succ, List.size_toArray, List.length_cons, List.length_nil, and_self, Nat.reduceLeDiff, Nat.reduceAdd, Nat.reduceMul, Int.reduceToNat, Int.reduceLT, Int.reduceLE, Int.reduceGT, Int.reduceGE, Int.reduceAdd, Int.reduceSub, Int.reduceMul, Int.reduceNeg, Int.reduceEq, Int.reduceNe, true_and, and_true, Int.cast_ofNat_Int, Nat.le_refl, hf, ld3, ld4, ld22, ld23, ln23, ia23, ld25, fa25_1, fa25_2, ld29, ld31, fa31_0, bd31, bd31_0, bd31_0_1, ld50, ld51, ln51, ia51, ld53, fa53_0, fa53_1, fa53_2, fa53_3, ld75, fa75_0, fa75_1, fa75_2, ld77, fa77_0, fa77_2, fa77_3, fa77_4, fa77_5, fa77_6, fa77_7, bd77, bd77_0_1_2_3_4_5_6_7, bd77_0_1_4_5_7, neq4, ow2, ow3, ow4, ow5, ow6, ow8, ow11, ow20, ow23]
    by_cases h1 : headE (formD i.op).ty i.ty bound 40 ≠ 0
    · rw [if_pos h1]
      simp only [Bool.true_eq_false, if_false, if_pos h1]
      first | exact h.drop.drop | exact ⟨rfl, h.drop.drop⟩ | exact ⟨trivial, h.drop.drop⟩
    rw [if_neg h1]
    refine Cx.mono (c_refId h _ _ _ _) fun v w hv => ?_
    obtain ⟨rfl, h⟩ := hv
    try simp (disch := omega) only [cnd_bool, on_some_eq, Dr_eq, xNil_ptr, xNil_func, xNil_yield, xPick_bool, unw_nil, xRes_ptr, xUn_not, xUn_neg, xEx_tuple, xBin_add, xBin_sub, xBin_mul, xBin_eql, xBin_neq, xBin_lss, xBin_leq, xBin_gtr, xBin_geq, xBin_eqls, xBin_neqs, wI64, oCell_some, List.getElem?_toArray, List.getElem?_cons_zero, List.getElem?_cons_succ, Nat.zero_add, Bool.not_true, Bool.not_false, if_true, if_false, ite_true, ite_false, beq_iff_eq, bne_iff_ne, decide_eq_true_eq, ne_eq, Bool.false_eq_true, Bool.true_eq_false, reduceIte, Option.some.injEq, Int.toNat_natCast, beq_self_eq_true, bne_self_eq_false, Value.cells, splice, List.setIfInBounds_toArray, List.set_cons_zero, List.set_cons_succ, List.size_toArray, List.length_cons, List.length_nil, and_self, Nat.reduceLeDiff, Nat.reduceAdd, Nat.reduceMul, Int.reduceToNat, Int.reduceLT, Int.reduceLE, Int.reduceGT, Int.reduceGE, Int.reduceAdd, Int.reduceSub, Int.reduceMul, Int.reduceNeg, Int.reduceEq, Int.reduceNe, true_and, and_true, Int.cast_ofNat_Int, Nat.le_refl, ld3, ld4, ld22, ld23, ln23, ia23, ld25, fa25_1, fa25_2, ld29, ld31, fa31_0, bd31, bd31_0, bd31_0_1, ld50, ld51, ln51, ia51, ld53, fa53_0, fa53_1, fa53_2, fa53_3, ld75, fa75_0, fa75_1, fa75_2, ld77, fa77_0, fa77_2, fa77_3, fa77_4, fa77_5, fa77_6, fa77_7, bd77, bd77_0_1_2_3_4_5_6_7, bd77_0_1_4_5_7, neq4, ow2, ow3, ow4, ow5, ow6, ow8, ow11, ow20, ow23]
    by_cases h2 : headE (formD i.op).res i.res bound 41 ≠ 0
    · rw [if_pos h2]
      simp only [Bool.true_eq_false, if_false, if_neg h1, if_pos h2]
      first | exact h.drop.drop | exact ⟨rfl, h.drop.drop⟩ | exact ⟨trivial, h.drop.drop⟩
    rw [if_neg h2]
    simp only [Bool.true_eq_false, if_false, if_neg h1, if_neg h2]
    unfold F46.k1 F46.k3
    refine ⟨_, fault_loop hz ha ?_ ?_ i.args.length 0 w (by omega) rfl h⟩
    · intro e w h he hne
      rw [← he, if_pos hne]
      exact ⟨rfl, h⟩
    · intro h0 w h
      rw [h0]
      simp only [ne_eq, not_true_eq_false, if_false]
      unfold F46.k2
      have hf := h.facts
      simp only [Facts, Inst.v, Value.cells, formC] at hf
      have hzl := hz.1
      try simp (disch := omega) only [cnd_bool, on_some_eq, Dr_eq, xNil_ptr, xNil_func, xNil_yield, xPick_bool, unw_nil, xRes_ptr, xUn_not, xUn_neg, xEx_tuple, xBin_add, xBin_sub, xBin_mul, xBin_eql, xBin_neq, xBin_lss, xBin_leq, xBin_gtr, xBin_geq, xBin_eqls, xBin_neqs, wI64, oCell_some, List.getElem?_toArray, List.getElem?_cons_zero, List.getElem?_cons_succ, Nat.zero_add, Bool.not_true, Bool.not_false, if_true, if_false, ite_true, ite_false, beq_iff_eq, bne_iff_ne, decide_eq_true_eq, ne_eq, Bool.false_eq_true, Bool.true_eq_false, reduceIte, Option.some.injEq, Int.toNat_natCast, beq_self_eq_true, bne_self_eq_false, Value.cells, splice, List.setIfInBounds_toArray, List.set_cons_zero, List.set_cons_succ, List.size_toArray, List.length_cons, List.length_nil, and_self, Nat.reduceLeDiff, Nat.reduceAdd, Nat.reduceMul, Int.reduceToNat, Int.reduceLT, Int.reduceLE, Int.reduceGT, Int.reduceGE, Int.reduceAdd, Int.reduceSub, Int.reduceMul, Int.reduceNeg, Int.reduceEq, Int.reduceNe, true_and, and_true, Int.cast_ofNat_Int, Nat.le_refl, hf, ld3, ld4, ld22, ld23, ln23, ia23, ld25, fa25_1, fa25_2, ld29, ld31, fa31_0, bd31, bd31_0, bd31_0_1, ld50, ld51, ln51, ia51, ld53, fa53_0, fa53_1, fa53_2, fa53_3, ld75, fa75_0, fa75_1, fa75_2, ld77, fa77_0, fa77_2, fa77_3, fa77_4, fa77_5, fa77_6, fa77_7, bd77, bd77_0_1_2_3_4_5_6_7, bd77_0_1_4_5_7, neq4, ow2, ow3, ow4, ow5, ow6, ow8, ow11, ow20, ow23, Sl.len sl51 ha, List.length_map]
      refine Cx.mono (@c_refWhole w0 _ w h (formD i.op) (formD_ok _) i.op i.args.length (by omega)) fun v w hv => ?_
      obtain ⟨rfl, h⟩ := hv
      have hf := h.facts
      simp only [Facts, Inst.v, Value.cells, formC] at hf
      cases hw : wholeR (formD i.op) i.args.length with
      | false =>
        try simp (disch := omega) only [cnd_bool, on_some_eq, Dr_eq, xNil_ptr, xNil_func, xNil_yield, xPick_bool, unw_nil, xRes_ptr, xUn_not, xUn_neg, xEx_tuple, xBin_add, xBin_sub, xBin_mul, xBin_eql, xBin_neq, xBin_lss, xBin_leq, xBin_gtr, xBin_geq, xBin_eqls, xBin_neqs, wI64, oCell_some, List.getElem?_toArray, List.getElem?_cons_zero, List.getElem?_cons_succ, Nat.zero_add, Bool.not_true, Bool.not_false, if_true, if_false, ite_true, ite_false, beq_iff_eq, bne_iff_ne, decide_eq_true_eq, ne_eq, Bool.false_eq_true, Bool.true_eq_false, reduceIte, Option.some.injEq, Int.toNat_natCast, beq_self_eq_true, bne_self_eq_false, Value.cells, splice, List.setIfInBounds_toArray, List.set_cons_zero, List.set_cons_succ, List.size_toArray, List.length_cons, List.length_nil, and_self, Nat.reduceLeDiff, Nat.reduceAdd, Nat.reduceMul, Int.reduceToNat, Int.reduceLT, Int.reduceLE, Int.reduceGT, Int.reduceGE, Int.reduceAdd, Int.reduceSub, Int.reduceMul, Int.reduceNeg, Int.reduceEq, Int.reduceNe, true_and, and_true, Int.cast_ofNat_Int, Nat.le_refl, hf, ld3, ld4, ld22, ld23, ln23, ia23, ld25, fa25_1, fa25_2, ld29, ld31, fa31_0, bd31, bd31_0, bd31_0_1, ld50, ld51, ln51, ia51, ld53, fa53_0, fa53_1, fa53_2, fa53_3, ld75, fa75_0, fa75_1, fa75_2, ld77, fa77_0, fa77_2, fa77_3, fa77_4, fa77_5, fa77_6, fa77_7, bd77, bd77_0_1_2_3_4_5_6_7, bd77_0_1_4_5_7, neq4, ow2, ow3, ow4, ow5, ow6, ow8, ow11, ow20, ow23]
        first | exact h.drop.drop | exact ⟨rfl, h.drop.drop⟩ | exact ⟨trivial, h.drop.drop⟩
      | true =>
        try simp (disch := omega) only [cnd_bool, on_some_eq, Dr_eq, xNil_ptr, xNil_func, xNil_yield, xPick_bool, unw_nil, xRes_ptr, xUn_not, xUn_neg, xEx_tuple, xBin_add, xBin_sub, xBin_mul, xBin_eql, xBin_neq, xBin_lss, xBin_leq, xBin_gtr, xBin_geq, xBin_eqls, xBin_neqs, wI64, oCell_some, List.getElem?_toArray, List.getElem?_cons_zero, List.getElem?_cons_succ, Nat.zero_add, Bool.not_true, Bool.not_false, if_true, if_false, ite_true, ite_false, beq_iff_eq, bne_iff_ne, decide_eq_true_eq, ne_eq, Bool.false_eq_true, Bool.true_eq_false, reduceIte, Option.some.injEq, Int.toNat_natCast, beq_self_eq_true, bne_self_eq_false, Value.cells, splice, List.setIfInBounds_toArray, List.set_cons_zero, List.set_cons_succ, List.size_toArray, List.length_cons, List.length_nil, and_self, Nat.reduceLeDiff, Nat.reduceAdd, Nat.reduceMul, Int.reduceToNat, Int.reduceLT, Int.reduceLE, Int.reduceGT, Int.reduceGE, Int.reduceAdd, Int.reduceSub, Int.reduceMul, Int.reduceNeg, Int.reduceEq, Int.reduceNe, true_and, and_true, Int.cast_ofNat_Int, Nat.le_refl, hf, ld3, ld4, ld22, ld23, ln23, ia23, ld25, fa25_1, fa25_2, ld29, ld31, fa31_0, bd31, bd31_0, bd31_0_1, ld50, ld51, ln51, ia51, ld53, fa53_0, fa53_1, fa53_2, fa53_3, ld75, fa75_0, fa75_1, fa75_2, ld77, fa77_0, fa77_2, fa77_3, fa77_4, fa77_5, fa77_6, fa77_7, bd77, bd77_0_1_2_3_4_5_6_7, bd77_0_1_4_5_7, neq4, ow2, ow3, ow4, ow5, ow6, ow8, ow11, ow20, ow23]
        refine Cx.mono (c_refRoomI h hz ha) fun v w hv => ?_
        obtain ⟨rfl, h⟩ := hv
        try simp only [Bool.true_eq_false, if_false]
        try simp (disch := omega) only [cnd_bool, on_some_eq, Dr_eq, xNil_ptr, xNil_func, xNil_yield, xPick_bool, unw_nil, xRes_ptr, xUn_not, xUn_neg, xEx_tuple, xBin_add, xBin_sub, xBin_mul, xBin_eql, xBin_neq, xBin_lss, xBin_leq, xBin_gtr, xBin_geq, xBin_eqls, xBin_neqs, wI64, oCell_some, List.getElem?_toArray, List.getElem?_cons_zero, List.getElem?_cons_succ, Nat.zero_add, Bool.not_true, Bool.not_false, if_true, if_false, ite_true, ite_false, beq_iff_eq, bne_iff_ne, decide_eq_true_eq, ne_eq, Bool.false_eq_true, Bool.true_eq_false, reduceIte, Option.some.injEq, Int.toNat_natCast, beq_self_eq_true, bne_self_eq_false, Value.cells, splice, List.setIfInBounds_toArray, List.set_cons_zero, List.set_cons_succ, List.size_toArray, List.length_cons, List.length_nil, and_self, Nat.reduceLeDiff, Nat.reduceAdd, Nat.reduceMul, Int.reduceToNat, Int.reduceLT, Int.reduceLE, Int.reduceGT, Int.reduceGE, Int.reduceAdd, Int.reduceSub, Int.reduceMul, Int.reduceNeg, Int.reduceEq, Int.reduceNe, true_and, and_true, Int.cast_ofNat_Int, Nat.le_refl, ld3, ld4, ld22, ld23, ln23, ia23, ld25, fa25_1, fa25_2, ld29, ld31, fa31_0, bd31, bd31_0, bd31_0_1, ld50, ld51, ln51, ia51, ld53, fa53_0, fa53_1, fa53_2, fa53_3, ld75, fa75_0, fa75_1, fa75_2, ld77, fa77_0, fa77_2, fa77_3, fa77_4, fa77_5, fa77_6, fa77_7, bd77, bd77_0_1_2_3_4_5_6_7, bd77_0_1_4_5_7, neq4, ow2, ow3, ow4, ow5, ow6, ow8, ow11, ow20, ow23]
        by_cases hb : 65535 < 1 + rawE.roomI i
        · rw [if_pos (by omega), if_pos hb]
          exact ⟨rfl, h.drop.drop⟩
        · rw [if_neg (by omega), if_neg hb]
          exact ⟨rfl, h.drop.drop⟩
theorem refShape_loop {x1 x2 : Nat} {m : Modl} (hi : InstsAt w0 m.iv m.insts) (hl : m.insts.length ≤ 1048576) (hz : ∀ i ∈ m.insts, SizedI i) :
    ∀ (q k n : Nat) (w : World), k + q = m.insts.length → n ≤ 1048576 → So w0 w ((x2, cl #[.int .i64 0, .int .i64 0] 31) :: (x1, cl m.c 25) :: L) →
      F32.l1 (fun v w => v = spotV (shapeL m.bound k n (m.insts.drop k)) ∧ So w0 w L) (q + 1) (.pointer (some ⟨x1, 0, none⟩)) (.pointer (some ⟨x2, 0, none⟩)) (.int .i64 (n : Int)) (.int .i64 (k : Int)) w := by
  intro q
  induction q with
  | zero =>
    intro k n w hk hn h
    have hf := h.facts
    simp only [Facts, Modl.c] at hf
    unfold F32.l1
    try simp (disch := omega) only [cnd_bool, on_some_eq, Dr_eq, xNil_ptr, xNil_func, xNil_yield, xPick_bool, unw_nil, xRes_ptr, xUn_not, xUn_neg, xEx_tuple, xBin_add, xBin_sub, xBin_mul, xBin_eql, xBin_neq, xBin_lss, xBin_leq, xBin_gtr, xBin_geq, xBin_eqls, xBin_neqs, wI64, oCell_some, List.getElem?_toArray, List.getElem?_cons_zero, List.getElem?_cons_succ, Nat.zero_add, Bool.not_true, Bool.not_false, if_true, if_false, ite_true, ite_false, beq_iff_eq, bne_iff_ne, decide_eq_true_eq, ne_eq, Bool.false_eq_true, Bool.true_eq_false, reduceIte, Option.some.injEq, Int.toNat_natCast, beq_self_eq_true, bne_self_eq_false, Value.cells, splice, List.setIfInBounds_toArray, List.set_cons_zero, List.set_cons_succ, List.size_toArray, List.length_cons, List.length_nil, and_self, Nat.reduceLeDiff, Nat.reduceAdd, Nat.reduceMul, Int.reduceToNat, Int.reduceLT, Int.reduceLE, Int.reduceGT, Int.reduceGE, Int.reduceAdd, Int.reduceSub, Int.reduceMul, Int.reduceNeg, Int.reduceEq, Int.reduceNe, true_and, and_true, Int.cast_ofNat_Int, Nat.le_refl, hf, ld3, ld4, ld22, ld23, ln23, ia23, ld25, fa25_1, fa25_2, ld29, ld31, fa31_0, bd31, bd31_0, bd31_0_1, ld50, ld51, ln51, ia51, ld53, fa53_0, fa53_1, fa53_2, fa53_3, ld75, fa75_0, fa75_1, fa75_2, ld77, fa77_0, fa77_2, fa77_3, fa77_4, fa77_5, fa77_6, fa77_7, bd77, bd77_0_1_2_3_4_5_6_7, bd77_0_1_4_5_7, neq4, ow2, ow3, ow4, ow5, ow6, ow8, ow11, ow20, ow23, Sl.len sl23 hi.1, List.length_map]
    rw [if_neg (by omega), List.drop_of_length_le (by omega)]
    unfold F32.k3 shapeL
    try simp (disch := omega) only [cnd_bool, on_some_eq, Dr_eq, xNil_ptr, xNil_func, xNil_yield, xPick_bool, unw_nil, xRes_ptr, xUn_not, xUn_neg, xEx_tuple, xBin_add, xBin_sub, xBin_mul, xBin_eql, xBin_neq, xBin_lss, xBin_leq, xBin_gtr, xBin_geq, xBin_eqls, xBin_neqs, wI64, oCell_some, List.getElem?_toArray, List.getElem?_cons_zero, List.getElem?_cons_succ, Nat.zero_add, Bool.not_true, Bool.not_false, if_true, if_false, ite_true, ite_false, beq_iff_eq, bne_iff_ne, decide_eq_true_eq, ne_eq, Bool.false_eq_true, Bool.true_eq_false, reduceIte, Option.some.injEq, Int.toNat_natCast, beq_self_eq_true, bne_self_eq_false, Value.cells, splice, List.setIfInBounds_toArray, List.set_cons_zero, List.set_cons_succ, List.size_toArray, List.length_cons, List.length_nil, and_self, Nat.reduceLeDiff, Nat.reduceAdd, Nat.reduceMul, Int.reduceToNat, Int.reduceLT, Int.reduceLE, Int.reduceGT, Int.reduceGE, Int.reduceAdd, Int.reduceSub, Int.reduceMul, Int.reduceNeg, Int.reduceEq, Int.reduceNe, true_and, and_true, Int.cast_ofNat_Int, Nat.le_refl, ld3, ld4, ld22, ld23, ln23, ia23, ld25, fa25_1, fa25_2, ld29, ld31, fa31_0, bd31, bd31_0, bd31_0_1, ld50, ld51, ln51, ia51, ld53, fa53_0, fa53_1, fa53_2, fa53_3, ld75, fa75_0, fa75_1, fa75_2, ld77, fa77_0, fa77_2, fa77_3, fa77_4, fa77_5, fa77_6, fa77_7, bd77, bd77_0_1_2_3_4_5_6_7, bd77_0_1_4_5_7, neq4, ow2, ow3, ow4, ow5, ow6, ow8, ow11, ow20, ow23]
    refine soStoreA ty31 0 h (fun w h => ?_) rfl rfl rfl rfl
    simp only [List.set_cons_zero] at h
    have hf := h.facts
    simp only [Facts] at hf
    try simp (disch := omega) only [cnd_bool, on_some_eq, Dr_eq, xNil_ptr, xNil_func, xNil_yield, xPick_bool, unw_nil, xRes_ptr, xUn_not, xUn_neg, xEx_tuple, xBin_add, xBin_sub, xBin_mul, xBin_eql, xBin_neq, xBin_lss, xBin_leq, xBin_gtr, xBin_geq, xBin_eqls, xBin_neqs, wI64, oCell_some, List.getElem?_toArray, List.getElem?_cons_zero, List.getElem?_cons_succ, Nat.zero_add, Bool.not_true, Bool.not_false, if_true, if_false, ite_true, ite_false, beq_iff_eq, bne_iff_ne, decide_eq_true_eq, ne_eq, Bool.false_eq_true, Bool.true_eq_false, reduceIte, Option.some.injEq, Int.toNat_natCast, beq_self_eq_true, bne_self_eq_false, Value.cells, splice, List.setIfInBounds_toArray, List.set_cons_zero, List.set_cons_succ, List.size_toArray, List.length_cons, List.length_nil, and_self, Nat.reduceLeDiff, Nat.reduceAdd, Nat.reduceMul, Int.reduceToNat, Int.reduceLT, Int.reduceLE, Int.reduceGT, Int.reduceGE, Int.reduceAdd, Int.reduceSub, Int.reduceMul, Int.reduceNeg, Int.reduceEq, Int.reduceNe, true_and, and_true, Int.cast_ofNat_Int, Nat.le_refl, hf, ld3, ld4, ld22, ld23, ln23, ia23, ld25, fa25_1, fa25_2, ld29, ld31, fa31_0, bd31, bd31_0, bd31_0_1, ld50, ld51, ln51, ia51, ld53, fa53_0, fa53_1, fa53_2, fa53_3, ld75, fa75_0, fa75_1, fa75_2, ld77, fa77_0, fa77_2, fa77_3, fa77_4, fa77_5, fa77_6, fa77_7, bd77, bd77_0_1_2_3_4_5_6_7, bd77_0_1_4_5_7, neq4, ow2, ow3, ow4, ow5, ow6, ow8, ow11, ow20, ow23]
    first | exact h.drop.drop | exact ⟨rfl, h.drop.drop⟩
  | succ q ih =>
    intro k n w hk hn h
    have hlt : k < m.insts.length := by omega
    obtain ⟨g, o, k1, k2, k3⟩ := Sl.fix sl23 hi.1 (k : Int) (i := k) (el := m.insts[k].c) rfl (by simp [hlt])
    rw [agg_c] at k2
    rw [List.drop_eq_getElem_cons hlt, shapeL]
    generalize hik : m.insts[k] = i at *
    have him : i ∈ m.insts := hik ▸ List.getElem_mem hlt
    have k3 : ∀ (w : World) (L : List (Nat × Obj)), So w0 w L → oCell w.heap[g]? o = some (.int .u16 i.op) := fun w L h => k3 w L h 0 (by omega)
    have hf0 := h.facts
    have h := h.drew
    have hf := h.facts
    simp only [Facts, Modl.c] at hf hf0
    unfold F32.l1
    try simp (disch := omega) only [cnd_bool, on_some_eq, Dr_eq, xNil_ptr, xNil_func, xNil_yield, xPick_bool, unw_nil, xRes_ptr, xUn_not, xUn_neg, xEx_tuple, xBin_add, xBin_sub, xBin_mul, xBin_eql, xBin_neq, xBin_lss, xBin_leq, xBin_gtr, xBin_geq, xBin_eqls, xBin_neqs, wI64, oCell_some, List.getElem?_toArray, List.getElem?_cons_zero, List.getElem?_cons_succ, Nat.zero_add, Bool.not_true, Bool.not_false, if_true, if_false, ite_true, ite_false, beq_iff_eq, bne_iff_ne, decide_eq_true_eq, ne_eq, Bool.false_eq_true, Bool.true_eq_false, reduceIte, Option.some.injEq, Int.toNat_natCast, beq_self_eq_true, bne_self_eq_false, Value.cells, splice, List.setIfInBounds_toArray, List.set_cons_zero, List.set_cons_succ, List.size_toArray, List.length_cons, List.length_nil, and_self, Nat.reduceLeDiff, Nat.reduceAdd, Nat.reduceMul, Int.reduceToNat, Int.reduceLT, Int.reduceLE, Int.reduceGT, Int.reduceGE, Int.reduceAdd, Int.reduceSub, Int.reduceMul, Int.reduceNeg, Int.reduceEq, Int.reduceNe, true_and, and_true, Int.cast_ofNat_Int, Nat.le_refl, hf, ld3, ld4, ld22, ld23, ln23, ia23, ld25, fa25_1, fa25_2, ld29, ld31, fa31_0, bd31, bd31_0, bd31_0_1, ld50, ld51, ln51, ia51, ld53, fa53_0, fa53_1, fa53_2, fa53_3, ld75, fa75_0, fa75_1, fa75_2, ld77, fa77_0, fa77_2, fa77_3, fa77_4, fa77_5, fa77_6, fa77_7, bd77, bd77_0_1_2_3_4_5_6_7, bd77_0_1_4_5_7, neq4, ow2, ow3, ow4, ow5, ow6, ow8, ow11, ow20, ow23, hf0, Sl.len sl23 hi.1, List.length_map, k1, k2 _ _ h]
    rw [if_pos (by omega)]
    refine Cx.mono (c_fault h i m.bound (hz i him) (hi.2 i him)) fun v w hv => ?_
    obtain ⟨rfl, h⟩ := hv
    have hf := h.facts
    simp only [Facts, Modl.c] at hf
    try simp (disch := omega) only [cnd_bool, on_some_eq, Dr_eq, xNil_ptr, xNil_func, xNil_yield, xPick_bool, unw_nil, xRes_ptr, xUn_not, xUn_neg, xEx_tuple, xBin_add, xBin_sub, xBin_mul, xBin_eql, xBin_neq, xBin_lss, xBin_leq, xBin_gtr, xBin_geq, xBin_eqls, xBin_neqs, wI64, oCell_some, List.getElem?_toArray, List.getElem?_cons_zero, List.getElem?_cons_succ, Nat.zero_add, Bool.not_true, Bool.not_false, if_true, if_false, ite_true, ite_false, beq_iff_eq, bne_iff_ne, decide_eq_true_eq, ne_eq, Bool.false_eq_true, Bool.true_eq_false, reduceIte, Option.some.injEq, Int.toNat_natCast, beq_self_eq_true, bne_self_eq_false, Value.cells, splice, List.setIfInBounds_toArray, List.set_cons_zero, List.set_cons_succ, List.size_toArray, List.length_cons, List.length_nil, and_self, Nat.reduceLeDiff, Nat.reduceAdd, Nat.reduceMul, Int.reduceToNat, Int.reduceLT, Int.reduceLE, Int.reduceGT, Int.reduceGE, Int.reduceAdd, Int.reduceSub, Int.reduceMul, Int.reduceNeg, Int.reduceEq, Int.reduceNe, true_and, and_true, Int.cast_ofNat_Int, Nat.le_refl, hf, ld3, ld4, ld22, ld23, ln23, ia23, ld25, fa25_1, fa25_2, ld29, ld31, fa31_0, bd31, bd31_0, bd31_0_1, ld50, ld51, ln51, ia51, ld53, fa53_0, fa53_1, fa53_2, fa53_3, ld75, fa75_0, fa75_1, fa75_2, ld77, fa77_0, fa77_2, fa77_3, fa77_4, fa77_5, fa77_6, fa77_7, bd77, bd77_0_1_2_3_4_5_6_7, bd77_0_1_4_5_7, neq4, ow2, ow3, ow4, ow5, ow6, ow8, ow11, ow20, ow23, k1, k3 _ _ h]
    by_cases he : rawE i m.bound ≠ 0
    · rw [if_pos he, if_pos he]
      try rw [if_pos he]
      refine soStoreA ty31 0 h (fun w h => ?_) rfl rfl rfl rfl
      simp only [List.set_cons_zero] at h
      have hf := h.facts
      simp only [Facts] at hf
      try simp (disch := omega) only [cnd_bool, on_some_eq, Dr_eq, xNil_ptr, xNil_func, xNil_yield, xPick_bool, unw_nil, xRes_ptr, xUn_not, xUn_neg, xEx_tuple, xBin_add, xBin_sub, xBin_mul, xBin_eql, xBin_neq, xBin_lss, xBin_leq, xBin_gtr, xBin_geq, xBin_eqls, xBin_neqs, wI64, oCell_some, List.getElem?_toArray, List.getElem?_cons_zero, List.getElem?_cons_succ, Nat.zero_add, Bool.not_true, Bool.not_false, if_true, if_false, ite_true, ite_false, beq_iff_eq, bne_iff_ne, decide_eq_true_eq, ne_eq, Bool.false_eq_true, Bool.true_eq_false, reduceIte, Option.some.injEq, Int.toNat_natCast, beq_self_eq_true, bne_self_eq_false, Value.cells, splice, List.setIfInBounds_toArray, List.set_cons_zero, List.set_cons_succ, List.size_toArray, List.length_cons, List.length_nil, and_self, Nat.reduceLeDiff, Nat.reduceAdd, Nat.reduceMul, Int.reduceToNat, Int.reduceLT, Int.reduceLE, Int.reduceGT, Int.reduceGE, Int.reduceAdd, Int.reduceSub, Int.reduceMul, Int.reduceNeg, Int.reduceEq, Int.reduceNe, true_and, and_true, Int.cast_ofNat_Int, Nat.le_refl, hf, ld3, ld4, ld22, ld23, ln23, ia23, ld25, fa25_1, fa25_2, ld29, ld31, fa31_0, bd31, bd31_0, bd31_0_1, ld50, ld51, ln51, ia51, ld53, fa53_0, fa53_1, fa53_2, fa53_3, ld75, fa75_0, fa75_1, fa75_2, ld77, fa77_0, fa77_2, fa77_3, fa77_4, fa77_5, fa77_6, fa77_7, bd77, bd77_0_1_2_3_4_5_6_7, bd77_0_1_4_5_7, neq4, ow2, ow3, ow4, ow5, ow6, ow8, ow11, ow20, ow23]
      first | exact h.drop.drop | exact ⟨rfl, h.drop.drop⟩
    rw [if_neg he]
    simp only [if_neg he]
    have hok : (formOf i.op).isSome = true := by
      unfold rawE at he
      cases hs : (formOf i.op).isSome with
      | true => rfl
      | false => rw [hs] at he; simp at he
    refine Cx.mono (c_refOf h i.op) fun v w hv => ?_
    obtain ⟨rfl, h⟩ := hv
    rw [ofV_some hok, Form.v_size]
    try simp (disch := omega) only [cnd_bool, on_some_eq, Dr_eq, xNil_ptr, xNil_func, xNil_yield, xPick_bool, unw_nil, xRes_ptr, xUn_not, xUn_neg, xEx_tuple, xBin_add, xBin_sub, xBin_mul, xBin_eql, xBin_neq, xBin_lss, xBin_leq, xBin_gtr, xBin_geq, xBin_eqls, xBin_neqs, wI64, oCell_some, List.getElem?_toArray, List.getElem?_cons_zero, List.getElem?_cons_succ, Nat.zero_add, Bool.not_true, Bool.not_false, if_true, if_false, ite_true, ite_false, beq_iff_eq, bne_iff_ne, decide_eq_true_eq, ne_eq, Bool.false_eq_true, Bool.true_eq_false, reduceIte, Option.some.injEq, Int.toNat_natCast, beq_self_eq_true, bne_self_eq_false, Value.cells, splice, List.setIfInBounds_toArray, List.set_cons_zero, List.set_cons_succ, List.size_toArray, List.length_cons, List.length_nil, and_self, Nat.reduceLeDiff, Nat.reduceAdd, Nat.reduceMul, Int.reduceToNat, Int.reduceLT, Int.reduceLE, Int.reduceGT, Int.reduceGE, Int.reduceAdd, Int.reduceSub, Int.reduceMul, Int.reduceNeg, Int.reduceEq, Int.reduceNe, true_and, and_true, Int.cast_ofNat_Int, Nat.le_refl, ld3, ld4, ld22, ld23, ln23, ia23, ld25, fa25_1, fa25_2, ld29, ld31, fa31_0, bd31, bd31_0, bd31_0_1, ld50, ld51, ln51, ia51, ld53, fa53_0, fa53_1, fa53_2, fa53_3, ld75, fa75_0, fa75_1, fa75_2, ld77, fa77_0, fa77_2, fa77_3, fa77_4, fa77_5, fa77_6, fa77_7, bd77, bd77_0_1_2_3_4_5_6_7, bd77_0_1_4_5_7, neq4, ow2, ow3, ow4, ow5, ow6, ow8, ow11, ow20, ow23]
    refine al77 h fun x6 w h => ?_
    try simp only [Facts, and_true, Value.cells, List.setIfInBounds_toArray, List.set_cons_zero, List.set_cons_succ, splice, Nat.zero_add, Nat.reduceAdd, List.cons_append, List.nil_append] at h
    have hf := h.facts
    simp only [Facts, and_true, Value.cells, List.setIfInBounds_toArray, List.set_cons_zero, List.set_cons_succ, splice, Nat.zero_add, Nat.reduceAdd, List.cons_append, List.nil_append] at hf
    refine soStoreA ty77 0 h (fun w h => ?_) rfl rfl rfl rfl
    simp only [List.set_cons_zero] at h
    try rw [Dr_eq]
    have h := h.drew
    have h : So w0 w.drew ((x6, cl (formC i.op (formD i.op)) 77) :: (x2, cl #[.int .i64 0, .int .i64 0] 31) :: (x1, cl m.c 25) :: L) := h
    have hf := h.facts
    simp only [Facts, Modl.c, formC] at hf
    try simp (disch := omega) only [cnd_bool, on_some_eq, Dr_eq, xNil_ptr, xNil_func, xNil_yield, xPick_bool, unw_nil, xRes_ptr, xUn_not, xUn_neg, xEx_tuple, xBin_add, xBin_sub, xBin_mul, xBin_eql, xBin_neq, xBin_lss, xBin_leq, xBin_gtr, xBin_geq, xBin_eqls, xBin_neqs, wI64, oCell_some, List.getElem?_toArray, List.getElem?_cons_zero, List.getElem?_cons_succ, Nat.zero_add, Bool.not_true, Bool.not_false, if_true, if_false, ite_true, ite_false, beq_iff_eq, bne_iff_ne, decide_eq_true_eq, ne_eq, Bool.false_eq_true, Bool.true_eq_false, reduceIte, Option.some.injEq, Int.toNat_natCast, beq_self_eq_true, bne_self_eq_false, Value.cells, splice, List.setIfInBounds_toArray, List.set_cons_zero, List.set_cons_succ, List.size_toArray, List.length_cons, List.length_nil, and_self, Nat.reduceLeDiff, Nat.reduceAdd, Nat.reduceMul, Int.reduceToNat, Int.reduceLT, Int.reduceLE, Int.reduceGT, Int.reduceGE, Int.reduceAdd, Int.reduceSub, Int.reduceMul, Int.reduceNeg, Int.reduceEq, Int.reduceNe, true_and, and_true, Int.cast_ofNat_Int, Nat.le_refl, hf, ld3, ld4, ld22, ld23, ln23, ia23, ld25, fa25_1, fa25_2, ld29, ld31, fa31_0, bd31, bd31_0, bd31_0_1, ld50, ld51, ln51, ia51, ld53, fa53_0, fa53_1, fa53_2, fa53_3, ld75, fa75_0, fa75_1, fa75_2, ld77, fa77_0, fa77_2, fa77_3, fa77_4, fa77_5, fa77_6, fa77_7, bd77, bd77_0_1_2_3_4_5_6_7, bd77_0_1_4_5_7, neq4, ow2, ow3, ow4, ow5, ow6, ow8, ow11, ow20, ow23, k1, k2 _ _ h]
    refine Cx.mono (c_refRoomI h (hz i him) (hi.2 i him)) fun v w hv => ?_
    obtain ⟨rfl, h⟩ := hv
    have hri : rawE.roomI i < 65535 := by
      have he : rawE i m.bound = 0 := by simpa using he
      unfold rawE at he
      repeat' split at he
      all_goals first | omega | skip
    generalize rawE.roomI i = rr at *
    have hf := h.facts
    simp only [Facts] at hf
    try simp (disch := omega) only [cnd_bool, on_some_eq, Dr_eq, xNil_ptr, xNil_func, xNil_yield, xPick_bool, unw_nil, xRes_ptr, xUn_not, xUn_neg, xEx_tuple, xBin_add, xBin_sub, xBin_mul, xBin_eql, xBin_neq, xBin_lss, xBin_leq, xBin_gtr, xBin_geq, xBin_eqls, xBin_neqs, wI64, oCell_some, List.getElem?_toArray, List.getElem?_cons_zero, List.getElem?_cons_succ, Nat.zero_add, Bool.not_true, Bool.not_false, if_true, if_false, ite_true, ite_false, beq_iff_eq, bne_iff_ne, decide_eq_true_eq, ne_eq, Bool.false_eq_true, Bool.true_eq_false, reduceIte, Option.some.injEq, Int.toNat_natCast, beq_self_eq_true, bne_self_eq_false, Value.cells, splice, List.setIfInBounds_toArray, List.set_cons_zero, List.set_cons_succ, List.size_toArray, List.length_cons, List.length_nil, and_self, Nat.reduceLeDiff, Nat.reduceAdd, Nat.reduceMul, Int.reduceToNat, Int.reduceLT, Int.reduceLE, Int.reduceGT, Int.reduceGE, Int.reduceAdd, Int.reduceSub, Int.reduceMul, Int.reduceNeg, Int.reduceEq, Int.reduceNe, true_and, and_true, Int.cast_ofNat_Int, Nat.le_refl, hf, ld3, ld4, ld22, ld23, ln23, ia23, ld25, fa25_1, fa25_2, ld29, ld31, fa31_0, bd31, bd31_0, bd31_0_1, ld50, ld51, ln51, ia51, ld53, fa53_0, fa53_1, fa53_2, fa53_3, ld75, fa75_0, fa75_1, fa75_2, ld77, fa77_0, fa77_2, fa77_3, fa77_4, fa77_5, fa77_6, fa77_7, bd77, bd77_0_1_2_3_4_5_6_7, bd77_0_1_4_5_7, neq4, ow2, ow3, ow4, ow5, ow6, ow8, ow11, ow20, ow23]
    by_cases hb : 1048576 < n + (1 + rr)
    · rw [if_pos (by omega), if_pos hb]
      refine soStoreA ty31 0 (h.perm (M := (x2, cl #[.int .i64 0, .int .i64 0] 31) :: (x6, cl (formC i.op (formD i.op)) 77) :: (x1, cl m.c 25) :: L) (perm_of fun c d ha hc h0 => by simp only [ha, hc, h0]; omega)) (fun w h => ?_) rfl rfl rfl rfl
      simp only [List.set_cons_zero] at h
      have hf := h.facts
      simp only [Facts] at hf
      try simp (disch := omega) only [cnd_bool, on_some_eq, Dr_eq, xNil_ptr, xNil_func, xNil_yield, xPick_bool, unw_nil, xRes_ptr, xUn_not, xUn_neg, xEx_tuple, xBin_add, xBin_sub, xBin_mul, xBin_eql, xBin_neq, xBin_lss, xBin_leq, xBin_gtr, xBin_geq, xBin_eqls, xBin_neqs, wI64, oCell_some, List.getElem?_toArray, List.getElem?_cons_zero, List.getElem?_cons_succ, Nat.zero_add, Bool.not_true, Bool.not_false, if_true, if_false, ite_true, ite_false, beq_iff_eq, bne_iff_ne, decide_eq_true_eq, ne_eq, Bool.false_eq_true, Bool.true_eq_false, reduceIte, Option.some.injEq, Int.toNat_natCast, beq_self_eq_true, bne_self_eq_false, Value.cells, splice, List.setIfInBounds_toArray, List.set_cons_zero, List.set_cons_succ, List.size_toArray, List.length_cons, List.length_nil, and_self, Nat.reduceLeDiff, Nat.reduceAdd, Nat.reduceMul, Int.reduceToNat, Int.reduceLT, Int.reduceLE, Int.reduceGT, Int.reduceGE, Int.reduceAdd, Int.reduceSub, Int.reduceMul, Int.reduceNeg, Int.reduceEq, Int.reduceNe, true_and, and_true, Int.cast_ofNat_Int, Nat.le_refl, hf, ld3, ld4, ld22, ld23, ln23, ia23, ld25, fa25_1, fa25_2, ld29, ld31, fa31_0, bd31, bd31_0, bd31_0_1, ld50, ld51, ln51, ia51, ld53, fa53_0, fa53_1, fa53_2, fa53_3, ld75, fa75_0, fa75_1, fa75_2, ld77, fa77_0, fa77_2, fa77_3, fa77_4, fa77_5, fa77_6, fa77_7, bd77, bd77_0_1_2_3_4_5_6_7, bd77_0_1_4_5_7, neq4, ow2, ow3, ow4, ow5, ow6, ow8, ow11, ow20, ow23]
      first | exact h.drop.drop.drop | exact ⟨rfl, h.drop.drop.drop⟩
    · rw [if_neg (by omega), if_neg hb]
      have := ih (k + 1) (n + (1 + rr)) w (by omega) (by omega) h.drop
      rw [show ((k + 1 : Nat) : Int) = (k : Int) + 1 by omega, show ((n + (1 + rr) : Nat) : Int) = (n : Int) + (1 + (rr : Int)) by omega] at this
      exact this
theorem c_refShape {w : World} (h : So w0 w L) (m : Modl) (hi : InstsAt w0 m.iv m.insts) (hl : m.insts.length ≤ 1048576) (hz : ∀ i ∈ m.insts, SizedI i) :
    Cx P 32 #[m.v] w fun v w => v = spotV (shapeP m.bound m.insts) ∧ So w0 w L := by
  apply F32_ok
  unfold F32 Modl.v
  refine soBox h fun x1 w h => ?_
  have h : So w0 w ((x1, cl m.c 25) :: L) := h
  refine al31 h fun x2 w h => ?_
  have hf := h.facts
  simp only [Facts, Modl.c] at hf
  unfold shapeP
  try simp (disch := omega) only [cnd_bool, on_some_eq, Dr_eq, xNil_ptr, xNil_func, xNil_yield, xPick_bool, unw_nil, xRes_ptr, xUn_not, xUn_neg, xEx_tuple, xBin_add, xBin_sub, xBin_mul, xBin_eql, xBin_neq, xBin_lss, xBin_leq, xBin_gtr, xBin_geq, xBin_eqls, xBin_neqs, wI64, oCell_some, List.getElem?_toArray, List.getElem?_cons_zero, List.getElem?_cons_succ, Nat.zero_add, Bool.not_true, Bool.not_false, if_true, if_false, ite_true, ite_false, beq_iff_eq, bne_iff_ne, decide_eq_true_eq, ne_eq, Bool.false_eq_true, Bool.true_eq_false, reduceIte, Option.some.injEq, Int.toNat_natCast, beq_self_eq_true, bne_self_eq_false, Value.cells, splice, List.setIfInBounds_toArray, List.set_cons_zero, List.set_cons_succ, List.size_toArray, List.length_cons, List.length_nil, and_self, Nat.reduceLeDiff, Nat.reduceAdd, Nat.reduceMul, Int.reduceToNat, Int.reduceLT, Int.reduceLE, Int.reduceGT, Int.reduceGE, Int.reduceAdd, Int.reduceSub, Int.reduceMul, Int.reduceNeg, Int.reduceEq, Int.reduceNe, true_and, and_true, Int.cast_ofNat_Int, Nat.le_refl, hf, ld3, ld4, ld22, ld23, ln23, ia23, ld25, fa25_1, fa25_2, ld29, ld31, fa31_0, bd31, bd31_0, bd31_0_1, ld50, ld51, ln51, ia51, ld53, fa53_0, fa53_1, fa53_2, fa53_3, ld75, fa75_0, fa75_1, fa75_2, ld77, fa77_0, fa77_2, fa77_3, fa77_4, fa77_5, fa77_6, fa77_7, bd77, bd77_0_1_2_3_4_5_6_7, bd77_0_1_4_5_7, neq4, ow2, ow3, ow4, ow5, ow6, ow8, ow11, ow20, ow23]
  by_cases h0 : m.bound = 0
  · rw [if_pos h0, if_pos (.inl h0)]
    refine soStoreA ty31 0 h (fun w h => ?_) rfl rfl rfl rfl
    simp only [List.set_cons_zero] at h
    have hf := h.facts
    simp only [Facts] at hf
    try simp (disch := omega) only [cnd_bool, on_some_eq, Dr_eq, xNil_ptr, xNil_func, xNil_yield, xPick_bool, unw_nil, xRes_ptr, xUn_not, xUn_neg, xEx_tuple, xBin_add, xBin_sub, xBin_mul, xBin_eql, xBin_neq, xBin_lss, xBin_leq, xBin_gtr, xBin_geq, xBin_eqls, xBin_neqs, wI64, oCell_some, List.getElem?_toArray, List.getElem?_cons_zero, List.getElem?_cons_succ, Nat.zero_add, Bool.not_true, Bool.not_false, if_true, if_false, ite_true, ite_false, beq_iff_eq, bne_iff_ne, decide_eq_true_eq, ne_eq, Bool.false_eq_true, Bool.true_eq_false, reduceIte, Option.some.injEq, Int.toNat_natCast, beq_self_eq_true, bne_self_eq_false, Value.cells, splice, List.setIfInBounds_toArray, List.set_cons_zero, List.set_cons_succ, List.size_toArray, List.length_cons, List.length_nil, and_self, Nat.reduceLeDiff, Nat.reduceAdd, Nat.reduceMul, Int.reduceToNat, Int.reduceLT, Int.reduceLE, Int.reduceGT, Int.reduceGE, Int.reduceAdd, Int.reduceSub, Int.reduceMul, Int.reduceNeg, Int.reduceEq, Int.reduceNe, true_and, and_true, Int.cast_ofNat_Int, Nat.le_refl, hf, ld3, ld4, ld22, ld23, ln23, ia23, ld25, fa25_1, fa25_2, ld29, ld31, fa31_0, bd31, bd31_0, bd31_0_1, ld50, ld51, ln51, ia51, ld53, fa53_0, fa53_1, fa53_2, fa53_3, ld75, fa75_0, fa75_1, fa75_2, ld77, fa77_0, fa77_2, fa77_3, fa77_4, fa77_5, fa77_6, fa77_7, bd77, bd77_0_1_2_3_4_5_6_7, bd77_0_1_4_5_7, neq4, ow2, ow3, ow4, ow5, ow6, ow8, ow11, ow20, ow23]
    first | exact h.drop.drop | exact ⟨rfl, h.drop.drop⟩
  rw [if_neg h0]
  by_cases hb : 65536 < m.bound
  · rw [if_pos (by omega), if_pos (.inr hb)]
    refine soStoreA ty31 0 h (fun w h => ?_) rfl rfl rfl rfl
    simp only [List.set_cons_zero] at h
    have hf := h.facts
    simp only [Facts] at hf
    try simp (disch := omega) only [cnd_bool, on_some_eq, Dr_eq, xNil_ptr, xNil_func, xNil_yield, xPick_bool, unw_nil, xRes_ptr, xUn_not, xUn_neg, xEx_tuple, xBin_add, xBin_sub, xBin_mul, xBin_eql, xBin_neq, xBin_lss, xBin_leq, xBin_gtr, xBin_geq, xBin_eqls, xBin_neqs, wI64, oCell_some, List.getElem?_toArray, List.getElem?_cons_zero, List.getElem?_cons_succ, Nat.zero_add, Bool.not_true, Bool.not_false, if_true, if_false, ite_true, ite_false, beq_iff_eq, bne_iff_ne, decide_eq_true_eq, ne_eq, Bool.false_eq_true, Bool.true_eq_false, reduceIte, Option.some.injEq, Int.toNat_natCast, beq_self_eq_true, bne_self_eq_false, Value.cells, splice, List.setIfInBounds_toArray, List.set_cons_zero, List.set_cons_succ, List.size_toArray, List.length_cons, List.length_nil, and_self, Nat.reduceLeDiff, Nat.reduceAdd, Nat.reduceMul, Int.reduceToNat, Int.reduceLT, Int.reduceLE, Int.reduceGT, Int.reduceGE, Int.reduceAdd, Int.reduceSub, Int.reduceMul, Int.reduceNeg, Int.reduceEq, Int.reduceNe, true_and, and_true, Int.cast_ofNat_Int, Nat.le_refl, hf, ld3, ld4, ld22, ld23, ln23, ia23, ld25, fa25_1, fa25_2, ld29, ld31, fa31_0, bd31, bd31_0, bd31_0_1, ld50, ld51, ln51, ia51, ld53, fa53_0, fa53_1, fa53_2, fa53_3, ld75, fa75_0, fa75_1, fa75_2, ld77, fa77_0, fa77_2, fa77_3, fa77_4, fa77_5, fa77_6, fa77_7, bd77, bd77_0_1_2_3_4_5_6_7, bd77_0_1_4_5_7, neq4, ow2, ow3, ow4, ow5, ow6, ow8, ow11, ow20, ow23]
    first | exact h.drop.drop | exact ⟨rfl, h.drop.drop⟩
  · rw [if_neg (by omega), if_neg (by omega)]
    unfold F32.k1 F32.k2 F32.k4
    have := refShape_loop (x1 := x1) (x2 := x2) (m := m) (L := L) hi hl hz m.insts.length 0 5 w (by omega) (by omega) h
    rw [List.drop_zero] at this
    exact ⟨_, this⟩
end
end Go.Proofs.Ytlmcppbpobnfjaa

