/-
  ref05: Check, Parts.
-/
import Derived.Test.YtlmcppbpobnfjaaSc
namespace Go.Proofs.Ytlmcppbpobnfjaa
open Go Go.Vc
set_option linter.unusedSimpArgs false
set_option linter.unusedVariables false
set_option maxRecDepth 20000

section
variable {w0 : World} {L : List (Nat × Obj)}
theorem check_k4 {Q : Value → World → Prop} {w : World} {x2 : Nat} {c2 : Array Value} (hc2 : c2.size = 2) {iv : Value} {l : List Inst} (hi : InstsAt w0 iv l) (hl : l.length ≤ 1099511627776) (hQ : ∀ e (k : Nat) w, ChkR l e k → So w0 w L → Q (spotV (e, (k : Int))) w) (hG : GoodL l l.length) (b : Bool) (hb : b = true ↔ openL l) (h : So w0 w ((x2, cl c2 31) :: L)) :
    F17.k4 Q (.pointer (some ⟨x2, 0, none⟩)) iv (.bool b) w := by
  unfold F17.k4
  cases b with
  | true =>
    try simp (disch := omega) only [cnd_bool, on_some_eq, Dr_eq, xNil_ptr, xNil_func, xNil_yield, xPick_bool, unw_nil, xRes_ptr, xUn_not, xUn_neg, xEx_tuple, xBin_add, xBin_sub, xBin_mul, xBin_eql, xBin_neq, xBin_lss, xBin_leq, xBin_gtr, xBin_geq, xBin_eqls, xBin_neqs, wI64, oCell_some, List.getElem?_toArray, List.getElem?_cons_zero, List.getElem?_cons_succ, Nat.zero_add, Bool.not_true, Bool.not_false, if_true, if_false, ite_true, ite_false, beq_iff_eq, bne_iff_ne, decide_eq_true_eq, ne_eq, Bool.false_eq_true, Bool.true_eq_false, reduceIte, Option.some.injEq, Int.toNat_natCast, beq_self_eq_true, bne_self_eq_false, Value.cells, splice, List.setIfInBounds_toArray, List.set_cons_zero, List.set_cons_succ, List.size_toArray, List.length_cons, List.length_nil, and_self, Nat.reduceLeDiff, Nat.reduceAdd, Nat.reduceMul, Int.reduceToNat, Int.reduceLT, Int.reduceLE, Int.reduceGT, Int.reduceGE, Int.reduceAdd, Int.reduceSub, Int.reduceMul, Int.reduceNeg, Int.reduceEq, Int.reduceNe, true_and, and_true, Int.cast_ofNat_Int, Nat.le_refl, ld3, ld23, ln23, ia23, ld25, fa25_1, fa25_2, ld29, ld31, fa31_0, bd31, bd31_0, bd31_0_1, ld50, ld53, fa53_0, fa53_1, fa53_2, fa53_3, ow2, ow3, ow4, ow5, ow6, ow8, ow11, ow20, ow23, Sl.len sl23 hi.1, List.length_map]
    refine soStoreA ty31 0 h (fun w h => ?_) rfl rfl hc2 rfl
    simp only [List.set_cons_zero] at h
    have hf := h.facts
    simp only [Facts] at hf
    try simp (disch := omega) only [cnd_bool, on_some_eq, Dr_eq, xNil_ptr, xNil_func, xNil_yield, xPick_bool, unw_nil, xRes_ptr, xUn_not, xUn_neg, xEx_tuple, xBin_add, xBin_sub, xBin_mul, xBin_eql, xBin_neq, xBin_lss, xBin_leq, xBin_gtr, xBin_geq, xBin_eqls, xBin_neqs, wI64, oCell_some, List.getElem?_toArray, List.getElem?_cons_zero, List.getElem?_cons_succ, Nat.zero_add, Bool.not_true, Bool.not_false, if_true, if_false, ite_true, ite_false, beq_iff_eq, bne_iff_ne, decide_eq_true_eq, ne_eq, Bool.false_eq_true, Bool.true_eq_false, reduceIte, Option.some.injEq, Int.toNat_natCast, beq_self_eq_true, bne_self_eq_false, Value.cells, splice, List.setIfInBounds_toArray, List.set_cons_zero, List.set_cons_succ, List.size_toArray, List.length_cons, List.length_nil, and_self, Nat.reduceLeDiff, Nat.reduceAdd, Nat.reduceMul, Int.reduceToNat, Int.reduceLT, Int.reduceLE, Int.reduceGT, Int.reduceGE, Int.reduceAdd, Int.reduceSub, Int.reduceMul, Int.reduceNeg, Int.reduceEq, Int.reduceNe, true_and, and_true, Int.cast_ofNat_Int, Nat.le_refl, hf, ld3, ld23, ln23, ia23, ld25, fa25_1, fa25_2, ld29, ld31, fa31_0, bd31, bd31_0, bd31_0_1, ld50, ld53, fa53_0, fa53_1, fa53_2, fa53_3, ow2, ow3, ow4, ow5, ow6, ow8, ow11, ow20, ow23]
    exact hQ 51 l.length w (.inr (.inl ⟨rfl, rfl, hG, hb.1 rfl⟩)) h.drop
  | false =>
    try simp (disch := omega) only [cnd_bool, on_some_eq, Dr_eq, xNil_ptr, xNil_func, xNil_yield, xPick_bool, unw_nil, xRes_ptr, xUn_not, xUn_neg, xEx_tuple, xBin_add, xBin_sub, xBin_mul, xBin_eql, xBin_neq, xBin_lss, xBin_leq, xBin_gtr, xBin_geq, xBin_eqls, xBin_neqs, wI64, oCell_some, List.getElem?_toArray, List.getElem?_cons_zero, List.getElem?_cons_succ, Nat.zero_add, Bool.not_true, Bool.not_false, if_true, if_false, ite_true, ite_false, beq_iff_eq, bne_iff_ne, decide_eq_true_eq, ne_eq, Bool.false_eq_true, Bool.true_eq_false, reduceIte, Option.some.injEq, Int.toNat_natCast, beq_self_eq_true, bne_self_eq_false, Value.cells, splice, List.setIfInBounds_toArray, List.set_cons_zero, List.set_cons_succ, List.size_toArray, List.length_cons, List.length_nil, and_self, Nat.reduceLeDiff, Nat.reduceAdd, Nat.reduceMul, Int.reduceToNat, Int.reduceLT, Int.reduceLE, Int.reduceGT, Int.reduceGE, Int.reduceAdd, Int.reduceSub, Int.reduceMul, Int.reduceNeg, Int.reduceEq, Int.reduceNe, true_and, and_true, Int.cast_ofNat_Int, Nat.le_refl, ld3, ld23, ln23, ia23, ld25, fa25_1, fa25_2, ld29, ld31, fa31_0, bd31, bd31_0, bd31_0_1, ld50, ld53, fa53_0, fa53_1, fa53_2, fa53_3, ow2, ow3, ow4, ow5, ow6, ow8, ow11, ow20, ow23]
    unfold F17.k3
    try simp (disch := omega) only [cnd_bool, on_some_eq, Dr_eq, xNil_ptr, xNil_func, xNil_yield, xPick_bool, unw_nil, xRes_ptr, xUn_not, xUn_neg, xEx_tuple, xBin_add, xBin_sub, xBin_mul, xBin_eql, xBin_neq, xBin_lss, xBin_leq, xBin_gtr, xBin_geq, xBin_eqls, xBin_neqs, wI64, oCell_some, List.getElem?_toArray, List.getElem?_cons_zero, List.getElem?_cons_succ, Nat.zero_add, Bool.not_true, Bool.not_false, if_true, if_false, ite_true, ite_false, beq_iff_eq, bne_iff_ne, decide_eq_true_eq, ne_eq, Bool.false_eq_true, Bool.true_eq_false, reduceIte, Option.some.injEq, Int.toNat_natCast, beq_self_eq_true, bne_self_eq_false, Value.cells, splice, List.setIfInBounds_toArray, List.set_cons_zero, List.set_cons_succ, List.size_toArray, List.length_cons, List.length_nil, and_self, Nat.reduceLeDiff, Nat.reduceAdd, Nat.reduceMul, Int.reduceToNat, Int.reduceLT, Int.reduceLE, Int.reduceGT, Int.reduceGE, Int.reduceAdd, Int.reduceSub, Int.reduceMul, Int.reduceNeg, Int.reduceEq, Int.reduceNe, true_and, and_true, Int.cast_ofNat_Int, Nat.le_refl, ld3, ld23, ln23, ia23, ld25, fa25_1, fa25_2, ld29, ld31, fa31_0, bd31, bd31_0, bd31_0_1, ld50, ld53, fa53_0, fa53_1, fa53_2, fa53_3, ow2, ow3, ow4, ow5, ow6, ow8, ow11, ow20, ow23]
    refine soStoreA ty31 0 h (fun w h => ?_) rfl rfl hc2 rfl
    simp only [List.set_cons_zero] at h
    have hf := h.facts
    simp only [Facts] at hf
    try simp (disch := omega) only [cnd_bool, on_some_eq, Dr_eq, xNil_ptr, xNil_func, xNil_yield, xPick_bool, unw_nil, xRes_ptr, xUn_not, xUn_neg, xEx_tuple, xBin_add, xBin_sub, xBin_mul, xBin_eql, xBin_neq, xBin_lss, xBin_leq, xBin_gtr, xBin_geq, xBin_eqls, xBin_neqs, wI64, oCell_some, List.getElem?_toArray, List.getElem?_cons_zero, List.getElem?_cons_succ, Nat.zero_add, Bool.not_true, Bool.not_false, if_true, if_false, ite_true, ite_false, beq_iff_eq, bne_iff_ne, decide_eq_true_eq, ne_eq, Bool.false_eq_true, Bool.true_eq_false, reduceIte, Option.some.injEq, Int.toNat_natCast, beq_self_eq_true, bne_self_eq_false, Value.cells, splice, List.setIfInBounds_toArray, List.set_cons_zero, List.set_cons_succ, List.size_toArray, List.length_cons, List.length_nil, and_self, Nat.reduceLeDiff, Nat.reduceAdd, Nat.reduceMul, Int.reduceToNat, Int.reduceLT, Int.reduceLE, Int.reduceGT, Int.reduceGE, Int.reduceAdd, Int.reduceSub, Int.reduceMul, Int.reduceNeg, Int.reduceEq, Int.reduceNe, true_and, and_true, Int.cast_ofNat_Int, Nat.le_refl, hf, ld3, ld23, ln23, ia23, ld25, fa25_1, fa25_2, ld29, ld31, fa31_0, bd31, bd31_0, bd31_0_1, ld50, ld53, fa53_0, fa53_1, fa53_2, fa53_3, ow2, ow3, ow4, ow5, ow6, ow8, ow11, ow20, ow23]
    exact hQ 0 0 w (.inr (.inr ⟨rfl, rfl, hG, fun ho => by have := hb.2 ho; cases this⟩)) h.drop
theorem check_loop {Q : Value → World → Prop} {x2 : Nat} {c2 : Array Value} (hc2 : c2.size = 2) {iv : Value} {l : List Inst} (hi : InstsAt w0 iv l) (hl : l.length ≤ 1099511627776) (hQ : ∀ e (k : Nat) w, ChkR l e k → So w0 w L → Q (spotV (e, (k : Int))) w) :
    ∀ (m k : Nat) (w : World), k + m = l.length → GoodL l k → modelsL l k ≤ k → So w0 w ((x2, cl c2 31) :: L) →
      F17.l1 Q (m + 1) (.pointer (some ⟨x2, 0, none⟩)) iv (.int .i64 (modelsL l k : Int)) (.int .i64 (k : Int)) w := by
  intro m
  induction m with
  | zero =>
    intro k w hk hG hml h
    have hk : k = l.length := by omega
    subst hk
    unfold F17.l1
    try simp (disch := omega) only [cnd_bool, on_some_eq, Dr_eq, xNil_ptr, xNil_func, xNil_yield, xPick_bool, unw_nil, xRes_ptr, xUn_not, xUn_neg, xEx_tuple, xBin_add, xBin_sub, xBin_mul, xBin_eql, xBin_neq, xBin_lss, xBin_leq, xBin_gtr, xBin_geq, xBin_eqls, xBin_neqs, wI64, oCell_some, List.getElem?_toArray, List.getElem?_cons_zero, List.getElem?_cons_succ, Nat.zero_add, Bool.not_true, Bool.not_false, if_true, if_false, ite_true, ite_false, beq_iff_eq, bne_iff_ne, decide_eq_true_eq, ne_eq, Bool.false_eq_true, Bool.true_eq_false, reduceIte, Option.some.injEq, Int.toNat_natCast, beq_self_eq_true, bne_self_eq_false, Value.cells, splice, List.setIfInBounds_toArray, List.set_cons_zero, List.set_cons_succ, List.size_toArray, List.length_cons, List.length_nil, and_self, Nat.reduceLeDiff, Nat.reduceAdd, Nat.reduceMul, Int.reduceToNat, Int.reduceLT, Int.reduceLE, Int.reduceGT, Int.reduceGE, Int.reduceAdd, Int.reduceSub, Int.reduceMul, Int.reduceNeg, Int.reduceEq, Int.reduceNe, true_and, and_true, Int.cast_ofNat_Int, Nat.le_refl, ld3, ld23, ln23, ia23, ld25, fa25_1, fa25_2, ld29, ld31, fa31_0, bd31, bd31_0, bd31_0_1, ld50, ld53, fa53_0, fa53_1, fa53_2, fa53_3, ow2, ow3, ow4, ow5, ow6, ow8, ow11, ow20, ow23, Sl.len sl23 hi.1, List.length_map]
    rw [if_neg (by omega)]
    unfold F17.k2
    try simp (disch := omega) only [cnd_bool, on_some_eq, Dr_eq, xNil_ptr, xNil_func, xNil_yield, xPick_bool, unw_nil, xRes_ptr, xUn_not, xUn_neg, xEx_tuple, xBin_add, xBin_sub, xBin_mul, xBin_eql, xBin_neq, xBin_lss, xBin_leq, xBin_gtr, xBin_geq, xBin_eqls, xBin_neqs, wI64, oCell_some, List.getElem?_toArray, List.getElem?_cons_zero, List.getElem?_cons_succ, Nat.zero_add, Bool.not_true, Bool.not_false, if_true, if_false, ite_true, ite_false, beq_iff_eq, bne_iff_ne, decide_eq_true_eq, ne_eq, Bool.false_eq_true, Bool.true_eq_false, reduceIte, Option.some.injEq, Int.toNat_natCast, beq_self_eq_true, bne_self_eq_false, Value.cells, splice, List.setIfInBounds_toArray, List.set_cons_zero, List.set_cons_succ, List.size_toArray, List.length_cons, List.length_nil, and_self, Nat.reduceLeDiff, Nat.reduceAdd, Nat.reduceMul, Int.reduceToNat, Int.reduceLT, Int.reduceLE, Int.reduceGT, Int.reduceGE, Int.reduceAdd, Int.reduceSub, Int.reduceMul, Int.reduceNeg, Int.reduceEq, Int.reduceNe, true_and, and_true, Int.cast_ofNat_Int, Nat.le_refl, ld3, ld23, ln23, ia23, ld25, fa25_1, fa25_2, ld29, ld31, fa31_0, bd31, bd31_0, bd31_0_1, ld50, ld53, fa53_0, fa53_1, fa53_2, fa53_3, ow2, ow3, ow4, ow5, ow6, ow8, ow11, ow20, ow23, Sl.len sl23 hi.1, List.length_map]
    by_cases hm0 : modelsL l l.length = 0
    · rw [if_pos (by omega)]
      exact check_k4 hc2 hi hl hQ hG true ⟨fun _ => .inl hm0, fun _ => rfl⟩ h
    rw [if_neg (by omega)]
    have hpos : 0 < l.length := by
      cases hll : l.length with
      | zero => rw [hll] at hm0; exact absurd rfl hm0
      | succ n => omega
    obtain ⟨g, o, i, k1, k2, k3, hp, ha, hm, _⟩ := inst_at hi (k := l.length - 1) (by omega) ((l.length : Int) - 1) (by omega)
    have hf := k2 _ _ h
    try simp (disch := omega) only [cnd_bool, on_some_eq, Dr_eq, xNil_ptr, xNil_func, xNil_yield, xPick_bool, unw_nil, xRes_ptr, xUn_not, xUn_neg, xEx_tuple, xBin_add, xBin_sub, xBin_mul, xBin_eql, xBin_neq, xBin_lss, xBin_leq, xBin_gtr, xBin_geq, xBin_eqls, xBin_neqs, wI64, oCell_some, List.getElem?_toArray, List.getElem?_cons_zero, List.getElem?_cons_succ, Nat.zero_add, Bool.not_true, Bool.not_false, if_true, if_false, ite_true, ite_false, beq_iff_eq, bne_iff_ne, decide_eq_true_eq, ne_eq, Bool.false_eq_true, Bool.true_eq_false, reduceIte, Option.some.injEq, Int.toNat_natCast, beq_self_eq_true, bne_self_eq_false, Value.cells, splice, List.setIfInBounds_toArray, List.set_cons_zero, List.set_cons_succ, List.size_toArray, List.length_cons, List.length_nil, and_self, Nat.reduceLeDiff, Nat.reduceAdd, Nat.reduceMul, Int.reduceToNat, Int.reduceLT, Int.reduceLE, Int.reduceGT, Int.reduceGE, Int.reduceAdd, Int.reduceSub, Int.reduceMul, Int.reduceNeg, Int.reduceEq, Int.reduceNe, true_and, and_true, Int.cast_ofNat_Int, Nat.le_refl, hf, ld3, ld23, ln23, ia23, ld25, fa25_1, fa25_2, ld29, ld31, fa31_0, bd31, bd31_0, bd31_0_1, ld50, ld53, fa53_0, fa53_1, fa53_2, fa53_3, ow2, ow3, ow4, ow5, ow6, ow8, ow11, ow20, ow23, k1]
    refine Cx.mono (c_refPart h i ha) fun v w hv => ?_
    obtain ⟨rfl, h⟩ := hv
    rw [hp]
    have hf := k3 _ _ h
    try simp (disch := omega) only [cnd_bool, on_some_eq, Dr_eq, xNil_ptr, xNil_func, xNil_yield, xPick_bool, unw_nil, xRes_ptr, xUn_not, xUn_neg, xEx_tuple, xBin_add, xBin_sub, xBin_mul, xBin_eql, xBin_neq, xBin_lss, xBin_leq, xBin_gtr, xBin_geq, xBin_eqls, xBin_neqs, wI64, oCell_some, List.getElem?_toArray, List.getElem?_cons_zero, List.getElem?_cons_succ, Nat.zero_add, Bool.not_true, Bool.not_false, if_true, if_false, ite_true, ite_false, beq_iff_eq, bne_iff_ne, decide_eq_true_eq, ne_eq, Bool.false_eq_true, Bool.true_eq_false, reduceIte, Option.some.injEq, Int.toNat_natCast, beq_self_eq_true, bne_self_eq_false, Value.cells, splice, List.setIfInBounds_toArray, List.set_cons_zero, List.set_cons_succ, List.size_toArray, List.length_cons, List.length_nil, and_self, Nat.reduceLeDiff, Nat.reduceAdd, Nat.reduceMul, Int.reduceToNat, Int.reduceLT, Int.reduceLE, Int.reduceGT, Int.reduceGE, Int.reduceAdd, Int.reduceSub, Int.reduceMul, Int.reduceNeg, Int.reduceEq, Int.reduceNe, true_and, and_true, Int.cast_ofNat_Int, Nat.le_refl, hf, ld3, ld23, ln23, ia23, ld25, fa25_1, fa25_2, ld29, ld31, fa31_0, bd31, bd31_0, bd31_0_1, ld50, ld53, fa53_0, fa53_1, fa53_2, fa53_3, ow2, ow3, ow4, ow5, ow6, ow8, ow11, ow20, ow23, k1]
    by_cases h8 : pAt l (l.length - 1) = 8
    · rw [if_pos h8]
      refine check_k4 hc2 hi hl hQ hG _ ?_ h
      simp only [bne_iff_ne, ne_eq]
      exact ⟨fun hx => .inr ⟨h8, hx⟩, fun ho => ho.elim (fun ho => absurd ho hm0) (fun ho => ho.2)⟩
    · rw [if_neg h8]
      refine check_k4 hc2 hi hl hQ hG false (Iff.intro (fun hx => by cases hx) (fun ho => ho.elim (fun ho => absurd ho hm0) (fun ho => absurd ho.1 h8))) h
  | succ m ih =>
    intro k w hk hG hml h
    have hlt : k < l.length := by omega
    obtain ⟨g, o, i, k1, k2, k3, hp, ha, hm, _⟩ := inst_at hi hlt (k : Int) rfl
    unfold F17.l1
    try simp (disch := omega) only [cnd_bool, on_some_eq, Dr_eq, xNil_ptr, xNil_func, xNil_yield, xPick_bool, unw_nil, xRes_ptr, xUn_not, xUn_neg, xEx_tuple, xBin_add, xBin_sub, xBin_mul, xBin_eql, xBin_neq, xBin_lss, xBin_leq, xBin_gtr, xBin_geq, xBin_eqls, xBin_neqs, wI64, oCell_some, List.getElem?_toArray, List.getElem?_cons_zero, List.getElem?_cons_succ, Nat.zero_add, Bool.not_true, Bool.not_false, if_true, if_false, ite_true, ite_false, beq_iff_eq, bne_iff_ne, decide_eq_true_eq, ne_eq, Bool.false_eq_true, Bool.true_eq_false, reduceIte, Option.some.injEq, Int.toNat_natCast, beq_self_eq_true, bne_self_eq_false, Value.cells, splice, List.setIfInBounds_toArray, List.set_cons_zero, List.set_cons_succ, List.size_toArray, List.length_cons, List.length_nil, and_self, Nat.reduceLeDiff, Nat.reduceAdd, Nat.reduceMul, Int.reduceToNat, Int.reduceLT, Int.reduceLE, Int.reduceGT, Int.reduceGE, Int.reduceAdd, Int.reduceSub, Int.reduceMul, Int.reduceNeg, Int.reduceEq, Int.reduceNe, true_and, and_true, Int.cast_ofNat_Int, Nat.le_refl, ld3, ld23, ln23, ia23, ld25, fa25_1, fa25_2, ld29, ld31, fa31_0, bd31, bd31_0, bd31_0_1, ld50, ld53, fa53_0, fa53_1, fa53_2, fa53_3, ow2, ow3, ow4, ow5, ow6, ow8, ow11, ow20, ow23, k1, Sl.len sl23 hi.1, List.length_map]
    rw [if_pos (by omega)]
    refine Cx.mono (c_refMay h hi hl hlt hG) fun v w hv => ?_
    obtain ⟨rfl, h⟩ := hv
    have hf := k2 _ _ h
    cases hmay : mayL l k with
    | false =>
      try simp (disch := omega) only [cnd_bool, on_some_eq, Dr_eq, xNil_ptr, xNil_func, xNil_yield, xPick_bool, unw_nil, xRes_ptr, xUn_not, xUn_neg, xEx_tuple, xBin_add, xBin_sub, xBin_mul, xBin_eql, xBin_neq, xBin_lss, xBin_leq, xBin_gtr, xBin_geq, xBin_eqls, xBin_neqs, wI64, oCell_some, List.getElem?_toArray, List.getElem?_cons_zero, List.getElem?_cons_succ, Nat.zero_add, Bool.not_true, Bool.not_false, if_true, if_false, ite_true, ite_false, beq_iff_eq, bne_iff_ne, decide_eq_true_eq, ne_eq, Bool.false_eq_true, Bool.true_eq_false, reduceIte, Option.some.injEq, Int.toNat_natCast, beq_self_eq_true, bne_self_eq_false, Value.cells, splice, List.setIfInBounds_toArray, List.set_cons_zero, List.set_cons_succ, List.size_toArray, List.length_cons, List.length_nil, and_self, Nat.reduceLeDiff, Nat.reduceAdd, Nat.reduceMul, Int.reduceToNat, Int.reduceLT, Int.reduceLE, Int.reduceGT, Int.reduceGE, Int.reduceAdd, Int.reduceSub, Int.reduceMul, Int.reduceNeg, Int.reduceEq, Int.reduceNe, true_and, and_true, Int.cast_ofNat_Int, Nat.le_refl, hf, ld3, ld23, ln23, ia23, ld25, fa25_1, fa25_2, ld29, ld31, fa31_0, bd31, bd31_0, bd31_0_1, ld50, ld53, fa53_0, fa53_1, fa53_2, fa53_3, ow2, ow3, ow4, ow5, ow6, ow8, ow11, ow20, ow23, k1]
      refine soStoreA ty31 0 h (fun w h => ?_) rfl rfl hc2 rfl
      simp only [List.set_cons_zero] at h
      have hf := h.facts
      simp only [Facts] at hf
      try simp (disch := omega) only [cnd_bool, on_some_eq, Dr_eq, xNil_ptr, xNil_func, xNil_yield, xPick_bool, unw_nil, xRes_ptr, xUn_not, xUn_neg, xEx_tuple, xBin_add, xBin_sub, xBin_mul, xBin_eql, xBin_neq, xBin_lss, xBin_leq, xBin_gtr, xBin_geq, xBin_eqls, xBin_neqs, wI64, oCell_some, List.getElem?_toArray, List.getElem?_cons_zero, List.getElem?_cons_succ, Nat.zero_add, Bool.not_true, Bool.not_false, if_true, if_false, ite_true, ite_false, beq_iff_eq, bne_iff_ne, decide_eq_true_eq, ne_eq, Bool.false_eq_true, Bool.true_eq_false, reduceIte, Option.some.injEq, Int.toNat_natCast, beq_self_eq_true, bne_self_eq_false, Value.cells, splice, List.setIfInBounds_toArray, List.set_cons_zero, List.set_cons_succ, List.size_toArray, List.length_cons, List.length_nil, and_self, Nat.reduceLeDiff, Nat.reduceAdd, Nat.reduceMul, Int.reduceToNat, Int.reduceLT, Int.reduceLE, Int.reduceGT, Int.reduceGE, Int.reduceAdd, Int.reduceSub, Int.reduceMul, Int.reduceNeg, Int.reduceEq, Int.reduceNe, true_and, and_true, Int.cast_ofNat_Int, Nat.le_refl, hf, ld3, ld23, ln23, ia23, ld25, fa25_1, fa25_2, ld29, ld31, fa31_0, bd31, bd31_0, bd31_0_1, ld50, ld53, fa53_0, fa53_1, fa53_2, fa53_3, ow2, ow3, ow4, ow5, ow6, ow8, ow11, ow20, ow23]
      exact hQ 50 k w (.inl ⟨rfl, hlt, hG, hmay⟩) h.drop
    | true =>
      try simp (disch := omega) only [cnd_bool, on_some_eq, Dr_eq, xNil_ptr, xNil_func, xNil_yield, xPick_bool, unw_nil, xRes_ptr, xUn_not, xUn_neg, xEx_tuple, xBin_add, xBin_sub, xBin_mul, xBin_eql, xBin_neq, xBin_lss, xBin_leq, xBin_gtr, xBin_geq, xBin_eqls, xBin_neqs, wI64, oCell_some, List.getElem?_toArray, List.getElem?_cons_zero, List.getElem?_cons_succ, Nat.zero_add, Bool.not_true, Bool.not_false, if_true, if_false, ite_true, ite_false, beq_iff_eq, bne_iff_ne, decide_eq_true_eq, ne_eq, Bool.false_eq_true, Bool.true_eq_false, reduceIte, Option.some.injEq, Int.toNat_natCast, beq_self_eq_true, bne_self_eq_false, Value.cells, splice, List.setIfInBounds_toArray, List.set_cons_zero, List.set_cons_succ, List.size_toArray, List.length_cons, List.length_nil, and_self, Nat.reduceLeDiff, Nat.reduceAdd, Nat.reduceMul, Int.reduceToNat, Int.reduceLT, Int.reduceLE, Int.reduceGT, Int.reduceGE, Int.reduceAdd, Int.reduceSub, Int.reduceMul, Int.reduceNeg, Int.reduceEq, Int.reduceNe, true_and, and_true, Int.cast_ofNat_Int, Nat.le_refl, hf, ld3, ld23, ln23, ia23, ld25, fa25_1, fa25_2, ld29, ld31, fa31_0, bd31, bd31_0, bd31_0_1, ld50, ld53, fa53_0, fa53_1, fa53_2, fa53_3, ow2, ow3, ow4, ow5, ow6, ow8, ow11, ow20, ow23, k1]
      refine Cx.mono (c_refPart h i ha) fun v w hv => ?_
      obtain ⟨rfl, h⟩ := hv
      rw [hp]
      try simp (disch := omega) only [cnd_bool, on_some_eq, Dr_eq, xNil_ptr, xNil_func, xNil_yield, xPick_bool, unw_nil, xRes_ptr, xUn_not, xUn_neg, xEx_tuple, xBin_add, xBin_sub, xBin_mul, xBin_eql, xBin_neq, xBin_lss, xBin_leq, xBin_gtr, xBin_geq, xBin_eqls, xBin_neqs, wI64, oCell_some, List.getElem?_toArray, List.getElem?_cons_zero, List.getElem?_cons_succ, Nat.zero_add, Bool.not_true, Bool.not_false, if_true, if_false, ite_true, ite_false, beq_iff_eq, bne_iff_ne, decide_eq_true_eq, ne_eq, Bool.false_eq_true, Bool.true_eq_false, reduceIte, Option.some.injEq, Int.toNat_natCast, beq_self_eq_true, bne_self_eq_false, Value.cells, splice, List.setIfInBounds_toArray, List.set_cons_zero, List.set_cons_succ, List.size_toArray, List.length_cons, List.length_nil, and_self, Nat.reduceLeDiff, Nat.reduceAdd, Nat.reduceMul, Int.reduceToNat, Int.reduceLT, Int.reduceLE, Int.reduceGT, Int.reduceGE, Int.reduceAdd, Int.reduceSub, Int.reduceMul, Int.reduceNeg, Int.reduceEq, Int.reduceNe, true_and, and_true, Int.cast_ofNat_Int, Nat.le_refl, ld3, ld23, ln23, ia23, ld25, fa25_1, fa25_2, ld29, ld31, fa31_0, bd31, bd31_0, bd31_0_1, ld50, ld53, fa53_0, fa53_1, fa53_2, fa53_3, ow2, ow3, ow4, ow5, ow6, ow8, ow11, ow20, ow23]
      by_cases h1 : pAt l k = 1
      · rw [if_pos h1]
        have hmm : modelsL l (k + 1) = modelsL l k + 1 := by simp only [modelsL]; rw [if_pos h1]
        have := ih (k + 1) w (by omega) (hG.step hmay) (by omega) h
        rw [hmm, show ((k + 1 : Nat) : Int) = (k : Int) + 1 by omega, show ((modelsL l k + 1 : Nat) : Int) = (modelsL l k : Int) + 1 by omega] at this
        exact this
      · rw [if_neg h1]
        have hmm : modelsL l (k + 1) = modelsL l k := by simp only [modelsL]; rw [if_neg h1]; rfl
        have := ih (k + 1) w (by omega) (hG.step hmay) (by omega) h
        rw [hmm, show ((k + 1 : Nat) : Int) = (k : Int) + 1 by omega] at this
        exact this
theorem c_refCheck {w : World} (h : So w0 w L) (m : Modl) (hi : InstsAt w0 m.iv m.insts) (hl : m.insts.length ≤ 1048576) (hz : ∀ i ∈ m.insts, SizedI i) :
    Cx P 17 #[m.v] w fun v w => (∃ e k, ChkM m.bound m.insts e k ∧ v = spotV (e, k)) ∧ So w0 w L := by
  apply F17_ok
  unfold F17 Modl.v
  refine soBox h fun x1 w h => ?_
  have h : So w0 w ((x1, cl m.c 25) :: L) := h
  refine al31 h fun x2 w h => ?_
  have hf := h.facts
  simp only [Facts, Modl.c] at hf
  try simp (disch := omega) only [cnd_bool, on_some_eq, Dr_eq, xNil_ptr, xNil_func, xNil_yield, xPick_bool, unw_nil, xRes_ptr, xUn_not, xUn_neg, xEx_tuple, xBin_add, xBin_sub, xBin_mul, xBin_eql, xBin_neq, xBin_lss, xBin_leq, xBin_gtr, xBin_geq, xBin_eqls, xBin_neqs, wI64, oCell_some, List.getElem?_toArray, List.getElem?_cons_zero, List.getElem?_cons_succ, Nat.zero_add, Bool.not_true, Bool.not_false, if_true, if_false, ite_true, ite_false, beq_iff_eq, bne_iff_ne, decide_eq_true_eq, ne_eq, Bool.false_eq_true, Bool.true_eq_false, reduceIte, Option.some.injEq, Int.toNat_natCast, beq_self_eq_true, bne_self_eq_false, Value.cells, splice, List.setIfInBounds_toArray, List.set_cons_zero, List.set_cons_succ, List.size_toArray, List.length_cons, List.length_nil, and_self, Nat.reduceLeDiff, Nat.reduceAdd, Nat.reduceMul, Int.reduceToNat, Int.reduceLT, Int.reduceLE, Int.reduceGT, Int.reduceGE, Int.reduceAdd, Int.reduceSub, Int.reduceMul, Int.reduceNeg, Int.reduceEq, Int.reduceNe, true_and, and_true, Int.cast_ofNat_Int, Nat.le_refl, hf, ld3, ld23, ln23, ia23, ld25, fa25_1, fa25_2, ld29, ld31, fa31_0, bd31, bd31_0, bd31_0_1, ld50, ld53, fa53_0, fa53_1, fa53_2, fa53_3, ow2, ow3, ow4, ow5, ow6, ow8, ow11, ow20, ow23]
  refine Cx.mono (c_refShape h m hi hl hz) fun v w hv => ?_
  obtain ⟨rfl, h⟩ := hv
  unfold spotV
  refine al31 h fun x3 w h => ?_
  try simp only [Facts, and_true, Value.cells, List.setIfInBounds_toArray, List.set_cons_zero, List.set_cons_succ, splice, Nat.zero_add, Nat.reduceAdd, List.cons_append, List.nil_append] at h
  have hf := h.facts
  simp only [Facts, and_true, Value.cells, List.setIfInBounds_toArray, List.set_cons_zero, List.set_cons_succ, splice, Nat.zero_add, Nat.reduceAdd, List.cons_append, List.nil_append] at hf
  refine soStoreA ty31 0 h (fun w h => ?_) rfl rfl rfl rfl
  simp only [List.set_cons_zero] at h
  have hf := h.facts
  simp only [Facts, Modl.c] at hf
  try simp (disch := omega) only [cnd_bool, on_some_eq, Dr_eq, xNil_ptr, xNil_func, xNil_yield, xPick_bool, unw_nil, xRes_ptr, xUn_not, xUn_neg, xEx_tuple, xBin_add, xBin_sub, xBin_mul, xBin_eql, xBin_neq, xBin_lss, xBin_leq, xBin_gtr, xBin_geq, xBin_eqls, xBin_neqs, wI64, oCell_some, List.getElem?_toArray, List.getElem?_cons_zero, List.getElem?_cons_succ, Nat.zero_add, Bool.not_true, Bool.not_false, if_true, if_false, ite_true, ite_false, beq_iff_eq, bne_iff_ne, decide_eq_true_eq, ne_eq, Bool.false_eq_true, Bool.true_eq_false, reduceIte, Option.some.injEq, Int.toNat_natCast, beq_self_eq_true, bne_self_eq_false, Value.cells, splice, List.setIfInBounds_toArray, List.set_cons_zero, List.set_cons_succ, List.size_toArray, List.length_cons, List.length_nil, and_self, Nat.reduceLeDiff, Nat.reduceAdd, Nat.reduceMul, Int.reduceToNat, Int.reduceLT, Int.reduceLE, Int.reduceGT, Int.reduceGE, Int.reduceAdd, Int.reduceSub, Int.reduceMul, Int.reduceNeg, Int.reduceEq, Int.reduceNe, true_and, and_true, Int.cast_ofNat_Int, Nat.le_refl, hf, ld3, ld23, ln23, ia23, ld25, fa25_1, fa25_2, ld29, ld31, fa31_0, bd31, bd31_0, bd31_0_1, ld50, ld53, fa53_0, fa53_1, fa53_2, fa53_3, ow2, ow3, ow4, ow5, ow6, ow8, ow11, ow20, ow23]
  by_cases hs : (shapeP m.bound m.insts).1 ≠ 0
  · rw [if_pos hs]
    refine soStoreA ty31 1 h (fun w h => ?_) rfl rfl rfl rfl
    simp only [List.set_cons_zero, List.set_cons_succ] at h
    have hf := h.facts
    simp only [Facts] at hf
    try simp (disch := omega) only [cnd_bool, on_some_eq, Dr_eq, xNil_ptr, xNil_func, xNil_yield, xPick_bool, unw_nil, xRes_ptr, xUn_not, xUn_neg, xEx_tuple, xBin_add, xBin_sub, xBin_mul, xBin_eql, xBin_neq, xBin_lss, xBin_leq, xBin_gtr, xBin_geq, xBin_eqls, xBin_neqs, wI64, oCell_some, List.getElem?_toArray, List.getElem?_cons_zero, List.getElem?_cons_succ, Nat.zero_add, Bool.not_true, Bool.not_false, if_true, if_false, ite_true, ite_false, beq_iff_eq, bne_iff_ne, decide_eq_true_eq, ne_eq, Bool.false_eq_true, Bool.true_eq_false, reduceIte, Option.some.injEq, Int.toNat_natCast, beq_self_eq_true, bne_self_eq_false, Value.cells, splice, List.setIfInBounds_toArray, List.set_cons_zero, List.set_cons_succ, List.size_toArray, List.length_cons, List.length_nil, and_self, Nat.reduceLeDiff, Nat.reduceAdd, Nat.reduceMul, Int.reduceToNat, Int.reduceLT, Int.reduceLE, Int.reduceGT, Int.reduceGE, Int.reduceAdd, Int.reduceSub, Int.reduceMul, Int.reduceNeg, Int.reduceEq, Int.reduceNe, true_and, and_true, Int.cast_ofNat_Int, Nat.le_refl, hf, ld3, ld23, ln23, ia23, ld25, fa25_1, fa25_2, ld29, ld31, fa31_0, bd31, bd31_0, bd31_0_1, ld50, ld53, fa53_0, fa53_1, fa53_2, fa53_3, ow2, ow3, ow4, ow5, ow6, ow8, ow11, ow20, ow23]
    refine ⟨⟨(shapeP m.bound m.insts).1, (shapeP m.bound m.insts).2, ?_, rfl⟩, h.drop.drop.drop⟩
    unfold ChkM; rw [if_pos hs]
  rw [if_neg hs]
  have h : So w0 w ((x2, cl #[.int .i64 0, .int .i64 0] 31) :: (x3, cl #[.int .i64 (shapeP m.bound m.insts).1, .int .i64 (shapeP m.bound m.insts).2] 31) :: (x1, cl m.c 25) :: L) := h.perm (perm_of fun c d ha hc h0 => by simp only [ha, hc, h0]; omega)
  unfold F17.k1 F17.k5
  have := check_loop (Q := fun v w => (∃ e k, ChkM m.bound m.insts e k ∧ v = spotV (e, k)) ∧ So w0 w L) (w0 := w0) (x2 := x2) (c2 := #[.int .i64 0, .int .i64 0]) rfl hi (by omega) ?_ m.insts.length 0 w (by omega) (fun k hk => by omega) (Nat.le_refl _) h
  · exact ⟨_, this⟩
  · intro e k w hc h
    refine ⟨⟨e, k, ?_, rfl⟩, h.drop.drop⟩
    unfold ChkM; rw [if_neg hs]; exact ⟨k, rfl, hc⟩
end
end Go.Proofs.Ytlmcppbpobnfjaa

