/-
  ref05: first, May, Check, Parts.
-/
import Derived.Test.YtlmcppbpobnfjaaSb
namespace Go.Proofs.Ytlmcppbpobnfjaa
open Go Go.Vc
set_option linter.unusedSimpArgs false
set_option linter.unusedVariables false
set_option maxRecDepth 20000

theorem first_ex {l : List Inst} {n : Nat} (hG : GoodL l n) : ∀ (m j : Nat), j ≤ m → j < n → pAt l j = 8 → opAt l j ≠ 54 → opAt l j ≠ 55 → opAt l j ≠ 56 → ∃ s, 1 ≤ s ∧ s ≤ j ∧ opAt l s = 248 := by
  intro m
  induction m with
  | zero =>
    intro j hj hn h8 h4 h5 h6
    have hj0 : j = 0 := by omega
    subst hj0
    have hm := hG 0 hn
    unfold mayL at hm
    rw [h8] at hm
    simp [modelsL] at hm
  | succ m ih =>
    intro j hj hn h8 h4 h5 h6
    have hm := hG j hn
    have h0 : 0 < j ∨ j = 0 := by omega
    have hmod : modelsL l j ≠ 0 := by
      unfold mayL at hm
      rw [h8] at hm
      intro hc
      rw [hc] at hm
      simp at hm
    rw [may8 h8 hmod, funcMay_t rfl] at hm
    have ha : aheadL l j ≠ 0 → 0 < j ∧ pAt l (j - 1) = 8 ∧ aheadL l j = opAt l (j - 1) := by
      intro h
      unfold aheadL at h ⊢
      by_cases hc : 0 < j ∧ pAt l (j - 1) = 8
      · rw [if_pos hc]; exact ⟨hc.1, hc.2, rfl⟩
      · rw [if_neg hc] at h; exact absurd rfl h
    rcases hm with ⟨h, _⟩ | ⟨h, _⟩ | ⟨h, hm⟩ | ⟨h, _⟩ | ⟨_, _, _, _, o5, o6, o7, o8, _⟩
    · exact absurd h h4
    · exact absurd h h5
    · obtain ⟨h1, _, _⟩ := ha (by omega)
      exact ⟨j, h1, Nat.le_refl _, h⟩
    · exact absurd h h6
    · obtain ⟨h1, h2, h3⟩ := ha o5
      rw [h3] at o6 o7 o8
      obtain ⟨s, h9, h10, h11⟩ := ih (j - 1) (by omega) (by omega) h2 o6 o7 o8
      exact ⟨s, h9, by omega, h11⟩

section
variable {w0 : World} {L : List (Nat × Obj)}
theorem inst_at {iv : Value} {l : List Inst} (hi : InstsAt w0 iv l) {k : Nat} (hk : k < l.length) (q : Int) (hq : q = (k : Int)) :
    ∃ g o i, (∀ kk : IntKind, xIA P 23 iv (.int kk q) = some (.pointer (some ⟨g, o, none⟩))) ∧ (∀ (w : World) (L : List (Nat × Obj)), So w0 w L → oRow w.heap[g]? o 4 = some i.v) ∧ (∀ (w : World) (L : List (Nat × Obj)), So w0 w L → oCell w.heap[g]? o = some (.int .u16 (opAt l k))) ∧ partP i = pAt l k ∧ ArgsAt w0 i ∧ i ∈ l ∧ l[k]? = some i := by
  obtain ⟨g, o, k1, k2, k3⟩ := Sl.fix sl23 hi.1 q (i := k) (el := l[k].c) hq (by simp [hk])
  refine ⟨g, o, l[k], k1, k2, ?_, ?_, hi.2 _ (List.getElem_mem hk), List.getElem_mem hk, List.getElem?_eq_getElem hk⟩
  · intro w L h
    have := k3 w L h 0 (by omega)
    unfold opAt
    rw [List.getElem?_eq_getElem hk]
    exact this
  · unfold pAt
    rw [List.getElem?_eq_getElem hk]
theorem first_loop {iv : Value} {l : List Inst} (hi : InstsAt w0 iv l) (hl : l.length ≤ 1099511627776) :
    ∀ (m k : Nat) (w : World), k < m → k < l.length → (∃ s, 1 ≤ s ∧ s ≤ k ∧ opAt l s = 248) → So w0 w L →
      F49.l1 (fun v w => v = .bool (firstL l k) ∧ So w0 w L) m iv (.int .i64 (k : Int)) w := by
  intro m
  induction m with
  | zero => intro k w h; omega
  | succ m ih =>
    intro k w hm hk hs h
    obtain ⟨s, hs1, hs2, hs3⟩ := hs
    obtain ⟨q, rfl⟩ : ∃ q, k = q + 1 := ⟨k - 1, by omega⟩
    obtain ⟨g, o, i, k1, k2, k3, _⟩ := inst_at hi hk ((q + 1 : Nat) : Int) rfl
    have hf := k3 _ _ h
    unfold F49.l1
    try simp (disch := omega) only [cnd_bool, on_some_eq, Dr_eq, xNil_ptr, xNil_func, xNil_yield, xPick_bool, unw_nil, xRes_ptr, xUn_not, xUn_neg, xEx_tuple, xBin_add, xBin_sub, xBin_mul, xBin_eql, xBin_neq, xBin_lss, xBin_leq, xBin_gtr, xBin_geq, xBin_eqls, xBin_neqs, wI64, oCell_some, List.getElem?_toArray, List.getElem?_cons_zero, List.getElem?_cons_succ, Nat.zero_add, Bool.not_true, Bool.not_false, if_true, if_false, ite_true, ite_false, beq_iff_eq, bne_iff_ne, decide_eq_true_eq, ne_eq, Bool.false_eq_true, Bool.true_eq_false, reduceIte, Option.some.injEq, Int.toNat_natCast, beq_self_eq_true, bne_self_eq_false, Value.cells, splice, List.setIfInBounds_toArray, List.set_cons_zero, List.set_cons_succ, List.size_toArray, List.length_cons, List.length_nil, and_self, Nat.reduceLeDiff, Nat.reduceAdd, Nat.reduceMul, Int.reduceToNat, Int.reduceLT, Int.reduceLE, Int.reduceGT, Int.reduceGE, Int.reduceAdd, Int.reduceSub, Int.reduceMul, Int.reduceNeg, Int.reduceEq, Int.reduceNe, true_and, and_true, Int.cast_ofNat_Int, Nat.le_refl, hf, ld3, ld23, ln23, ia23, ld50, ld53, fa53_0, fa53_1, fa53_2, fa53_3, ow2, ow3, ow4, ow5, ow6, ow8, ow11, ow20, ow23, k1]
    by_cases h248 : opAt l (q + 1) = 248
    · rw [if_neg (by simpa using h248)]
      unfold F49.k2
      obtain ⟨g, o, i, j1, j2, j3, _⟩ := inst_at hi (k := q) (by omega) (((q + 1 : Nat) : Int) - 1) (by omega)
      have hf := j3 _ _ h
      try simp (disch := omega) only [cnd_bool, on_some_eq, Dr_eq, xNil_ptr, xNil_func, xNil_yield, xPick_bool, unw_nil, xRes_ptr, xUn_not, xUn_neg, xEx_tuple, xBin_add, xBin_sub, xBin_mul, xBin_eql, xBin_neq, xBin_lss, xBin_leq, xBin_gtr, xBin_geq, xBin_eqls, xBin_neqs, wI64, oCell_some, List.getElem?_toArray, List.getElem?_cons_zero, List.getElem?_cons_succ, Nat.zero_add, Bool.not_true, Bool.not_false, if_true, if_false, ite_true, ite_false, beq_iff_eq, bne_iff_ne, decide_eq_true_eq, ne_eq, Bool.false_eq_true, Bool.true_eq_false, reduceIte, Option.some.injEq, Int.toNat_natCast, beq_self_eq_true, bne_self_eq_false, Value.cells, splice, List.setIfInBounds_toArray, List.set_cons_zero, List.set_cons_succ, List.size_toArray, List.length_cons, List.length_nil, and_self, Nat.reduceLeDiff, Nat.reduceAdd, Nat.reduceMul, Int.reduceToNat, Int.reduceLT, Int.reduceLE, Int.reduceGT, Int.reduceGE, Int.reduceAdd, Int.reduceSub, Int.reduceMul, Int.reduceNeg, Int.reduceEq, Int.reduceNe, true_and, and_true, Int.cast_ofNat_Int, Nat.le_refl, hf, ld3, ld23, ln23, ia23, ld50, ld53, fa53_0, fa53_1, fa53_2, fa53_3, ow2, ow3, ow4, ow5, ow6, ow8, ow11, ow20, ow23, j1]
      have hfl : firstL l (q + 1) = decide (opAt l q = 54 ∨ opAt l q = 55) := by simp only [firstL]; rw [if_pos h248]
      rw [hfl]
      by_cases h54 : opAt l q = 54
      · rw [if_pos h54]
        exact ⟨by simp [h54], h⟩
      · rw [if_neg h54]
        refine ⟨?_, h⟩
        congr 1
        rw [Bool.eq_iff_iff]
        simp [h54]
    · rw [if_pos h248]
      have hfl : firstL l (q + 1) = firstL l q := by simp only [firstL]; rw [if_neg h248]
      rw [hfl, show ((q + 1 : Nat) : Int) - 1 = (q : Int) by omega]
      refine ih q w (by omega) (by omega) ⟨s, hs1, ?_, hs3⟩ h
      by_cases he : s = q + 1
      · rw [he] at hs3; exact absurd hs3 h248
      · omega
theorem c_first05 {w : World} (h : So w0 w L) {iv : Value} {l : List Inst} (hi : InstsAt w0 iv l) (hl : l.length ≤ 1099511627776) (k : Nat) (q : Int) (hq : q = (k : Int)) (hk : k < l.length) (hs : ∃ s, 1 ≤ s ∧ s ≤ k ∧ opAt l s = 248) :
    Cx P 49 #[iv, .int .i64 q] w fun v w => v = .bool (firstL l k) ∧ So w0 w L := by
  subst hq
  apply F49_ok
  unfold F49 F49.k1
  exact ⟨k + 1, first_loop hi hl (k + 1) k w (by omega) hk hs h⟩
/-- What May says within the functions. -/
theorem may_k6 {w : World} (h : So w0 w L) {iv : Value} {l : List Inst} (hi : InstsAt w0 iv l) (hl : l.length ≤ 1099511627776) {at_ : Nat} (hat : at_ < l.length) (a op : Int) (h54 : op ≠ 54) (h55 : op ≠ 55) (h248 : op ≠ 248) (h56 : op ≠ 56) (ha : ¬ (a = 0 ∨ a = 54 ∨ a = 55 ∨ a = 56 ∨ endsP a = true))
    (hs : a = 248 ∨ a = 245 ∨ a = 59 → 0 < at_ ∧ ∃ s, 1 ≤ s ∧ s ≤ at_ - 1 ∧ opAt l s = 248) :
    F33.k6 (fun v w => v = .bool (funcMay op a (firstL l (at_ - 1))) ∧ So w0 w L) iv (.int .i64 (at_ : Int)) (.int .u16 op) (.int .u16 a) w := by
  unfold F33.k6 funcMay
  rw [if_neg h54, if_neg h55, if_neg h248, if_neg h56, if_neg ha]
  try simp (disch := omega) only [cnd_bool, on_some_eq, Dr_eq, xNil_ptr, xNil_func, xNil_yield, xPick_bool, unw_nil, xRes_ptr, xUn_not, xUn_neg, xEx_tuple, xBin_add, xBin_sub, xBin_mul, xBin_eql, xBin_neq, xBin_lss, xBin_leq, xBin_gtr, xBin_geq, xBin_eqls, xBin_neqs, wI64, oCell_some, List.getElem?_toArray, List.getElem?_cons_zero, List.getElem?_cons_succ, Nat.zero_add, Bool.not_true, Bool.not_false, if_true, if_false, ite_true, ite_false, beq_iff_eq, bne_iff_ne, decide_eq_true_eq, ne_eq, Bool.false_eq_true, Bool.true_eq_false, reduceIte, Option.some.injEq, Int.toNat_natCast, beq_self_eq_true, bne_self_eq_false, Value.cells, splice, List.setIfInBounds_toArray, List.set_cons_zero, List.set_cons_succ, List.size_toArray, List.length_cons, List.length_nil, and_self, Nat.reduceLeDiff, Nat.reduceAdd, Nat.reduceMul, Int.reduceToNat, Int.reduceLT, Int.reduceLE, Int.reduceGT, Int.reduceGE, Int.reduceAdd, Int.reduceSub, Int.reduceMul, Int.reduceNeg, Int.reduceEq, Int.reduceNe, true_and, and_true, Int.cast_ofNat_Int, Nat.le_refl, ld3, ld23, ln23, ia23, ld50, ld53, fa53_0, fa53_1, fa53_2, fa53_3, ow2, ow3, ow4, ow5, ow6, ow8, ow11, ow20, ow23]
  by_cases h245 : op = 245
  · rw [if_pos h245, if_pos h245]
    by_cases a1 : a = 248
    · rw [if_pos a1]
      obtain ⟨h0, hs⟩ := hs (.inl a1)
      refine Cx.mono (c_first05 h hi hl (at_ - 1) ((at_ : Int) - 1) (by omega) (by omega) hs) fun v w hv => ?_
      obtain ⟨rfl, h⟩ := hv
      try simp (disch := omega) only [cnd_bool, on_some_eq, Dr_eq, xNil_ptr, xNil_func, xNil_yield, xPick_bool, unw_nil, xRes_ptr, xUn_not, xUn_neg, xEx_tuple, xBin_add, xBin_sub, xBin_mul, xBin_eql, xBin_neq, xBin_lss, xBin_leq, xBin_gtr, xBin_geq, xBin_eqls, xBin_neqs, wI64, oCell_some, List.getElem?_toArray, List.getElem?_cons_zero, List.getElem?_cons_succ, Nat.zero_add, Bool.not_true, Bool.not_false, if_true, if_false, ite_true, ite_false, beq_iff_eq, bne_iff_ne, decide_eq_true_eq, ne_eq, Bool.false_eq_true, Bool.true_eq_false, reduceIte, Option.some.injEq, Int.toNat_natCast, beq_self_eq_true, bne_self_eq_false, Value.cells, splice, List.setIfInBounds_toArray, List.set_cons_zero, List.set_cons_succ, List.size_toArray, List.length_cons, List.length_nil, and_self, Nat.reduceLeDiff, Nat.reduceAdd, Nat.reduceMul, Int.reduceToNat, Int.reduceLT, Int.reduceLE, Int.reduceGT, Int.reduceGE, Int.reduceAdd, Int.reduceSub, Int.reduceMul, Int.reduceNeg, Int.reduceEq, Int.reduceNe, true_and, and_true, Int.cast_ofNat_Int, Nat.le_refl, ld3, ld23, ln23, ia23, ld50, ld53, fa53_0, fa53_1, fa53_2, fa53_3, ow2, ow3, ow4, ow5, ow6, ow8, ow11, ow20, ow23]
      refine ⟨?_, h⟩
      cases firstL l (at_ - 1) <;> simp [a1]
    · rw [if_neg a1]
      by_cases a2 : a = 245
      · rw [if_pos a2]
        obtain ⟨h0, hs⟩ := hs (.inr (.inl a2))
        refine Cx.mono (c_first05 h hi hl (at_ - 1) ((at_ : Int) - 1) (by omega) (by omega) hs) fun v w hv => ?_
        obtain ⟨rfl, h⟩ := hv
        try simp (disch := omega) only [cnd_bool, on_some_eq, Dr_eq, xNil_ptr, xNil_func, xNil_yield, xPick_bool, unw_nil, xRes_ptr, xUn_not, xUn_neg, xEx_tuple, xBin_add, xBin_sub, xBin_mul, xBin_eql, xBin_neq, xBin_lss, xBin_leq, xBin_gtr, xBin_geq, xBin_eqls, xBin_neqs, wI64, oCell_some, List.getElem?_toArray, List.getElem?_cons_zero, List.getElem?_cons_succ, Nat.zero_add, Bool.not_true, Bool.not_false, if_true, if_false, ite_true, ite_false, beq_iff_eq, bne_iff_ne, decide_eq_true_eq, ne_eq, Bool.false_eq_true, Bool.true_eq_false, reduceIte, Option.some.injEq, Int.toNat_natCast, beq_self_eq_true, bne_self_eq_false, Value.cells, splice, List.setIfInBounds_toArray, List.set_cons_zero, List.set_cons_succ, List.size_toArray, List.length_cons, List.length_nil, and_self, Nat.reduceLeDiff, Nat.reduceAdd, Nat.reduceMul, Int.reduceToNat, Int.reduceLT, Int.reduceLE, Int.reduceGT, Int.reduceGE, Int.reduceAdd, Int.reduceSub, Int.reduceMul, Int.reduceNeg, Int.reduceEq, Int.reduceNe, true_and, and_true, Int.cast_ofNat_Int, Nat.le_refl, ld3, ld23, ln23, ia23, ld50, ld53, fa53_0, fa53_1, fa53_2, fa53_3, ow2, ow3, ow4, ow5, ow6, ow8, ow11, ow20, ow23]
        refine ⟨?_, h⟩
        cases firstL l (at_ - 1) <;> simp [a2]
      · rw [if_neg a2]
        exact ⟨by simp [a1, a2], h⟩
  rw [if_neg h245, if_neg h245]
  by_cases h59 : op = 59
  · rw [if_pos h59, if_pos h59]
    by_cases a1 : a = 248
    · rw [if_pos a1]
      obtain ⟨h0, hs⟩ := hs (.inl a1)
      refine Cx.mono (c_first05 h hi hl (at_ - 1) ((at_ : Int) - 1) (by omega) (by omega) hs) fun v w hv => ?_
      obtain ⟨rfl, h⟩ := hv
      try simp (disch := omega) only [cnd_bool, on_some_eq, Dr_eq, xNil_ptr, xNil_func, xNil_yield, xPick_bool, unw_nil, xRes_ptr, xUn_not, xUn_neg, xEx_tuple, xBin_add, xBin_sub, xBin_mul, xBin_eql, xBin_neq, xBin_lss, xBin_leq, xBin_gtr, xBin_geq, xBin_eqls, xBin_neqs, wI64, oCell_some, List.getElem?_toArray, List.getElem?_cons_zero, List.getElem?_cons_succ, Nat.zero_add, Bool.not_true, Bool.not_false, if_true, if_false, ite_true, ite_false, beq_iff_eq, bne_iff_ne, decide_eq_true_eq, ne_eq, Bool.false_eq_true, Bool.true_eq_false, reduceIte, Option.some.injEq, Int.toNat_natCast, beq_self_eq_true, bne_self_eq_false, Value.cells, splice, List.setIfInBounds_toArray, List.set_cons_zero, List.set_cons_succ, List.size_toArray, List.length_cons, List.length_nil, and_self, Nat.reduceLeDiff, Nat.reduceAdd, Nat.reduceMul, Int.reduceToNat, Int.reduceLT, Int.reduceLE, Int.reduceGT, Int.reduceGE, Int.reduceAdd, Int.reduceSub, Int.reduceMul, Int.reduceNeg, Int.reduceEq, Int.reduceNe, true_and, and_true, Int.cast_ofNat_Int, Nat.le_refl, ld3, ld23, ln23, ia23, ld50, ld53, fa53_0, fa53_1, fa53_2, fa53_3, ow2, ow3, ow4, ow5, ow6, ow8, ow11, ow20, ow23]
      refine ⟨?_, h⟩
      cases firstL l (at_ - 1) <;> simp [a1]
    · rw [if_neg a1]
      by_cases a2 : a = 59
      · rw [if_pos a2]
        obtain ⟨h0, hs⟩ := hs (.inr (.inr a2))
        refine Cx.mono (c_first05 h hi hl (at_ - 1) ((at_ : Int) - 1) (by omega) (by omega) hs) fun v w hv => ?_
        obtain ⟨rfl, h⟩ := hv
        try simp (disch := omega) only [cnd_bool, on_some_eq, Dr_eq, xNil_ptr, xNil_func, xNil_yield, xPick_bool, unw_nil, xRes_ptr, xUn_not, xUn_neg, xEx_tuple, xBin_add, xBin_sub, xBin_mul, xBin_eql, xBin_neq, xBin_lss, xBin_leq, xBin_gtr, xBin_geq, xBin_eqls, xBin_neqs, wI64, oCell_some, List.getElem?_toArray, List.getElem?_cons_zero, List.getElem?_cons_succ, Nat.zero_add, Bool.not_true, Bool.not_false, if_true, if_false, ite_true, ite_false, beq_iff_eq, bne_iff_ne, decide_eq_true_eq, ne_eq, Bool.false_eq_true, Bool.true_eq_false, reduceIte, Option.some.injEq, Int.toNat_natCast, beq_self_eq_true, bne_self_eq_false, Value.cells, splice, List.setIfInBounds_toArray, List.set_cons_zero, List.set_cons_succ, List.size_toArray, List.length_cons, List.length_nil, and_self, Nat.reduceLeDiff, Nat.reduceAdd, Nat.reduceMul, Int.reduceToNat, Int.reduceLT, Int.reduceLE, Int.reduceGT, Int.reduceGE, Int.reduceAdd, Int.reduceSub, Int.reduceMul, Int.reduceNeg, Int.reduceEq, Int.reduceNe, true_and, and_true, Int.cast_ofNat_Int, Nat.le_refl, ld3, ld23, ln23, ia23, ld50, ld53, fa53_0, fa53_1, fa53_2, fa53_3, ow2, ow3, ow4, ow5, ow6, ow8, ow11, ow20, ow23]
        refine ⟨?_, h⟩
        cases firstL l (at_ - 1) <;> simp [a2]
      · rw [if_neg a2]
        exact ⟨by simp [a1, a2], h⟩
  rw [if_neg h59, if_neg h59]
  by_cases a1 : a = 246
  · rw [if_pos a1, if_pos a1]
    by_cases o1 : op = 249
    · rw [if_pos o1]; exact ⟨by simp [o1], h⟩
    · rw [if_neg o1]; exact ⟨by congr 1; rw [Bool.eq_iff_iff]; simp [o1], h⟩
  rw [if_neg a1, if_neg a1]
  by_cases a2 : a = 247
  · rw [if_pos a2, if_pos a2]
    by_cases o1 : op = 250
    · rw [if_pos o1]; exact ⟨by simp [o1], h⟩
    · rw [if_neg o1]; exact ⟨by congr 1; rw [Bool.eq_iff_iff]; simp [o1], h⟩
  rw [if_neg a2, if_neg a2]
  exact ⟨rfl, h⟩
theorem may_k5 {w : World} (h : So w0 w L) {iv : Value} {l : List Inst} (hi : InstsAt w0 iv l) (hl : l.length ≤ 1099511627776) {at_ : Nat} (hat : at_ < l.length) (a op : Int)
    (hs : a = 248 ∨ a = 245 ∨ a = 59 → 0 < at_ ∧ ∃ s, 1 ≤ s ∧ s ≤ at_ - 1 ∧ opAt l s = 248) :
    F33.k5 (fun v w => v = .bool (funcMay op a (firstL l (at_ - 1))) ∧ So w0 w L) iv (.int .i64 (at_ : Int)) (.int .u16 op) (.int .u16 a) w := by
  unfold F33.k5
  try simp (disch := omega) only [cnd_bool, on_some_eq, Dr_eq, xNil_ptr, xNil_func, xNil_yield, xPick_bool, unw_nil, xRes_ptr, xUn_not, xUn_neg, xEx_tuple, xBin_add, xBin_sub, xBin_mul, xBin_eql, xBin_neq, xBin_lss, xBin_leq, xBin_gtr, xBin_geq, xBin_eqls, xBin_neqs, wI64, oCell_some, List.getElem?_toArray, List.getElem?_cons_zero, List.getElem?_cons_succ, Nat.zero_add, Bool.not_true, Bool.not_false, if_true, if_false, ite_true, ite_false, beq_iff_eq, bne_iff_ne, decide_eq_true_eq, ne_eq, Bool.false_eq_true, Bool.true_eq_false, reduceIte, Option.some.injEq, Int.toNat_natCast, beq_self_eq_true, bne_self_eq_false, Value.cells, splice, List.setIfInBounds_toArray, List.set_cons_zero, List.set_cons_succ, List.size_toArray, List.length_cons, List.length_nil, and_self, Nat.reduceLeDiff, Nat.reduceAdd, Nat.reduceMul, Int.reduceToNat, Int.reduceLT, Int.reduceLE, Int.reduceGT, Int.reduceGE, Int.reduceAdd, Int.reduceSub, Int.reduceMul, Int.reduceNeg, Int.reduceEq, Int.reduceNe, true_and, and_true, Int.cast_ofNat_Int, Nat.le_refl, ld3, ld23, ln23, ia23, ld50, ld53, fa53_0, fa53_1, fa53_2, fa53_3, ow2, ow3, ow4, ow5, ow6, ow8, ow11, ow20, ow23]
  by_cases h54 : op = 54
  · rw [if_pos h54]
    unfold funcMay
    rw [if_pos h54]
    by_cases a1 : a = 0
    · rw [if_pos a1]; exact ⟨by simp [a1], h⟩
    · rw [if_neg a1]; exact ⟨by congr 1; rw [Bool.eq_iff_iff]; simp [a1], h⟩
  rw [if_neg h54]
  by_cases h55 : op = 55
  · rw [if_pos h55]
    unfold funcMay
    rw [if_neg h54, if_pos h55]
    by_cases a1 : a = 54
    · rw [if_pos a1]; exact ⟨by simp [a1], h⟩
    · rw [if_neg a1]; exact ⟨by congr 1; rw [Bool.eq_iff_iff]; simp [a1], h⟩
  rw [if_neg h55]
  by_cases h248 : op = 248
  · rw [if_pos h248]
    have hfm : funcMay op a (firstL l (at_ - 1)) = decide (a = 54 ∨ a = 55 ∨ endsP a = true) := by
      unfold funcMay; rw [if_neg h54, if_neg h55, if_pos h248]
    rw [hfm]
    by_cases a1 : a = 54
    · rw [if_pos a1]; exact ⟨by simp [a1], h⟩
    rw [if_neg a1]
    by_cases a2 : a = 55
    · rw [if_pos a2]; exact ⟨by simp [a2], h⟩
    rw [if_neg a2]
    refine Cx.mono (c_refEnds h a) fun v w hv => ?_
    obtain ⟨rfl, h⟩ := hv
    exact ⟨by simp [a1, a2], h⟩
  rw [if_neg h248]
  by_cases h56 : op = 56
  · rw [if_pos h56]
    have hfm : funcMay op a (firstL l (at_ - 1)) = endsP a := by
      unfold funcMay; rw [if_neg h54, if_neg h55, if_neg h248, if_pos h56]
    rw [hfm]
    refine Cx.mono (c_refEnds h a) fun v w hv => ?_
    obtain ⟨rfl, h⟩ := hv
    exact ⟨rfl, h⟩
  rw [if_neg h56]
  have hbad : (a = 0 ∨ a = 54 ∨ a = 55 ∨ a = 56 ∨ endsP a = true) → funcMay op a (firstL l (at_ - 1)) = false := by
    intro hx
    unfold funcMay; rw [if_neg h54, if_neg h55, if_neg h248, if_neg h56, if_pos hx]
  by_cases a1 : a = 0
  · rw [if_pos a1, hbad (.inl a1)]; exact ⟨rfl, h⟩
  rw [if_neg a1]
  by_cases a2 : a = 54
  · rw [if_pos a2, hbad (.inr (.inl a2))]; exact ⟨rfl, h⟩
  rw [if_neg a2]
  by_cases a3 : a = 55
  · rw [if_pos a3, hbad (.inr (.inr (.inl a3)))]; exact ⟨rfl, h⟩
  rw [if_neg a3]
  by_cases a4 : a = 56
  · rw [if_pos a4, hbad (.inr (.inr (.inr (.inl a4))))]; exact ⟨rfl, h⟩
  rw [if_neg a4]
  refine Cx.mono (c_refEnds h a) fun v w hv => ?_
  obtain ⟨rfl, h⟩ := hv
  rw [cnd_bool]
  by_cases a5 : endsP a = true
  · rw [if_pos a5, hbad (.inr (.inr (.inr (.inr a5))))]; exact ⟨rfl, h⟩
  rw [if_neg a5]
  exact may_k6 h hi hl hat a op h54 h55 h248 h56 (by rintro (h | h | h | h | h) <;> contradiction) hs
theorem may_k4 {w : World} (h : So w0 w L) {iv : Value} {l : List Inst} (hi : InstsAt w0 iv l) (hl : l.length ≤ 1099511627776) {at_ : Nat} (hat : at_ < l.length) (hG : GoodL l at_) (op : Int) :
    F33.k4 (fun v w => v = .bool (funcMay op (aheadL l at_) (firstL l (at_ - 1))) ∧ So w0 w L) iv (.int .i64 (at_ : Int)) (.int .u16 op) (.int .u16 0) w := by
  unfold F33.k4
  try simp (disch := omega) only [cnd_bool, on_some_eq, Dr_eq, xNil_ptr, xNil_func, xNil_yield, xPick_bool, unw_nil, xRes_ptr, xUn_not, xUn_neg, xEx_tuple, xBin_add, xBin_sub, xBin_mul, xBin_eql, xBin_neq, xBin_lss, xBin_leq, xBin_gtr, xBin_geq, xBin_eqls, xBin_neqs, wI64, oCell_some, List.getElem?_toArray, List.getElem?_cons_zero, List.getElem?_cons_succ, Nat.zero_add, Bool.not_true, Bool.not_false, if_true, if_false, ite_true, ite_false, beq_iff_eq, bne_iff_ne, decide_eq_true_eq, ne_eq, Bool.false_eq_true, Bool.true_eq_false, reduceIte, Option.some.injEq, Int.toNat_natCast, beq_self_eq_true, bne_self_eq_false, Value.cells, splice, List.setIfInBounds_toArray, List.set_cons_zero, List.set_cons_succ, List.size_toArray, List.length_cons, List.length_nil, and_self, Nat.reduceLeDiff, Nat.reduceAdd, Nat.reduceMul, Int.reduceToNat, Int.reduceLT, Int.reduceLE, Int.reduceGT, Int.reduceGE, Int.reduceAdd, Int.reduceSub, Int.reduceMul, Int.reduceNeg, Int.reduceEq, Int.reduceNe, true_and, and_true, Int.cast_ofNat_Int, Nat.le_refl, ld3, ld23, ln23, ia23, ld50, ld53, fa53_0, fa53_1, fa53_2, fa53_3, ow2, ow3, ow4, ow5, ow6, ow8, ow11, ow20, ow23]
  by_cases h0 : 0 < at_
  · rw [if_pos (by omega)]
    obtain ⟨g, o, i, k1, k2, k3, hp, ha, hm, _⟩ := inst_at hi (k := at_ - 1) (by omega) ((at_ : Int) - 1) (by omega)
    have hf := k2 _ _ h
    try simp (disch := omega) only [cnd_bool, on_some_eq, Dr_eq, xNil_ptr, xNil_func, xNil_yield, xPick_bool, unw_nil, xRes_ptr, xUn_not, xUn_neg, xEx_tuple, xBin_add, xBin_sub, xBin_mul, xBin_eql, xBin_neq, xBin_lss, xBin_leq, xBin_gtr, xBin_geq, xBin_eqls, xBin_neqs, wI64, oCell_some, List.getElem?_toArray, List.getElem?_cons_zero, List.getElem?_cons_succ, Nat.zero_add, Bool.not_true, Bool.not_false, if_true, if_false, ite_true, ite_false, beq_iff_eq, bne_iff_ne, decide_eq_true_eq, ne_eq, Bool.false_eq_true, Bool.true_eq_false, reduceIte, Option.some.injEq, Int.toNat_natCast, beq_self_eq_true, bne_self_eq_false, Value.cells, splice, List.setIfInBounds_toArray, List.set_cons_zero, List.set_cons_succ, List.size_toArray, List.length_cons, List.length_nil, and_self, Nat.reduceLeDiff, Nat.reduceAdd, Nat.reduceMul, Int.reduceToNat, Int.reduceLT, Int.reduceLE, Int.reduceGT, Int.reduceGE, Int.reduceAdd, Int.reduceSub, Int.reduceMul, Int.reduceNeg, Int.reduceEq, Int.reduceNe, true_and, and_true, Int.cast_ofNat_Int, Nat.le_refl, hf, ld3, ld23, ln23, ia23, ld50, ld53, fa53_0, fa53_1, fa53_2, fa53_3, ow2, ow3, ow4, ow5, ow6, ow8, ow11, ow20, ow23, k1]
    refine Cx.mono (c_refPart h i ha) fun v w hv => ?_
    obtain ⟨rfl, h⟩ := hv
    rw [hp]
    unfold F33.k7
    have hf := k3 _ _ h
    try simp (disch := omega) only [cnd_bool, on_some_eq, Dr_eq, xNil_ptr, xNil_func, xNil_yield, xPick_bool, unw_nil, xRes_ptr, xUn_not, xUn_neg, xEx_tuple, xBin_add, xBin_sub, xBin_mul, xBin_eql, xBin_neq, xBin_lss, xBin_leq, xBin_gtr, xBin_geq, xBin_eqls, xBin_neqs, wI64, oCell_some, List.getElem?_toArray, List.getElem?_cons_zero, List.getElem?_cons_succ, Nat.zero_add, Bool.not_true, Bool.not_false, if_true, if_false, ite_true, ite_false, beq_iff_eq, bne_iff_ne, decide_eq_true_eq, ne_eq, Bool.false_eq_true, Bool.true_eq_false, reduceIte, Option.some.injEq, Int.toNat_natCast, beq_self_eq_true, bne_self_eq_false, Value.cells, splice, List.setIfInBounds_toArray, List.set_cons_zero, List.set_cons_succ, List.size_toArray, List.length_cons, List.length_nil, and_self, Nat.reduceLeDiff, Nat.reduceAdd, Nat.reduceMul, Int.reduceToNat, Int.reduceLT, Int.reduceLE, Int.reduceGT, Int.reduceGE, Int.reduceAdd, Int.reduceSub, Int.reduceMul, Int.reduceNeg, Int.reduceEq, Int.reduceNe, true_and, and_true, Int.cast_ofNat_Int, Nat.le_refl, hf, ld3, ld23, ln23, ia23, ld50, ld53, fa53_0, fa53_1, fa53_2, fa53_3, ow2, ow3, ow4, ow5, ow6, ow8, ow11, ow20, ow23, k1]
    by_cases h8 : pAt l (at_ - 1) = 8
    · try rw [if_pos h8]
      rw [ahead_in h0 h8]
      refine may_k5 h hi hl hat _ op fun hx => ⟨h0, ?_⟩
      exact first_ex hG (at_ - 1) (at_ - 1) (Nat.le_refl _) (by omega) h8 (by omega) (by omega) (by omega)
    · try rw [if_neg h8]
      have : aheadL l at_ = 0 := by unfold aheadL; rw [if_neg (fun hx => h8 hx.2)]
      rw [this]
      exact may_k5 h hi hl hat 0 op fun hx => by omega
  · rw [if_neg (by omega)]
    unfold F33.k7
    try simp (disch := omega) only [cnd_bool, on_some_eq, Dr_eq, xNil_ptr, xNil_func, xNil_yield, xPick_bool, unw_nil, xRes_ptr, xUn_not, xUn_neg, xEx_tuple, xBin_add, xBin_sub, xBin_mul, xBin_eql, xBin_neq, xBin_lss, xBin_leq, xBin_gtr, xBin_geq, xBin_eqls, xBin_neqs, wI64, oCell_some, List.getElem?_toArray, List.getElem?_cons_zero, List.getElem?_cons_succ, Nat.zero_add, Bool.not_true, Bool.not_false, if_true, if_false, ite_true, ite_false, beq_iff_eq, bne_iff_ne, decide_eq_true_eq, ne_eq, Bool.false_eq_true, Bool.true_eq_false, reduceIte, Option.some.injEq, Int.toNat_natCast, beq_self_eq_true, bne_self_eq_false, Value.cells, splice, List.setIfInBounds_toArray, List.set_cons_zero, List.set_cons_succ, List.size_toArray, List.length_cons, List.length_nil, and_self, Nat.reduceLeDiff, Nat.reduceAdd, Nat.reduceMul, Int.reduceToNat, Int.reduceLT, Int.reduceLE, Int.reduceGT, Int.reduceGE, Int.reduceAdd, Int.reduceSub, Int.reduceMul, Int.reduceNeg, Int.reduceEq, Int.reduceNe, true_and, and_true, Int.cast_ofNat_Int, Nat.le_refl, ld3, ld23, ln23, ia23, ld50, ld53, fa53_0, fa53_1, fa53_2, fa53_3, ow2, ow3, ow4, ow5, ow6, ow8, ow11, ow20, ow23]
    have : aheadL l at_ = 0 := by unfold aheadL; rw [if_neg (fun hx => h0 hx.1)]
    rw [this]
    exact may_k5 h hi hl hat 0 op fun hx => by omega
theorem may_loop {iv : Value} {l : List Inst} (hi : InstsAt w0 iv l) (hl : l.length ≤ 1099511627776) {at_ : Nat} (hat : at_ < l.length) (hG : GoodL l at_) :
    ∀ (m k : Nat) (w : World), k + m = at_ → leL l (pAt l at_) k = true → modelsL l k ≤ k → So w0 w L →
      F33.l1 (fun v w => v = .bool (mayL l at_) ∧ So w0 w L) (m + 1) iv (.int .i64 (at_ : Int)) (.int .i64 (pAt l at_)) (.int .i64 (modelsL l k : Int)) (.int .i64 (k : Int)) w := by
  intro m
  induction m with
  | zero =>
    intro k w hk hle hml h
    have hk : k = at_ := by omega
    subst hk
    unfold F33.l1
    try simp (disch := omega) only [cnd_bool, on_some_eq, Dr_eq, xNil_ptr, xNil_func, xNil_yield, xPick_bool, unw_nil, xRes_ptr, xUn_not, xUn_neg, xEx_tuple, xBin_add, xBin_sub, xBin_mul, xBin_eql, xBin_neq, xBin_lss, xBin_leq, xBin_gtr, xBin_geq, xBin_eqls, xBin_neqs, wI64, oCell_some, List.getElem?_toArray, List.getElem?_cons_zero, List.getElem?_cons_succ, Nat.zero_add, Bool.not_true, Bool.not_false, if_true, if_false, ite_true, ite_false, beq_iff_eq, bne_iff_ne, decide_eq_true_eq, ne_eq, Bool.false_eq_true, Bool.true_eq_false, reduceIte, Option.some.injEq, Int.toNat_natCast, beq_self_eq_true, bne_self_eq_false, Value.cells, splice, List.setIfInBounds_toArray, List.set_cons_zero, List.set_cons_succ, List.size_toArray, List.length_cons, List.length_nil, and_self, Nat.reduceLeDiff, Nat.reduceAdd, Nat.reduceMul, Int.reduceToNat, Int.reduceLT, Int.reduceLE, Int.reduceGT, Int.reduceGE, Int.reduceAdd, Int.reduceSub, Int.reduceMul, Int.reduceNeg, Int.reduceEq, Int.reduceNe, true_and, and_true, Int.cast_ofNat_Int, Nat.le_refl, ld3, ld23, ln23, ia23, ld50, ld53, fa53_0, fa53_1, fa53_2, fa53_3, ow2, ow3, ow4, ow5, ow6, ow8, ow11, ow20, ow23]
    rw [if_neg (by omega)]
    unfold F33.k2 mayL
    try simp (disch := omega) only [cnd_bool, on_some_eq, Dr_eq, xNil_ptr, xNil_func, xNil_yield, xPick_bool, unw_nil, xRes_ptr, xUn_not, xUn_neg, xEx_tuple, xBin_add, xBin_sub, xBin_mul, xBin_eql, xBin_neq, xBin_lss, xBin_leq, xBin_gtr, xBin_geq, xBin_eqls, xBin_neqs, wI64, oCell_some, List.getElem?_toArray, List.getElem?_cons_zero, List.getElem?_cons_succ, Nat.zero_add, Bool.not_true, Bool.not_false, if_true, if_false, ite_true, ite_false, beq_iff_eq, bne_iff_ne, decide_eq_true_eq, ne_eq, Bool.false_eq_true, Bool.true_eq_false, reduceIte, Option.some.injEq, Int.toNat_natCast, beq_self_eq_true, bne_self_eq_false, Value.cells, splice, List.setIfInBounds_toArray, List.set_cons_zero, List.set_cons_succ, List.size_toArray, List.length_cons, List.length_nil, and_self, Nat.reduceLeDiff, Nat.reduceAdd, Nat.reduceMul, Int.reduceToNat, Int.reduceLT, Int.reduceLE, Int.reduceGT, Int.reduceGE, Int.reduceAdd, Int.reduceSub, Int.reduceMul, Int.reduceNeg, Int.reduceEq, Int.reduceNe, true_and, and_true, Int.cast_ofNat_Int, Nat.le_refl, ld3, ld23, ln23, ia23, ld50, ld53, fa53_0, fa53_1, fa53_2, fa53_3, ow2, ow3, ow4, ow5, ow6, ow8, ow11, ow20, ow23]
    rw [hle]
    simp only [Bool.true_and]
    by_cases h1 : pAt l k = 1
    · rw [if_pos h1, if_pos h1]
      refine ⟨?_, h⟩
      congr 1
      rw [Bool.eq_iff_iff]
      simp only [beq_iff_eq, decide_eq_true_eq]
      omega
    rw [if_neg h1, if_neg h1]
    have k3 : (modelsL l k ≠ 0 ∨ ¬ 1 < pAt l k) → F33.k3 (fun v w => v = .bool (if pAt l k < 8 then true else funcMay (opAt l k) (aheadL l k) (firstL l (k - 1))) ∧ So w0 w L) iv (.int .i64 (k : Int)) (.int .i64 (pAt l k)) w := by
      intro _
      unfold F33.k3
      try simp (disch := omega) only [cnd_bool, on_some_eq, Dr_eq, xNil_ptr, xNil_func, xNil_yield, xPick_bool, unw_nil, xRes_ptr, xUn_not, xUn_neg, xEx_tuple, xBin_add, xBin_sub, xBin_mul, xBin_eql, xBin_neq, xBin_lss, xBin_leq, xBin_gtr, xBin_geq, xBin_eqls, xBin_neqs, wI64, oCell_some, List.getElem?_toArray, List.getElem?_cons_zero, List.getElem?_cons_succ, Nat.zero_add, Bool.not_true, Bool.not_false, if_true, if_false, ite_true, ite_false, beq_iff_eq, bne_iff_ne, decide_eq_true_eq, ne_eq, Bool.false_eq_true, Bool.true_eq_false, reduceIte, Option.some.injEq, Int.toNat_natCast, beq_self_eq_true, bne_self_eq_false, Value.cells, splice, List.setIfInBounds_toArray, List.set_cons_zero, List.set_cons_succ, List.size_toArray, List.length_cons, List.length_nil, and_self, Nat.reduceLeDiff, Nat.reduceAdd, Nat.reduceMul, Int.reduceToNat, Int.reduceLT, Int.reduceLE, Int.reduceGT, Int.reduceGE, Int.reduceAdd, Int.reduceSub, Int.reduceMul, Int.reduceNeg, Int.reduceEq, Int.reduceNe, true_and, and_true, Int.cast_ofNat_Int, Nat.le_refl, ld3, ld23, ln23, ia23, ld50, ld53, fa53_0, fa53_1, fa53_2, fa53_3, ow2, ow3, ow4, ow5, ow6, ow8, ow11, ow20, ow23]
      by_cases h8 : pAt l k < 8
      · rw [if_pos h8, if_pos h8]; exact ⟨rfl, h⟩
      rw [if_neg h8, if_neg h8]
      obtain ⟨g, o, i, k1, k2, k3, hp, ha, hm, _⟩ := inst_at hi hat (k : Int) rfl
      have hf := k3 _ _ h
      try simp (disch := omega) only [cnd_bool, on_some_eq, Dr_eq, xNil_ptr, xNil_func, xNil_yield, xPick_bool, unw_nil, xRes_ptr, xUn_not, xUn_neg, xEx_tuple, xBin_add, xBin_sub, xBin_mul, xBin_eql, xBin_neq, xBin_lss, xBin_leq, xBin_gtr, xBin_geq, xBin_eqls, xBin_neqs, wI64, oCell_some, List.getElem?_toArray, List.getElem?_cons_zero, List.getElem?_cons_succ, Nat.zero_add, Bool.not_true, Bool.not_false, if_true, if_false, ite_true, ite_false, beq_iff_eq, bne_iff_ne, decide_eq_true_eq, ne_eq, Bool.false_eq_true, Bool.true_eq_false, reduceIte, Option.some.injEq, Int.toNat_natCast, beq_self_eq_true, bne_self_eq_false, Value.cells, splice, List.setIfInBounds_toArray, List.set_cons_zero, List.set_cons_succ, List.size_toArray, List.length_cons, List.length_nil, and_self, Nat.reduceLeDiff, Nat.reduceAdd, Nat.reduceMul, Int.reduceToNat, Int.reduceLT, Int.reduceLE, Int.reduceGT, Int.reduceGE, Int.reduceAdd, Int.reduceSub, Int.reduceMul, Int.reduceNeg, Int.reduceEq, Int.reduceNe, true_and, and_true, Int.cast_ofNat_Int, Nat.le_refl, hf, ld3, ld23, ln23, ia23, ld50, ld53, fa53_0, fa53_1, fa53_2, fa53_3, ow2, ow3, ow4, ow5, ow6, ow8, ow11, ow20, ow23, k1]
      exact may_k4 h hi hl hat hG (opAt l k)
    by_cases hgt : 1 < pAt l k
    · rw [if_pos (by omega)]
      by_cases hm0 : modelsL l k = 0
      · rw [if_pos (by omega), if_pos ⟨hgt, hm0⟩]; exact ⟨rfl, h⟩
      · rw [if_neg (by omega), if_neg (by omega)]
        exact k3 (.inl hm0)
    · rw [if_neg (by omega), if_neg (by omega)]
      exact k3 (.inr hgt)
  | succ m ih =>
    intro k w hk hle hml h
    have hlt : k < l.length := by omega
    obtain ⟨g, o, i, k1, k2, k3, hp, ha, hm, _⟩ := inst_at hi hlt (k : Int) rfl
    have hf := k2 _ _ h
    unfold F33.l1
    try simp (disch := omega) only [cnd_bool, on_some_eq, Dr_eq, xNil_ptr, xNil_func, xNil_yield, xPick_bool, unw_nil, xRes_ptr, xUn_not, xUn_neg, xEx_tuple, xBin_add, xBin_sub, xBin_mul, xBin_eql, xBin_neq, xBin_lss, xBin_leq, xBin_gtr, xBin_geq, xBin_eqls, xBin_neqs, wI64, oCell_some, List.getElem?_toArray, List.getElem?_cons_zero, List.getElem?_cons_succ, Nat.zero_add, Bool.not_true, Bool.not_false, if_true, if_false, ite_true, ite_false, beq_iff_eq, bne_iff_ne, decide_eq_true_eq, ne_eq, Bool.false_eq_true, Bool.true_eq_false, reduceIte, Option.some.injEq, Int.toNat_natCast, beq_self_eq_true, bne_self_eq_false, Value.cells, splice, List.setIfInBounds_toArray, List.set_cons_zero, List.set_cons_succ, List.size_toArray, List.length_cons, List.length_nil, and_self, Nat.reduceLeDiff, Nat.reduceAdd, Nat.reduceMul, Int.reduceToNat, Int.reduceLT, Int.reduceLE, Int.reduceGT, Int.reduceGE, Int.reduceAdd, Int.reduceSub, Int.reduceMul, Int.reduceNeg, Int.reduceEq, Int.reduceNe, true_and, and_true, Int.cast_ofNat_Int, Nat.le_refl, hf, ld3, ld23, ln23, ia23, ld50, ld53, fa53_0, fa53_1, fa53_2, fa53_3, ow2, ow3, ow4, ow5, ow6, ow8, ow11, ow20, ow23, k1]
    rw [if_pos (by omega)]
    refine Cx.mono (c_refPart h i ha) fun v w hv => ?_
    obtain ⟨rfl, h⟩ := hv
    have hf := k2 _ _ h
    rw [hp]
    try simp (disch := omega) only [cnd_bool, on_some_eq, Dr_eq, xNil_ptr, xNil_func, xNil_yield, xPick_bool, unw_nil, xRes_ptr, xUn_not, xUn_neg, xEx_tuple, xBin_add, xBin_sub, xBin_mul, xBin_eql, xBin_neq, xBin_lss, xBin_leq, xBin_gtr, xBin_geq, xBin_eqls, xBin_neqs, wI64, oCell_some, List.getElem?_toArray, List.getElem?_cons_zero, List.getElem?_cons_succ, Nat.zero_add, Bool.not_true, Bool.not_false, if_true, if_false, ite_true, ite_false, beq_iff_eq, bne_iff_ne, decide_eq_true_eq, ne_eq, Bool.false_eq_true, Bool.true_eq_false, reduceIte, Option.some.injEq, Int.toNat_natCast, beq_self_eq_true, bne_self_eq_false, Value.cells, splice, List.setIfInBounds_toArray, List.set_cons_zero, List.set_cons_succ, List.size_toArray, List.length_cons, List.length_nil, and_self, Nat.reduceLeDiff, Nat.reduceAdd, Nat.reduceMul, Int.reduceToNat, Int.reduceLT, Int.reduceLE, Int.reduceGT, Int.reduceGE, Int.reduceAdd, Int.reduceSub, Int.reduceMul, Int.reduceNeg, Int.reduceEq, Int.reduceNe, true_and, and_true, Int.cast_ofNat_Int, Nat.le_refl, hf, ld3, ld23, ln23, ia23, ld50, ld53, fa53_0, fa53_1, fa53_2, fa53_3, ow2, ow3, ow4, ow5, ow6, ow8, ow11, ow20, ow23, k1]
    by_cases hgt : pAt l k > pAt l at_
    · rw [if_pos hgt]
      refine ⟨?_, h⟩
      unfold mayL
      have : leL l (pAt l at_) at_ = false := by
        cases hc : leL l (pAt l at_) at_ with
        | false => rfl
        | true => have := leL_iff.1 hc k (by omega); omega
      rw [this]; rfl
    rw [if_neg hgt]
    refine Cx.mono (c_refPart h i ha) fun v w hv => ?_
    obtain ⟨rfl, h⟩ := hv
    rw [hp]
    try simp (disch := omega) only [cnd_bool, on_some_eq, Dr_eq, xNil_ptr, xNil_func, xNil_yield, xPick_bool, unw_nil, xRes_ptr, xUn_not, xUn_neg, xEx_tuple, xBin_add, xBin_sub, xBin_mul, xBin_eql, xBin_neq, xBin_lss, xBin_leq, xBin_gtr, xBin_geq, xBin_eqls, xBin_neqs, wI64, oCell_some, List.getElem?_toArray, List.getElem?_cons_zero, List.getElem?_cons_succ, Nat.zero_add, Bool.not_true, Bool.not_false, if_true, if_false, ite_true, ite_false, beq_iff_eq, bne_iff_ne, decide_eq_true_eq, ne_eq, Bool.false_eq_true, Bool.true_eq_false, reduceIte, Option.some.injEq, Int.toNat_natCast, beq_self_eq_true, bne_self_eq_false, Value.cells, splice, List.setIfInBounds_toArray, List.set_cons_zero, List.set_cons_succ, List.size_toArray, List.length_cons, List.length_nil, and_self, Nat.reduceLeDiff, Nat.reduceAdd, Nat.reduceMul, Int.reduceToNat, Int.reduceLT, Int.reduceLE, Int.reduceGT, Int.reduceGE, Int.reduceAdd, Int.reduceSub, Int.reduceMul, Int.reduceNeg, Int.reduceEq, Int.reduceNe, true_and, and_true, Int.cast_ofNat_Int, Nat.le_refl, ld3, ld23, ln23, ia23, ld50, ld53, fa53_0, fa53_1, fa53_2, fa53_3, ow2, ow3, ow4, ow5, ow6, ow8, ow11, ow20, ow23]
    have hle' : leL l (pAt l at_) (k + 1) = true := by
      simp only [leL, hle, Bool.true_and, decide_eq_true_eq]; omega
    by_cases h1 : pAt l k = 1
    · rw [if_pos h1]
      have hmm : modelsL l (k + 1) = modelsL l k + 1 := by simp only [modelsL]; rw [if_pos h1]
      have := ih (k + 1) w (by omega) hle' (by omega) h
      rw [hmm, show ((k + 1 : Nat) : Int) = (k : Int) + 1 by omega, show ((modelsL l k + 1 : Nat) : Int) = (modelsL l k : Int) + 1 by omega] at this
      exact this
    · rw [if_neg h1]
      have hmm : modelsL l (k + 1) = modelsL l k := by simp only [modelsL]; rw [if_neg h1]; rfl
      have := ih (k + 1) w (by omega) hle' (by omega) h
      rw [hmm, show ((k + 1 : Nat) : Int) = (k : Int) + 1 by omega] at this
      exact this
theorem c_refMay {w : World} (h : So w0 w L) {iv : Value} {l : List Inst} (hi : InstsAt w0 iv l) (hl : l.length ≤ 1099511627776) {at_ : Nat} (hat : at_ < l.length) (hG : GoodL l at_) :
    Cx P 33 #[iv, .int .i64 (at_ : Int)] w fun v w => v = .bool (mayL l at_) ∧ So w0 w L := by
  apply F33_ok
  unfold F33
  obtain ⟨g, o, i, k1, k2, k3, hp, ha, hm, _⟩ := inst_at hi hat (at_ : Int) rfl
  have hf := k2 _ _ h
  try simp (disch := omega) only [cnd_bool, on_some_eq, Dr_eq, xNil_ptr, xNil_func, xNil_yield, xPick_bool, unw_nil, xRes_ptr, xUn_not, xUn_neg, xEx_tuple, xBin_add, xBin_sub, xBin_mul, xBin_eql, xBin_neq, xBin_lss, xBin_leq, xBin_gtr, xBin_geq, xBin_eqls, xBin_neqs, wI64, oCell_some, List.getElem?_toArray, List.getElem?_cons_zero, List.getElem?_cons_succ, Nat.zero_add, Bool.not_true, Bool.not_false, if_true, if_false, ite_true, ite_false, beq_iff_eq, bne_iff_ne, decide_eq_true_eq, ne_eq, Bool.false_eq_true, Bool.true_eq_false, reduceIte, Option.some.injEq, Int.toNat_natCast, beq_self_eq_true, bne_self_eq_false, Value.cells, splice, List.setIfInBounds_toArray, List.set_cons_zero, List.set_cons_succ, List.size_toArray, List.length_cons, List.length_nil, and_self, Nat.reduceLeDiff, Nat.reduceAdd, Nat.reduceMul, Int.reduceToNat, Int.reduceLT, Int.reduceLE, Int.reduceGT, Int.reduceGE, Int.reduceAdd, Int.reduceSub, Int.reduceMul, Int.reduceNeg, Int.reduceEq, Int.reduceNe, true_and, and_true, Int.cast_ofNat_Int, Nat.le_refl, hf, ld3, ld23, ln23, ia23, ld50, ld53, fa53_0, fa53_1, fa53_2, fa53_3, ow2, ow3, ow4, ow5, ow6, ow8, ow11, ow20, ow23, k1]
  refine Cx.mono (c_refPart h i ha) fun v w hv => ?_
  obtain ⟨rfl, h⟩ := hv
  rw [hp]
  unfold F33.k1 F33.k8
  exact ⟨_, may_loop hi hl hat hG at_ 0 w (by omega) rfl (Nat.le_refl _) h⟩
end
end Go.Proofs.Ytlmcppbpobnfjaa

