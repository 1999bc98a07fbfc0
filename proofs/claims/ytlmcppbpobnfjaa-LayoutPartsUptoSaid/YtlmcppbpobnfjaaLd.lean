/-
  Layout: the cutter goes through the parts ahead of the functions.
-/
import Derived.Test.YtlmcppbpobnfjaaLc
namespace Go.Proofs.Ytlmcppbpobnfjaa
open Go Go.Vc
set_option linter.unusedSimpArgs false
set_option linter.unusedVariables false
set_option maxRecDepth 20000

/-- Does an instruction of part p stand there? -/
def isPart (l : List Inst) (p pos : Nat) : Bool := match l[pos]? with
  | some i => partP i == (p : Int)
  | none => false
def partRun (l : List Inst) (p pos : Nat) : Nat := ((l.drop pos).takeWhile fun i => partP i == (p : Int)).length
/-- How far the p-th round goes. -/
def advP (l : List Inst) (p pos : Nat) : Nat := if p = 1 then (if isPart l p pos then 1 else 0) else partRun l p pos
theorem isPart_lt {l : List Inst} {p pos : Nat} (h : isPart l p pos = true) : pos < l.length := by
  unfold isPart at h
  cases hg : l[pos]? with
  | none => rw [hg] at h; cases h
  | some i => exact (List.getElem?_eq_some_iff.1 hg).1
theorem partRun_step {l : List Inst} {p pos : Nat} (h : isPart l p pos = true) : partRun l p pos = partRun l p (pos + 1) + 1 := by
  have hlt := isPart_lt h
  unfold isPart at h
  rw [List.getElem?_eq_getElem hlt] at h
  unfold partRun
  rw [List.drop_eq_getElem_cons hlt, List.takeWhile_cons, if_pos h]
  rfl
theorem partRun_stop {l : List Inst} {p pos : Nat} (h : isPart l p pos = false) : partRun l p pos = 0 := by
  unfold partRun
  by_cases hlt : pos < l.length
  · rw [List.drop_eq_getElem_cons hlt, List.takeWhile_cons, if_neg]
    · rfl
    · unfold isPart at h
      rw [List.getElem?_eq_getElem hlt] at h
      simpa using h
  · rw [List.drop_of_length_le (by omega)]; rfl
theorem advP_le {l : List Inst} {p pos : Nat} (hp : pos ≤ l.length) : pos + advP l p pos ≤ l.length := by
  unfold advP
  split
  · split
    · rename_i h; have := isPart_lt h; omega
    · omega
  · unfold partRun
    have h1 : ((l.drop pos).takeWhile fun i => partP i == (p : Int)).length ≤ (l.drop pos).length := (List.takeWhile_prefix _).length_le
    simp only [List.length_drop] at h1
    omega
theorem next_above {l : List Inst} {p pos : Nat} (hp : p < 8) (h : isPart l p pos = true) : nextP l pos = 9 := by
  have hlt := isPart_lt h
  unfold isPart at h
  unfold nextP
  rw [List.getElem?_eq_getElem hlt] at h ⊢
  simp only [beq_iff_eq] at h
  simp only [kindP, h]
  rw [if_pos (by omega)]
/-- The rounds from the p-th on: does all stand, where the cutter stands then, the spans. -/
def topP (l : List Inst) : Nat → Nat → Nat → List Value → Bool × Nat × List Value
  | 0, _, pos, sp => (true, pos, sp)
  | k + 1, p, pos, sp => if p = 1 ∧ advP l p pos = 0 then (false, pos, setSp sp p pos pos) else topP l k (p + 1) (pos + advP l p pos) (setSp sp p pos (pos + advP l p pos))

section
variable {w0 : World} {L : List (Nat × Obj)} {iv fv : Value} {l : List Inst} {b : Nat}
theorem top_inner (hi : InstsAt w0 iv l) (hl : l.length ≤ 1099511627776) {sp : List Value} {p fr : Nat} (hp : p < 8) {Q : Value → World → Prop} {R : Value → Value → World → Prop} :
    ∀ (m pos : Nat) (w : World), l.length - pos < m → pos ≤ l.length → So w0 w ((b, cl (cutC iv pos sp fv) 59) :: L) →
      (∀ w, So w0 w ((b, cl (cutC iv (pos + advP l p pos) sp fv) 59) :: L) → F52.k7 Q R (.pointer (some ⟨b, 0, none⟩)) (.int .u8 (p : Int)) (.int .i64 (fr : Int)) (.int .u8 (p : Int)) w) →
      F52.l2 Q R m (.pointer (some ⟨b, 0, none⟩)) (.int .u8 (p : Int)) (.int .i64 (fr : Int)) (.int .u8 (p : Int)) w := by
  intro m
  induction m with
  | zero => intro pos w h; omega
  | succ m ih =>
    intro pos w hm hpos h hk
    unfold F52.l2 F52.l2.b
    rw [Dr_eq]
    refine Cx.mono (c_next hi hpos hl h.drew) fun v w hv => ?_
    obtain ⟨rfl, h⟩ := hv
    try simp (disch := omega) only [cnd_bool, on_some_eq, Dr_eq, xNil_ptr, xNil_func, xNil_yield, xPick_bool, unw_nil, xRes_ptr, xUn_not, xUn_neg, xEx_tuple, xBin_add, xBin_sub, xBin_mul, xBin_eql, xBin_neq, xBin_lss, xBin_leq, xBin_gtr, xBin_geq, xBin_eqls, xBin_neqs, wI64, oCell_some, List.getElem?_toArray, List.getElem?_cons_zero, List.getElem?_cons_succ, Nat.zero_add, Bool.not_true, Bool.not_false, if_true, if_false, ite_true, ite_false, beq_iff_eq, bne_iff_ne, decide_eq_true_eq, ne_eq, Bool.false_eq_true, Bool.true_eq_false, reduceIte, Option.some.injEq, Int.toNat_natCast, beq_self_eq_true, bne_self_eq_false, Value.cells, splice, List.setIfInBounds_toArray, List.set_cons_zero, List.set_cons_succ, List.size_toArray, List.length_cons, List.length_nil, and_self, Nat.reduceLeDiff, Nat.reduceAdd, Nat.reduceMul, Int.reduceToNat, Int.reduceLT, Int.reduceLE, Int.reduceGT, Int.reduceGE, Int.reduceAdd, Int.reduceSub, Int.reduceMul, Int.reduceNeg, Int.reduceEq, Int.reduceNe, true_and, and_true, Int.cast_ofNat_Int, Nat.le_refl, ld3, ld5, ld23, ln23, ia23, ld27, bd27_0_1, ld28, ia28, bd28, ld53, fa53_0, fa53_1, fa53_2, fa53_3, ld59, fa59_0, fa59_1, fa59_2, fa59_3, bd59_0, ow2, ow3, ow4, ow5, ow6, ow8, ow11, ow20, ow23, cv5_3]
    by_cases hn : nextP l pos = 9
    · rw [if_pos hn]
      have hlt := nextP_lt (l := l) (pos := pos) (by rw [hn]; decide)
      have hf := h.facts
      simp only [Facts] at hf
      have hel : (l.map Inst.c)[pos]? = some (l[pos].c) := by simp [hlt]
      obtain ⟨g, o, h1, h2, h3⟩ := (hi.1.go h).get sl23 (pos : Int) rfl hel
      rw [agg_c] at h2
      try simp (disch := omega) only [cnd_bool, on_some_eq, Dr_eq, xNil_ptr, xNil_func, xNil_yield, xPick_bool, unw_nil, xRes_ptr, xUn_not, xUn_neg, xEx_tuple, xBin_add, xBin_sub, xBin_mul, xBin_eql, xBin_neq, xBin_lss, xBin_leq, xBin_gtr, xBin_geq, xBin_eqls, xBin_neqs, wI64, oCell_some, List.getElem?_toArray, List.getElem?_cons_zero, List.getElem?_cons_succ, Nat.zero_add, Bool.not_true, Bool.not_false, if_true, if_false, ite_true, ite_false, beq_iff_eq, bne_iff_ne, decide_eq_true_eq, ne_eq, Bool.false_eq_true, Bool.true_eq_false, reduceIte, Option.some.injEq, Int.toNat_natCast, beq_self_eq_true, bne_self_eq_false, Value.cells, splice, List.setIfInBounds_toArray, List.set_cons_zero, List.set_cons_succ, List.size_toArray, List.length_cons, List.length_nil, and_self, Nat.reduceLeDiff, Nat.reduceAdd, Nat.reduceMul, Int.reduceToNat, Int.reduceLT, Int.reduceLE, Int.reduceGT, Int.reduceGE, Int.reduceAdd, Int.reduceSub, Int.reduceMul, Int.reduceNeg, Int.reduceEq, Int.reduceNe, true_and, and_true, Int.cast_ofNat_Int, Nat.le_refl, hf, ld3, ld5, ld23, ln23, ia23, ld27, bd27_0_1, ld28, ia28, bd28, ld53, fa53_0, fa53_1, fa53_2, fa53_3, ld59, fa59_0, fa59_1, fa59_2, fa59_3, bd59_0, ow2, ow3, ow4, ow5, ow6, ow8, ow11, ow20, ow23, cv5_3, cutC_0, cutC_1, h1, h2]
      refine Cx.mono (c_part h l[pos] (hi.2 _ (List.getElem_mem hlt))) fun v w hv => ?_
      obtain ⟨rfl, h⟩ := hv
      have hf := h.facts
      simp only [Facts] at hf
      have hpe : isPart l p pos = (partP l[pos] == (p : Int)) := by
        unfold isPart; rw [List.getElem?_eq_getElem hlt]
      try simp (disch := omega) only [cnd_bool, on_some_eq, Dr_eq, xNil_ptr, xNil_func, xNil_yield, xPick_bool, unw_nil, xRes_ptr, xUn_not, xUn_neg, xEx_tuple, xBin_add, xBin_sub, xBin_mul, xBin_eql, xBin_neq, xBin_lss, xBin_leq, xBin_gtr, xBin_geq, xBin_eqls, xBin_neqs, wI64, oCell_some, List.getElem?_toArray, List.getElem?_cons_zero, List.getElem?_cons_succ, Nat.zero_add, Bool.not_true, Bool.not_false, if_true, if_false, ite_true, ite_false, beq_iff_eq, bne_iff_ne, decide_eq_true_eq, ne_eq, Bool.false_eq_true, Bool.true_eq_false, reduceIte, Option.some.injEq, Int.toNat_natCast, beq_self_eq_true, bne_self_eq_false, Value.cells, splice, List.setIfInBounds_toArray, List.set_cons_zero, List.set_cons_succ, List.size_toArray, List.length_cons, List.length_nil, and_self, Nat.reduceLeDiff, Nat.reduceAdd, Nat.reduceMul, Int.reduceToNat, Int.reduceLT, Int.reduceLE, Int.reduceGT, Int.reduceGE, Int.reduceAdd, Int.reduceSub, Int.reduceMul, Int.reduceNeg, Int.reduceEq, Int.reduceNe, true_and, and_true, Int.cast_ofNat_Int, Nat.le_refl, hf, ld3, ld5, ld23, ln23, ia23, ld27, bd27_0_1, ld28, ia28, bd28, ld53, fa53_0, fa53_1, fa53_2, fa53_3, ld59, fa59_0, fa59_1, fa59_2, fa59_3, bd59_0, ow2, ow3, ow4, ow5, ow6, ow8, ow11, ow20, ow23, cv5_3]
      by_cases hq : partP l[pos] = (p : Int)
      · rw [if_pos hq]
        have hip : isPart l p pos = true := by rw [hpe]; simpa using hq
        unfold F52.k8
        try simp (disch := omega) only [cnd_bool, on_some_eq, Dr_eq, xNil_ptr, xNil_func, xNil_yield, xPick_bool, unw_nil, xRes_ptr, xUn_not, xUn_neg, xEx_tuple, xBin_add, xBin_sub, xBin_mul, xBin_eql, xBin_neq, xBin_lss, xBin_leq, xBin_gtr, xBin_geq, xBin_eqls, xBin_neqs, wI64, oCell_some, List.getElem?_toArray, List.getElem?_cons_zero, List.getElem?_cons_succ, Nat.zero_add, Bool.not_true, Bool.not_false, if_true, if_false, ite_true, ite_false, beq_iff_eq, bne_iff_ne, decide_eq_true_eq, ne_eq, Bool.false_eq_true, Bool.true_eq_false, reduceIte, Option.some.injEq, Int.toNat_natCast, beq_self_eq_true, bne_self_eq_false, Value.cells, splice, List.setIfInBounds_toArray, List.set_cons_zero, List.set_cons_succ, List.size_toArray, List.length_cons, List.length_nil, and_self, Nat.reduceLeDiff, Nat.reduceAdd, Nat.reduceMul, Int.reduceToNat, Int.reduceLT, Int.reduceLE, Int.reduceGT, Int.reduceGE, Int.reduceAdd, Int.reduceSub, Int.reduceMul, Int.reduceNeg, Int.reduceEq, Int.reduceNe, true_and, and_true, Int.cast_ofNat_Int, Nat.le_refl, hf, ld3, ld5, ld23, ln23, ia23, ld27, bd27_0_1, ld28, ia28, bd28, ld53, fa53_0, fa53_1, fa53_2, fa53_3, ld59, fa59_0, fa59_1, fa59_2, fa59_3, bd59_0, ow2, ow3, ow4, ow5, ow6, ow8, ow11, ow20, ow23, cv5_3, cutC_1]
        refine soStore1 ty3 0 h (fun w h => ?_) rfl (by simp [cutC]) rfl
        simp only [List.set_cons_zero] at h
        rw [cutC_set1 _ _ (pos + 1) _ _ _ (by omega)] at h
        by_cases hp1 : p = 1
        · rw [if_pos (by omega)]
          refine hk w ?_
          have : advP l p pos = 1 := by unfold advP; rw [if_pos hp1, if_pos hip]
          rw [this]; exact h
        · rw [if_neg (by omega)]
          refine ih (pos + 1) w (by omega) (by omega) h fun w h => hk w ?_
          have e : advP l p pos = advP l p (pos + 1) + 1 := by
            unfold advP
            rw [if_neg hp1, if_neg hp1, partRun_step hip]
          rw [e, show pos + (advP l p (pos + 1) + 1) = pos + 1 + advP l p (pos + 1) by omega]; exact h
      · rw [if_neg hq]
        have hip : isPart l p pos = false := by rw [hpe]; simpa using hq
        refine hk w ?_
        have : advP l p pos = 0 := by unfold advP; rw [partRun_stop hip]; simp [hip]
        rw [this]; exact h
    · rw [if_neg hn]
      have hip : isPart l p pos = false := by
        cases hc : isPart l p pos with
        | false => rfl
        | true => exact absurd (next_above hp hc) hn
      refine hk w ?_
      have : advP l p pos = 0 := by unfold advP; rw [partRun_stop hip]; simp [hip]
      rw [this]; exact h
theorem top_outer (hi : InstsAt w0 iv l) (hl : l.length ≤ 1099511627776) :
    ∀ (k p pos : Nat) (sp : List Value) (w : World), k + p = 8 → pos ≤ l.length → sp.length = 20 → So w0 w ((b, cl (cutC iv pos sp fv) 59) :: L) →
      F52.l1 (fun v w => v = .bool (topP l k p pos sp).1 ∧ So w0 w ((b, cl (cutC iv (topP l k p pos sp).2.1 (topP l k p pos sp).2.2 fv) 59) :: L)) (k + 1) (.pointer (some ⟨b, 0, none⟩)) (.int .u8 (p : Int)) w := by
  intro k
  induction k with
  | zero =>
    intro p pos sp w hk hp hs h
    unfold F52.l1 F52.l1.b
    try simp (disch := omega) only [cnd_bool, on_some_eq, Dr_eq, xNil_ptr, xNil_func, xNil_yield, xPick_bool, unw_nil, xRes_ptr, xUn_not, xUn_neg, xEx_tuple, xBin_add, xBin_sub, xBin_mul, xBin_eql, xBin_neq, xBin_lss, xBin_leq, xBin_gtr, xBin_geq, xBin_eqls, xBin_neqs, wI64, oCell_some, List.getElem?_toArray, List.getElem?_cons_zero, List.getElem?_cons_succ, Nat.zero_add, Bool.not_true, Bool.not_false, if_true, if_false, ite_true, ite_false, beq_iff_eq, bne_iff_ne, decide_eq_true_eq, ne_eq, Bool.false_eq_true, Bool.true_eq_false, reduceIte, Option.some.injEq, Int.toNat_natCast, beq_self_eq_true, bne_self_eq_false, Value.cells, splice, List.setIfInBounds_toArray, List.set_cons_zero, List.set_cons_succ, List.size_toArray, List.length_cons, List.length_nil, and_self, Nat.reduceLeDiff, Nat.reduceAdd, Nat.reduceMul, Int.reduceToNat, Int.reduceLT, Int.reduceLE, Int.reduceGT, Int.reduceGE, Int.reduceAdd, Int.reduceSub, Int.reduceMul, Int.reduceNeg, Int.reduceEq, Int.reduceNe, true_and, and_true, Int.cast_ofNat_Int, Nat.le_refl, ld3, ld5, ld23, ln23, ia23, ld27, bd27_0_1, ld28, ia28, bd28, ld53, fa53_0, fa53_1, fa53_2, fa53_3, ld59, fa59_0, fa59_1, fa59_2, fa59_3, bd59_0, ow2, ow3, ow4, ow5, ow6, ow8, ow11, ow20, ow23, cv5_3]
    rw [if_neg (by omega)]
    exact ⟨rfl, h⟩
  | succ k ih =>
    intro p pos sp w hk hp hs h
    unfold F52.l1 F52.l1.b
    try simp (disch := omega) only [cnd_bool, on_some_eq, Dr_eq, xNil_ptr, xNil_func, xNil_yield, xPick_bool, unw_nil, xRes_ptr, xUn_not, xUn_neg, xEx_tuple, xBin_add, xBin_sub, xBin_mul, xBin_eql, xBin_neq, xBin_lss, xBin_leq, xBin_gtr, xBin_geq, xBin_eqls, xBin_neqs, wI64, oCell_some, List.getElem?_toArray, List.getElem?_cons_zero, List.getElem?_cons_succ, Nat.zero_add, Bool.not_true, Bool.not_false, if_true, if_false, ite_true, ite_false, beq_iff_eq, bne_iff_ne, decide_eq_true_eq, ne_eq, Bool.false_eq_true, Bool.true_eq_false, reduceIte, Option.some.injEq, Int.toNat_natCast, beq_self_eq_true, bne_self_eq_false, Value.cells, splice, List.setIfInBounds_toArray, List.set_cons_zero, List.set_cons_succ, List.size_toArray, List.length_cons, List.length_nil, and_self, Nat.reduceLeDiff, Nat.reduceAdd, Nat.reduceMul, Int.reduceToNat, Int.reduceLT, Int.reduceLE, Int.reduceGT, Int.reduceGE, Int.reduceAdd, Int.reduceSub, Int.reduceMul, Int.reduceNeg, Int.reduceEq, Int.reduceNe, true_and, and_true, Int.cast_ofNat_Int, Nat.le_refl, ld3, ld5, ld23, ln23, ia23, ld27, bd27_0_1, ld28, ia28, bd28, ld53, fa53_0, fa53_1, fa53_2, fa53_3, ld59, fa59_0, fa59_1, fa59_2, fa59_3, bd59_0, ow2, ow3, ow4, ow5, ow6, ow8, ow11, ow20, ow23, cv5_3]
    rw [if_pos (by omega)]
    unfold F52.k4
    have hf := h.facts
    simp only [Facts] at hf
    try simp (disch := omega) only [cnd_bool, on_some_eq, Dr_eq, xNil_ptr, xNil_func, xNil_yield, xPick_bool, unw_nil, xRes_ptr, xUn_not, xUn_neg, xEx_tuple, xBin_add, xBin_sub, xBin_mul, xBin_eql, xBin_neq, xBin_lss, xBin_leq, xBin_gtr, xBin_geq, xBin_eqls, xBin_neqs, wI64, oCell_some, List.getElem?_toArray, List.getElem?_cons_zero, List.getElem?_cons_succ, Nat.zero_add, Bool.not_true, Bool.not_false, if_true, if_false, ite_true, ite_false, beq_iff_eq, bne_iff_ne, decide_eq_true_eq, ne_eq, Bool.false_eq_true, Bool.true_eq_false, reduceIte, Option.some.injEq, Int.toNat_natCast, beq_self_eq_true, bne_self_eq_false, Value.cells, splice, List.setIfInBounds_toArray, List.set_cons_zero, List.set_cons_succ, List.size_toArray, List.length_cons, List.length_nil, and_self, Nat.reduceLeDiff, Nat.reduceAdd, Nat.reduceMul, Int.reduceToNat, Int.reduceLT, Int.reduceLE, Int.reduceGT, Int.reduceGE, Int.reduceAdd, Int.reduceSub, Int.reduceMul, Int.reduceNeg, Int.reduceEq, Int.reduceNe, true_and, and_true, Int.cast_ofNat_Int, Nat.le_refl, hf, ld3, ld5, ld23, ln23, ia23, ld27, bd27_0_1, ld28, ia28, bd28, ld53, fa53_0, fa53_1, fa53_2, fa53_3, ld59, fa59_0, fa59_1, fa59_2, fa59_3, bd59_0, ow2, ow3, ow4, ow5, ow6, ow8, ow11, ow20, ow23, cv5_3, cutC_1]
    unfold F52.k6
    refine ⟨l.length - pos + 1, top_inner hi hl (by omega) _ pos w (by omega) hp h fun w h => ?_⟩
    have hle := advP_le (l := l) (p := p) hp
    generalize hadv : advP l p pos = a at h hle
    have h := h.drew
    have hf := h.facts
    simp only [Facts] at hf
    unfold F52.k7
    rw [Dr_eq]
    try simp (disch := omega) only [cnd_bool, on_some_eq, Dr_eq, xNil_ptr, xNil_func, xNil_yield, xPick_bool, unw_nil, xRes_ptr, xUn_not, xUn_neg, xEx_tuple, xBin_add, xBin_sub, xBin_mul, xBin_eql, xBin_neq, xBin_lss, xBin_leq, xBin_gtr, xBin_geq, xBin_eqls, xBin_neqs, wI64, oCell_some, List.getElem?_toArray, List.getElem?_cons_zero, List.getElem?_cons_succ, Nat.zero_add, Bool.not_true, Bool.not_false, if_true, if_false, ite_true, ite_false, beq_iff_eq, bne_iff_ne, decide_eq_true_eq, ne_eq, Bool.false_eq_true, Bool.true_eq_false, reduceIte, Option.some.injEq, Int.toNat_natCast, beq_self_eq_true, bne_self_eq_false, Value.cells, splice, List.setIfInBounds_toArray, List.set_cons_zero, List.set_cons_succ, List.size_toArray, List.length_cons, List.length_nil, and_self, Nat.reduceLeDiff, Nat.reduceAdd, Nat.reduceMul, Int.reduceToNat, Int.reduceLT, Int.reduceLE, Int.reduceGT, Int.reduceGE, Int.reduceAdd, Int.reduceSub, Int.reduceMul, Int.reduceNeg, Int.reduceEq, Int.reduceNe, true_and, and_true, Int.cast_ofNat_Int, Nat.le_refl, hf, ld3, ld5, ld23, ln23, ia23, ld27, bd27_0_1, ld28, ia28, bd28, ld53, fa53_0, fa53_1, fa53_2, fa53_3, ld59, fa59_0, fa59_1, fa59_2, fa59_3, bd59_0, ow2, ow3, ow4, ow5, ow6, ow8, ow11, ow20, ow23, cv5_3, cutC_1]
    refine soStoreN ty27 0 h (fun w h => ?_) rfl rfl (by rw [cutC_size _ _ hs]; omega) rfl
    simp only [List.set_cons_zero] at h
    rw [cutC_sp iv _ hs fv p pos (pos + a) (by omega) _ (by omega) _ _ rfl (by omega)] at h
    have hf := h.facts
    simp only [Facts] at hf
    have go : ¬ (p = 1 ∧ a = 0) → F52.k5 (fun v w => v = .bool (topP l (k + 1) p pos sp).1 ∧ So w0 w ((b, cl (cutC iv (topP l (k + 1) p pos sp).2.1 (topP l (k + 1) p pos sp).2.2 fv) 59) :: L)) (F52.l1 (fun v w => v = .bool (topP l (k + 1) p pos sp).1 ∧ So w0 w ((b, cl (cutC iv (topP l (k + 1) p pos sp).2.1 (topP l (k + 1) p pos sp).2.2 fv) 59) :: L)) (k + 1)) (.pointer (some ⟨b, 0, none⟩)) (.int .u8 (p : Int)) w := by
      intro hc
      have e : topP l (k + 1) p pos sp = topP l k (p + 1) (pos + a) (setSp sp p pos (pos + a)) := by
        rw [topP, hadv, if_neg hc]
      rw [e]
      unfold F52.k5
      try simp (disch := omega) only [cnd_bool, on_some_eq, Dr_eq, xNil_ptr, xNil_func, xNil_yield, xPick_bool, unw_nil, xRes_ptr, xUn_not, xUn_neg, xEx_tuple, xBin_add, xBin_sub, xBin_mul, xBin_eql, xBin_neq, xBin_lss, xBin_leq, xBin_gtr, xBin_geq, xBin_eqls, xBin_neqs, wI64, oCell_some, List.getElem?_toArray, List.getElem?_cons_zero, List.getElem?_cons_succ, Nat.zero_add, Bool.not_true, Bool.not_false, if_true, if_false, ite_true, ite_false, beq_iff_eq, bne_iff_ne, decide_eq_true_eq, ne_eq, Bool.false_eq_true, Bool.true_eq_false, reduceIte, Option.some.injEq, Int.toNat_natCast, beq_self_eq_true, bne_self_eq_false, Value.cells, splice, List.setIfInBounds_toArray, List.set_cons_zero, List.set_cons_succ, List.size_toArray, List.length_cons, List.length_nil, and_self, Nat.reduceLeDiff, Nat.reduceAdd, Nat.reduceMul, Int.reduceToNat, Int.reduceLT, Int.reduceLE, Int.reduceGT, Int.reduceGE, Int.reduceAdd, Int.reduceSub, Int.reduceMul, Int.reduceNeg, Int.reduceEq, Int.reduceNe, true_and, and_true, Int.cast_ofNat_Int, Nat.le_refl, ld3, ld5, ld23, ln23, ia23, ld27, bd27_0_1, ld28, ia28, bd28, ld53, fa53_0, fa53_1, fa53_2, fa53_3, ld59, fa59_0, fa59_1, fa59_2, fa59_3, bd59_0, ow2, ow3, ow4, ow5, ow6, ow8, ow11, ow20, ow23, cv5_3, wU8]
      have := ih (p + 1) (pos + a) (setSp sp p pos (pos + a)) w (by omega) hle (by rw [setSp_length]; exact hs) h
      rw [show ((p + 1 : Nat) : Int) = (p : Int) + 1 by omega] at this
      exact this
    try simp (disch := omega) only [cnd_bool, on_some_eq, Dr_eq, xNil_ptr, xNil_func, xNil_yield, xPick_bool, unw_nil, xRes_ptr, xUn_not, xUn_neg, xEx_tuple, xBin_add, xBin_sub, xBin_mul, xBin_eql, xBin_neq, xBin_lss, xBin_leq, xBin_gtr, xBin_geq, xBin_eqls, xBin_neqs, wI64, oCell_some, List.getElem?_toArray, List.getElem?_cons_zero, List.getElem?_cons_succ, Nat.zero_add, Bool.not_true, Bool.not_false, if_true, if_false, ite_true, ite_false, beq_iff_eq, bne_iff_ne, decide_eq_true_eq, ne_eq, Bool.false_eq_true, Bool.true_eq_false, reduceIte, Option.some.injEq, Int.toNat_natCast, beq_self_eq_true, bne_self_eq_false, Value.cells, splice, List.setIfInBounds_toArray, List.set_cons_zero, List.set_cons_succ, List.size_toArray, List.length_cons, List.length_nil, and_self, Nat.reduceLeDiff, Nat.reduceAdd, Nat.reduceMul, Int.reduceToNat, Int.reduceLT, Int.reduceLE, Int.reduceGT, Int.reduceGE, Int.reduceAdd, Int.reduceSub, Int.reduceMul, Int.reduceNeg, Int.reduceEq, Int.reduceNe, true_and, and_true, Int.cast_ofNat_Int, Nat.le_refl, hf, ld3, ld5, ld23, ln23, ia23, ld27, bd27_0_1, ld28, ia28, bd28, ld53, fa53_0, fa53_1, fa53_2, fa53_3, ld59, fa59_0, fa59_1, fa59_2, fa59_3, bd59_0, ow2, ow3, ow4, ow5, ow6, ow8, ow11, ow20, ow23, cv5_3, cutC_1]
    by_cases hp1 : p = 1
    · rw [if_pos (by omega)]
      by_cases ha : a = 0
      · rw [if_pos (by omega)]
        subst ha
        have e : topP l (k + 1) p pos sp = (false, pos, setSp sp p pos pos) := by
          rw [topP, hadv, if_pos ⟨hp1, rfl⟩]
        rw [e]
        exact ⟨rfl, h⟩
      · rw [if_neg (by omega)]
        exact go (fun hc => ha hc.2)
    · rw [if_neg (by omega)]
      exact go (fun hc => hp1 hc.1)
theorem c_top (hi : InstsAt w0 iv l) (hl : l.length ≤ 1099511627776) {sp : List Value} (hs : sp.length = 20) {w : World} (h : So w0 w ((b, cl (cutC iv 0 sp fv) 59) :: L)) :
    Cx P 52 #[.pointer (some ⟨b, 0, none⟩)] w fun v w => v = .bool (topP l 8 0 0 sp).1 ∧ So w0 w ((b, cl (cutC iv (topP l 8 0 0 sp).2.1 (topP l 8 0 0 sp).2.2 fv) 59) :: L) := by
  apply F52_ok
  unfold F52 F52.k1 F52.k3
  exact ⟨_, top_outer hi hl 8 0 0 sp w rfl (by omega) hs h⟩
end
end Go.Proofs.Ytlmcppbpobnfjaa

