/-
  ref05: Parts.
-/
import Derived.Test.YtlmcppbpobnfjaaSd
namespace Go.Proofs.Ytlmcppbpobnfjaa
open Go Go.Vc
set_option linter.unusedSimpArgs false
set_option linter.unusedVariables false
set_option maxRecDepth 20000

def spI (l : List Inst) (k i : Nat) : Value := if i < 2 * k then .int .i64 (cntL l (((i + 1) / 2 : Nat) : Int) l.length : Int) else .int .i64 0
/-- The first k places, zeros behind. -/
def spK (l : List Inst) (k : Nat) : List Value := (List.range 20).map (spI l k)
theorem spK_length (l : List Inst) (k : Nat) : (spK l k).length = 20 := by simp [spK]
theorem spK_0 (l : List Inst) : spK l 0 = zeroSp := rfl
theorem spK_10 (l : List Inst) : spK l 10 = spansL l := by
  unfold spK spansL
  apply List.map_congr_left
  intro i hi
  rw [List.mem_range] at hi
  unfold spI
  rw [if_pos (by omega)]
theorem spK_one (l : List Inst) (k : Nat) : (spK l k).all one1 = true := by
  rw [List.all_eq_true]
  intro x hx
  unfold spK at hx
  obtain ⟨i, _, rfl⟩ := List.mem_map.1 hx
  unfold spI
  split <;> rfl
theorem spK_step (l : List Inst) {k : Nat} (hk : k < 10) {a b : Int} (ha : a = (cntL l k l.length : Int)) (hb : b = (cntL l ((k + 1 : Nat) : Int) l.length : Int)) {o : Nat} (ho : o = 2 * k) : splice (spK l k).toArray o [.int .i64 a, .int .i64 b] = (spK l (k + 1)).toArray := by
  subst ho ha hb
  simp only [splice, List.setIfInBounds_toArray]
  congr 1
  apply List.ext_getElem?
  intro i
  by_cases hi : i < 20
  · have e1 : ∀ q, (spK l q)[i]? = some (spI l q i) := by
      intro q; unfold spK; rw [List.getElem?_map, List.getElem?_range hi]; rfl
    rw [e1]
    by_cases h1 : i = 2 * k + 1
    · rw [h1, List.getElem?_set_self (by simp [spK_length]; omega)]
      unfold spI
      rw [if_pos (by omega), show (2 * k + 1 + 1) / 2 = k + 1 by omega]
    · rw [List.getElem?_set_ne (by omega)]
      by_cases h2 : i = 2 * k
      · rw [h2, List.getElem?_set_self (by simp [spK_length]; omega)]
        unfold spI
        rw [if_pos (by omega), show (2 * k + 1) / 2 = k by omega]
      · rw [List.getElem?_set_ne (by omega), e1]
        unfold spI
        by_cases h3 : i < 2 * k
        · rw [if_pos h3, if_pos (by omega)]
        · rw [if_neg h3, if_neg (by omega)]
  · rw [List.getElem?_eq_none (by simp [spK_length]; omega), List.getElem?_eq_none (by simp [spK_length]; omega)]

theorem cnt_le (l : List Inst) (p : Int) : ∀ n, cntL l p n ≤ n
  | 0 => Nat.le_refl _
  | n + 1 => by
    have := cnt_le l p n
    simp only [cntL]
    split <;> omega
theorem own_le (l : List Inst) (p : Int) : ∀ n, ownL l p n ≤ n
  | 0 => Nat.le_refl _
  | n + 1 => by
    have := own_le l p n
    simp only [ownL]
    split <;> omega
section
variable {w0 : World} {L : List (Nat × Obj)}
theorem parts_inner {x1 x4 : Nat} {c4 : Array Value} {v2 v3 v5 : Value} {m : Modl} (hi : InstsAt w0 m.iv m.insts) (hl : m.insts.length ≤ 1048576) {k : Nat} (hk : k < 10) {Q : Value → World → Prop} {R : Value → Value → Value → Value → Value → Value → World → Prop}
    (hR : ∀ w, So w0 w ((x4, cl c4 28) :: (x1, cl m.c 25) :: L) → F5.k7 Q R (.pointer (some ⟨x1, 0, none⟩)) v2 v3 (.pointer (some ⟨x4, 0, none⟩)) v5 (.int .i64 (k : Int)) (.int .i64 (cntL m.insts k m.insts.length : Int)) (.int .i64 (ownL m.insts k m.insts.length : Int)) w) :
    ∀ (q i : Nat) (w : World), i + q = m.insts.length → So w0 w ((x4, cl c4 28) :: (x1, cl m.c 25) :: L) →
      F5.l2 Q R (q + 1) (.pointer (some ⟨x1, 0, none⟩)) v2 v3 (.pointer (some ⟨x4, 0, none⟩)) v5 (.int .i64 (k : Int)) (.int .i64 (cntL m.insts k i : Int)) (.int .i64 (ownL m.insts k i : Int)) (.int .i64 (i : Int)) w := by
  intro q
  induction q with
  | zero =>
    intro i w hq h
    have hie : i = m.insts.length := by omega
    subst hie
    have hf := h.facts
    simp only [Facts, Modl.c] at hf
    unfold F5.l2 F5.l2.b
    try simp (disch := omega) only [cnd_bool, on_some_eq, Dr_eq, xNil_ptr, xNil_func, xNil_yield, xPick_bool, unw_nil, xRes_ptr, xUn_not, xUn_neg, xEx_tuple, xBin_add, xBin_sub, xBin_mul, xBin_eql, xBin_neq, xBin_lss, xBin_leq, xBin_gtr, xBin_geq, xBin_eqls, xBin_neqs, wI64, oCell_some, List.getElem?_toArray, List.getElem?_cons_zero, List.getElem?_cons_succ, Nat.zero_add, Bool.not_true, Bool.not_false, if_true, if_false, ite_true, ite_false, beq_iff_eq, bne_iff_ne, decide_eq_true_eq, ne_eq, Bool.false_eq_true, Bool.true_eq_false, reduceIte, Option.some.injEq, Int.toNat_natCast, beq_self_eq_true, bne_self_eq_false, Value.cells, splice, List.setIfInBounds_toArray, List.set_cons_zero, List.set_cons_succ, List.size_toArray, List.length_cons, List.length_nil, and_self, Nat.reduceLeDiff, Nat.reduceAdd, Nat.reduceMul, Int.reduceToNat, Int.reduceLT, Int.reduceLE, Int.reduceGT, Int.reduceGE, Int.reduceAdd, Int.reduceSub, Int.reduceMul, Int.reduceNeg, Int.reduceEq, Int.reduceNe, true_and, and_true, Int.cast_ofNat_Int, Nat.le_refl, hf, ld3, ld5, ld23, ln23, ia23, ld25, fa25_1, fa25_2, ld27, bd27_0_1, ld28, ia28, bd28, ld29, ld31, fa31_0, bd31, bd31_0, bd31_0_1, ld53, fa53_0, fa53_1, fa53_2, fa53_3, ow2, ow3, ow4, ow5, ow6, ow8, ow11, ow20, ow23, cv5_3, Sl.len sl23 hi.1, List.length_map]
    rw [if_neg (by omega)]
    exact hR w h
  | succ q ih =>
    intro i w hq h
    have hlt : i < m.insts.length := by omega
    obtain ⟨g, o, x, k1, k2, k3, hp, ha, hm, _⟩ := inst_at hi hlt (i : Int) rfl
    have hcl := cnt_le m.insts k i
    have hol := own_le m.insts k i
    have hf := h.facts
    simp only [Facts, Modl.c] at hf
    unfold F5.l2 F5.l2.b
    try simp (disch := omega) only [cnd_bool, on_some_eq, Dr_eq, xNil_ptr, xNil_func, xNil_yield, xPick_bool, unw_nil, xRes_ptr, xUn_not, xUn_neg, xEx_tuple, xBin_add, xBin_sub, xBin_mul, xBin_eql, xBin_neq, xBin_lss, xBin_leq, xBin_gtr, xBin_geq, xBin_eqls, xBin_neqs, wI64, oCell_some, List.getElem?_toArray, List.getElem?_cons_zero, List.getElem?_cons_succ, Nat.zero_add, Bool.not_true, Bool.not_false, if_true, if_false, ite_true, ite_false, beq_iff_eq, bne_iff_ne, decide_eq_true_eq, ne_eq, Bool.false_eq_true, Bool.true_eq_false, reduceIte, Option.some.injEq, Int.toNat_natCast, beq_self_eq_true, bne_self_eq_false, Value.cells, splice, List.setIfInBounds_toArray, List.set_cons_zero, List.set_cons_succ, List.size_toArray, List.length_cons, List.length_nil, and_self, Nat.reduceLeDiff, Nat.reduceAdd, Nat.reduceMul, Int.reduceToNat, Int.reduceLT, Int.reduceLE, Int.reduceGT, Int.reduceGE, Int.reduceAdd, Int.reduceSub, Int.reduceMul, Int.reduceNeg, Int.reduceEq, Int.reduceNe, true_and, and_true, Int.cast_ofNat_Int, Nat.le_refl, hf, ld3, ld5, ld23, ln23, ia23, ld25, fa25_1, fa25_2, ld27, bd27_0_1, ld28, ia28, bd28, ld29, ld31, fa31_0, bd31, bd31_0, bd31_0_1, ld53, fa53_0, fa53_1, fa53_2, fa53_3, ow2, ow3, ow4, ow5, ow6, ow8, ow11, ow20, ow23, cv5_3, Sl.len sl23 hi.1, List.length_map]
    rw [if_pos (by omega)]
    unfold F5.k9
    try simp (disch := omega) only [cnd_bool, on_some_eq, Dr_eq, xNil_ptr, xNil_func, xNil_yield, xPick_bool, unw_nil, xRes_ptr, xUn_not, xUn_neg, xEx_tuple, xBin_add, xBin_sub, xBin_mul, xBin_eql, xBin_neq, xBin_lss, xBin_leq, xBin_gtr, xBin_geq, xBin_eqls, xBin_neqs, wI64, oCell_some, List.getElem?_toArray, List.getElem?_cons_zero, List.getElem?_cons_succ, Nat.zero_add, Bool.not_true, Bool.not_false, if_true, if_false, ite_true, ite_false, beq_iff_eq, bne_iff_ne, decide_eq_true_eq, ne_eq, Bool.false_eq_true, Bool.true_eq_false, reduceIte, Option.some.injEq, Int.toNat_natCast, beq_self_eq_true, bne_self_eq_false, Value.cells, splice, List.setIfInBounds_toArray, List.set_cons_zero, List.set_cons_succ, List.size_toArray, List.length_cons, List.length_nil, and_self, Nat.reduceLeDiff, Nat.reduceAdd, Nat.reduceMul, Int.reduceToNat, Int.reduceLT, Int.reduceLE, Int.reduceGT, Int.reduceGE, Int.reduceAdd, Int.reduceSub, Int.reduceMul, Int.reduceNeg, Int.reduceEq, Int.reduceNe, true_and, and_true, Int.cast_ofNat_Int, Nat.le_refl, hf, ld3, ld5, ld23, ln23, ia23, ld25, fa25_1, fa25_2, ld27, bd27_0_1, ld28, ia28, bd28, ld29, ld31, fa31_0, bd31, bd31_0, bd31_0_1, ld53, fa53_0, fa53_1, fa53_2, fa53_3, ow2, ow3, ow4, ow5, ow6, ow8, ow11, ow20, ow23, cv5_3, k1, k2 _ _ h]
    refine Cx.mono (c_refPart h x ha) fun v w hv => ?_
    obtain ⟨rfl, h⟩ := hv
    rw [hp]
    have k10 : ∀ (c' o' : Nat) (w : World), cntL m.insts k (i + 1) = c' → ownL m.insts k (i + 1) = o' → So w0 w ((x4, cl c4 28) :: (x1, cl m.c 25) :: L) →
        F5.k10 Q R (F5.l2 Q R (q + 1)) (.pointer (some ⟨x1, 0, none⟩)) v2 v3 (.pointer (some ⟨x4, 0, none⟩)) v5 (.int .i64 (k : Int)) (.int .i64 (c' : Int)) (.int .i64 (o' : Int)) (.int .i64 (i : Int)) w := by
      rintro c' o' w rfl rfl h
      unfold F5.k10
      try simp (disch := omega) only [cnd_bool, on_some_eq, Dr_eq, xNil_ptr, xNil_func, xNil_yield, xPick_bool, unw_nil, xRes_ptr, xUn_not, xUn_neg, xEx_tuple, xBin_add, xBin_sub, xBin_mul, xBin_eql, xBin_neq, xBin_lss, xBin_leq, xBin_gtr, xBin_geq, xBin_eqls, xBin_neqs, wI64, oCell_some, List.getElem?_toArray, List.getElem?_cons_zero, List.getElem?_cons_succ, Nat.zero_add, Bool.not_true, Bool.not_false, if_true, if_false, ite_true, ite_false, beq_iff_eq, bne_iff_ne, decide_eq_true_eq, ne_eq, Bool.false_eq_true, Bool.true_eq_false, reduceIte, Option.some.injEq, Int.toNat_natCast, beq_self_eq_true, bne_self_eq_false, Value.cells, splice, List.setIfInBounds_toArray, List.set_cons_zero, List.set_cons_succ, List.size_toArray, List.length_cons, List.length_nil, and_self, Nat.reduceLeDiff, Nat.reduceAdd, Nat.reduceMul, Int.reduceToNat, Int.reduceLT, Int.reduceLE, Int.reduceGT, Int.reduceGE, Int.reduceAdd, Int.reduceSub, Int.reduceMul, Int.reduceNeg, Int.reduceEq, Int.reduceNe, true_and, and_true, Int.cast_ofNat_Int, Nat.le_refl, ld3, ld5, ld23, ln23, ia23, ld25, fa25_1, fa25_2, ld27, bd27_0_1, ld28, ia28, bd28, ld29, ld31, fa31_0, bd31, bd31_0, bd31_0_1, ld53, fa53_0, fa53_1, fa53_2, fa53_3, ow2, ow3, ow4, ow5, ow6, ow8, ow11, ow20, ow23, cv5_3]
      have := ih (i + 1) w (by omega) h
      rw [show ((i + 1 : Nat) : Int) = (i : Int) + 1 by omega] at this
      exact this
    have k11 : ∀ (c' : Nat) (w : World), cntL m.insts k (i + 1) = c' → So w0 w ((x4, cl c4 28) :: (x1, cl m.c 25) :: L) →
        F5.k11 Q R (F5.l2 Q R (q + 1)) (.pointer (some ⟨x1, 0, none⟩)) v2 v3 (.pointer (some ⟨x4, 0, none⟩)) v5 (.int .i64 (k : Int)) (.int .i64 (c' : Int)) (.int .i64 (ownL m.insts k i : Int)) (.int .i64 (i : Int)) w := by
      intro c' w hc h
      have hf := h.facts
      simp only [Facts, Modl.c] at hf
      unfold F5.k11
      try simp (disch := omega) only [cnd_bool, on_some_eq, Dr_eq, xNil_ptr, xNil_func, xNil_yield, xPick_bool, unw_nil, xRes_ptr, xUn_not, xUn_neg, xEx_tuple, xBin_add, xBin_sub, xBin_mul, xBin_eql, xBin_neq, xBin_lss, xBin_leq, xBin_gtr, xBin_geq, xBin_eqls, xBin_neqs, wI64, oCell_some, List.getElem?_toArray, List.getElem?_cons_zero, List.getElem?_cons_succ, Nat.zero_add, Bool.not_true, Bool.not_false, if_true, if_false, ite_true, ite_false, beq_iff_eq, bne_iff_ne, decide_eq_true_eq, ne_eq, Bool.false_eq_true, Bool.true_eq_false, reduceIte, Option.some.injEq, Int.toNat_natCast, beq_self_eq_true, bne_self_eq_false, Value.cells, splice, List.setIfInBounds_toArray, List.set_cons_zero, List.set_cons_succ, List.size_toArray, List.length_cons, List.length_nil, and_self, Nat.reduceLeDiff, Nat.reduceAdd, Nat.reduceMul, Int.reduceToNat, Int.reduceLT, Int.reduceLE, Int.reduceGT, Int.reduceGE, Int.reduceAdd, Int.reduceSub, Int.reduceMul, Int.reduceNeg, Int.reduceEq, Int.reduceNe, true_and, and_true, Int.cast_ofNat_Int, Nat.le_refl, hf, ld3, ld5, ld23, ln23, ia23, ld25, fa25_1, fa25_2, ld27, bd27_0_1, ld28, ia28, bd28, ld29, ld31, fa31_0, bd31, bd31_0, bd31_0_1, ld53, fa53_0, fa53_1, fa53_2, fa53_3, ow2, ow3, ow4, ow5, ow6, ow8, ow11, ow20, ow23, cv5_3, k1, k2 _ _ h]
      refine Cx.mono (c_refPart h x ha) fun v w hv => ?_
      obtain ⟨rfl, h⟩ := hv
      rw [hp]
      try simp (disch := omega) only [cnd_bool, on_some_eq, Dr_eq, xNil_ptr, xNil_func, xNil_yield, xPick_bool, unw_nil, xRes_ptr, xUn_not, xUn_neg, xEx_tuple, xBin_add, xBin_sub, xBin_mul, xBin_eql, xBin_neq, xBin_lss, xBin_leq, xBin_gtr, xBin_geq, xBin_eqls, xBin_neqs, wI64, oCell_some, List.getElem?_toArray, List.getElem?_cons_zero, List.getElem?_cons_succ, Nat.zero_add, Bool.not_true, Bool.not_false, if_true, if_false, ite_true, ite_false, beq_iff_eq, bne_iff_ne, decide_eq_true_eq, ne_eq, Bool.false_eq_true, Bool.true_eq_false, reduceIte, Option.some.injEq, Int.toNat_natCast, beq_self_eq_true, bne_self_eq_false, Value.cells, splice, List.setIfInBounds_toArray, List.set_cons_zero, List.set_cons_succ, List.size_toArray, List.length_cons, List.length_nil, and_self, Nat.reduceLeDiff, Nat.reduceAdd, Nat.reduceMul, Int.reduceToNat, Int.reduceLT, Int.reduceLE, Int.reduceGT, Int.reduceGE, Int.reduceAdd, Int.reduceSub, Int.reduceMul, Int.reduceNeg, Int.reduceEq, Int.reduceNe, true_and, and_true, Int.cast_ofNat_Int, Nat.le_refl, ld3, ld5, ld23, ln23, ia23, ld25, fa25_1, fa25_2, ld27, bd27_0_1, ld28, ia28, bd28, ld29, ld31, fa31_0, bd31, bd31_0, bd31_0_1, ld53, fa53_0, fa53_1, fa53_2, fa53_3, ow2, ow3, ow4, ow5, ow6, ow8, ow11, ow20, ow23, cv5_3]
      by_cases he : pAt m.insts i = (k : Int)
      · rw [if_pos he]
        have := k10 c' (ownL m.insts k i + 1) w hc (by simp only [ownL]; rw [if_pos he]) h
        rw [show ((ownL m.insts k i + 1 : Nat) : Int) = (ownL m.insts k i : Int) + 1 by omega] at this
        exact this
      · rw [if_neg he]
        exact k10 c' (ownL m.insts k i) w hc (by simp only [ownL]; rw [if_neg he]; rfl) h
    try simp (disch := omega) only [cnd_bool, on_some_eq, Dr_eq, xNil_ptr, xNil_func, xNil_yield, xPick_bool, unw_nil, xRes_ptr, xUn_not, xUn_neg, xEx_tuple, xBin_add, xBin_sub, xBin_mul, xBin_eql, xBin_neq, xBin_lss, xBin_leq, xBin_gtr, xBin_geq, xBin_eqls, xBin_neqs, wI64, oCell_some, List.getElem?_toArray, List.getElem?_cons_zero, List.getElem?_cons_succ, Nat.zero_add, Bool.not_true, Bool.not_false, if_true, if_false, ite_true, ite_false, beq_iff_eq, bne_iff_ne, decide_eq_true_eq, ne_eq, Bool.false_eq_true, Bool.true_eq_false, reduceIte, Option.some.injEq, Int.toNat_natCast, beq_self_eq_true, bne_self_eq_false, Value.cells, splice, List.setIfInBounds_toArray, List.set_cons_zero, List.set_cons_succ, List.size_toArray, List.length_cons, List.length_nil, and_self, Nat.reduceLeDiff, Nat.reduceAdd, Nat.reduceMul, Int.reduceToNat, Int.reduceLT, Int.reduceLE, Int.reduceGT, Int.reduceGE, Int.reduceAdd, Int.reduceSub, Int.reduceMul, Int.reduceNeg, Int.reduceEq, Int.reduceNe, true_and, and_true, Int.cast_ofNat_Int, Nat.le_refl, ld3, ld5, ld23, ln23, ia23, ld25, fa25_1, fa25_2, ld27, bd27_0_1, ld28, ia28, bd28, ld29, ld31, fa31_0, bd31, bd31_0, bd31_0_1, ld53, fa53_0, fa53_1, fa53_2, fa53_3, ow2, ow3, ow4, ow5, ow6, ow8, ow11, ow20, ow23, cv5_3]
    by_cases he : pAt m.insts i < (k : Int)
    · rw [if_pos he]
      have := k11 (cntL m.insts k i + 1) w (by simp only [cntL]; rw [if_pos he]) h
      rw [show ((cntL m.insts k i + 1 : Nat) : Int) = (cntL m.insts k i : Int) + 1 by omega] at this
      exact this
    · rw [if_neg he]
      exact k11 (cntL m.insts k i) w (by simp only [cntL]; rw [if_neg he]; rfl) h
theorem parts_outer {x1 x4 : Nat} {v2 v3 v5 : Value} {m : Modl} (hi : InstsAt w0 m.iv m.insts) (hl : m.insts.length ≤ 1048576) {Q : Value → World → Prop}
    (hQ : ∀ w, So w0 w ((x4, cl (spansL m.insts).toArray 28) :: (x1, cl m.c 25) :: L) → F5.k2 Q v2 v3 (.pointer (some ⟨x4, 0, none⟩)) v5 w) :
    ∀ (q k : Nat) (w : World), k + q = 10 → So w0 w ((x4, cl (spK m.insts k).toArray 28) :: (x1, cl m.c 25) :: L) →
      F5.l1 Q (q + 1) (.pointer (some ⟨x1, 0, none⟩)) v2 v3 (.pointer (some ⟨x4, 0, none⟩)) v5 (.int .i64 (k : Int)) w := by
  intro q
  induction q with
  | zero =>
    intro k w hq h
    have hk : k = 10 := by omega
    subst hk
    unfold F5.l1 F5.l1.b
    try simp (disch := omega) only [cnd_bool, on_some_eq, Dr_eq, xNil_ptr, xNil_func, xNil_yield, xPick_bool, unw_nil, xRes_ptr, xUn_not, xUn_neg, xEx_tuple, xBin_add, xBin_sub, xBin_mul, xBin_eql, xBin_neq, xBin_lss, xBin_leq, xBin_gtr, xBin_geq, xBin_eqls, xBin_neqs, wI64, oCell_some, List.getElem?_toArray, List.getElem?_cons_zero, List.getElem?_cons_succ, Nat.zero_add, Bool.not_true, Bool.not_false, if_true, if_false, ite_true, ite_false, beq_iff_eq, bne_iff_ne, decide_eq_true_eq, ne_eq, Bool.false_eq_true, Bool.true_eq_false, reduceIte, Option.some.injEq, Int.toNat_natCast, beq_self_eq_true, bne_self_eq_false, Value.cells, splice, List.setIfInBounds_toArray, List.set_cons_zero, List.set_cons_succ, List.size_toArray, List.length_cons, List.length_nil, and_self, Nat.reduceLeDiff, Nat.reduceAdd, Nat.reduceMul, Int.reduceToNat, Int.reduceLT, Int.reduceLE, Int.reduceGT, Int.reduceGE, Int.reduceAdd, Int.reduceSub, Int.reduceMul, Int.reduceNeg, Int.reduceEq, Int.reduceNe, true_and, and_true, Int.cast_ofNat_Int, Nat.le_refl, ld3, ld5, ld23, ln23, ia23, ld25, fa25_1, fa25_2, ld27, bd27_0_1, ld28, ia28, bd28, ld29, ld31, fa31_0, bd31, bd31_0, bd31_0_1, ld53, fa53_0, fa53_1, fa53_2, fa53_3, ow2, ow3, ow4, ow5, ow6, ow8, ow11, ow20, ow23, cv5_3]
    rw [spK_10] at h
    first | exact hQ w h | (rw [if_neg (by omega)]; exact hQ w h)
  | succ q ih =>
    intro k w hq h
    unfold F5.l1 F5.l1.b
    try simp (disch := omega) only [cnd_bool, on_some_eq, Dr_eq, xNil_ptr, xNil_func, xNil_yield, xPick_bool, unw_nil, xRes_ptr, xUn_not, xUn_neg, xEx_tuple, xBin_add, xBin_sub, xBin_mul, xBin_eql, xBin_neq, xBin_lss, xBin_leq, xBin_gtr, xBin_geq, xBin_eqls, xBin_neqs, wI64, oCell_some, List.getElem?_toArray, List.getElem?_cons_zero, List.getElem?_cons_succ, Nat.zero_add, Bool.not_true, Bool.not_false, if_true, if_false, ite_true, ite_false, beq_iff_eq, bne_iff_ne, decide_eq_true_eq, ne_eq, Bool.false_eq_true, Bool.true_eq_false, reduceIte, Option.some.injEq, Int.toNat_natCast, beq_self_eq_true, bne_self_eq_false, Value.cells, splice, List.setIfInBounds_toArray, List.set_cons_zero, List.set_cons_succ, List.size_toArray, List.length_cons, List.length_nil, and_self, Nat.reduceLeDiff, Nat.reduceAdd, Nat.reduceMul, Int.reduceToNat, Int.reduceLT, Int.reduceLE, Int.reduceGT, Int.reduceGE, Int.reduceAdd, Int.reduceSub, Int.reduceMul, Int.reduceNeg, Int.reduceEq, Int.reduceNe, true_and, and_true, Int.cast_ofNat_Int, Nat.le_refl, ld3, ld5, ld23, ln23, ia23, ld25, fa25_1, fa25_2, ld27, bd27_0_1, ld28, ia28, bd28, ld29, ld31, fa31_0, bd31, bd31_0, bd31_0_1, ld53, fa53_0, fa53_1, fa53_2, fa53_3, ow2, ow3, ow4, ow5, ow6, ow8, ow11, ow20, ow23, cv5_3]
    rw [if_pos (by omega)]
    unfold F5.k4 F5.k6 F5.k8
    refine ⟨_, parts_inner hi hl (k := k) (by omega) ?_ m.insts.length 0 w (by omega) h⟩
    intro w h
    have hcl := cnt_le m.insts k m.insts.length
    have hol := own_le m.insts k m.insts.length
    have hco := cnt_own m.insts k m.insts.length
    unfold F5.k7
    try simp (disch := omega) only [cnd_bool, on_some_eq, Dr_eq, xNil_ptr, xNil_func, xNil_yield, xPick_bool, unw_nil, xRes_ptr, xUn_not, xUn_neg, xEx_tuple, xBin_add, xBin_sub, xBin_mul, xBin_eql, xBin_neq, xBin_lss, xBin_leq, xBin_gtr, xBin_geq, xBin_eqls, xBin_neqs, wI64, oCell_some, List.getElem?_toArray, List.getElem?_cons_zero, List.getElem?_cons_succ, Nat.zero_add, Bool.not_true, Bool.not_false, if_true, if_false, ite_true, ite_false, beq_iff_eq, bne_iff_ne, decide_eq_true_eq, ne_eq, Bool.false_eq_true, Bool.true_eq_false, reduceIte, Option.some.injEq, Int.toNat_natCast, beq_self_eq_true, bne_self_eq_false, Value.cells, splice, List.setIfInBounds_toArray, List.set_cons_zero, List.set_cons_succ, List.size_toArray, List.length_cons, List.length_nil, and_self, Nat.reduceLeDiff, Nat.reduceAdd, Nat.reduceMul, Int.reduceToNat, Int.reduceLT, Int.reduceLE, Int.reduceGT, Int.reduceGE, Int.reduceAdd, Int.reduceSub, Int.reduceMul, Int.reduceNeg, Int.reduceEq, Int.reduceNe, true_and, and_true, Int.cast_ofNat_Int, Nat.le_refl, ld3, ld5, ld23, ln23, ia23, ld25, fa25_1, fa25_2, ld27, bd27_0_1, ld28, ia28, bd28, ld29, ld31, fa31_0, bd31, bd31_0, bd31_0_1, ld53, fa53_0, fa53_1, fa53_2, fa53_3, ow2, ow3, ow4, ow5, ow6, ow8, ow11, ow20, ow23, cv5_3]
    refine soStoreN ty27 0 h (fun w h => ?_) rfl rfl (by simp [spK_length]; omega) rfl
    simp only [List.set_cons_zero] at h
    rw [spK_step m.insts (k := k) (by omega) rfl (by rw [← Int.natCast_add, hco]; rfl) (by omega)] at h
    unfold F5.k5
    try simp (disch := omega) only [cnd_bool, on_some_eq, Dr_eq, xNil_ptr, xNil_func, xNil_yield, xPick_bool, unw_nil, xRes_ptr, xUn_not, xUn_neg, xEx_tuple, xBin_add, xBin_sub, xBin_mul, xBin_eql, xBin_neq, xBin_lss, xBin_leq, xBin_gtr, xBin_geq, xBin_eqls, xBin_neqs, wI64, oCell_some, List.getElem?_toArray, List.getElem?_cons_zero, List.getElem?_cons_succ, Nat.zero_add, Bool.not_true, Bool.not_false, if_true, if_false, ite_true, ite_false, beq_iff_eq, bne_iff_ne, decide_eq_true_eq, ne_eq, Bool.false_eq_true, Bool.true_eq_false, reduceIte, Option.some.injEq, Int.toNat_natCast, beq_self_eq_true, bne_self_eq_false, Value.cells, splice, List.setIfInBounds_toArray, List.set_cons_zero, List.set_cons_succ, List.size_toArray, List.length_cons, List.length_nil, and_self, Nat.reduceLeDiff, Nat.reduceAdd, Nat.reduceMul, Int.reduceToNat, Int.reduceLT, Int.reduceLE, Int.reduceGT, Int.reduceGE, Int.reduceAdd, Int.reduceSub, Int.reduceMul, Int.reduceNeg, Int.reduceEq, Int.reduceNe, true_and, and_true, Int.cast_ofNat_Int, Nat.le_refl, ld3, ld5, ld23, ln23, ia23, ld25, fa25_1, fa25_2, ld27, bd27_0_1, ld28, ia28, bd28, ld29, ld31, fa31_0, bd31, bd31_0, bd31_0_1, ld53, fa53_0, fa53_1, fa53_2, fa53_3, ow2, ow3, ow4, ow5, ow6, ow8, ow11, ow20, ow23, cv5_3]
    have := ih (k + 1) w (by omega) h
    rw [show ((k + 1 : Nat) : Int) = (k : Int) + 1 by omega] at this
    exact this
theorem c_refParts {w : World} (h : So w0 w L) (m : Modl) (hi : InstsAt w0 m.iv m.insts) (hl : m.insts.length ≤ 1048576) (hz : ∀ i ∈ m.insts, SizedI i) :
    Cx P 5 #[m.v] w fun v w => PartsV m v ∧ So w0 w L := by
  apply F5_ok
  unfold F5 Modl.v
  refine soBox h fun x1 w h => ?_
  have h : So w0 w ((x1, cl m.c 25) :: L) := h
  refine al28 h fun x2 w h => ?_
  refine al31 h fun x3 w h => ?_
  refine al28 h fun x4 w h => ?_
  have h : So w0 w ((x4, cl zeroSp.toArray 28) :: (x3, cl #[.int .i64 0, .int .i64 0] 31) :: (x2, cl zeroSp.toArray 28) :: (x1, cl m.c 25) :: L) := h
  have hf := h.facts
  simp only [Facts, Modl.c] at hf
  try simp (disch := omega) only [cnd_bool, on_some_eq, Dr_eq, xNil_ptr, xNil_func, xNil_yield, xPick_bool, unw_nil, xRes_ptr, xUn_not, xUn_neg, xEx_tuple, xBin_add, xBin_sub, xBin_mul, xBin_eql, xBin_neq, xBin_lss, xBin_leq, xBin_gtr, xBin_geq, xBin_eqls, xBin_neqs, wI64, oCell_some, List.getElem?_toArray, List.getElem?_cons_zero, List.getElem?_cons_succ, Nat.zero_add, Bool.not_true, Bool.not_false, if_true, if_false, ite_true, ite_false, beq_iff_eq, bne_iff_ne, decide_eq_true_eq, ne_eq, Bool.false_eq_true, Bool.true_eq_false, reduceIte, Option.some.injEq, Int.toNat_natCast, beq_self_eq_true, bne_self_eq_false, Value.cells, splice, List.setIfInBounds_toArray, List.set_cons_zero, List.set_cons_succ, List.size_toArray, List.length_cons, List.length_nil, and_self, Nat.reduceLeDiff, Nat.reduceAdd, Nat.reduceMul, Int.reduceToNat, Int.reduceLT, Int.reduceLE, Int.reduceGT, Int.reduceGE, Int.reduceAdd, Int.reduceSub, Int.reduceMul, Int.reduceNeg, Int.reduceEq, Int.reduceNe, true_and, and_true, Int.cast_ofNat_Int, Nat.le_refl, hf, ld3, ld5, ld23, ln23, ia23, ld25, fa25_1, fa25_2, ld27, bd27_0_1, ld28, ia28, bd28, ld29, ld31, fa31_0, bd31, bd31_0, bd31_0_1, ld53, fa53_0, fa53_1, fa53_2, fa53_3, ow2, ow3, ow4, ow5, ow6, ow8, ow11, ow20, ow23, cv5_3]
  refine Cx.mono (c_refCheck h m hi hl hz) fun v w hv => ?_
  obtain ⟨⟨e, k, hc, rfl⟩, h⟩ := hv
  unfold spotV
  refine al31 h fun x5 w h => ?_
  try simp only [Facts, and_true, Value.cells, List.setIfInBounds_toArray, List.set_cons_zero, List.set_cons_succ, splice, Nat.zero_add, Nat.reduceAdd, List.cons_append, List.nil_append] at h
  have hf := h.facts
  simp only [Facts, and_true, Value.cells, List.setIfInBounds_toArray, List.set_cons_zero, List.set_cons_succ, splice, Nat.zero_add, Nat.reduceAdd, List.cons_append, List.nil_append] at hf
  refine soStoreA ty31 0 h (fun w h => ?_) rfl rfl rfl rfl
  simp only [List.set_cons_zero] at h
  have hf := h.facts
  simp only [Facts, Modl.c] at hf
  try simp (disch := omega) only [cnd_bool, on_some_eq, Dr_eq, xNil_ptr, xNil_func, xNil_yield, xPick_bool, unw_nil, xRes_ptr, xUn_not, xUn_neg, xEx_tuple, xBin_add, xBin_sub, xBin_mul, xBin_eql, xBin_neq, xBin_lss, xBin_leq, xBin_gtr, xBin_geq, xBin_eqls, xBin_neqs, wI64, oCell_some, List.getElem?_toArray, List.getElem?_cons_zero, List.getElem?_cons_succ, Nat.zero_add, Bool.not_true, Bool.not_false, if_true, if_false, ite_true, ite_false, beq_iff_eq, bne_iff_ne, decide_eq_true_eq, ne_eq, Bool.false_eq_true, Bool.true_eq_false, reduceIte, Option.some.injEq, Int.toNat_natCast, beq_self_eq_true, bne_self_eq_false, Value.cells, splice, List.setIfInBounds_toArray, List.set_cons_zero, List.set_cons_succ, List.size_toArray, List.length_cons, List.length_nil, and_self, Nat.reduceLeDiff, Nat.reduceAdd, Nat.reduceMul, Int.reduceToNat, Int.reduceLT, Int.reduceLE, Int.reduceGT, Int.reduceGE, Int.reduceAdd, Int.reduceSub, Int.reduceMul, Int.reduceNeg, Int.reduceEq, Int.reduceNe, true_and, and_true, Int.cast_ofNat_Int, Nat.le_refl, hf, ld3, ld5, ld23, ln23, ia23, ld25, fa25_1, fa25_2, ld27, bd27_0_1, ld28, ia28, bd28, ld29, ld31, fa31_0, bd31, bd31_0, bd31_0_1, ld53, fa53_0, fa53_1, fa53_2, fa53_3, ow2, ow3, ow4, ow5, ow6, ow8, ow11, ow20, ow23, cv5_3]
  have hk2 : ∀ (sp : List Value) (w : World), sp.length = 20 → sp.all one1 = true → sp = (if e = 0 then spansL m.insts else zeroSp) → So w0 w ((x4, cl sp.toArray 28) :: (x1, cl m.c 25) :: (x5, cl #[.int .i64 e, .int .i64 k] 31) :: (x3, cl #[.int .i64 0, .int .i64 0] 31) :: (x2, cl zeroSp.toArray 28) :: L) →
      F5.k2 (fun v w => PartsV m v ∧ So w0 w L) (.pointer (some ⟨x2, 0, none⟩)) (.pointer (some ⟨x3, 0, none⟩)) (.pointer (some ⟨x4, 0, none⟩)) (.pointer (some ⟨x5, 0, none⟩)) w := by
    intro sp w hsl hone hsp h
    unfold F5.k2
    try rw [Dr_eq]
    have h := h.drew
    have hf := h.facts
    simp only [Facts] at hf
    have hall : oRow (some (cl sp.toArray 28)) 0 20 = some (.agg sp.toArray) := oRow_all (by simp [hsl]) _ _
    try simp (disch := omega) only [cnd_bool, on_some_eq, Dr_eq, xNil_ptr, xNil_func, xNil_yield, xPick_bool, unw_nil, xRes_ptr, xUn_not, xUn_neg, xEx_tuple, xBin_add, xBin_sub, xBin_mul, xBin_eql, xBin_neq, xBin_lss, xBin_leq, xBin_gtr, xBin_geq, xBin_eqls, xBin_neqs, wI64, oCell_some, List.getElem?_toArray, List.getElem?_cons_zero, List.getElem?_cons_succ, Nat.zero_add, Bool.not_true, Bool.not_false, if_true, if_false, ite_true, ite_false, beq_iff_eq, bne_iff_ne, decide_eq_true_eq, ne_eq, Bool.false_eq_true, Bool.true_eq_false, reduceIte, Option.some.injEq, Int.toNat_natCast, beq_self_eq_true, bne_self_eq_false, Value.cells, splice, List.setIfInBounds_toArray, List.set_cons_zero, List.set_cons_succ, List.size_toArray, List.length_cons, List.length_nil, and_self, Nat.reduceLeDiff, Nat.reduceAdd, Nat.reduceMul, Int.reduceToNat, Int.reduceLT, Int.reduceLE, Int.reduceGT, Int.reduceGE, Int.reduceAdd, Int.reduceSub, Int.reduceMul, Int.reduceNeg, Int.reduceEq, Int.reduceNe, true_and, and_true, Int.cast_ofNat_Int, Nat.le_refl, hf, ld3, ld5, ld23, ln23, ia23, ld25, fa25_1, fa25_2, ld27, bd27_0_1, ld28, ia28, bd28, ld29, ld31, fa31_0, bd31, bd31_0, bd31_0_1, ld53, fa53_0, fa53_1, fa53_2, fa53_3, ow2, ow3, ow4, ow5, ow6, ow8, ow11, ow20, ow23, cv5_3, hall]
    refine soStoreA ty28 4 h (fun w h => ?_) rfl (by simp [hsl]) rfl hone
    simp only [List.set_cons_zero, List.set_cons_succ] at h
    have hf := h.facts
    simp only [Facts] at hf
    try simp (disch := omega) only [cnd_bool, on_some_eq, Dr_eq, xNil_ptr, xNil_func, xNil_yield, xPick_bool, unw_nil, xRes_ptr, xUn_not, xUn_neg, xEx_tuple, xBin_add, xBin_sub, xBin_mul, xBin_eql, xBin_neq, xBin_lss, xBin_leq, xBin_gtr, xBin_geq, xBin_eqls, xBin_neqs, wI64, oCell_some, List.getElem?_toArray, List.getElem?_cons_zero, List.getElem?_cons_succ, Nat.zero_add, Bool.not_true, Bool.not_false, if_true, if_false, ite_true, ite_false, beq_iff_eq, bne_iff_ne, decide_eq_true_eq, ne_eq, Bool.false_eq_true, Bool.true_eq_false, reduceIte, Option.some.injEq, Int.toNat_natCast, beq_self_eq_true, bne_self_eq_false, Value.cells, splice, List.setIfInBounds_toArray, List.set_cons_zero, List.set_cons_succ, List.size_toArray, List.length_cons, List.length_nil, and_self, Nat.reduceLeDiff, Nat.reduceAdd, Nat.reduceMul, Int.reduceToNat, Int.reduceLT, Int.reduceLE, Int.reduceGT, Int.reduceGE, Int.reduceAdd, Int.reduceSub, Int.reduceMul, Int.reduceNeg, Int.reduceEq, Int.reduceNe, true_and, and_true, Int.cast_ofNat_Int, Nat.le_refl, hf, ld3, ld5, ld23, ln23, ia23, ld25, fa25_1, fa25_2, ld27, bd27_0_1, ld28, ia28, bd28, ld29, ld31, fa31_0, bd31, bd31_0, bd31_0_1, ld53, fa53_0, fa53_1, fa53_2, fa53_3, ow2, ow3, ow4, ow5, ow6, ow8, ow11, ow20, ow23, cv5_3]
    refine soStoreA ty31 3 h (fun w h => ?_) rfl rfl rfl rfl
    simp only [List.set_cons_zero, List.set_cons_succ] at h
    have hf := h.facts
    simp only [Facts] at hf
    try simp (disch := omega) only [cnd_bool, on_some_eq, Dr_eq, xNil_ptr, xNil_func, xNil_yield, xPick_bool, unw_nil, xRes_ptr, xUn_not, xUn_neg, xEx_tuple, xBin_add, xBin_sub, xBin_mul, xBin_eql, xBin_neq, xBin_lss, xBin_leq, xBin_gtr, xBin_geq, xBin_eqls, xBin_neqs, wI64, oCell_some, List.getElem?_toArray, List.getElem?_cons_zero, List.getElem?_cons_succ, Nat.zero_add, Bool.not_true, Bool.not_false, if_true, if_false, ite_true, ite_false, beq_iff_eq, bne_iff_ne, decide_eq_true_eq, ne_eq, Bool.false_eq_true, Bool.true_eq_false, reduceIte, Option.some.injEq, Int.toNat_natCast, beq_self_eq_true, bne_self_eq_false, Value.cells, splice, List.setIfInBounds_toArray, List.set_cons_zero, List.set_cons_succ, List.size_toArray, List.length_cons, List.length_nil, and_self, Nat.reduceLeDiff, Nat.reduceAdd, Nat.reduceMul, Int.reduceToNat, Int.reduceLT, Int.reduceLE, Int.reduceGT, Int.reduceGE, Int.reduceAdd, Int.reduceSub, Int.reduceMul, Int.reduceNeg, Int.reduceEq, Int.reduceNe, true_and, and_true, Int.cast_ofNat_Int, Nat.le_refl, hf, ld3, ld5, ld23, ln23, ia23, ld25, fa25_1, fa25_2, ld27, bd27_0_1, ld28, ia28, bd28, ld29, ld31, fa31_0, bd31, bd31_0, bd31_0_1, ld53, fa53_0, fa53_1, fa53_2, fa53_3, ow2, ow3, ow4, ow5, ow6, ow8, ow11, ow20, ow23, cv5_3, hall]
    refine ⟨⟨e, k, hc, ?_⟩, h.drop.drop.drop.drop.drop⟩
    rw [← hsp]; rfl
  have h := h.perm (M := (x4, cl zeroSp.toArray 28) :: (x1, cl m.c 25) :: (x5, cl #[.int .i64 e, .int .i64 k] 31) :: (x3, cl #[.int .i64 0, .int .i64 0] 31) :: (x2, cl zeroSp.toArray 28) :: L) (perm_of fun c d ha hc h0 => by simp only [ha, hc, h0]; omega)
  by_cases he : e = 0
  · rw [if_neg (by simpa using he)]
    unfold F5.k1 F5.k3
    refine ⟨_, parts_outer (L := (x5, cl #[.int .i64 e, .int .i64 k] 31) :: (x3, cl #[.int .i64 0, .int .i64 0] 31) :: (x2, cl zeroSp.toArray 28) :: L) hi hl ?_ 10 0 w (by omega) h⟩
    intro w h
    exact hk2 _ w (spansL_length _) (spansL_one _) (by rw [if_pos he]) h
  · rw [if_pos he]
    have := hk2 zeroSp w rfl rfl (by rw [if_neg he]) h
    unfold F5.k2 at this
    try rw [Dr_eq] at this
    have hf0 := h.facts
    have hf := h.drew.facts
    simp only [Facts] at hf hf0
    have hall : oRow (some (cl zeroSp.toArray 28)) 0 20 = some (.agg zeroSp.toArray) := oRow_all rfl _ _
    try simp (disch := omega) only [cnd_bool, on_some_eq, Dr_eq, xNil_ptr, xNil_func, xNil_yield, xPick_bool, unw_nil, xRes_ptr, xUn_not, xUn_neg, xEx_tuple, xBin_add, xBin_sub, xBin_mul, xBin_eql, xBin_neq, xBin_lss, xBin_leq, xBin_gtr, xBin_geq, xBin_eqls, xBin_neqs, wI64, oCell_some, List.getElem?_toArray, List.getElem?_cons_zero, List.getElem?_cons_succ, Nat.zero_add, Bool.not_true, Bool.not_false, if_true, if_false, ite_true, ite_false, beq_iff_eq, bne_iff_ne, decide_eq_true_eq, ne_eq, Bool.false_eq_true, Bool.true_eq_false, reduceIte, Option.some.injEq, Int.toNat_natCast, beq_self_eq_true, bne_self_eq_false, Value.cells, splice, List.setIfInBounds_toArray, List.set_cons_zero, List.set_cons_succ, List.size_toArray, List.length_cons, List.length_nil, and_self, Nat.reduceLeDiff, Nat.reduceAdd, Nat.reduceMul, Int.reduceToNat, Int.reduceLT, Int.reduceLE, Int.reduceGT, Int.reduceGE, Int.reduceAdd, Int.reduceSub, Int.reduceMul, Int.reduceNeg, Int.reduceEq, Int.reduceNe, true_and, and_true, Int.cast_ofNat_Int, Nat.le_refl, ld3, ld5, ld23, ln23, ia23, ld25, fa25_1, fa25_2, ld27, bd27_0_1, ld28, ia28, bd28, ld29, ld31, fa31_0, bd31, bd31_0, bd31_0_1, ld53, fa53_0, fa53_1, fa53_2, fa53_3, ow2, ow3, ow4, ow5, ow6, ow8, ow11, ow20, ow23, cv5_3] at this
    simp only [hf, hall, on_some_eq, ow2] at this
    try simp (disch := omega) only [cnd_bool, on_some_eq, Dr_eq, xNil_ptr, xNil_func, xNil_yield, xPick_bool, unw_nil, xRes_ptr, xUn_not, xUn_neg, xEx_tuple, xBin_add, xBin_sub, xBin_mul, xBin_eql, xBin_neq, xBin_lss, xBin_leq, xBin_gtr, xBin_geq, xBin_eqls, xBin_neqs, wI64, oCell_some, List.getElem?_toArray, List.getElem?_cons_zero, List.getElem?_cons_succ, Nat.zero_add, Bool.not_true, Bool.not_false, if_true, if_false, ite_true, ite_false, beq_iff_eq, bne_iff_ne, decide_eq_true_eq, ne_eq, Bool.false_eq_true, Bool.true_eq_false, reduceIte, Option.some.injEq, Int.toNat_natCast, beq_self_eq_true, bne_self_eq_false, Value.cells, splice, List.setIfInBounds_toArray, List.set_cons_zero, List.set_cons_succ, List.size_toArray, List.length_cons, List.length_nil, and_self, Nat.reduceLeDiff, Nat.reduceAdd, Nat.reduceMul, Int.reduceToNat, Int.reduceLT, Int.reduceLE, Int.reduceGT, Int.reduceGE, Int.reduceAdd, Int.reduceSub, Int.reduceMul, Int.reduceNeg, Int.reduceEq, Int.reduceNe, true_and, and_true, Int.cast_ofNat_Int, Nat.le_refl, hf, ld3, ld5, ld23, ln23, ia23, ld25, fa25_1, fa25_2, ld27, bd27_0_1, ld28, ia28, bd28, ld29, ld31, fa31_0, bd31, bd31_0, bd31_0_1, ld53, fa53_0, fa53_1, fa53_2, fa53_3, ow2, ow3, ow4, ow5, ow6, ow8, ow11, ow20, ow23, cv5_3, hall]
    exact this
end
end Go.Proofs.Ytlmcppbpobnfjaa

