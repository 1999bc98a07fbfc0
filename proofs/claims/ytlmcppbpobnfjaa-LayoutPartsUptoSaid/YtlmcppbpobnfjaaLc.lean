/-
  Layout: the cutter goes through a module: next, row.
-/
import Derived.Test.YtlmcppbpobnfjaaLb
namespace Go.Proofs.Ytlmcppbpobnfjaa
open Go Go.Vc
set_option linter.unusedSimpArgs false
set_option linter.unusedVariables false
set_option maxRecDepth 20000

/-- A cutter's cells. -/
def cutC (iv : Value) (pos : Nat) (sp : List Value) (fv : Value) : Array Value := (iv :: .int .i64 (pos : Int) :: (sp ++ [fv])).toArray
theorem cutC_0 (iv : Value) (pos : Nat) (sp : List Value) (fv : Value) : (cutC iv pos sp fv)[0]? = some iv := rfl
theorem cutC_1 (iv : Value) (pos : Nat) (sp : List Value) (fv : Value) : (cutC iv pos sp fv)[1]? = some (.int .i64 (pos : Int)) := rfl
theorem cutC_22 (iv : Value) (pos : Nat) {sp : List Value} (hs : sp.length = 20) (fv : Value) : (cutC iv pos sp fv)[22]? = some fv := by
  simp [cutC, hs]
theorem cutC_size (iv : Value) (pos : Nat) {sp : List Value} (hs : sp.length = 20) (fv : Value) : (cutC iv pos sp fv).size = 23 := by
  simp [cutC, hs]
theorem cutC_set1 (iv : Value) (pos q : Nat) (sp : List Value) (fv : Value) (n : Int) (hn : n = (q : Int)) : (cutC iv pos sp fv).setIfInBounds 1 (.int .i64 n) = cutC iv q sp fv := by
  subst hn; simp [cutC]
theorem cutC_set22 (iv : Value) (pos : Nat) {sp : List Value} (hs : sp.length = 20) (fv fv' : Value) : (cutC iv pos sp fv).setIfInBounds 22 fv' = cutC iv pos sp fv' := by
  simp [cutC, hs]
/-- A span laid in. -/
def setSp (sp : List Value) (p a b : Nat) : List Value := (sp.set (2 * p) (.int .i64 (a : Int))).set (2 * p + 1) (.int .i64 (b : Int))
theorem setSp_length (sp : List Value) (p a b : Nat) : (setSp sp p a b).length = sp.length := by simp [setSp]
theorem cutC_sp (iv : Value) (pos : Nat) {sp : List Value} (hs : sp.length = 20) (fv : Value) (p a b : Nat) (hp : p < 10) (o : Nat) (ho : o = 2 + p * 2) (m n : Int) (hm : m = (a : Int)) (hn : n = (b : Int)) : splice (cutC iv pos sp fv) o [.int .i64 m, .int .i64 n] = cutC iv pos (setSp sp p a b) fv := by
  subst ho hm hn
  simp only [splice, cutC, setSp, List.setIfInBounds_toArray]
  congr 1
  rw [show 2 + p * 2 = 2 * p + 1 + 1 by omega, show 2 * p + 1 + 1 + 1 = (2 * p + 1) + 1 + 1 by omega]
  simp only [List.set_cons_succ]
  rw [List.set_append_left _ _ (by omega), List.set_append_left _ _ (by simp; omega)]

/-- The kind of the next instruction. -/
def nextP (l : List Inst) (pos : Nat) : Int := match l[pos]? with
  | some i => kindP i
  | none => -1
theorem Inst_c (i : Inst) : i.c.toArray = #[.int .u16 i.op, .int .u32 i.ty, .int .u32 i.res, i.av] := rfl
theorem agg_c (i : Inst) : Value.agg i.c.toArray = i.v := rfl
section
variable {w0 w : World} {L : List (Nat × Obj)} {iv fv : Value} {l : List Inst} {sp : List Value} {b pos : Nat}
theorem c_next (hi : InstsAt w0 iv l) (hp : pos ≤ l.length) (hl : l.length ≤ 1099511627776) (h : So w0 w ((b, cl (cutC iv pos sp fv) 59) :: L)) :
    Cx P 53 #[.pointer (some ⟨b, 0, none⟩)] w fun v w => v = .int .i64 (nextP l pos) ∧ So w0 w ((b, cl (cutC iv pos sp fv) 59) :: L) := by
  apply F53_ok
  unfold F53
  rw [Dr_eq]
  have h := h.drew
  have hf := h.facts
  simp only [Facts] at hf
  try simp (disch := omega) only [cnd_bool, on_some_eq, Dr_eq, xNil_ptr, xNil_func, xNil_yield, xPick_bool, unw_nil, xRes_ptr, xUn_not, xUn_neg, xEx_tuple, xBin_add, xBin_sub, xBin_mul, xBin_eql, xBin_neq, xBin_lss, xBin_leq, xBin_gtr, xBin_geq, xBin_eqls, xBin_neqs, wI64, oCell_some, List.getElem?_toArray, List.getElem?_cons_zero, List.getElem?_cons_succ, Nat.zero_add, Bool.not_true, Bool.not_false, if_true, if_false, ite_true, ite_false, beq_iff_eq, bne_iff_ne, decide_eq_true_eq, ne_eq, Bool.false_eq_true, Bool.true_eq_false, reduceIte, Option.some.injEq, Int.toNat_natCast, beq_self_eq_true, bne_self_eq_false, Value.cells, splice, List.setIfInBounds_toArray, List.set_cons_zero, List.set_cons_succ, List.size_toArray, List.length_cons, List.length_nil, and_self, Nat.reduceLeDiff, Nat.reduceAdd, Nat.reduceMul, Int.reduceToNat, Int.reduceLT, Int.reduceLE, Int.reduceGT, Int.reduceGE, Int.reduceAdd, Int.reduceSub, Int.reduceMul, Int.reduceNeg, Int.reduceEq, Int.reduceNe, true_and, and_true, Int.cast_ofNat_Int, Nat.le_refl, hf, ld3, ld23, ln23, ia23, ld40, ln40, ia40, ld53, fa53_0, fa53_1, fa53_2, fa53_3, ld59, fa59_0, fa59_1, fa59_2, fa59_3, bd59_0, eql54_n, eql54_s, ow2, ow3, ow4, ow5, ow6, ow8, ow11, ow20, ow23, cutC_0, cutC_1, Sl.len sl23 hi.1, List.length_map]
  unfold nextP
  by_cases he : pos = l.length
  · rw [if_pos (by omega)]
    subst he
    rw [List.getElem?_eq_none (Nat.le_refl _)]
    exact ⟨rfl, h⟩
  · rw [if_neg (by omega)]
    have hlt : pos < l.length := by omega
    have h := h.drew
    have hf := h.facts
    simp only [Facts] at hf
    have hel : (l.map Inst.c)[pos]? = some (l[pos].c) := by simp [hlt]
    obtain ⟨g, o, h1, h2, h3⟩ := (hi.1.go h).get sl23 (pos : Int) rfl hel
    rw [agg_c] at h2
    try simp (disch := omega) only [cnd_bool, on_some_eq, Dr_eq, xNil_ptr, xNil_func, xNil_yield, xPick_bool, unw_nil, xRes_ptr, xUn_not, xUn_neg, xEx_tuple, xBin_add, xBin_sub, xBin_mul, xBin_eql, xBin_neq, xBin_lss, xBin_leq, xBin_gtr, xBin_geq, xBin_eqls, xBin_neqs, wI64, oCell_some, List.getElem?_toArray, List.getElem?_cons_zero, List.getElem?_cons_succ, Nat.zero_add, Bool.not_true, Bool.not_false, if_true, if_false, ite_true, ite_false, beq_iff_eq, bne_iff_ne, decide_eq_true_eq, ne_eq, Bool.false_eq_true, Bool.true_eq_false, reduceIte, Option.some.injEq, Int.toNat_natCast, beq_self_eq_true, bne_self_eq_false, Value.cells, splice, List.setIfInBounds_toArray, List.set_cons_zero, List.set_cons_succ, List.size_toArray, List.length_cons, List.length_nil, and_self, Nat.reduceLeDiff, Nat.reduceAdd, Nat.reduceMul, Int.reduceToNat, Int.reduceLT, Int.reduceLE, Int.reduceGT, Int.reduceGE, Int.reduceAdd, Int.reduceSub, Int.reduceMul, Int.reduceNeg, Int.reduceEq, Int.reduceNe, true_and, and_true, Int.cast_ofNat_Int, Nat.le_refl, hf, ld3, ld23, ln23, ia23, ld40, ln40, ia40, ld53, fa53_0, fa53_1, fa53_2, fa53_3, ld59, fa59_0, fa59_1, fa59_2, fa59_3, bd59_0, eql54_n, eql54_s, ow2, ow3, ow4, ow5, ow6, ow8, ow11, ow20, ow23, cutC_0, cutC_1, h1, h2]
    refine Cx.mono (c_kind h l[pos] (hi.2 _ (List.getElem_mem hlt))) fun v w hv => ?_
    obtain ⟨rfl, h⟩ := hv
    rw [List.getElem?_eq_getElem hlt]
    exact ⟨rfl, h⟩
theorem nextP_lt (hk : nextP l pos ≠ -1) : pos < l.length := by
  unfold nextP at hk
  cases hg : l[pos]? with
  | none => rw [hg] at hk; exact absurd rfl hk
  | some i => exact (List.getElem?_eq_some_iff.1 hg).1

/-- How many instructions of a kind stand in a row. -/
def runP (l : List Inst) (k : Int) (pos : Nat) : Nat := ((l.drop pos).takeWhile fun i => kindP i == k).length
theorem runP_step (k : Int) (hk : nextP l pos = k) (h1 : k ≠ -1) : runP l k pos = runP l k (pos + 1) + 1 := by
  have hlt := nextP_lt (l := l) (pos := pos) (by rw [hk]; exact h1)
  unfold nextP at hk
  rw [List.getElem?_eq_getElem hlt] at hk
  unfold runP
  rw [List.drop_eq_getElem_cons hlt, List.takeWhile_cons, if_pos (by simpa using hk)]
  rfl
theorem runP_stop (k : Int) (hk : nextP l pos ≠ k) : runP l k pos = 0 := by
  unfold runP
  by_cases hlt : pos < l.length
  · rw [List.drop_eq_getElem_cons hlt, List.takeWhile_cons, if_neg]
    · rfl
    · unfold nextP at hk
      rw [List.getElem?_eq_getElem hlt] at hk
      simpa using hk
  · rw [List.drop_of_length_le (by omega)]; rfl
theorem runP_le (k : Int) (hp : pos ≤ l.length) : pos + runP l k pos ≤ l.length := by
  unfold runP
  have h1 : ((l.drop pos).takeWhile fun i => kindP i == k).length ≤ (l.drop pos).length := (List.takeWhile_prefix _).length_le
  simp only [List.length_drop] at h1
  omega
def ints (l : List Nat) : List Value := l.map fun (n : Nat) => .int .i64 (n : Int)
theorem row_loop (hi : InstsAt w0 iv l) (hl : l.length ≤ 1099511627776) (k : Int) (hk : k ≠ -1) :
    ∀ (m pos n : Nat) (v : Value) (xs : List Nat) (M : List (Nat × Obj)) (w : World), l.length - pos < m → pos ≤ l.length → xs.length = n → n ≤ pos →
      OwnS w0.heap.size 3 1 v n (ints xs) M → So w0 w (M ++ (b, cl (cutC iv pos sp fv) 59) :: L) →
      F54.l1 (fun v w => ∃ M', OwnS w0.heap.size 3 1 v (n + runP l k pos) (ints (xs ++ List.range' pos (runP l k pos))) M' ∧ So w0 w (M' ++ (b, cl (cutC iv (pos + runP l k pos) sp fv) 59) :: L)) m (.pointer (some ⟨b, 0, none⟩)) (.int .i64 k) v w := by
  intro m
  induction m with
  | zero => intro pos n v xs M w h; omega
  | succ m ih =>
    intro pos n v xs M w hm hp hx hn ho h
    unfold F54.l1
    have hsw : (M ++ (b, cl (cutC iv pos sp fv) 59) :: L).Perm ((b, cl (cutC iv pos sp fv) 59) :: (M ++ L)) := List.perm_middle
    refine Cx.mono (c_next hi hp hl (h.perm hsw)) fun v1 w hv => ?_
    obtain ⟨rfl, h⟩ := hv
    try simp (disch := omega) only [cnd_bool, on_some_eq, Dr_eq, xNil_ptr, xNil_func, xNil_yield, xPick_bool, unw_nil, xRes_ptr, xUn_not, xUn_neg, xEx_tuple, xBin_add, xBin_sub, xBin_mul, xBin_eql, xBin_neq, xBin_lss, xBin_leq, xBin_gtr, xBin_geq, xBin_eqls, xBin_neqs, wI64, oCell_some, List.getElem?_toArray, List.getElem?_cons_zero, List.getElem?_cons_succ, Nat.zero_add, Bool.not_true, Bool.not_false, if_true, if_false, ite_true, ite_false, beq_iff_eq, bne_iff_ne, decide_eq_true_eq, ne_eq, Bool.false_eq_true, Bool.true_eq_false, reduceIte, Option.some.injEq, Int.toNat_natCast, beq_self_eq_true, bne_self_eq_false, Value.cells, splice, List.setIfInBounds_toArray, List.set_cons_zero, List.set_cons_succ, List.size_toArray, List.length_cons, List.length_nil, and_self, Nat.reduceLeDiff, Nat.reduceAdd, Nat.reduceMul, Int.reduceToNat, Int.reduceLT, Int.reduceLE, Int.reduceGT, Int.reduceGE, Int.reduceAdd, Int.reduceSub, Int.reduceMul, Int.reduceNeg, Int.reduceEq, Int.reduceNe, true_and, and_true, Int.cast_ofNat_Int, Nat.le_refl, ld3, ld23, ln23, ia23, ld40, ln40, ia40, ld53, fa53_0, fa53_1, fa53_2, fa53_3, ld59, fa59_0, fa59_1, fa59_2, fa59_3, bd59_0, eql54_n, eql54_s, ow2, ow3, ow4, ow5, ow6, ow8, ow11, ow20, ow23]
    by_cases hk1 : nextP l pos = k
    · rw [if_pos hk1]
      have hlt := nextP_lt (l := l) (pos := pos) (by rw [hk1]; exact hk)
      have hr := runP_step k hk1 hk
      have h := h.perm hsw.symm
      have hf := (h.perm hsw).facts
      simp only [Facts] at hf
      try simp (disch := omega) only [cnd_bool, on_some_eq, Dr_eq, xNil_ptr, xNil_func, xNil_yield, xPick_bool, unw_nil, xRes_ptr, xUn_not, xUn_neg, xEx_tuple, xBin_add, xBin_sub, xBin_mul, xBin_eql, xBin_neq, xBin_lss, xBin_leq, xBin_gtr, xBin_geq, xBin_eqls, xBin_neqs, wI64, oCell_some, List.getElem?_toArray, List.getElem?_cons_zero, List.getElem?_cons_succ, Nat.zero_add, Bool.not_true, Bool.not_false, if_true, if_false, ite_true, ite_false, beq_iff_eq, bne_iff_ne, decide_eq_true_eq, ne_eq, Bool.false_eq_true, Bool.true_eq_false, reduceIte, Option.some.injEq, Int.toNat_natCast, beq_self_eq_true, bne_self_eq_false, Value.cells, splice, List.setIfInBounds_toArray, List.set_cons_zero, List.set_cons_succ, List.size_toArray, List.length_cons, List.length_nil, and_self, Nat.reduceLeDiff, Nat.reduceAdd, Nat.reduceMul, Int.reduceToNat, Int.reduceLT, Int.reduceLE, Int.reduceGT, Int.reduceGE, Int.reduceAdd, Int.reduceSub, Int.reduceMul, Int.reduceNeg, Int.reduceEq, Int.reduceNe, true_and, and_true, Int.cast_ofNat_Int, Nat.le_refl, hf, ld3, ld23, ln23, ia23, ld40, ln40, ia40, ld53, fa53_0, fa53_1, fa53_2, fa53_3, ld59, fa59_0, fa59_1, fa59_2, fa59_3, bd59_0, eql54_n, eql54_s, ow2, ow3, ow4, ow5, ow6, ow8, ow11, ow20, ow23, cutC_1]
      refine pu40 h ho rfl (by simp [one1, Value.cells]) (by omega) (by omega) fun v' M' w ho h => ?_
      have hsw' : (M' ++ (b, cl (cutC iv pos sp fv) 59) :: L).Perm ((b, cl (cutC iv pos sp fv) 59) :: (M' ++ L)) := List.perm_middle
      have h := h.perm hsw'
      have hf := h.facts
      simp only [Facts] at hf
      try simp (disch := omega) only [cnd_bool, on_some_eq, Dr_eq, xNil_ptr, xNil_func, xNil_yield, xPick_bool, unw_nil, xRes_ptr, xUn_not, xUn_neg, xEx_tuple, xBin_add, xBin_sub, xBin_mul, xBin_eql, xBin_neq, xBin_lss, xBin_leq, xBin_gtr, xBin_geq, xBin_eqls, xBin_neqs, wI64, oCell_some, List.getElem?_toArray, List.getElem?_cons_zero, List.getElem?_cons_succ, Nat.zero_add, Bool.not_true, Bool.not_false, if_true, if_false, ite_true, ite_false, beq_iff_eq, bne_iff_ne, decide_eq_true_eq, ne_eq, Bool.false_eq_true, Bool.true_eq_false, reduceIte, Option.some.injEq, Int.toNat_natCast, beq_self_eq_true, bne_self_eq_false, Value.cells, splice, List.setIfInBounds_toArray, List.set_cons_zero, List.set_cons_succ, List.size_toArray, List.length_cons, List.length_nil, and_self, Nat.reduceLeDiff, Nat.reduceAdd, Nat.reduceMul, Int.reduceToNat, Int.reduceLT, Int.reduceLE, Int.reduceGT, Int.reduceGE, Int.reduceAdd, Int.reduceSub, Int.reduceMul, Int.reduceNeg, Int.reduceEq, Int.reduceNe, true_and, and_true, Int.cast_ofNat_Int, Nat.le_refl, hf, ld3, ld23, ln23, ia23, ld40, ln40, ia40, ld53, fa53_0, fa53_1, fa53_2, fa53_3, ld59, fa59_0, fa59_1, fa59_2, fa59_3, bd59_0, eql54_n, eql54_s, ow2, ow3, ow4, ow5, ow6, ow8, ow11, ow20, ow23, cutC_1]
      refine soStore1 ty3 0 h (fun w h => ?_) rfl (by simp [cutC]) rfl
      simp only [List.set_cons_zero] at h
      rw [cutC_set1 _ _ (pos + 1) _ _ _ (by omega)] at h
      have ho' : OwnS w0.heap.size 3 1 v' (n + 1) (ints (xs ++ [pos])) M' := by
        have : ints (xs ++ [pos]) = ints xs ++ (Value.int .i64 (pos : Int)).cells.toList := by simp [ints, Value.cells]
        rw [this]; exact ho
      have := ih (pos + 1) (n + 1) v' (xs ++ [pos]) M' w (by omega) (by omega) (by simp [hx]) (by omega) ho' (h.perm List.perm_middle.symm)
      rw [hr]
      have e1 : n + 1 + runP l k (pos + 1) = n + (runP l k (pos + 1) + 1) := by omega
      have e2 : pos + 1 + runP l k (pos + 1) = pos + (runP l k (pos + 1) + 1) := by omega
      have e3 : xs ++ [pos] ++ List.range' (pos + 1) (runP l k (pos + 1)) = xs ++ List.range' pos (runP l k (pos + 1) + 1) := by
        rw [List.range'_succ]; simp
      rw [e1, e2, e3] at this
      exact this
    · rw [if_neg hk1, runP_stop k hk1]
      unfold F54.k2
      simp only [Nat.add_zero, List.range'_zero, List.append_nil]
      exact ⟨M, ho, h.perm hsw.symm⟩
theorem c_rowK (hi : InstsAt w0 iv l) (hp : pos ≤ l.length) (hl : l.length ≤ 1099511627776) (k : Int) (hk : k ≠ -1) (h : So w0 w ((b, cl (cutC iv pos sp fv) 59) :: L)) :
    Cx P 54 #[.pointer (some ⟨b, 0, none⟩), .int .i64 k] w fun v w => ∃ M', OwnS w0.heap.size 3 1 v (runP l k pos) (ints (List.range' pos (runP l k pos))) M' ∧ So w0 w (M' ++ (b, cl (cutC iv (pos + runP l k pos) sp fv) 59) :: L) := by
  apply F54_ok
  unfold F54 F54.k1
  have := row_loop (b := b) (fv := fv) (sp := sp) (L := L) hi hl k hk (l.length - pos + 1) pos 0 (.slice none 0 0) [] [] w (by omega) hp rfl (by omega) (OwnS.nil _ _ _) (by simpa using h)
  simp only [Nat.zero_add, List.nil_append] at this
  exact ⟨_, this⟩
end
end Go.Proofs.Ytlmcppbpobnfjaa

