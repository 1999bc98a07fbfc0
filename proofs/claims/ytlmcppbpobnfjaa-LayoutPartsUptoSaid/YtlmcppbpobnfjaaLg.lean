/-
  Layout: the cutter goes through the whole; read.
-/
import Derived.Test.YtlmcppbpobnfjaaLf
namespace Go.Proofs.Ytlmcppbpobnfjaa
open Go Go.Vc
set_option linter.unusedSimpArgs false
set_option linter.unusedVariables false
set_option maxRecDepth 20000

section
variable {w0 : World} {L : List (Nat × Obj)} {iv : Value} {l : List Inst} {b p0 : Nat} {sp : List Value}
theorem cut_funs (hi : InstsAt w0 iv l) (hl : l.length ≤ 1099511627776) (hs : sp.length = 20) :
    ∀ (n pos : Nat) (fs : List PFun) (fv : Value) (css : List (List Value)) (Mf Ms : List (Nat × Obj)) (w : World), l.length - pos ≤ n → pos ≤ l.length → fs.length ≤ pos →
      (∀ r e fs', CutR l none fs pos r e fs' → CutR l none [] p0 r e fs') →
      OwnS w0.heap.size 96 5 fv fs.length css.flatten Mf → FunsC w0.heap.size fs css Ms → So w0 w ((b, cl (cutC iv pos sp fv) 59) :: (Mf ++ (Ms ++ L))) →
      F36.k6 (CutQ w0 L iv sp l b p0) (F36.g1 (CutQ w0 L iv sp l b p0) n) (.pointer (some ⟨b, 0, none⟩)) w := by
  intro n
  induction n with
  | zero =>
    intro pos fs fv css Mf Ms w hn hp hfl hr hof hfc h
    have hpe : pos = l.length := by omega
    unfold F36.k6
    refine Cx.mono (c_next hi hp hl h) fun v w hv => ?_
    obtain ⟨rfl, h⟩ := hv
    have hm1 : nextP l pos = -1 := by unfold nextP; rw [hpe, List.getElem?_eq_none (Nat.le_refl _)]
    try simp (disch := omega) only [cnd_bool, on_some_eq, Dr_eq, xNil_ptr, xNil_func, xNil_yield, xPick_bool, unw_nil, xRes_ptr, xUn_not, xUn_neg, xEx_tuple, xBin_add, xBin_sub, xBin_mul, xBin_eql, xBin_neq, xBin_lss, xBin_leq, xBin_gtr, xBin_geq, xBin_eqls, xBin_neqs, wI64, oCell_some, List.getElem?_toArray, List.getElem?_cons_zero, List.getElem?_cons_succ, Nat.zero_add, Bool.not_true, Bool.not_false, if_true, if_false, ite_true, ite_false, beq_iff_eq, bne_iff_ne, decide_eq_true_eq, ne_eq, Bool.false_eq_true, Bool.true_eq_false, reduceIte, Option.some.injEq, Int.toNat_natCast, beq_self_eq_true, bne_self_eq_false, Value.cells, splice, List.setIfInBounds_toArray, List.set_cons_zero, List.set_cons_succ, List.size_toArray, List.length_cons, List.length_nil, and_self, Nat.reduceLeDiff, Nat.reduceAdd, Nat.reduceMul, Int.reduceToNat, Int.reduceLT, Int.reduceLE, Int.reduceGT, Int.reduceGE, Int.reduceAdd, Int.reduceSub, Int.reduceMul, Int.reduceNeg, Int.reduceEq, Int.reduceNe, true_and, and_true, Int.cast_ofNat_Int, Nat.le_refl, ld3, ld22, ld23, ln23, ia23, ld27, bd27_0_1, ld28, ia28, bd28, ld40, ln40, ia40, ld53, fa53_0, fa53_1, fa53_2, fa53_3, ld57, ln57, ia57, ld59, fa59_0, fa59_1, fa59_2, fa59_3, bd59_0, ld94, ln94, ia94, ld96, fa96_2, fa96_3, fa96_4, bd96_0_1, eql54_n, eql54_s, ow2, ow3, ow4, ow5, ow6, ow8, ow11, ow20, ow23]
    rw [if_pos (by omega)]
    exact ⟨true, pos, fs, fv, css, Mf, Ms, hr _ _ _ (.done (by omega)), rfl, hp, by omega, hof, hfc, h⟩
  | succ n ih =>
    intro pos fs fv css Mf Ms w hn hp hfl hr hof hfc h
    unfold F36.k6
    refine Cx.mono (c_next hi hp hl h) fun v w hv => ?_
    obtain ⟨rfl, h⟩ := hv
    try simp (disch := omega) only [cnd_bool, on_some_eq, Dr_eq, xNil_ptr, xNil_func, xNil_yield, xPick_bool, unw_nil, xRes_ptr, xUn_not, xUn_neg, xEx_tuple, xBin_add, xBin_sub, xBin_mul, xBin_eql, xBin_neq, xBin_lss, xBin_leq, xBin_gtr, xBin_geq, xBin_eqls, xBin_neqs, wI64, oCell_some, List.getElem?_toArray, List.getElem?_cons_zero, List.getElem?_cons_succ, Nat.zero_add, Bool.not_true, Bool.not_false, if_true, if_false, ite_true, ite_false, beq_iff_eq, bne_iff_ne, decide_eq_true_eq, ne_eq, Bool.false_eq_true, Bool.true_eq_false, reduceIte, Option.some.injEq, Int.toNat_natCast, beq_self_eq_true, bne_self_eq_false, Value.cells, splice, List.setIfInBounds_toArray, List.set_cons_zero, List.set_cons_succ, List.size_toArray, List.length_cons, List.length_nil, and_self, Nat.reduceLeDiff, Nat.reduceAdd, Nat.reduceMul, Int.reduceToNat, Int.reduceLT, Int.reduceLE, Int.reduceGT, Int.reduceGE, Int.reduceAdd, Int.reduceSub, Int.reduceMul, Int.reduceNeg, Int.reduceEq, Int.reduceNe, true_and, and_true, Int.cast_ofNat_Int, Nat.le_refl, ld3, ld22, ld23, ln23, ia23, ld27, bd27_0_1, ld28, ia28, bd28, ld40, ln40, ia40, ld53, fa53_0, fa53_1, fa53_2, fa53_3, ld57, ln57, ia57, ld59, fa59_0, fa59_1, fa59_2, fa59_3, bd59_0, ld94, ln94, ia94, ld96, fa96_2, fa96_3, fa96_4, bd96_0_1, eql54_n, eql54_s, ow2, ow3, ow4, ow5, ow6, ow8, ow11, ow20, ow23]
    by_cases hneg : nextP l pos < 0
    · rw [if_pos hneg]
      exact ⟨true, pos, fs, fv, css, Mf, Ms, hr _ _ _ (.done hneg), rfl, hp, by omega, hof, hfc, h⟩
    · rw [if_neg hneg]
      refine Cx.mono (c_next hi hp hl h) fun v w hv => ?_
      obtain ⟨rfl, h⟩ := hv
      try simp (disch := omega) only [cnd_bool, on_some_eq, Dr_eq, xNil_ptr, xNil_func, xNil_yield, xPick_bool, unw_nil, xRes_ptr, xUn_not, xUn_neg, xEx_tuple, xBin_add, xBin_sub, xBin_mul, xBin_eql, xBin_neq, xBin_lss, xBin_leq, xBin_gtr, xBin_geq, xBin_eqls, xBin_neqs, wI64, oCell_some, List.getElem?_toArray, List.getElem?_cons_zero, List.getElem?_cons_succ, Nat.zero_add, Bool.not_true, Bool.not_false, if_true, if_false, ite_true, ite_false, beq_iff_eq, bne_iff_ne, decide_eq_true_eq, ne_eq, Bool.false_eq_true, Bool.true_eq_false, reduceIte, Option.some.injEq, Int.toNat_natCast, beq_self_eq_true, bne_self_eq_false, Value.cells, splice, List.setIfInBounds_toArray, List.set_cons_zero, List.set_cons_succ, List.size_toArray, List.length_cons, List.length_nil, and_self, Nat.reduceLeDiff, Nat.reduceAdd, Nat.reduceMul, Int.reduceToNat, Int.reduceLT, Int.reduceLE, Int.reduceGT, Int.reduceGE, Int.reduceAdd, Int.reduceSub, Int.reduceMul, Int.reduceNeg, Int.reduceEq, Int.reduceNe, true_and, and_true, Int.cast_ofNat_Int, Nat.le_refl, ld3, ld22, ld23, ln23, ia23, ld27, bd27_0_1, ld28, ia28, bd28, ld40, ln40, ia40, ld53, fa53_0, fa53_1, fa53_2, fa53_3, ld57, ln57, ia57, ld59, fa59_0, fa59_1, fa59_2, fa59_3, bd59_0, ld94, ln94, ia94, ld96, fa96_2, fa96_3, fa96_4, bd96_0_1, eql54_n, eql54_s, ow2, ow3, ow4, ow5, ow6, ow8, ow11, ow20, ow23]
      by_cases h1 : nextP l pos = 1
      · rw [if_neg (by omega)]
        have hlt := nextP_lt (l := l) (pos := pos) (by rw [h1]; decide)
        try rw [Dr_eq]
        have h := h.drew
        have hf := h.facts
        simp only [Facts] at hf
        have hel : (l.map Inst.c)[pos]? = some (l[pos].c) := by simp [hlt]
        have rd : ∀ (w : World) (K : List (Nat × Obj)), So w0 w K → ∃ g o, (∀ k : IntKind, xIA P 23 iv (.int k (pos : Int)) = some (.pointer (some ⟨g, o, none⟩))) ∧ oCell w.heap[g]? (o + 2) = some (.int .u32 (resAt l pos)) := by
          intro w K hso
          obtain ⟨g, o, h1, h2, h3⟩ := (hi.1.go hso).get sl23 (pos : Int) rfl hel
          refine ⟨g, o, h1, ?_⟩
          rw [h3 2 (by omega)]
          unfold resAt
          rw [List.getElem?_eq_getElem hlt]; rfl
        obtain ⟨g, o, k1, k4⟩ := rd _ _ h
        try simp (disch := omega) only [cnd_bool, on_some_eq, Dr_eq, xNil_ptr, xNil_func, xNil_yield, xPick_bool, unw_nil, xRes_ptr, xUn_not, xUn_neg, xEx_tuple, xBin_add, xBin_sub, xBin_mul, xBin_eql, xBin_neq, xBin_lss, xBin_leq, xBin_gtr, xBin_geq, xBin_eqls, xBin_neqs, wI64, oCell_some, List.getElem?_toArray, List.getElem?_cons_zero, List.getElem?_cons_succ, Nat.zero_add, Bool.not_true, Bool.not_false, if_true, if_false, ite_true, ite_false, beq_iff_eq, bne_iff_ne, decide_eq_true_eq, ne_eq, Bool.false_eq_true, Bool.true_eq_false, reduceIte, Option.some.injEq, Int.toNat_natCast, beq_self_eq_true, bne_self_eq_false, Value.cells, splice, List.setIfInBounds_toArray, List.set_cons_zero, List.set_cons_succ, List.size_toArray, List.length_cons, List.length_nil, and_self, Nat.reduceLeDiff, Nat.reduceAdd, Nat.reduceMul, Int.reduceToNat, Int.reduceLT, Int.reduceLE, Int.reduceGT, Int.reduceGE, Int.reduceAdd, Int.reduceSub, Int.reduceMul, Int.reduceNeg, Int.reduceEq, Int.reduceNe, true_and, and_true, Int.cast_ofNat_Int, Nat.le_refl, hf, ld3, ld22, ld23, ln23, ia23, ld27, bd27_0_1, ld28, ia28, bd28, ld40, ln40, ia40, ld53, fa53_0, fa53_1, fa53_2, fa53_3, ld57, ln57, ia57, ld59, fa59_0, fa59_1, fa59_2, fa59_3, bd59_0, ld94, ln94, ia94, ld96, fa96_2, fa96_3, fa96_4, bd96_0_1, eql54_n, eql54_s, ow2, ow3, ow4, ow5, ow6, ow8, ow11, ow20, ow23, cutC_0, cutC_1, k1, k4]
        refine al96 h fun bf w h => ?_
        try simp only [Facts, and_true, Value.cells, List.setIfInBounds_toArray, List.set_cons_zero, List.set_cons_succ, splice, Nat.zero_add, Nat.reduceAdd, List.cons_append, List.nil_append] at h
        have hf := h.facts
        simp only [Facts, and_true, Value.cells, List.setIfInBounds_toArray, List.set_cons_zero, List.set_cons_succ, splice, Nat.zero_add, Nat.reduceAdd, List.cons_append, List.nil_append] at hf
        obtain ⟨g', o', k1', k4'⟩ := rd _ _ h
        have e := (k1 .i64).symm.trans (k1' .i64)
        simp only [Option.some.injEq, Value.pointer.injEq, Addr.mk.injEq, and_true] at e
        obtain ⟨rfl, rfl⟩ := e
        try simp (disch := omega) only [cnd_bool, on_some_eq, Dr_eq, xNil_ptr, xNil_func, xNil_yield, xPick_bool, unw_nil, xRes_ptr, xUn_not, xUn_neg, xEx_tuple, xBin_add, xBin_sub, xBin_mul, xBin_eql, xBin_neq, xBin_lss, xBin_leq, xBin_gtr, xBin_geq, xBin_eqls, xBin_neqs, wI64, oCell_some, List.getElem?_toArray, List.getElem?_cons_zero, List.getElem?_cons_succ, Nat.zero_add, Bool.not_true, Bool.not_false, if_true, if_false, ite_true, ite_false, beq_iff_eq, bne_iff_ne, decide_eq_true_eq, ne_eq, Bool.false_eq_true, Bool.true_eq_false, reduceIte, Option.some.injEq, Int.toNat_natCast, beq_self_eq_true, bne_self_eq_false, Value.cells, splice, List.setIfInBounds_toArray, List.set_cons_zero, List.set_cons_succ, List.size_toArray, List.length_cons, List.length_nil, and_self, Nat.reduceLeDiff, Nat.reduceAdd, Nat.reduceMul, Int.reduceToNat, Int.reduceLT, Int.reduceLE, Int.reduceGT, Int.reduceGE, Int.reduceAdd, Int.reduceSub, Int.reduceMul, Int.reduceNeg, Int.reduceEq, Int.reduceNe, true_and, and_true, Int.cast_ofNat_Int, Nat.le_refl, hf, ld3, ld22, ld23, ln23, ia23, ld27, bd27_0_1, ld28, ia28, bd28, ld40, ln40, ia40, ld53, fa53_0, fa53_1, fa53_2, fa53_3, ld57, ln57, ia57, ld59, fa59_0, fa59_1, fa59_2, fa59_3, bd59_0, ld94, ln94, ia94, ld96, fa96_2, fa96_3, fa96_4, bd96_0_1, eql54_n, eql54_s, ow2, ow3, ow4, ow5, ow6, ow8, ow11, ow20, ow23, cutC_0, cutC_1, k1, k4']
        refine soStoreA ty96 0 h (fun w h => ?_) rfl rfl rfl rfl
        simp only [List.set_cons_zero] at h
        have h := h.swap
        have hf := h.facts
        simp only [Facts] at hf
        try simp (disch := omega) only [cnd_bool, on_some_eq, Dr_eq, xNil_ptr, xNil_func, xNil_yield, xPick_bool, unw_nil, xRes_ptr, xUn_not, xUn_neg, xEx_tuple, xBin_add, xBin_sub, xBin_mul, xBin_eql, xBin_neq, xBin_lss, xBin_leq, xBin_gtr, xBin_geq, xBin_eqls, xBin_neqs, wI64, oCell_some, List.getElem?_toArray, List.getElem?_cons_zero, List.getElem?_cons_succ, Nat.zero_add, Bool.not_true, Bool.not_false, if_true, if_false, ite_true, ite_false, beq_iff_eq, bne_iff_ne, decide_eq_true_eq, ne_eq, Bool.false_eq_true, Bool.true_eq_false, reduceIte, Option.some.injEq, Int.toNat_natCast, beq_self_eq_true, bne_self_eq_false, Value.cells, splice, List.setIfInBounds_toArray, List.set_cons_zero, List.set_cons_succ, List.size_toArray, List.length_cons, List.length_nil, and_self, Nat.reduceLeDiff, Nat.reduceAdd, Nat.reduceMul, Int.reduceToNat, Int.reduceLT, Int.reduceLE, Int.reduceGT, Int.reduceGE, Int.reduceAdd, Int.reduceSub, Int.reduceMul, Int.reduceNeg, Int.reduceEq, Int.reduceNe, true_and, and_true, Int.cast_ofNat_Int, Nat.le_refl, hf, ld3, ld22, ld23, ln23, ia23, ld27, bd27_0_1, ld28, ia28, bd28, ld40, ln40, ia40, ld53, fa53_0, fa53_1, fa53_2, fa53_3, ld57, ln57, ia57, ld59, fa59_0, fa59_1, fa59_2, fa59_3, bd59_0, ld94, ln94, ia94, ld96, fa96_2, fa96_3, fa96_4, bd96_0_1, eql54_n, eql54_s, ow2, ow3, ow4, ow5, ow6, ow8, ow11, ow20, ow23, cutC_1]
        refine soStore1 ty3 0 h (fun w h => ?_) rfl (by simp [cutC]) rfl
        simp only [List.set_cons_zero, List.set_cons_succ] at h
        rw [cutC_set1 _ _ (pos + 1) _ _ _ (by omega)] at h
        have hle := runP_le (l := l) (pos := pos + 1) 2 (by omega)
        refine Cx.mono (c_rowK hi (by omega) hl 2 (by decide) h) fun v w hv => ?_
        obtain ⟨Mp, hop, h⟩ := hv
        have hv1 : one1 v = true := by
          rcases hop.2 with ⟨e, _⟩ | ⟨_, _, _, e, _⟩ <;> rw [e] <;> rfl
        have h := h.perm (M := (b, cl (cutC iv (pos + 1 + runP l 2 (pos + 1)) sp fv) 59) :: (bf, cl #[.int .u32 (resAt l pos), .int .i64 (pos : Int), .slice none 0 0, .slice none 0 0, .int .i64 0] 96) :: ([] ++ (Mp ++ (Mf ++ (Ms ++ L))))) (perm_of fun c d ha hc h0 => by simp only [ha, hc, h0]; omega)
        try simp (disch := omega) only [cnd_bool, on_some_eq, Dr_eq, xNil_ptr, xNil_func, xNil_yield, xPick_bool, unw_nil, xRes_ptr, xUn_not, xUn_neg, xEx_tuple, xBin_add, xBin_sub, xBin_mul, xBin_eql, xBin_neq, xBin_lss, xBin_leq, xBin_gtr, xBin_geq, xBin_eqls, xBin_neqs, wI64, oCell_some, List.getElem?_toArray, List.getElem?_cons_zero, List.getElem?_cons_succ, Nat.zero_add, Bool.not_true, Bool.not_false, if_true, if_false, ite_true, ite_false, beq_iff_eq, bne_iff_ne, decide_eq_true_eq, ne_eq, Bool.false_eq_true, Bool.true_eq_false, reduceIte, Option.some.injEq, Int.toNat_natCast, beq_self_eq_true, bne_self_eq_false, Value.cells, splice, List.setIfInBounds_toArray, List.set_cons_zero, List.set_cons_succ, List.size_toArray, List.length_cons, List.length_nil, and_self, Nat.reduceLeDiff, Nat.reduceAdd, Nat.reduceMul, Int.reduceToNat, Int.reduceLT, Int.reduceLE, Int.reduceGT, Int.reduceGE, Int.reduceAdd, Int.reduceSub, Int.reduceMul, Int.reduceNeg, Int.reduceEq, Int.reduceNe, true_and, and_true, Int.cast_ofNat_Int, Nat.le_refl, ld3, ld22, ld23, ln23, ia23, ld27, bd27_0_1, ld28, ia28, bd28, ld40, ln40, ia40, ld53, fa53_0, fa53_1, fa53_2, fa53_3, ld57, ln57, ia57, ld59, fa59_0, fa59_1, fa59_2, fa59_3, bd59_0, ld94, ln94, ia94, ld96, fa96_2, fa96_3, fa96_4, bd96_0_1, eql54_n, eql54_s, ow2, ow3, ow4, ow5, ow6, ow8, ow11, ow20, ow23]
        refine soStore1 ty40 1 h (fun w h => ?_) rfl (by simp) hv1
        simp only [List.set_cons_zero, List.set_cons_succ, List.setIfInBounds_toArray] at h
        unfold F36.k3
        have hpar : (List.range' (pos + 1) (runP l 2 (pos + 1))).length = runP l 2 (pos + 1) := by simp
        refine ⟨l.length + 1, cut_blocks hi hl hs (pos1 := pos) hof hfc hfl ?_ (pv := v) (Mp := Mp) (l.length + 1) (pos + 1 + runP l 2 (pos + 1)) ⟨resAt l pos, pos, List.range' (pos + 1) (runP l 2 (pos + 1)), [], 0⟩ (.slice none 0 0) [] w (by omega) (by omega) hle (by simp) rfl (fun r e fs' hc => hr _ _ _ (.func h1 hc)) (by rw [hpar]; exact hop) (OwnS.nil _ _ _) h⟩
        intro pos' f fv' cs Mf' Ms' w hgt hle' hr' hof' hfc' h
        show F36.g1 _ (n + 1) _ w
        unfold F36.g1
        exact ih pos' (fs ++ [f]) fv' (css ++ [cs]) Mf' Ms' w (by omega) hle' (by simp; omega) hr' (by simpa using hof') hfc' h
      · rw [if_pos h1]
        exact ⟨false, pos, fs, fv, css, Mf, Ms, hr _ _ _ (.bad (by omega) h1), rfl, hp, by omega, hof, hfc, h⟩
/-- The spans behind top. -/
def spansP (l : List Inst) (sp : List Value) : List Value := setSp (setSp (topP l 8 0 0 sp).2.2 8 (topP l 8 0 0 sp).2.1 l.length) 9 l.length l.length
theorem topP_spans (l : List Inst) : ∀ (k p pos : Nat) (sp : List Value), pos ≤ l.length → (topP l k p pos sp).2.2.length = sp.length ∧ (topP l k p pos sp).2.1 ≤ l.length
  | 0, p, pos, sp, h => ⟨rfl, h⟩
  | k + 1, p, pos, sp, h => by
    unfold topP
    split
    · exact ⟨setSp_length .., h⟩
    · have := topP_spans l k (p + 1) (pos + advP l p pos) (setSp sp p pos (pos + advP l p pos)) (advP_le h)
      rw [setSp_length] at this
      exact this
/-- What cut leaves. -/
def CutA (w0 : World) (L : List (Nat × Obj)) (iv : Value) (sp : List Value) (l : List Inst) (b : Nat) (v : Value) (w : World) : Prop :=
  if (topP l 8 0 0 sp).1 = true then CutQ w0 L iv (spansP l sp) l b (topP l 8 0 0 sp).2.1 v w
  else v = .bool false ∧ ∃ fv, So w0 w ((b, cl (cutC iv (topP l 8 0 0 sp).2.1 (topP l 8 0 0 sp).2.2 fv) 59) :: L)
theorem c_cut (hi : InstsAt w0 iv l) (hl : l.length ≤ 1099511627776) (hs : sp.length = 20) {w : World} (h : So w0 w ((b, cl (cutC iv 0 sp (.slice none 0 0)) 59) :: L)) :
    Cx P 36 #[.pointer (some ⟨b, 0, none⟩)] w (CutA w0 L iv sp l b) := by
  apply F36_ok
  unfold F36 F36.k1
  refine ⟨l.length + 1, ?_⟩
  unfold F36.k2
  refine Cx.mono (c_top hi hl hs h) fun v w hv => ?_
  obtain ⟨rfl, h⟩ := hv
  have hts := topP_spans l 8 0 0 sp (Nat.zero_le _)
  try simp (disch := omega) only [cnd_bool, on_some_eq, Dr_eq, xNil_ptr, xNil_func, xNil_yield, xPick_bool, unw_nil, xRes_ptr, xUn_not, xUn_neg, xEx_tuple, xBin_add, xBin_sub, xBin_mul, xBin_eql, xBin_neq, xBin_lss, xBin_leq, xBin_gtr, xBin_geq, xBin_eqls, xBin_neqs, wI64, oCell_some, List.getElem?_toArray, List.getElem?_cons_zero, List.getElem?_cons_succ, Nat.zero_add, Bool.not_true, Bool.not_false, if_true, if_false, ite_true, ite_false, beq_iff_eq, bne_iff_ne, decide_eq_true_eq, ne_eq, Bool.false_eq_true, Bool.true_eq_false, reduceIte, Option.some.injEq, Int.toNat_natCast, beq_self_eq_true, bne_self_eq_false, Value.cells, splice, List.setIfInBounds_toArray, List.set_cons_zero, List.set_cons_succ, List.size_toArray, List.length_cons, List.length_nil, and_self, Nat.reduceLeDiff, Nat.reduceAdd, Nat.reduceMul, Int.reduceToNat, Int.reduceLT, Int.reduceLE, Int.reduceGT, Int.reduceGE, Int.reduceAdd, Int.reduceSub, Int.reduceMul, Int.reduceNeg, Int.reduceEq, Int.reduceNe, true_and, and_true, Int.cast_ofNat_Int, Nat.le_refl, ld3, ld22, ld23, ln23, ia23, ld27, bd27_0_1, ld28, ia28, bd28, ld40, ln40, ia40, ld53, fa53_0, fa53_1, fa53_2, fa53_3, ld57, ln57, ia57, ld59, fa59_0, fa59_1, fa59_2, fa59_3, bd59_0, ld94, ln94, ia94, ld96, fa96_2, fa96_3, fa96_4, bd96_0_1, eql54_n, eql54_s, ow2, ow3, ow4, ow5, ow6, ow8, ow11, ow20, ow23]
  unfold CutA
  cases ht : (topP l 8 0 0 sp).1 with
  | false =>
    simp only [Bool.not_false, if_true, Bool.false_eq_true, if_false]
    exact ⟨trivial, _, h⟩
  | true =>
    simp only [Bool.not_true, Bool.false_eq_true, if_false, if_true]
    generalize hpos : (topP l 8 0 0 sp).2.1 = pos at h hts
    generalize hsp : (topP l 8 0 0 sp).2.2 = sp1 at h hts
    have h20 : sp1.length = 20 := by rw [hts.1]; exact hs
    have hspans : spansP l sp = setSp (setSp sp1 8 pos l.length) 9 l.length l.length := by unfold spansP; rw [hpos, hsp]
    rw [hspans]
    try rw [Dr_eq]
    have h := h.drew
    have hf := h.facts
    simp only [Facts] at hf
    try simp (disch := omega) only [cnd_bool, on_some_eq, Dr_eq, xNil_ptr, xNil_func, xNil_yield, xPick_bool, unw_nil, xRes_ptr, xUn_not, xUn_neg, xEx_tuple, xBin_add, xBin_sub, xBin_mul, xBin_eql, xBin_neq, xBin_lss, xBin_leq, xBin_gtr, xBin_geq, xBin_eqls, xBin_neqs, wI64, oCell_some, List.getElem?_toArray, List.getElem?_cons_zero, List.getElem?_cons_succ, Nat.zero_add, Bool.not_true, Bool.not_false, if_true, if_false, ite_true, ite_false, beq_iff_eq, bne_iff_ne, decide_eq_true_eq, ne_eq, Bool.false_eq_true, Bool.true_eq_false, reduceIte, Option.some.injEq, Int.toNat_natCast, beq_self_eq_true, bne_self_eq_false, Value.cells, splice, List.setIfInBounds_toArray, List.set_cons_zero, List.set_cons_succ, List.size_toArray, List.length_cons, List.length_nil, and_self, Nat.reduceLeDiff, Nat.reduceAdd, Nat.reduceMul, Int.reduceToNat, Int.reduceLT, Int.reduceLE, Int.reduceGT, Int.reduceGE, Int.reduceAdd, Int.reduceSub, Int.reduceMul, Int.reduceNeg, Int.reduceEq, Int.reduceNe, true_and, and_true, Int.cast_ofNat_Int, Nat.le_refl, hf, ld3, ld22, ld23, ln23, ia23, ld27, bd27_0_1, ld28, ia28, bd28, ld40, ln40, ia40, ld53, fa53_0, fa53_1, fa53_2, fa53_3, ld57, ln57, ia57, ld59, fa59_0, fa59_1, fa59_2, fa59_3, bd59_0, ld94, ln94, ia94, ld96, fa96_2, fa96_3, fa96_4, bd96_0_1, eql54_n, eql54_s, ow2, ow3, ow4, ow5, ow6, ow8, ow11, ow20, ow23, cutC_0, cutC_1, Sl.len sl23 hi.1, List.length_map]
    refine soStoreN ty27 0 h (fun w h => ?_) rfl rfl (by rw [cutC_size _ _ h20]; decide) rfl
    simp only [List.set_cons_zero] at h
    rw [cutC_sp iv _ h20 _ 8 pos l.length (by omega) _ (by omega) _ _ rfl rfl] at h
    have h201 : (setSp sp1 8 pos l.length).length = 20 := by rw [setSp_length]; exact h20
    try rw [Dr_eq]
    have h := h.drew
    have hf := h.facts
    simp only [Facts] at hf
    try simp (disch := omega) only [cnd_bool, on_some_eq, Dr_eq, xNil_ptr, xNil_func, xNil_yield, xPick_bool, unw_nil, xRes_ptr, xUn_not, xUn_neg, xEx_tuple, xBin_add, xBin_sub, xBin_mul, xBin_eql, xBin_neq, xBin_lss, xBin_leq, xBin_gtr, xBin_geq, xBin_eqls, xBin_neqs, wI64, oCell_some, List.getElem?_toArray, List.getElem?_cons_zero, List.getElem?_cons_succ, Nat.zero_add, Bool.not_true, Bool.not_false, if_true, if_false, ite_true, ite_false, beq_iff_eq, bne_iff_ne, decide_eq_true_eq, ne_eq, Bool.false_eq_true, Bool.true_eq_false, reduceIte, Option.some.injEq, Int.toNat_natCast, beq_self_eq_true, bne_self_eq_false, Value.cells, splice, List.setIfInBounds_toArray, List.set_cons_zero, List.set_cons_succ, List.size_toArray, List.length_cons, List.length_nil, and_self, Nat.reduceLeDiff, Nat.reduceAdd, Nat.reduceMul, Int.reduceToNat, Int.reduceLT, Int.reduceLE, Int.reduceGT, Int.reduceGE, Int.reduceAdd, Int.reduceSub, Int.reduceMul, Int.reduceNeg, Int.reduceEq, Int.reduceNe, true_and, and_true, Int.cast_ofNat_Int, Nat.le_refl, hf, ld3, ld22, ld23, ln23, ia23, ld27, bd27_0_1, ld28, ia28, bd28, ld40, ln40, ia40, ld53, fa53_0, fa53_1, fa53_2, fa53_3, ld57, ln57, ia57, ld59, fa59_0, fa59_1, fa59_2, fa59_3, bd59_0, ld94, ln94, ia94, ld96, fa96_2, fa96_3, fa96_4, bd96_0_1, eql54_n, eql54_s, ow2, ow3, ow4, ow5, ow6, ow8, ow11, ow20, ow23, cutC_0, cutC_1, Sl.len sl23 hi.1, List.length_map]
    refine soStoreN ty27 0 h (fun w h => ?_) rfl rfl (by rw [cutC_size _ _ h201]; decide) rfl
    simp only [List.set_cons_zero] at h
    rw [cutC_sp iv _ h201 _ 9 l.length l.length (by omega) _ (by omega) _ _ rfl rfl] at h
    have h202 : (setSp (setSp sp1 8 pos l.length) 9 l.length l.length).length = 20 := by rw [setSp_length]; exact h201
    have hfc : FunsC w0.heap.size [] [] [] := ⟨rfl, by simp, by simp⟩
    have := cut_funs (p0 := pos) (L := L) (b := b) (w0 := w0) hi hl h202 (l.length + 1) pos [] (.slice none 0 0) [] [] [] w (by omega) hts.2 (Nat.zero_le _) (fun _ _ _ hc => hc) (OwnS.nil _ _ _) hfc h
    unfold F36.k6 at this
    try simp (disch := omega) only [cnd_bool, on_some_eq, Dr_eq, xNil_ptr, xNil_func, xNil_yield, xPick_bool, unw_nil, xRes_ptr, xUn_not, xUn_neg, xEx_tuple, xBin_add, xBin_sub, xBin_mul, xBin_eql, xBin_neq, xBin_lss, xBin_leq, xBin_gtr, xBin_geq, xBin_eqls, xBin_neqs, wI64, oCell_some, List.getElem?_toArray, List.getElem?_cons_zero, List.getElem?_cons_succ, Nat.zero_add, Bool.not_true, Bool.not_false, if_true, if_false, ite_true, ite_false, beq_iff_eq, bne_iff_ne, decide_eq_true_eq, ne_eq, Bool.false_eq_true, Bool.true_eq_false, reduceIte, Option.some.injEq, Int.toNat_natCast, beq_self_eq_true, bne_self_eq_false, Value.cells, splice, List.setIfInBounds_toArray, List.set_cons_zero, List.set_cons_succ, List.size_toArray, List.length_cons, List.length_nil, and_self, Nat.reduceLeDiff, Nat.reduceAdd, Nat.reduceMul, Int.reduceToNat, Int.reduceLT, Int.reduceLE, Int.reduceGT, Int.reduceGE, Int.reduceAdd, Int.reduceSub, Int.reduceMul, Int.reduceNeg, Int.reduceEq, Int.reduceNe, true_and, and_true, Int.cast_ofNat_Int, Nat.le_refl, ld3, ld22, ld23, ln23, ia23, ld27, bd27_0_1, ld28, ia28, bd28, ld40, ln40, ia40, ld53, fa53_0, fa53_1, fa53_2, fa53_3, ld57, ln57, ia57, ld59, fa59_0, fa59_1, fa59_2, fa59_3, bd59_0, ld94, ln94, ia94, ld96, fa96_2, fa96_3, fa96_4, bd96_0_1, eql54_n, eql54_s, ow2, ow3, ow4, ow5, ow6, ow8, ow11, ow20, ow23] at this
    try simp (disch := omega) only [cnd_bool, on_some_eq, Dr_eq, xNil_ptr, xNil_func, xNil_yield, xPick_bool, unw_nil, xRes_ptr, xUn_not, xUn_neg, xEx_tuple, xBin_add, xBin_sub, xBin_mul, xBin_eql, xBin_neq, xBin_lss, xBin_leq, xBin_gtr, xBin_geq, xBin_eqls, xBin_neqs, wI64, oCell_some, List.getElem?_toArray, List.getElem?_cons_zero, List.getElem?_cons_succ, Nat.zero_add, Bool.not_true, Bool.not_false, if_true, if_false, ite_true, ite_false, beq_iff_eq, bne_iff_ne, decide_eq_true_eq, ne_eq, Bool.false_eq_true, Bool.true_eq_false, reduceIte, Option.some.injEq, Int.toNat_natCast, beq_self_eq_true, bne_self_eq_false, Value.cells, splice, List.setIfInBounds_toArray, List.set_cons_zero, List.set_cons_succ, List.size_toArray, List.length_cons, List.length_nil, and_self, Nat.reduceLeDiff, Nat.reduceAdd, Nat.reduceMul, Int.reduceToNat, Int.reduceLT, Int.reduceLE, Int.reduceGT, Int.reduceGE, Int.reduceAdd, Int.reduceSub, Int.reduceMul, Int.reduceNeg, Int.reduceEq, Int.reduceNe, true_and, and_true, Int.cast_ofNat_Int, Nat.le_refl, ld3, ld22, ld23, ln23, ia23, ld27, bd27_0_1, ld28, ia28, bd28, ld40, ln40, ia40, ld53, fa53_0, fa53_1, fa53_2, fa53_3, ld57, ln57, ia57, ld59, fa59_0, fa59_1, fa59_2, fa59_3, bd59_0, ld94, ln94, ia94, ld96, fa96_2, fa96_3, fa96_4, bd96_0_1, eql54_n, eql54_s, ow2, ow3, ow4, ow5, ow6, ow8, ow11, ow20, ow23]
    exact this
end
end Go.Proofs.Ytlmcppbpobnfjaa

