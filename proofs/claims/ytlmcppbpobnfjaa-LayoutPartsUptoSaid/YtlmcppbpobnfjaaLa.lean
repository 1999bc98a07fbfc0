/-
  Layout: what its small functions answer.
-/
import Derived.Test.YtlmcppbpobnfjaaDa
namespace Go.Proofs.Ytlmcppbpobnfjaa
open Go Go.Vc
set_option linter.unusedSimpArgs false
set_option linter.unusedVariables false
set_option maxRecDepth 20000
set_option maxRecDepth 10000
set_option linter.unusedSimpArgs false
set_option linter.unusedVariables false

/-- variable: is it one of a function? -/
def isVar (i : Inst) : Bool := match i.args with
  | a :: _ => i.op == 59 && a.n == 7
  | [] => false
theorem c_variable {w0 w : World} {L : List (Nat × Obj)} (h : So w0 w L) (i : Inst) (ha : ArgsAt w0 i) : Cx P 93 #[i.v] w fun v w => v = .bool (isVar i) ∧ So w0 w L := by
  apply F93_ok
  unfold F93 Inst.v
  refine soBox h fun b w h => ?_
  try simp only [Facts, and_true, Value.cells, List.setIfInBounds_toArray, List.set_cons_zero, List.set_cons_succ, splice, Nat.zero_add, Nat.reduceAdd, List.cons_append, List.nil_append] at h
  have hf := h.facts
  simp only [Facts, and_true, Value.cells, List.setIfInBounds_toArray, List.set_cons_zero, List.set_cons_succ, splice, Nat.zero_add, Nat.reduceAdd, List.cons_append, List.nil_append] at hf
  have ha' := ha.go h
  try simp (disch := omega) only [cnd_bool, on_some_eq, Dr_eq, xNil_ptr, xNil_func, xNil_yield, xPick_bool, unw_nil, xRes_ptr, xUn_not, xUn_neg, xEx_tuple, xBin_add, xBin_sub, xBin_mul, xBin_eql, xBin_neq, xBin_lss, xBin_leq, xBin_gtr, xBin_geq, xBin_eqls, xBin_neqs, wI64, oCell_some, List.getElem?_toArray, List.getElem?_cons_zero, List.getElem?_cons_succ, Nat.zero_add, Bool.not_true, Bool.not_false, if_true, if_false, ite_true, ite_false, beq_iff_eq, bne_iff_ne, decide_eq_true_eq, ne_eq, Bool.false_eq_true, Bool.true_eq_false, reduceIte, Option.some.injEq, Int.toNat_natCast, beq_self_eq_true, bne_self_eq_false, Value.cells, splice, List.setIfInBounds_toArray, List.set_cons_zero, List.set_cons_succ, List.size_toArray, List.length_cons, List.length_nil, and_self, Nat.reduceLeDiff, Nat.reduceAdd, Nat.reduceMul, Int.reduceToNat, Int.reduceLT, Int.reduceLE, Int.reduceGT, Int.reduceGE, Int.reduceAdd, Int.reduceSub, Int.reduceMul, Int.reduceNeg, Int.reduceEq, Int.reduceNe, true_and, and_true, Int.cast_ofNat_Int, Nat.le_refl, hf, ld3, ld22, ld50, ld51, ln51, ia51, ld53, fa53_0, fa53_1, fa53_2, fa53_3, ld75, fa75_0, fa75_1, fa75_2, ld94, ln94, ia94, ow2, ow3, ow4, ow5, ow6, ow8, ow11, ow20, ow23, Sl.len sl51 ha, List.length_map]
  unfold isVar
  cases hl : i.args with
  | nil => simp [h.drop]
  | cons a r =>
    obtain ⟨g, o, h1, h2, h3⟩ := ha'.get sl51 0 (i := 0) (el := a.c) rfl (by rw [hl]; rfl)
    have h4 := h3 1 (by omega)
    try simp (disch := omega) only [cnd_bool, on_some_eq, Dr_eq, xNil_ptr, xNil_func, xNil_yield, xPick_bool, unw_nil, xRes_ptr, xUn_not, xUn_neg, xEx_tuple, xBin_add, xBin_sub, xBin_mul, xBin_eql, xBin_neq, xBin_lss, xBin_leq, xBin_gtr, xBin_geq, xBin_eqls, xBin_neqs, wI64, oCell_some, List.getElem?_toArray, List.getElem?_cons_zero, List.getElem?_cons_succ, Nat.zero_add, Bool.not_true, Bool.not_false, if_true, if_false, ite_true, ite_false, beq_iff_eq, bne_iff_ne, decide_eq_true_eq, ne_eq, Bool.false_eq_true, Bool.true_eq_false, reduceIte, Option.some.injEq, Int.toNat_natCast, beq_self_eq_true, bne_self_eq_false, Value.cells, splice, List.setIfInBounds_toArray, List.set_cons_zero, List.set_cons_succ, List.size_toArray, List.length_cons, List.length_nil, and_self, Nat.reduceLeDiff, Nat.reduceAdd, Nat.reduceMul, Int.reduceToNat, Int.reduceLT, Int.reduceLE, Int.reduceGT, Int.reduceGE, Int.reduceAdd, Int.reduceSub, Int.reduceMul, Int.reduceNeg, Int.reduceEq, Int.reduceNe, true_and, and_true, Int.cast_ofNat_Int, Nat.le_refl, hf, ld3, ld22, ld50, ld51, ln51, ia51, ld53, fa53_0, fa53_1, fa53_2, fa53_3, ld75, fa75_0, fa75_1, fa75_2, ld94, ln94, ia94, ow2, ow3, ow4, ow5, ow6, ow8, ow11, ow20, ow23, h1, h4, Arg.c]
    split
    · split
      · simp_all [h.drop]
      · simp_all
    · simp_all [h.drop]

/-- may an ender stand behind a merge? -/
def mayP (m e : Int) : Bool := if e = 251 then m == 247 else if e = 249 then m == 246 else e == 250
theorem c_may {w0 w : World} {L : List (Nat × Obj)} (h : So w0 w L) (m e : Int) : Cx P 70 #[.int .u16 m, .int .u16 e] w fun v w => v = .bool (mayP m e) ∧ So w0 w L := by
  apply F70_ok
  unfold F70 mayP
  try simp (disch := omega) only [cnd_bool, on_some_eq, Dr_eq, xNil_ptr, xNil_func, xNil_yield, xPick_bool, unw_nil, xRes_ptr, xUn_not, xUn_neg, xEx_tuple, xBin_add, xBin_sub, xBin_mul, xBin_eql, xBin_neq, xBin_lss, xBin_leq, xBin_gtr, xBin_geq, xBin_eqls, xBin_neqs, wI64, oCell_some, List.getElem?_toArray, List.getElem?_cons_zero, List.getElem?_cons_succ, Nat.zero_add, Bool.not_true, Bool.not_false, if_true, if_false, ite_true, ite_false, beq_iff_eq, bne_iff_ne, decide_eq_true_eq, ne_eq, Bool.false_eq_true, Bool.true_eq_false, reduceIte, Option.some.injEq, Int.toNat_natCast, beq_self_eq_true, bne_self_eq_false, Value.cells, splice, List.setIfInBounds_toArray, List.set_cons_zero, List.set_cons_succ, List.size_toArray, List.length_cons, List.length_nil, and_self, Nat.reduceLeDiff, Nat.reduceAdd, Nat.reduceMul, Int.reduceToNat, Int.reduceLT, Int.reduceLE, Int.reduceGT, Int.reduceGE, Int.reduceAdd, Int.reduceSub, Int.reduceMul, Int.reduceNeg, Int.reduceEq, Int.reduceNe, true_and, and_true, Int.cast_ofNat_Int, Nat.le_refl, ld3, ld22, ld50, ld51, ln51, ia51, ld53, fa53_0, fa53_1, fa53_2, fa53_3, ld75, fa75_0, fa75_1, fa75_2, ld94, ln94, ia94, ow2, ow3, ow4, ow5, ow6, ow8, ow11, ow20, ow23]
  split
  · exact ⟨rfl, h⟩
  · split
    · exact ⟨rfl, h⟩
    · split <;> simp_all

/-- Ends -/
def endsP (op : Int) : Bool := decide (249 ≤ op ∧ op ≤ 255)
theorem c_ends {w0 w : World} {L : List (Nat × Obj)} (h : So w0 w L) (op : Int) : Cx P 94 #[.int .u16 op] w fun v w => v = .bool (endsP op) ∧ So w0 w L := by
  apply F94_ok
  unfold F94 endsP
  try simp (disch := omega) only [cnd_bool, on_some_eq, Dr_eq, xNil_ptr, xNil_func, xNil_yield, xPick_bool, unw_nil, xRes_ptr, xUn_not, xUn_neg, xEx_tuple, xBin_add, xBin_sub, xBin_mul, xBin_eql, xBin_neq, xBin_lss, xBin_leq, xBin_gtr, xBin_geq, xBin_eqls, xBin_neqs, wI64, oCell_some, List.getElem?_toArray, List.getElem?_cons_zero, List.getElem?_cons_succ, Nat.zero_add, Bool.not_true, Bool.not_false, if_true, if_false, ite_true, ite_false, beq_iff_eq, bne_iff_ne, decide_eq_true_eq, ne_eq, Bool.false_eq_true, Bool.true_eq_false, reduceIte, Option.some.injEq, Int.toNat_natCast, beq_self_eq_true, bne_self_eq_false, Value.cells, splice, List.setIfInBounds_toArray, List.set_cons_zero, List.set_cons_succ, List.size_toArray, List.length_cons, List.length_nil, and_self, Nat.reduceLeDiff, Nat.reduceAdd, Nat.reduceMul, Int.reduceToNat, Int.reduceLT, Int.reduceLE, Int.reduceGT, Int.reduceGE, Int.reduceAdd, Int.reduceSub, Int.reduceMul, Int.reduceNeg, Int.reduceEq, Int.reduceNe, true_and, and_true, Int.cast_ofNat_Int, Nat.le_refl, ld3, ld22, ld50, ld51, ln51, ia51, ld53, fa53_0, fa53_1, fa53_2, fa53_3, ld75, fa75_0, fa75_1, fa75_2, ld94, ln94, ia94, ow2, ow3, ow4, ow5, ow6, ow8, ow11, ow20, ow23]
  split <;> simp_all <;> omega
end Go.Proofs.Ytlmcppbpobnfjaa

