/-
  code.raws, code.Shape.
-/
import Derived.Test.YtlmcppbpobnfjaaRg
namespace Go.Proofs.Ytlmcppbpobnfjaa
open Go Go.Vc
set_option linter.unusedSimpArgs false
set_option linter.unusedVariables false
set_option maxRecDepth 20000

/-- A module. -/
structure Modl where
  gen : Int
  bound : Int
  iv : Value
  insts : List Inst
def Modl.c (m : Modl) : Array Value := #[.int .u32 m.gen, .int .u32 m.bound, m.iv]
def Modl.v (m : Modl) : Value := .agg m.c
def spotV (x : Int × Int) : Value := .agg #[.int .i64 x.1, .int .i64 x.2]
/-- From the k-th instruction on, n words being ahead: what is wrong, and where. -/
def shapeL (bound : Int) : Nat → Nat → List Inst → Int × Int
  | _, _, [] => (0, 0)
  | k, n, i :: l => if rawE i bound ≠ 0 then (rawE i bound, (k : Int)) else if 1048576 < n + (1 + rawE.roomI i) then (4, (k : Int)) else shapeL bound (k + 1) (n + (1 + rawE.roomI i)) l
def shapeP (bound : Int) (l : List Inst) : Int × Int := if bound = 0 ∨ 65536 < bound then (24, 0) else shapeL bound 0 5 l

section
variable {w0 : World} {L : List (Nat × Obj)}
theorem c_size0 {w : World} (h : So w0 w L) : Cx P 66 #[.slice none 0 0] w fun v w => v = .tuple #[.int .i64 5, .int .i64 0] ∧ So w0 w L := by
  apply F66_ok
  unfold F66
  apply F88_ok
  unfold F88
  refine al31 h fun x3 w h => ?_
  try simp only [Facts, and_true, Value.cells, List.setIfInBounds_toArray, List.set_cons_zero, List.set_cons_succ, splice, Nat.zero_add, Nat.reduceAdd, List.cons_append, List.nil_append] at h
  have hf := h.facts
  simp only [Facts, and_true, Value.cells, List.setIfInBounds_toArray, List.set_cons_zero, List.set_cons_succ, splice, Nat.zero_add, Nat.reduceAdd, List.cons_append, List.nil_append] at hf
  unfold F88.k1
  try simp (disch := omega) only [cnd_bool, on_some_eq, Dr_eq, xNil_ptr, xNil_func, xNil_yield, xPick_bool, unw_nil, xRes_ptr, xUn_not, xUn_neg, xEx_tuple, xBin_add, xBin_sub, xBin_mul, xBin_eql, xBin_neq, xBin_lss, xBin_leq, xBin_gtr, xBin_geq, xBin_eqls, xBin_neqs, wI64, oCell_some, List.getElem?_toArray, List.getElem?_cons_zero, List.getElem?_cons_succ, Nat.zero_add, Bool.not_true, Bool.not_false, if_true, if_false, ite_true, ite_false, beq_iff_eq, bne_iff_ne, decide_eq_true_eq, ne_eq, Bool.false_eq_true, Bool.true_eq_false, reduceIte, Option.some.injEq, Int.toNat_natCast, beq_self_eq_true, bne_self_eq_false, Value.cells, splice, List.setIfInBounds_toArray, List.set_cons_zero, List.set_cons_succ, List.size_toArray, List.length_cons, List.length_nil, and_self, Nat.reduceLeDiff, Nat.reduceAdd, Nat.reduceMul, Int.reduceToNat, Int.reduceLT, Int.reduceLE, Int.reduceGT, Int.reduceGE, Int.reduceAdd, Int.reduceSub, Int.reduceMul, Int.reduceNeg, Int.reduceEq, Int.reduceNe, true_and, and_true, Int.cast_ofNat_Int, Nat.le_refl, hf, ld3, ld22, ld23, ln23, ia23, ld25, fa25_1, fa25_2, ld29, ld31, fa31_0, bd31, bd31_0, bd31_0_1, ld51, ln51, ia51, ld53, fa53_0, fa53_1, fa53_2, fa53_3, ld91, ln91, ia91, ld113, ln113, ia113, ld115, fa115_1, bd115, bd115_0_1, ow2, ow3, ow4, ow5, ow6, ow8, ow11, ow20, ow23]
  unfold F88.k3
  refine ⟨1, ?_⟩
  unfold F88.l1
  try simp (disch := omega) only [cnd_bool, on_some_eq, Dr_eq, xNil_ptr, xNil_func, xNil_yield, xPick_bool, unw_nil, xRes_ptr, xUn_not, xUn_neg, xEx_tuple, xBin_add, xBin_sub, xBin_mul, xBin_eql, xBin_neq, xBin_lss, xBin_leq, xBin_gtr, xBin_geq, xBin_eqls, xBin_neqs, wI64, oCell_some, List.getElem?_toArray, List.getElem?_cons_zero, List.getElem?_cons_succ, Nat.zero_add, Bool.not_true, Bool.not_false, if_true, if_false, ite_true, ite_false, beq_iff_eq, bne_iff_ne, decide_eq_true_eq, ne_eq, Bool.false_eq_true, Bool.true_eq_false, reduceIte, Option.some.injEq, Int.toNat_natCast, beq_self_eq_true, bne_self_eq_false, Value.cells, splice, List.setIfInBounds_toArray, List.set_cons_zero, List.set_cons_succ, List.size_toArray, List.length_cons, List.length_nil, and_self, Nat.reduceLeDiff, Nat.reduceAdd, Nat.reduceMul, Int.reduceToNat, Int.reduceLT, Int.reduceLE, Int.reduceGT, Int.reduceGE, Int.reduceAdd, Int.reduceSub, Int.reduceMul, Int.reduceNeg, Int.reduceEq, Int.reduceNe, true_and, and_true, Int.cast_ofNat_Int, Nat.le_refl, hf, ld3, ld22, ld23, ln23, ia23, ld25, fa25_1, fa25_2, ld29, ld31, fa31_0, bd31, bd31_0, bd31_0_1, ld51, ln51, ia51, ld53, fa53_0, fa53_1, fa53_2, fa53_3, ld91, ln91, ia91, ld113, ln113, ia113, ld115, fa115_1, bd115, bd115_0_1, ow2, ow3, ow4, ow5, ow6, ow8, ow11, ow20, ow23]
  unfold F88.k2
  try simp (disch := omega) only [cnd_bool, on_some_eq, Dr_eq, xNil_ptr, xNil_func, xNil_yield, xPick_bool, unw_nil, xRes_ptr, xUn_not, xUn_neg, xEx_tuple, xBin_add, xBin_sub, xBin_mul, xBin_eql, xBin_neq, xBin_lss, xBin_leq, xBin_gtr, xBin_geq, xBin_eqls, xBin_neqs, wI64, oCell_some, List.getElem?_toArray, List.getElem?_cons_zero, List.getElem?_cons_succ, Nat.zero_add, Bool.not_true, Bool.not_false, if_true, if_false, ite_true, ite_false, beq_iff_eq, bne_iff_ne, decide_eq_true_eq, ne_eq, Bool.false_eq_true, Bool.true_eq_false, reduceIte, Option.some.injEq, Int.toNat_natCast, beq_self_eq_true, bne_self_eq_false, Value.cells, splice, List.setIfInBounds_toArray, List.set_cons_zero, List.set_cons_succ, List.size_toArray, List.length_cons, List.length_nil, and_self, Nat.reduceLeDiff, Nat.reduceAdd, Nat.reduceMul, Int.reduceToNat, Int.reduceLT, Int.reduceLE, Int.reduceGT, Int.reduceGE, Int.reduceAdd, Int.reduceSub, Int.reduceMul, Int.reduceNeg, Int.reduceEq, Int.reduceNe, true_and, and_true, Int.cast_ofNat_Int, Nat.le_refl, hf, ld3, ld22, ld23, ln23, ia23, ld25, fa25_1, fa25_2, ld29, ld31, fa31_0, bd31, bd31_0, bd31_0_1, ld51, ln51, ia51, ld53, fa53_0, fa53_1, fa53_2, fa53_3, ld91, ln91, ia91, ld113, ln113, ia113, ld115, fa115_1, bd115, bd115_0_1, ow2, ow3, ow4, ow5, ow6, ow8, ow11, ow20, ow23]
  refine soStoreA ty31 0 h (fun w h => ?_) rfl rfl rfl rfl
  simp only [List.set_cons_zero] at h
  have hf := h.facts
  simp only [Facts] at hf
  try simp (disch := omega) only [cnd_bool, on_some_eq, Dr_eq, xNil_ptr, xNil_func, xNil_yield, xPick_bool, unw_nil, xRes_ptr, xUn_not, xUn_neg, xEx_tuple, xBin_add, xBin_sub, xBin_mul, xBin_eql, xBin_neq, xBin_lss, xBin_leq, xBin_gtr, xBin_geq, xBin_eqls, xBin_neqs, wI64, oCell_some, List.getElem?_toArray, List.getElem?_cons_zero, List.getElem?_cons_succ, Nat.zero_add, Bool.not_true, Bool.not_false, if_true, if_false, ite_true, ite_false, beq_iff_eq, bne_iff_ne, decide_eq_true_eq, ne_eq, Bool.false_eq_true, Bool.true_eq_false, reduceIte, Option.some.injEq, Int.toNat_natCast, beq_self_eq_true, bne_self_eq_false, Value.cells, splice, List.setIfInBounds_toArray, List.set_cons_zero, List.set_cons_succ, List.size_toArray, List.length_cons, List.length_nil, and_self, Nat.reduceLeDiff, Nat.reduceAdd, Nat.reduceMul, Int.reduceToNat, Int.reduceLT, Int.reduceLE, Int.reduceGT, Int.reduceGE, Int.reduceAdd, Int.reduceSub, Int.reduceMul, Int.reduceNeg, Int.reduceEq, Int.reduceNe, true_and, and_true, Int.cast_ofNat_Int, Nat.le_refl, hf, ld3, ld22, ld23, ln23, ia23, ld25, fa25_1, fa25_2, ld29, ld31, fa31_0, bd31, bd31_0, bd31_0_1, ld51, ln51, ia51, ld53, fa53_0, fa53_1, fa53_2, fa53_3, ld91, ln91, ia91, ld113, ln113, ia113, ld115, fa115_1, bd115, bd115_0_1, ow2, ow3, ow4, ow5, ow6, ow8, ow11, ow20, ow23]
  refine al31 h fun x5 w h => ?_
  try simp only [Facts, and_true, Value.cells, List.setIfInBounds_toArray, List.set_cons_zero, List.set_cons_succ, splice, Nat.zero_add, Nat.reduceAdd, List.cons_append, List.nil_append] at h
  have hf := h.facts
  simp only [Facts, and_true, Value.cells, List.setIfInBounds_toArray, List.set_cons_zero, List.set_cons_succ, splice, Nat.zero_add, Nat.reduceAdd, List.cons_append, List.nil_append] at hf
  refine soStoreA ty31 0 h (fun w h => ?_) rfl rfl rfl rfl
  simp only [List.set_cons_zero] at h
  have h := h.drew
  have hf := h.facts
  simp only [Facts] at hf
  try simp (disch := omega) only [cnd_bool, on_some_eq, Dr_eq, xNil_ptr, xNil_func, xNil_yield, xPick_bool, unw_nil, xRes_ptr, xUn_not, xUn_neg, xEx_tuple, xBin_add, xBin_sub, xBin_mul, xBin_eql, xBin_neq, xBin_lss, xBin_leq, xBin_gtr, xBin_geq, xBin_eqls, xBin_neqs, wI64, oCell_some, List.getElem?_toArray, List.getElem?_cons_zero, List.getElem?_cons_succ, Nat.zero_add, Bool.not_true, Bool.not_false, if_true, if_false, ite_true, ite_false, beq_iff_eq, bne_iff_ne, decide_eq_true_eq, ne_eq, Bool.false_eq_true, Bool.true_eq_false, reduceIte, Option.some.injEq, Int.toNat_natCast, beq_self_eq_true, bne_self_eq_false, Value.cells, splice, List.setIfInBounds_toArray, List.set_cons_zero, List.set_cons_succ, List.size_toArray, List.length_cons, List.length_nil, and_self, Nat.reduceLeDiff, Nat.reduceAdd, Nat.reduceMul, Int.reduceToNat, Int.reduceLT, Int.reduceLE, Int.reduceGT, Int.reduceGE, Int.reduceAdd, Int.reduceSub, Int.reduceMul, Int.reduceNeg, Int.reduceEq, Int.reduceNe, true_and, and_true, Int.cast_ofNat_Int, Nat.le_refl, hf, ld3, ld22, ld23, ln23, ia23, ld25, fa25_1, fa25_2, ld29, ld31, fa31_0, bd31, bd31_0, bd31_0_1, ld51, ln51, ia51, ld53, fa53_0, fa53_1, fa53_2, fa53_3, ld91, ln91, ia91, ld113, ln113, ia113, ld115, fa115_1, bd115, bd115_0_1, ow2, ow3, ow4, ow5, ow6, ow8, ow11, ow20, ow23]
  exact h.drop.drop
theorem raws_loop {x1 x3 : Nat} {m : Modl} {c3 : Array Value} (hc3 : c3.size = 2) (hi : InstsAt w0 m.iv m.insts) (hl : m.insts.length ≤ 1048576) (hz : ∀ i ∈ m.insts, SizedI i) :
    ∀ (q k n : Nat) (v : Value) (xs : List Value) (M : List (Nat × Obj)) (w : World), k + q = m.insts.length → n ≤ 1048576 → OwnS w0.heap.size 115 2 v k xs M →
      So w0 w (M ++ ((x1, cl m.c 25) :: (x3, cl c3 31) :: L)) →
      F51.l1 (fun v w => (∃ lv, v = .tuple #[lv, spotV (shapeL m.bound k n (m.insts.drop k))]) ∧ So w0 w L) (q + 1) (.pointer (some ⟨x1, 0, none⟩)) (.pointer (some ⟨x3, 0, none⟩)) (.int .i64 (1048576 - (n : Int))) v m.iv (.int .i64 (m.insts.length : Int)) (.int .i64 (k : Int)) w := by
  intro q
  induction q with
  | zero =>
    intro k n v xs M w hk hn ho h
    unfold F51.l1
    try simp (disch := omega) only [cnd_bool, on_some_eq, Dr_eq, xNil_ptr, xNil_func, xNil_yield, xPick_bool, unw_nil, xRes_ptr, xUn_not, xUn_neg, xEx_tuple, xBin_add, xBin_sub, xBin_mul, xBin_eql, xBin_neq, xBin_lss, xBin_leq, xBin_gtr, xBin_geq, xBin_eqls, xBin_neqs, wI64, oCell_some, List.getElem?_toArray, List.getElem?_cons_zero, List.getElem?_cons_succ, Nat.zero_add, Bool.not_true, Bool.not_false, if_true, if_false, ite_true, ite_false, beq_iff_eq, bne_iff_ne, decide_eq_true_eq, ne_eq, Bool.false_eq_true, Bool.true_eq_false, reduceIte, Option.some.injEq, Int.toNat_natCast, beq_self_eq_true, bne_self_eq_false, Value.cells, splice, List.setIfInBounds_toArray, List.set_cons_zero, List.set_cons_succ, List.size_toArray, List.length_cons, List.length_nil, and_self, Nat.reduceLeDiff, Nat.reduceAdd, Nat.reduceMul, Int.reduceToNat, Int.reduceLT, Int.reduceLE, Int.reduceGT, Int.reduceGE, Int.reduceAdd, Int.reduceSub, Int.reduceMul, Int.reduceNeg, Int.reduceEq, Int.reduceNe, true_and, and_true, Int.cast_ofNat_Int, Nat.le_refl, ld3, ld22, ld23, ln23, ia23, ld25, fa25_1, fa25_2, ld29, ld31, fa31_0, bd31, bd31_0, bd31_0_1, ld51, ln51, ia51, ld53, fa53_0, fa53_1, fa53_2, fa53_3, ld91, ln91, ia91, ld113, ln113, ia113, ld115, fa115_1, bd115, bd115_0_1, ow2, ow3, ow4, ow5, ow6, ow8, ow11, ow20, ow23]
    rw [if_neg (by omega), List.drop_of_length_le (by omega)]
    unfold F51.k4 shapeL
    try simp (disch := omega) only [cnd_bool, on_some_eq, Dr_eq, xNil_ptr, xNil_func, xNil_yield, xPick_bool, unw_nil, xRes_ptr, xUn_not, xUn_neg, xEx_tuple, xBin_add, xBin_sub, xBin_mul, xBin_eql, xBin_neq, xBin_lss, xBin_leq, xBin_gtr, xBin_geq, xBin_eqls, xBin_neqs, wI64, oCell_some, List.getElem?_toArray, List.getElem?_cons_zero, List.getElem?_cons_succ, Nat.zero_add, Bool.not_true, Bool.not_false, if_true, if_false, ite_true, ite_false, beq_iff_eq, bne_iff_ne, decide_eq_true_eq, ne_eq, Bool.false_eq_true, Bool.true_eq_false, reduceIte, Option.some.injEq, Int.toNat_natCast, beq_self_eq_true, bne_self_eq_false, Value.cells, splice, List.setIfInBounds_toArray, List.set_cons_zero, List.set_cons_succ, List.size_toArray, List.length_cons, List.length_nil, and_self, Nat.reduceLeDiff, Nat.reduceAdd, Nat.reduceMul, Int.reduceToNat, Int.reduceLT, Int.reduceLE, Int.reduceGT, Int.reduceGE, Int.reduceAdd, Int.reduceSub, Int.reduceMul, Int.reduceNeg, Int.reduceEq, Int.reduceNe, true_and, and_true, Int.cast_ofNat_Int, Nat.le_refl, ld3, ld22, ld23, ln23, ia23, ld25, fa25_1, fa25_2, ld29, ld31, fa31_0, bd31, bd31_0, bd31_0_1, ld51, ln51, ia51, ld53, fa53_0, fa53_1, fa53_2, fa53_3, ld91, ln91, ia91, ld113, ln113, ia113, ld115, fa115_1, bd115, bd115_0_1, ow2, ow3, ow4, ow5, ow6, ow8, ow11, ow20, ow23]
    refine soStoreA ty31 0 (h.perm (M := (x3, cl c3 31) :: (M ++ ((x1, cl m.c 25) :: L))) (perm_of fun c d ha hc h0 => by simp only [ha, hc, h0]; omega)) (fun w h => ?_) rfl rfl hc3 rfl
    simp only [List.set_cons_zero] at h
    have hf := h.facts
    simp only [Facts] at hf
    try simp (disch := omega) only [cnd_bool, on_some_eq, Dr_eq, xNil_ptr, xNil_func, xNil_yield, xPick_bool, unw_nil, xRes_ptr, xUn_not, xUn_neg, xEx_tuple, xBin_add, xBin_sub, xBin_mul, xBin_eql, xBin_neq, xBin_lss, xBin_leq, xBin_gtr, xBin_geq, xBin_eqls, xBin_neqs, wI64, oCell_some, List.getElem?_toArray, List.getElem?_cons_zero, List.getElem?_cons_succ, Nat.zero_add, Bool.not_true, Bool.not_false, if_true, if_false, ite_true, ite_false, beq_iff_eq, bne_iff_ne, decide_eq_true_eq, ne_eq, Bool.false_eq_true, Bool.true_eq_false, reduceIte, Option.some.injEq, Int.toNat_natCast, beq_self_eq_true, bne_self_eq_false, Value.cells, splice, List.setIfInBounds_toArray, List.set_cons_zero, List.set_cons_succ, List.size_toArray, List.length_cons, List.length_nil, and_self, Nat.reduceLeDiff, Nat.reduceAdd, Nat.reduceMul, Int.reduceToNat, Int.reduceLT, Int.reduceLE, Int.reduceGT, Int.reduceGE, Int.reduceAdd, Int.reduceSub, Int.reduceMul, Int.reduceNeg, Int.reduceEq, Int.reduceNe, true_and, and_true, Int.cast_ofNat_Int, Nat.le_refl, hf, ld3, ld22, ld23, ln23, ia23, ld25, fa25_1, fa25_2, ld29, ld31, fa31_0, bd31, bd31_0, bd31_0_1, ld51, ln51, ia51, ld53, fa53_0, fa53_1, fa53_2, fa53_3, ld91, ln91, ia91, ld113, ln113, ia113, ld115, fa115_1, bd115, bd115_0_1, ow2, ow3, ow4, ow5, ow6, ow8, ow11, ow20, ow23]
    exact ⟨⟨v, rfl⟩, h.drop.drops.drop⟩
  | succ q ih =>
    intro k n v xs M w hk hn ho h
    have hlt : k < m.insts.length := by omega
    obtain ⟨g, o, k1, k2, k3⟩ := (hi.1.go h).get sl23 (k : Int) (i := k) (el := m.insts[k].c) rfl (by simp [hlt])
    rw [agg_c] at k2
    rw [List.drop_eq_getElem_cons hlt, shapeL]
    generalize hik : m.insts[k] = i at *
    have him : i ∈ m.insts := hik ▸ List.getElem_mem hlt
    generalize hsp : (if rawE i m.bound ≠ 0 then (rawE i m.bound, (k : Int)) else if 1048576 < n + (1 + rawE.roomI i) then (4, (k : Int)) else shapeL m.bound (k + 1) (n + (1 + rawE.roomI i)) (m.insts.drop (k + 1))) = sp
    unfold F51.l1
    try simp (disch := omega) only [cnd_bool, on_some_eq, Dr_eq, xNil_ptr, xNil_func, xNil_yield, xPick_bool, unw_nil, xRes_ptr, xUn_not, xUn_neg, xEx_tuple, xBin_add, xBin_sub, xBin_mul, xBin_eql, xBin_neq, xBin_lss, xBin_leq, xBin_gtr, xBin_geq, xBin_eqls, xBin_neqs, wI64, oCell_some, List.getElem?_toArray, List.getElem?_cons_zero, List.getElem?_cons_succ, Nat.zero_add, Bool.not_true, Bool.not_false, if_true, if_false, ite_true, ite_false, beq_iff_eq, bne_iff_ne, decide_eq_true_eq, ne_eq, Bool.false_eq_true, Bool.true_eq_false, reduceIte, Option.some.injEq, Int.toNat_natCast, beq_self_eq_true, bne_self_eq_false, Value.cells, splice, List.setIfInBounds_toArray, List.set_cons_zero, List.set_cons_succ, List.size_toArray, List.length_cons, List.length_nil, and_self, Nat.reduceLeDiff, Nat.reduceAdd, Nat.reduceMul, Int.reduceToNat, Int.reduceLT, Int.reduceLE, Int.reduceGT, Int.reduceGE, Int.reduceAdd, Int.reduceSub, Int.reduceMul, Int.reduceNeg, Int.reduceEq, Int.reduceNe, true_and, and_true, Int.cast_ofNat_Int, Nat.le_refl, ld3, ld22, ld23, ln23, ia23, ld25, fa25_1, fa25_2, ld29, ld31, fa31_0, bd31, bd31_0, bd31_0_1, ld51, ln51, ia51, ld53, fa53_0, fa53_1, fa53_2, fa53_3, ld91, ln91, ia91, ld113, ln113, ia113, ld115, fa115_1, bd115, bd115_0_1, ow2, ow3, ow4, ow5, ow6, ow8, ow11, ow20, ow23, k1, k2]
    rw [if_pos (by omega)]
    unfold Inst.v
    refine al53 h fun x8 w h => ?_
    try simp only [Facts, and_true, Value.cells, List.setIfInBounds_toArray, List.set_cons_zero, List.set_cons_succ, splice, Nat.zero_add, Nat.reduceAdd, List.cons_append, List.nil_append] at h
    have hf := h.facts
    simp only [Facts, and_true, Value.cells, List.setIfInBounds_toArray, List.set_cons_zero, List.set_cons_succ, splice, Nat.zero_add, Nat.reduceAdd, List.cons_append, List.nil_append] at hf
    have hav1 : one1 i.av = true := by obtain ⟨a, c, e⟩ := (hi.2 i him).shape; rw [e]; rfl
    refine soStoreA ty53 0 h (fun w h => ?_) rfl rfl rfl (by simp [hav1]; simp [one1])
    simp only [List.set_cons_zero] at h
    have hf := (h.perm (M := (x8, cl #[.int .u16 i.op, .int .u32 i.ty, .int .u32 i.res, i.av] 53) :: (x1, cl m.c 25) :: (M ++ ((x3, cl c3 31) :: L))) (perm_of fun c d ha hc h0 => by simp only [ha, hc, h0]; omega)).facts
    simp only [Facts, Modl.c] at hf
    try simp (disch := omega) only [cnd_bool, on_some_eq, Dr_eq, xNil_ptr, xNil_func, xNil_yield, xPick_bool, unw_nil, xRes_ptr, xUn_not, xUn_neg, xEx_tuple, xBin_add, xBin_sub, xBin_mul, xBin_eql, xBin_neq, xBin_lss, xBin_leq, xBin_gtr, xBin_geq, xBin_eqls, xBin_neqs, wI64, oCell_some, List.getElem?_toArray, List.getElem?_cons_zero, List.getElem?_cons_succ, Nat.zero_add, Bool.not_true, Bool.not_false, if_true, if_false, ite_true, ite_false, beq_iff_eq, bne_iff_ne, decide_eq_true_eq, ne_eq, Bool.false_eq_true, Bool.true_eq_false, reduceIte, Option.some.injEq, Int.toNat_natCast, beq_self_eq_true, bne_self_eq_false, Value.cells, splice, List.setIfInBounds_toArray, List.set_cons_zero, List.set_cons_succ, List.size_toArray, List.length_cons, List.length_nil, and_self, Nat.reduceLeDiff, Nat.reduceAdd, Nat.reduceMul, Int.reduceToNat, Int.reduceLT, Int.reduceLE, Int.reduceGT, Int.reduceGE, Int.reduceAdd, Int.reduceSub, Int.reduceMul, Int.reduceNeg, Int.reduceEq, Int.reduceNe, true_and, and_true, Int.cast_ofNat_Int, Nat.le_refl, hf, ld3, ld22, ld23, ln23, ia23, ld25, fa25_1, fa25_2, ld29, ld31, fa31_0, bd31, bd31_0, bd31_0_1, ld51, ln51, ia51, ld53, fa53_0, fa53_1, fa53_2, fa53_3, ld91, ln91, ia91, ld113, ln113, ia113, ld115, fa115_1, bd115, bd115_0_1, ow2, ow3, ow4, ow5, ow6, ow8, ow11, ow20, ow23]
    refine Cx.mono (c_raw h i m.bound (hz i him) (hi.2 i him)) fun v2 w hv => ?_
    obtain ⟨op', a, c, rfl, h⟩ := hv
    have hroomI : (if rawE i m.bound = 0 then rawE.roomI i else 0) < 65535 := by
      by_cases he : rawE i m.bound = 0
      · rw [if_pos he]
        have := he
        unfold rawE at this
        repeat' split at this
        all_goals first | omega | skip
      · rw [if_neg he]; omega
    generalize hrr : (if rawE i m.bound = 0 then rawE.roomI i else 0) = rr at hroomI ⊢
    try simp (disch := omega) only [cnd_bool, on_some_eq, Dr_eq, xNil_ptr, xNil_func, xNil_yield, xPick_bool, unw_nil, xRes_ptr, xUn_not, xUn_neg, xEx_tuple, xBin_add, xBin_sub, xBin_mul, xBin_eql, xBin_neq, xBin_lss, xBin_leq, xBin_gtr, xBin_geq, xBin_eqls, xBin_neqs, wI64, oCell_some, List.getElem?_toArray, List.getElem?_cons_zero, List.getElem?_cons_succ, Nat.zero_add, Bool.not_true, Bool.not_false, if_true, if_false, ite_true, ite_false, beq_iff_eq, bne_iff_ne, decide_eq_true_eq, ne_eq, Bool.false_eq_true, Bool.true_eq_false, reduceIte, Option.some.injEq, Int.toNat_natCast, beq_self_eq_true, bne_self_eq_false, Value.cells, splice, List.setIfInBounds_toArray, List.set_cons_zero, List.set_cons_succ, List.size_toArray, List.length_cons, List.length_nil, and_self, Nat.reduceLeDiff, Nat.reduceAdd, Nat.reduceMul, Int.reduceToNat, Int.reduceLT, Int.reduceLE, Int.reduceGT, Int.reduceGE, Int.reduceAdd, Int.reduceSub, Int.reduceMul, Int.reduceNeg, Int.reduceEq, Int.reduceNe, true_and, and_true, Int.cast_ofNat_Int, Nat.le_refl, ld3, ld22, ld23, ln23, ia23, ld25, fa25_1, fa25_2, ld29, ld31, fa31_0, bd31, bd31_0, bd31_0_1, ld51, ln51, ia51, ld53, fa53_0, fa53_1, fa53_2, fa53_3, ld91, ln91, ia91, ld113, ln113, ia113, ld115, fa115_1, bd115, bd115_0_1, ow2, ow3, ow4, ow5, ow6, ow8, ow11, ow20, ow23]
    refine al115 h fun x9 w h => ?_
    try simp only [Facts, and_true, Value.cells, List.setIfInBounds_toArray, List.set_cons_zero, List.set_cons_succ, splice, Nat.zero_add, Nat.reduceAdd, List.cons_append, List.nil_append] at h
    have hf := h.facts
    simp only [Facts, and_true, Value.cells, List.setIfInBounds_toArray, List.set_cons_zero, List.set_cons_succ, splice, Nat.zero_add, Nat.reduceAdd, List.cons_append, List.nil_append] at hf
    refine soStoreA ty115 0 h (fun w h => ?_) rfl rfl rfl rfl
    simp only [List.set_cons_zero] at h
    have hf := h.facts
    simp only [Facts] at hf
    try simp (disch := omega) only [cnd_bool, on_some_eq, Dr_eq, xNil_ptr, xNil_func, xNil_yield, xPick_bool, unw_nil, xRes_ptr, xUn_not, xUn_neg, xEx_tuple, xBin_add, xBin_sub, xBin_mul, xBin_eql, xBin_neq, xBin_lss, xBin_leq, xBin_gtr, xBin_geq, xBin_eqls, xBin_neqs, wI64, oCell_some, List.getElem?_toArray, List.getElem?_cons_zero, List.getElem?_cons_succ, Nat.zero_add, Bool.not_true, Bool.not_false, if_true, if_false, ite_true, ite_false, beq_iff_eq, bne_iff_ne, decide_eq_true_eq, ne_eq, Bool.false_eq_true, Bool.true_eq_false, reduceIte, Option.some.injEq, Int.toNat_natCast, beq_self_eq_true, bne_self_eq_false, Value.cells, splice, List.setIfInBounds_toArray, List.set_cons_zero, List.set_cons_succ, List.size_toArray, List.length_cons, List.length_nil, and_self, Nat.reduceLeDiff, Nat.reduceAdd, Nat.reduceMul, Int.reduceToNat, Int.reduceLT, Int.reduceLE, Int.reduceGT, Int.reduceGE, Int.reduceAdd, Int.reduceSub, Int.reduceMul, Int.reduceNeg, Int.reduceEq, Int.reduceNe, true_and, and_true, Int.cast_ofNat_Int, Nat.le_refl, hf, ld3, ld22, ld23, ln23, ia23, ld25, fa25_1, fa25_2, ld29, ld31, fa31_0, bd31, bd31_0, bd31_0_1, ld51, ln51, ia51, ld53, fa53_0, fa53_1, fa53_2, fa53_3, ld91, ln91, ia91, ld113, ln113, ia113, ld115, fa115_1, bd115, bd115_0_1, ow2, ow3, ow4, ow5, ow6, ow8, ow11, ow20, ow23]
    have hpm : So w0 w ((x3, cl c3 31) :: (x9, cl #[.int .u16 op', .slice a rr c] 115) :: (x8, cl #[.int .u16 i.op, .int .u32 i.ty, .int .u32 i.res, i.av] 53) :: (M ++ ((x1, cl m.c 25) :: L))) := h.perm (perm_of fun c d ha hc h0 => by simp only [ha, hc, h0]; omega)
    by_cases he : rawE i m.bound = 0
    · rw [if_neg (by simpa using he)]
      rw [if_neg (by simpa using he)] at hsp
      rw [if_pos he] at hrr
      by_cases hbig : 1048576 < n + (1 + rawE.roomI i)
      · rw [if_pos (by omega)]
        rw [if_pos hbig] at hsp
        subst hsp
        refine soStoreA ty31 0 hpm (fun w h => ?_) rfl rfl hc3 rfl
        simp only [List.set_cons_zero] at h
        have hf := h.facts
        simp only [Facts] at hf
        try simp (disch := omega) only [cnd_bool, on_some_eq, Dr_eq, xNil_ptr, xNil_func, xNil_yield, xPick_bool, unw_nil, xRes_ptr, xUn_not, xUn_neg, xEx_tuple, xBin_add, xBin_sub, xBin_mul, xBin_eql, xBin_neq, xBin_lss, xBin_leq, xBin_gtr, xBin_geq, xBin_eqls, xBin_neqs, wI64, oCell_some, List.getElem?_toArray, List.getElem?_cons_zero, List.getElem?_cons_succ, Nat.zero_add, Bool.not_true, Bool.not_false, if_true, if_false, ite_true, ite_false, beq_iff_eq, bne_iff_ne, decide_eq_true_eq, ne_eq, Bool.false_eq_true, Bool.true_eq_false, reduceIte, Option.some.injEq, Int.toNat_natCast, beq_self_eq_true, bne_self_eq_false, Value.cells, splice, List.setIfInBounds_toArray, List.set_cons_zero, List.set_cons_succ, List.size_toArray, List.length_cons, List.length_nil, and_self, Nat.reduceLeDiff, Nat.reduceAdd, Nat.reduceMul, Int.reduceToNat, Int.reduceLT, Int.reduceLE, Int.reduceGT, Int.reduceGE, Int.reduceAdd, Int.reduceSub, Int.reduceMul, Int.reduceNeg, Int.reduceEq, Int.reduceNe, true_and, and_true, Int.cast_ofNat_Int, Nat.le_refl, hf, ld3, ld22, ld23, ln23, ia23, ld25, fa25_1, fa25_2, ld29, ld31, fa31_0, bd31, bd31_0, bd31_0_1, ld51, ln51, ia51, ld53, fa53_0, fa53_1, fa53_2, fa53_3, ld91, ln91, ia91, ld113, ln113, ia113, ld115, fa115_1, bd115, bd115_0_1, ow2, ow3, ow4, ow5, ow6, ow8, ow11, ow20, ow23]
        exact ⟨⟨_, rfl⟩, h.drop.drop.drop.drops.drop⟩
      · rw [if_neg (by omega)]
        rw [if_neg hbig] at hsp
        subst hsp
        refine pu91 (h.drop.drop) ho rfl (by simp [one1, Value.cells]) (by omega) (by omega) fun v' M' w ho h => ?_
        have := ih (k + 1) (n + (1 + rawE.roomI i)) v' _ M' w (by omega) (by omega) ho h
        rw [show ((k + 1 : Nat) : Int) = (k : Int) + 1 by omega, show (1048576 : Int) - ((n + (1 + rawE.roomI i) : Nat) : Int) = 1048576 - (n : Int) - (1 + (rr : Int)) by omega] at this
        exact this
    · rw [if_pos he]
      rw [if_pos he] at hsp
      subst hsp
      refine soStoreA ty31 0 hpm (fun w h => ?_) rfl rfl hc3 rfl
      simp only [List.set_cons_zero] at h
      have hf := h.facts
      simp only [Facts] at hf
      try simp (disch := omega) only [cnd_bool, on_some_eq, Dr_eq, xNil_ptr, xNil_func, xNil_yield, xPick_bool, unw_nil, xRes_ptr, xUn_not, xUn_neg, xEx_tuple, xBin_add, xBin_sub, xBin_mul, xBin_eql, xBin_neq, xBin_lss, xBin_leq, xBin_gtr, xBin_geq, xBin_eqls, xBin_neqs, wI64, oCell_some, List.getElem?_toArray, List.getElem?_cons_zero, List.getElem?_cons_succ, Nat.zero_add, Bool.not_true, Bool.not_false, if_true, if_false, ite_true, ite_false, beq_iff_eq, bne_iff_ne, decide_eq_true_eq, ne_eq, Bool.false_eq_true, Bool.true_eq_false, reduceIte, Option.some.injEq, Int.toNat_natCast, beq_self_eq_true, bne_self_eq_false, Value.cells, splice, List.setIfInBounds_toArray, List.set_cons_zero, List.set_cons_succ, List.size_toArray, List.length_cons, List.length_nil, and_self, Nat.reduceLeDiff, Nat.reduceAdd, Nat.reduceMul, Int.reduceToNat, Int.reduceLT, Int.reduceLE, Int.reduceGT, Int.reduceGE, Int.reduceAdd, Int.reduceSub, Int.reduceMul, Int.reduceNeg, Int.reduceEq, Int.reduceNe, true_and, and_true, Int.cast_ofNat_Int, Nat.le_refl, hf, ld3, ld22, ld23, ln23, ia23, ld25, fa25_1, fa25_2, ld29, ld31, fa31_0, bd31, bd31_0, bd31_0_1, ld51, ln51, ia51, ld53, fa53_0, fa53_1, fa53_2, fa53_3, ld91, ln91, ia91, ld113, ln113, ia113, ld115, fa115_1, bd115, bd115_0_1, ow2, ow3, ow4, ow5, ow6, ow8, ow11, ow20, ow23]
      exact ⟨⟨_, rfl⟩, h.drop.drop.drop.drops.drop⟩

theorem c_raws {w : World} (h : So w0 w L) (m : Modl) (hi : InstsAt w0 m.iv m.insts) (hl : m.insts.length ≤ 1048576) (hz : ∀ i ∈ m.insts, SizedI i) :
    Cx P 51 #[m.v] w fun v w => (∃ lv, v = .tuple #[lv, spotV (shapeP m.bound m.insts)]) ∧ So w0 w L := by
  apply F51_ok
  unfold F51 Modl.v
  refine soBox h fun x1 w h => ?_
  have h : So w0 w ((x1, cl m.c 25) :: L) := h
  refine al31 h fun x3 w h => ?_
  have hf := h.facts
  simp only [Facts, Modl.c] at hf
  have k2 : ¬ (m.bound = 0 ∨ 65536 < m.bound) → F51.k2 (fun v w => (∃ lv, v = .tuple #[lv, spotV (shapeP m.bound m.insts)]) ∧ So w0 w L) (.pointer (some ⟨x1, 0, none⟩)) (.pointer (some ⟨x3, 0, none⟩)) w := by
    intro hb
    unfold F51.k2
    refine Cx.mono (c_size0 h) fun v w hv => ?_
    obtain ⟨rfl, h⟩ := hv
    try simp (disch := omega) only [cnd_bool, on_some_eq, Dr_eq, xNil_ptr, xNil_func, xNil_yield, xPick_bool, unw_nil, xRes_ptr, xUn_not, xUn_neg, xEx_tuple, xBin_add, xBin_sub, xBin_mul, xBin_eql, xBin_neq, xBin_lss, xBin_leq, xBin_gtr, xBin_geq, xBin_eqls, xBin_neqs, wI64, oCell_some, List.getElem?_toArray, List.getElem?_cons_zero, List.getElem?_cons_succ, Nat.zero_add, Bool.not_true, Bool.not_false, if_true, if_false, ite_true, ite_false, beq_iff_eq, bne_iff_ne, decide_eq_true_eq, ne_eq, Bool.false_eq_true, Bool.true_eq_false, reduceIte, Option.some.injEq, Int.toNat_natCast, beq_self_eq_true, bne_self_eq_false, Value.cells, splice, List.setIfInBounds_toArray, List.set_cons_zero, List.set_cons_succ, List.size_toArray, List.length_cons, List.length_nil, and_self, Nat.reduceLeDiff, Nat.reduceAdd, Nat.reduceMul, Int.reduceToNat, Int.reduceLT, Int.reduceLE, Int.reduceGT, Int.reduceGE, Int.reduceAdd, Int.reduceSub, Int.reduceMul, Int.reduceNeg, Int.reduceEq, Int.reduceNe, true_and, and_true, Int.cast_ofNat_Int, Nat.le_refl, ld3, ld22, ld23, ln23, ia23, ld25, fa25_1, fa25_2, ld29, ld31, fa31_0, bd31, bd31_0, bd31_0_1, ld51, ln51, ia51, ld53, fa53_0, fa53_1, fa53_2, fa53_3, ld91, ln91, ia91, ld113, ln113, ia113, ld115, fa115_1, bd115, bd115_0_1, ow2, ow3, ow4, ow5, ow6, ow8, ow11, ow20, ow23]
    unfold F51.k3
    have hf := h.facts
    simp only [Facts, Modl.c] at hf
    try simp (disch := omega) only [cnd_bool, on_some_eq, Dr_eq, xNil_ptr, xNil_func, xNil_yield, xPick_bool, unw_nil, xRes_ptr, xUn_not, xUn_neg, xEx_tuple, xBin_add, xBin_sub, xBin_mul, xBin_eql, xBin_neq, xBin_lss, xBin_leq, xBin_gtr, xBin_geq, xBin_eqls, xBin_neqs, wI64, oCell_some, List.getElem?_toArray, List.getElem?_cons_zero, List.getElem?_cons_succ, Nat.zero_add, Bool.not_true, Bool.not_false, if_true, if_false, ite_true, ite_false, beq_iff_eq, bne_iff_ne, decide_eq_true_eq, ne_eq, Bool.false_eq_true, Bool.true_eq_false, reduceIte, Option.some.injEq, Int.toNat_natCast, beq_self_eq_true, bne_self_eq_false, Value.cells, splice, List.setIfInBounds_toArray, List.set_cons_zero, List.set_cons_succ, List.size_toArray, List.length_cons, List.length_nil, and_self, Nat.reduceLeDiff, Nat.reduceAdd, Nat.reduceMul, Int.reduceToNat, Int.reduceLT, Int.reduceLE, Int.reduceGT, Int.reduceGE, Int.reduceAdd, Int.reduceSub, Int.reduceMul, Int.reduceNeg, Int.reduceEq, Int.reduceNe, true_and, and_true, Int.cast_ofNat_Int, Nat.le_refl, hf, ld3, ld22, ld23, ln23, ia23, ld25, fa25_1, fa25_2, ld29, ld31, fa31_0, bd31, bd31_0, bd31_0_1, ld51, ln51, ia51, ld53, fa53_0, fa53_1, fa53_2, fa53_3, ld91, ln91, ia91, ld113, ln113, ia113, ld115, fa115_1, bd115, bd115_0_1, ow2, ow3, ow4, ow5, ow6, ow8, ow11, ow20, ow23, Sl.len sl23 hi.1, List.length_map]
    unfold F51.k5
    have := raws_loop (m := m) (L := L) (c3 := #[.int .i64 0, .int .i64 0]) rfl hi hl hz m.insts.length 0 5 (.slice none 0 0) [] [] w (by omega) (by omega) (OwnS.nil _ _ _) (by simpa using h.swap)
    unfold shapeP
    rw [if_neg hb]
    rw [List.drop_zero] at this
    exact ⟨_, this⟩
  unfold F51.k1
  try simp (disch := omega) only [cnd_bool, on_some_eq, Dr_eq, xNil_ptr, xNil_func, xNil_yield, xPick_bool, unw_nil, xRes_ptr, xUn_not, xUn_neg, xEx_tuple, xBin_add, xBin_sub, xBin_mul, xBin_eql, xBin_neq, xBin_lss, xBin_leq, xBin_gtr, xBin_geq, xBin_eqls, xBin_neqs, wI64, oCell_some, List.getElem?_toArray, List.getElem?_cons_zero, List.getElem?_cons_succ, Nat.zero_add, Bool.not_true, Bool.not_false, if_true, if_false, ite_true, ite_false, beq_iff_eq, bne_iff_ne, decide_eq_true_eq, ne_eq, Bool.false_eq_true, Bool.true_eq_false, reduceIte, Option.some.injEq, Int.toNat_natCast, beq_self_eq_true, bne_self_eq_false, Value.cells, splice, List.setIfInBounds_toArray, List.set_cons_zero, List.set_cons_succ, List.size_toArray, List.length_cons, List.length_nil, and_self, Nat.reduceLeDiff, Nat.reduceAdd, Nat.reduceMul, Int.reduceToNat, Int.reduceLT, Int.reduceLE, Int.reduceGT, Int.reduceGE, Int.reduceAdd, Int.reduceSub, Int.reduceMul, Int.reduceNeg, Int.reduceEq, Int.reduceNe, true_and, and_true, Int.cast_ofNat_Int, Nat.le_refl, hf, ld3, ld22, ld23, ln23, ia23, ld25, fa25_1, fa25_2, ld29, ld31, fa31_0, bd31, bd31_0, bd31_0_1, ld51, ln51, ia51, ld53, fa53_0, fa53_1, fa53_2, fa53_3, ld91, ln91, ia91, ld113, ln113, ia113, ld115, fa115_1, bd115, bd115_0_1, ow2, ow3, ow4, ow5, ow6, ow8, ow11, ow20, ow23]
  have bad : (m.bound = 0 ∨ 65536 < m.bound) → F51.k6 (fun v w => (∃ lv, v = .tuple #[lv, spotV (shapeP m.bound m.insts)]) ∧ So w0 w L) (.pointer (some ⟨x1, 0, none⟩)) (.pointer (some ⟨x3, 0, none⟩)) (.bool true) w := by
    intro hb
    unfold F51.k6 shapeP
    rw [if_pos hb]
    try simp (disch := omega) only [cnd_bool, on_some_eq, Dr_eq, xNil_ptr, xNil_func, xNil_yield, xPick_bool, unw_nil, xRes_ptr, xUn_not, xUn_neg, xEx_tuple, xBin_add, xBin_sub, xBin_mul, xBin_eql, xBin_neq, xBin_lss, xBin_leq, xBin_gtr, xBin_geq, xBin_eqls, xBin_neqs, wI64, oCell_some, List.getElem?_toArray, List.getElem?_cons_zero, List.getElem?_cons_succ, Nat.zero_add, Bool.not_true, Bool.not_false, if_true, if_false, ite_true, ite_false, beq_iff_eq, bne_iff_ne, decide_eq_true_eq, ne_eq, Bool.false_eq_true, Bool.true_eq_false, reduceIte, Option.some.injEq, Int.toNat_natCast, beq_self_eq_true, bne_self_eq_false, Value.cells, splice, List.setIfInBounds_toArray, List.set_cons_zero, List.set_cons_succ, List.size_toArray, List.length_cons, List.length_nil, and_self, Nat.reduceLeDiff, Nat.reduceAdd, Nat.reduceMul, Int.reduceToNat, Int.reduceLT, Int.reduceLE, Int.reduceGT, Int.reduceGE, Int.reduceAdd, Int.reduceSub, Int.reduceMul, Int.reduceNeg, Int.reduceEq, Int.reduceNe, true_and, and_true, Int.cast_ofNat_Int, Nat.le_refl, ld3, ld22, ld23, ln23, ia23, ld25, fa25_1, fa25_2, ld29, ld31, fa31_0, bd31, bd31_0, bd31_0_1, ld51, ln51, ia51, ld53, fa53_0, fa53_1, fa53_2, fa53_3, ld91, ln91, ia91, ld113, ln113, ia113, ld115, fa115_1, bd115, bd115_0_1, ow2, ow3, ow4, ow5, ow6, ow8, ow11, ow20, ow23]
    refine soStoreA ty31 0 h (fun w h => ?_) rfl rfl rfl rfl
    simp only [List.set_cons_zero] at h
    have hf := h.facts
    simp only [Facts] at hf
    try simp (disch := omega) only [cnd_bool, on_some_eq, Dr_eq, xNil_ptr, xNil_func, xNil_yield, xPick_bool, unw_nil, xRes_ptr, xUn_not, xUn_neg, xEx_tuple, xBin_add, xBin_sub, xBin_mul, xBin_eql, xBin_neq, xBin_lss, xBin_leq, xBin_gtr, xBin_geq, xBin_eqls, xBin_neqs, wI64, oCell_some, List.getElem?_toArray, List.getElem?_cons_zero, List.getElem?_cons_succ, Nat.zero_add, Bool.not_true, Bool.not_false, if_true, if_false, ite_true, ite_false, beq_iff_eq, bne_iff_ne, decide_eq_true_eq, ne_eq, Bool.false_eq_true, Bool.true_eq_false, reduceIte, Option.some.injEq, Int.toNat_natCast, beq_self_eq_true, bne_self_eq_false, Value.cells, splice, List.setIfInBounds_toArray, List.set_cons_zero, List.set_cons_succ, List.size_toArray, List.length_cons, List.length_nil, and_self, Nat.reduceLeDiff, Nat.reduceAdd, Nat.reduceMul, Int.reduceToNat, Int.reduceLT, Int.reduceLE, Int.reduceGT, Int.reduceGE, Int.reduceAdd, Int.reduceSub, Int.reduceMul, Int.reduceNeg, Int.reduceEq, Int.reduceNe, true_and, and_true, Int.cast_ofNat_Int, Nat.le_refl, hf, ld3, ld22, ld23, ln23, ia23, ld25, fa25_1, fa25_2, ld29, ld31, fa31_0, bd31, bd31_0, bd31_0_1, ld51, ln51, ia51, ld53, fa53_0, fa53_1, fa53_2, fa53_3, ld91, ln91, ia91, ld113, ln113, ia113, ld115, fa115_1, bd115, bd115_0_1, ow2, ow3, ow4, ow5, ow6, ow8, ow11, ow20, ow23]
    exact ⟨⟨_, rfl⟩, h.drop.drop⟩
  by_cases h0 : m.bound = 0
  · rw [if_pos h0]
    exact bad (.inl h0)
  · rw [if_neg h0]
    by_cases hb : 65536 < m.bound
    · have : decide (m.bound > 65536) = true := by simpa using hb
      rw [this]
      exact bad (.inr hb)
    · have : decide (m.bound > 65536) = false := by simpa using hb
      rw [this]
      unfold F51.k6
      try simp (disch := omega) only [cnd_bool, on_some_eq, Dr_eq, xNil_ptr, xNil_func, xNil_yield, xPick_bool, unw_nil, xRes_ptr, xUn_not, xUn_neg, xEx_tuple, xBin_add, xBin_sub, xBin_mul, xBin_eql, xBin_neq, xBin_lss, xBin_leq, xBin_gtr, xBin_geq, xBin_eqls, xBin_neqs, wI64, oCell_some, List.getElem?_toArray, List.getElem?_cons_zero, List.getElem?_cons_succ, Nat.zero_add, Bool.not_true, Bool.not_false, if_true, if_false, ite_true, ite_false, beq_iff_eq, bne_iff_ne, decide_eq_true_eq, ne_eq, Bool.false_eq_true, Bool.true_eq_false, reduceIte, Option.some.injEq, Int.toNat_natCast, beq_self_eq_true, bne_self_eq_false, Value.cells, splice, List.setIfInBounds_toArray, List.set_cons_zero, List.set_cons_succ, List.size_toArray, List.length_cons, List.length_nil, and_self, Nat.reduceLeDiff, Nat.reduceAdd, Nat.reduceMul, Int.reduceToNat, Int.reduceLT, Int.reduceLE, Int.reduceGT, Int.reduceGE, Int.reduceAdd, Int.reduceSub, Int.reduceMul, Int.reduceNeg, Int.reduceEq, Int.reduceNe, true_and, and_true, Int.cast_ofNat_Int, Nat.le_refl, ld3, ld22, ld23, ln23, ia23, ld25, fa25_1, fa25_2, ld29, ld31, fa31_0, bd31, bd31_0, bd31_0_1, ld51, ln51, ia51, ld53, fa53_0, fa53_1, fa53_2, fa53_3, ld91, ln91, ia91, ld113, ln113, ia113, ld115, fa115_1, bd115, bd115_0_1, ow2, ow3, ow4, ow5, ow6, ow8, ow11, ow20, ow23]
      exact k2 (by omega)
theorem c_shape {w : World} (h : So w0 w L) (m : Modl) (hi : InstsAt w0 m.iv m.insts) (hl : m.insts.length ≤ 1048576) (hz : ∀ i ∈ m.insts, SizedI i) :
    Cx P 35 #[m.v] w fun v w => v = spotV (shapeP m.bound m.insts) ∧ So w0 w L := by
  apply F35_ok
  unfold F35
  unfold Modl.v
  refine soBox h fun x1 w h => ?_
  have h : So w0 w ((x1, cl m.c 25) :: L) := h
  refine al31 h fun x2 w h => ?_
  try simp only [Facts, and_true, Value.cells, List.setIfInBounds_toArray, List.set_cons_zero, List.set_cons_succ, splice, Nat.zero_add, Nat.reduceAdd, List.cons_append, List.nil_append] at h
  have hf := h.facts
  simp only [Facts, and_true, Value.cells, List.setIfInBounds_toArray, List.set_cons_zero, List.set_cons_succ, splice, Nat.zero_add, Nat.reduceAdd, List.cons_append, List.nil_append] at hf
  simp only [Modl.c] at hf
  try simp (disch := omega) only [cnd_bool, on_some_eq, Dr_eq, xNil_ptr, xNil_func, xNil_yield, xPick_bool, unw_nil, xRes_ptr, xUn_not, xUn_neg, xEx_tuple, xBin_add, xBin_sub, xBin_mul, xBin_eql, xBin_neq, xBin_lss, xBin_leq, xBin_gtr, xBin_geq, xBin_eqls, xBin_neqs, wI64, oCell_some, List.getElem?_toArray, List.getElem?_cons_zero, List.getElem?_cons_succ, Nat.zero_add, Bool.not_true, Bool.not_false, if_true, if_false, ite_true, ite_false, beq_iff_eq, bne_iff_ne, decide_eq_true_eq, ne_eq, Bool.false_eq_true, Bool.true_eq_false, reduceIte, Option.some.injEq, Int.toNat_natCast, beq_self_eq_true, bne_self_eq_false, Value.cells, splice, List.setIfInBounds_toArray, List.set_cons_zero, List.set_cons_succ, List.size_toArray, List.length_cons, List.length_nil, and_self, Nat.reduceLeDiff, Nat.reduceAdd, Nat.reduceMul, Int.reduceToNat, Int.reduceLT, Int.reduceLE, Int.reduceGT, Int.reduceGE, Int.reduceAdd, Int.reduceSub, Int.reduceMul, Int.reduceNeg, Int.reduceEq, Int.reduceNe, true_and, and_true, Int.cast_ofNat_Int, Nat.le_refl, hf, ld3, ld22, ld23, ln23, ia23, ld25, fa25_1, fa25_2, ld29, ld31, fa31_0, bd31, bd31_0, bd31_0_1, ld51, ln51, ia51, ld53, fa53_0, fa53_1, fa53_2, fa53_3, ld91, ln91, ia91, ld113, ln113, ia113, ld115, fa115_1, bd115, bd115_0_1, ow2, ow3, ow4, ow5, ow6, ow8, ow11, ow20, ow23]
  refine Cx.mono (c_raws h m hi hl hz) fun v w hv => ?_
  obtain ⟨⟨lv, rfl⟩, h⟩ := hv
  unfold spotV
  try simp (disch := omega) only [cnd_bool, on_some_eq, Dr_eq, xNil_ptr, xNil_func, xNil_yield, xPick_bool, unw_nil, xRes_ptr, xUn_not, xUn_neg, xEx_tuple, xBin_add, xBin_sub, xBin_mul, xBin_eql, xBin_neq, xBin_lss, xBin_leq, xBin_gtr, xBin_geq, xBin_eqls, xBin_neqs, wI64, oCell_some, List.getElem?_toArray, List.getElem?_cons_zero, List.getElem?_cons_succ, Nat.zero_add, Bool.not_true, Bool.not_false, if_true, if_false, ite_true, ite_false, beq_iff_eq, bne_iff_ne, decide_eq_true_eq, ne_eq, Bool.false_eq_true, Bool.true_eq_false, reduceIte, Option.some.injEq, Int.toNat_natCast, beq_self_eq_true, bne_self_eq_false, Value.cells, splice, List.setIfInBounds_toArray, List.set_cons_zero, List.set_cons_succ, List.size_toArray, List.length_cons, List.length_nil, and_self, Nat.reduceLeDiff, Nat.reduceAdd, Nat.reduceMul, Int.reduceToNat, Int.reduceLT, Int.reduceLE, Int.reduceGT, Int.reduceGE, Int.reduceAdd, Int.reduceSub, Int.reduceMul, Int.reduceNeg, Int.reduceEq, Int.reduceNe, true_and, and_true, Int.cast_ofNat_Int, Nat.le_refl, ld3, ld22, ld23, ln23, ia23, ld25, fa25_1, fa25_2, ld29, ld31, fa31_0, bd31, bd31_0, bd31_0_1, ld51, ln51, ia51, ld53, fa53_0, fa53_1, fa53_2, fa53_3, ld91, ln91, ia91, ld113, ln113, ia113, ld115, fa115_1, bd115, bd115_0_1, ow2, ow3, ow4, ow5, ow6, ow8, ow11, ow20, ow23]
  refine al31 h fun x4 w h => ?_
  try simp only [Facts, and_true, Value.cells, List.setIfInBounds_toArray, List.set_cons_zero, List.set_cons_succ, splice, Nat.zero_add, Nat.reduceAdd, List.cons_append, List.nil_append] at h
  have hf := h.facts
  simp only [Facts, and_true, Value.cells, List.setIfInBounds_toArray, List.set_cons_zero, List.set_cons_succ, splice, Nat.zero_add, Nat.reduceAdd, List.cons_append, List.nil_append] at hf
  refine soStoreA ty31 0 h (fun w h => ?_) rfl rfl rfl rfl
  simp only [List.set_cons_zero] at h
  have hf := h.facts
  simp only [Facts] at hf
  try simp (disch := omega) only [cnd_bool, on_some_eq, Dr_eq, xNil_ptr, xNil_func, xNil_yield, xPick_bool, unw_nil, xRes_ptr, xUn_not, xUn_neg, xEx_tuple, xBin_add, xBin_sub, xBin_mul, xBin_eql, xBin_neq, xBin_lss, xBin_leq, xBin_gtr, xBin_geq, xBin_eqls, xBin_neqs, wI64, oCell_some, List.getElem?_toArray, List.getElem?_cons_zero, List.getElem?_cons_succ, Nat.zero_add, Bool.not_true, Bool.not_false, if_true, if_false, ite_true, ite_false, beq_iff_eq, bne_iff_ne, decide_eq_true_eq, ne_eq, Bool.false_eq_true, Bool.true_eq_false, reduceIte, Option.some.injEq, Int.toNat_natCast, beq_self_eq_true, bne_self_eq_false, Value.cells, splice, List.setIfInBounds_toArray, List.set_cons_zero, List.set_cons_succ, List.size_toArray, List.length_cons, List.length_nil, and_self, Nat.reduceLeDiff, Nat.reduceAdd, Nat.reduceMul, Int.reduceToNat, Int.reduceLT, Int.reduceLE, Int.reduceGT, Int.reduceGE, Int.reduceAdd, Int.reduceSub, Int.reduceMul, Int.reduceNeg, Int.reduceEq, Int.reduceNe, true_and, and_true, Int.cast_ofNat_Int, Nat.le_refl, hf, ld3, ld22, ld23, ln23, ia23, ld25, fa25_1, fa25_2, ld29, ld31, fa31_0, bd31, bd31_0, bd31_0_1, ld51, ln51, ia51, ld53, fa53_0, fa53_1, fa53_2, fa53_3, ld91, ln91, ia91, ld113, ln113, ia113, ld115, fa115_1, bd115, bd115_0_1, ow2, ow3, ow4, ow5, ow6, ow8, ow11, ow20, ow23]
  refine soStoreA ty31 1 h (fun w h => ?_) rfl rfl rfl rfl
  simp only [List.set_cons_zero, List.set_cons_succ] at h
  have hf := h.facts
  simp only [Facts] at hf
  try simp (disch := omega) only [cnd_bool, on_some_eq, Dr_eq, xNil_ptr, xNil_func, xNil_yield, xPick_bool, unw_nil, xRes_ptr, xUn_not, xUn_neg, xEx_tuple, xBin_add, xBin_sub, xBin_mul, xBin_eql, xBin_neq, xBin_lss, xBin_leq, xBin_gtr, xBin_geq, xBin_eqls, xBin_neqs, wI64, oCell_some, List.getElem?_toArray, List.getElem?_cons_zero, List.getElem?_cons_succ, Nat.zero_add, Bool.not_true, Bool.not_false, if_true, if_false, ite_true, ite_false, beq_iff_eq, bne_iff_ne, decide_eq_true_eq, ne_eq, Bool.false_eq_true, Bool.true_eq_false, reduceIte, Option.some.injEq, Int.toNat_natCast, beq_self_eq_true, bne_self_eq_false, Value.cells, splice, List.setIfInBounds_toArray, List.set_cons_zero, List.set_cons_succ, List.size_toArray, List.length_cons, List.length_nil, and_self, Nat.reduceLeDiff, Nat.reduceAdd, Nat.reduceMul, Int.reduceToNat, Int.reduceLT, Int.reduceLE, Int.reduceGT, Int.reduceGE, Int.reduceAdd, Int.reduceSub, Int.reduceMul, Int.reduceNeg, Int.reduceEq, Int.reduceNe, true_and, and_true, Int.cast_ofNat_Int, Nat.le_refl, hf, ld3, ld22, ld23, ln23, ia23, ld25, fa25_1, fa25_2, ld29, ld31, fa31_0, bd31, bd31_0, bd31_0_1, ld51, ln51, ia51, ld53, fa53_0, fa53_1, fa53_2, fa53_3, ld91, ln91, ia91, ld113, ln113, ia113, ld115, fa115_1, bd115, bd115_0_1, ow2, ow3, ow4, ow5, ow6, ow8, ow11, ow20, ow23]
  exact h.drop.drop.drop
end
end Go.Proofs.Ytlmcppbpobnfjaa

