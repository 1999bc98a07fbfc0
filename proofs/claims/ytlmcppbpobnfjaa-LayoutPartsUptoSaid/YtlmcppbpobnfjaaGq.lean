/-
  Enumerants: grammar.Enum and ref03.Enum answer the same.
-/
import Derived.Test.YtlmcppbpobnfjaaGn
namespace Go.Proofs.Ytlmcppbpobnfjaa
open Go Go.Vc
set_option linter.unusedSimpArgs false
set_option linter.unusedVariables false
set_option maxRecDepth 20000

/-- What Enum answers. -/
def enumV (c n : Int) : Value := match enumOf c n with
  | some s => .tuple #[.string (bs s), .bool true]
  | none => .tuple #[.string (bs []), .bool false]
theorem c_enums {w0 w : World} {L : List (Nat × Obj)} (h : So w0 w L) (c : Int) : Cx P 124 #[.int .u8 c] w fun v w => ∃ x1, v = .func (.func 126) #[] #[.pointer (some ⟨x1, 0, none⟩)] ∧ So w0 w ((x1, cl #[.int .u8 c] 5) :: L) := by
  apply F124_ok
  unfold F124
  refine soBox h fun x1 w h => ⟨x1, rfl, h⟩
theorem c_enum {w0 w : World} {L : List (Nat × Obj)} (h : So w0 w L) (c n : Int) : Cx P 120 #[.int .u8 c, .int .u32 n] w fun v w => v = enumV c n ∧ So w0 w L := by
  apply F120_ok
  unfold F120
  refine soBox h fun x3 w h => ?_
  try simp only [Facts, and_true, Value.cells, List.setIfInBounds_toArray, List.set_cons_zero, List.set_cons_succ, splice, Nat.zero_add, Nat.reduceAdd, List.cons_append, List.nil_append] at h
  have hf := h.facts
  simp only [Facts, and_true, Value.cells, List.setIfInBounds_toArray, List.set_cons_zero, List.set_cons_succ, splice, Nat.zero_add, Nat.reduceAdd, List.cons_append, List.nil_append] at hf
  refine al9 h fun x4 w h => ?_
  try simp only [Facts, and_true, Value.cells, List.setIfInBounds_toArray, List.set_cons_zero, List.set_cons_succ, splice, Nat.zero_add, Nat.reduceAdd, List.cons_append, List.nil_append] at h
  have hf := h.facts
  simp only [Facts, and_true, Value.cells, List.setIfInBounds_toArray, List.set_cons_zero, List.set_cons_succ, splice, Nat.zero_add, Nat.reduceAdd, List.cons_append, List.nil_append] at hf
  refine al4 h fun x5 w h => ?_
  try simp only [Facts, and_true, Value.cells, List.setIfInBounds_toArray, List.set_cons_zero, List.set_cons_succ, splice, Nat.zero_add, Nat.reduceAdd, List.cons_append, List.nil_append] at h
  have hf := h.facts
  simp only [Facts, and_true, Value.cells, List.setIfInBounds_toArray, List.set_cons_zero, List.set_cons_succ, splice, Nat.zero_add, Nat.reduceAdd, List.cons_append, List.nil_append] at hf
  unfold F120.k1
  refine Cx.mono (c_enums h c) fun v w hv => ?_
  obtain ⟨x1, rfl, h⟩ := hv
  unfold F120.k3
  refine soRFo h fun d l w o ho h => ?_
  refine callF_func (by kernel_rfl) ?_
  show Cx P 126 #[.func (.yield l) #[] #[], .pointer (some ⟨x1, 0, none⟩)] w _
  apply F126_ok
  unfold F126
  have hf := h.facts
  simp only [Facts] at hf
  try simp (disch := omega) only [cnd_bool, on_some_eq, Dr_eq, xNil_ptr, xNil_func, xNil_yield, xPick_bool, unw_nil, xRes_ptr, xUn_not, xUn_neg, xEx_tuple, xBin_add, xBin_sub, xBin_mul, xBin_eql, xBin_neq, xBin_lss, xBin_leq, xBin_gtr, xBin_geq, xBin_eqls, xBin_neqs, wI64, oCell_some, List.getElem?_toArray, List.getElem?_cons_zero, List.getElem?_cons_succ, Nat.zero_add, Bool.not_true, Bool.not_false, if_true, if_false, ite_true, ite_false, beq_iff_eq, bne_iff_ne, decide_eq_true_eq, ne_eq, Bool.false_eq_true, Bool.true_eq_false, reduceIte, Option.some.injEq, Int.toNat_natCast, beq_self_eq_true, bne_self_eq_false, Value.cells, splice, List.setIfInBounds_toArray, List.set_cons_zero, List.set_cons_succ, List.size_toArray, List.length_cons, List.length_nil, and_self, Nat.reduceLeDiff, Nat.reduceAdd, Nat.reduceMul, Int.reduceToNat, Int.reduceLT, Int.reduceLE, Int.reduceGT, Int.reduceGE, Int.reduceAdd, Int.reduceSub, Int.reduceMul, Int.reduceNeg, Int.reduceEq, Int.reduceNe, true_and, and_true, Int.cast_ofNat_Int, Nat.le_refl, hf, ld3, ld4, ld5, ld9, ln9, ix9, ld21, ld22, ld120, fa120_2, bd120_0_1, ld157, ln157, ia157, ld160, fa160_0, fa160_1, fa160_2, bd160_0_1_2, neq4, ow2, ow3, ow4, ow5, ow6, ow8, ow11, ow20, ow23, cv21_22, cv5_22, cv5_3]
  refine Cx.mono (c_names h c) fun v w hv => ?_
  obtain ⟨rfl, h⟩ := hv
  refine soRangeS un9 h fun it w h => ?_
  unfold F126.k1
  have hlen : (namesOf c).length ≤ 1000 := by
    have : nameTexts.all (fun x => decide (x.2.length ≤ 1000)) = true := by decide +kernel
    rcases look_mem [] nameTexts c with h | ⟨p, hp, h⟩
    · have : namesOf c = [] := h
      rw [this]; simp
    · have e : namesOf c = p.2 := h.symm
      rw [e]; simpa using List.all_eq_true.1 this p hp
  refine ⟨_, enums_loop (L := L) (namesOf c) 0 0 [] false w o (by simp) (namesOf_ok c) (by simpa using hlen) ?_ ?_ ho h⟩
  · intro w o ho hfind h
    refine soRfEnd 1 h rfl ho rfl fun w o ho h => ?_
    simp only [List.set_cons_zero, List.set_cons_succ] at h
    show F120.k2 (fun v w => v = enumV c n ∧ So w0 w L) [d] (.pointer (some ⟨x4, 0, none⟩)) (.pointer (some ⟨x5, 0, none⟩)) w
    unfold F120.k2
    refine soStore1 ty9 4 h (fun w h => ?_) rfl (by simp) rfl
    simp only [List.set_cons_zero, List.set_cons_succ, List.setIfInBounds_toArray] at h
    refine soStore1 ty4 3 h (fun w h => ?_) rfl (by simp) rfl
    simp only [List.set_cons_zero, List.set_cons_succ, List.setIfInBounds_toArray] at h
    refine soUnw 0 h rfl fun w h => ?_
    simp only [List.set_cons_zero] at h
    have hf := h.facts
    simp only [Facts] at hf
    try simp (disch := omega) only [cnd_bool, on_some_eq, Dr_eq, xNil_ptr, xNil_func, xNil_yield, xPick_bool, unw_nil, xRes_ptr, xUn_not, xUn_neg, xEx_tuple, xBin_add, xBin_sub, xBin_mul, xBin_eql, xBin_neq, xBin_lss, xBin_leq, xBin_gtr, xBin_geq, xBin_eqls, xBin_neqs, wI64, oCell_some, List.getElem?_toArray, List.getElem?_cons_zero, List.getElem?_cons_succ, Nat.zero_add, Bool.not_true, Bool.not_false, if_true, if_false, ite_true, ite_false, beq_iff_eq, bne_iff_ne, decide_eq_true_eq, ne_eq, Bool.false_eq_true, Bool.true_eq_false, reduceIte, Option.some.injEq, Int.toNat_natCast, beq_self_eq_true, bne_self_eq_false, Value.cells, splice, List.setIfInBounds_toArray, List.set_cons_zero, List.set_cons_succ, List.size_toArray, List.length_cons, List.length_nil, and_self, Nat.reduceLeDiff, Nat.reduceAdd, Nat.reduceMul, Int.reduceToNat, Int.reduceLT, Int.reduceLE, Int.reduceGT, Int.reduceGE, Int.reduceAdd, Int.reduceSub, Int.reduceMul, Int.reduceNeg, Int.reduceEq, Int.reduceNe, true_and, and_true, Int.cast_ofNat_Int, Nat.le_refl, hf, ld3, ld4, ld5, ld9, ln9, ix9, ld21, ld22, ld120, fa120_2, bd120_0_1, ld157, ln157, ia157, ld160, fa160_0, fa160_1, fa160_2, bd160_0_1_2, neq4, ow2, ow3, ow4, ow5, ow6, ow8, ow11, ow20, ow23, cv21_22, cv5_22, cv5_3]
    refine ⟨?_, h.drop.drop.drop.drop.drop.drop⟩
    unfold enumV
    rw [enumOf_pairs, hfind]
    rfl
  · intro w o y ho hfind h
    refine soRfEnd 1 h rfl ho rfl fun w o ho h => ?_
    simp only [List.set_cons_zero, List.set_cons_succ] at h
    simp only [jm]
    refine soUnw 0 h rfl fun w h => ?_
    simp only [List.set_cons_zero] at h
    have hf := h.facts
    simp only [Facts] at hf
    try simp (disch := omega) only [cnd_bool, on_some_eq, Dr_eq, xNil_ptr, xNil_func, xNil_yield, xPick_bool, unw_nil, xRes_ptr, xUn_not, xUn_neg, xEx_tuple, xBin_add, xBin_sub, xBin_mul, xBin_eql, xBin_neq, xBin_lss, xBin_leq, xBin_gtr, xBin_geq, xBin_eqls, xBin_neqs, wI64, oCell_some, List.getElem?_toArray, List.getElem?_cons_zero, List.getElem?_cons_succ, Nat.zero_add, Bool.not_true, Bool.not_false, if_true, if_false, ite_true, ite_false, beq_iff_eq, bne_iff_ne, decide_eq_true_eq, ne_eq, Bool.false_eq_true, Bool.true_eq_false, reduceIte, Option.some.injEq, Int.toNat_natCast, beq_self_eq_true, bne_self_eq_false, Value.cells, splice, List.setIfInBounds_toArray, List.set_cons_zero, List.set_cons_succ, List.size_toArray, List.length_cons, List.length_nil, and_self, Nat.reduceLeDiff, Nat.reduceAdd, Nat.reduceMul, Int.reduceToNat, Int.reduceLT, Int.reduceLE, Int.reduceGT, Int.reduceGE, Int.reduceAdd, Int.reduceSub, Int.reduceMul, Int.reduceNeg, Int.reduceEq, Int.reduceNe, true_and, and_true, Int.cast_ofNat_Int, Nat.le_refl, hf, ld3, ld4, ld5, ld9, ln9, ix9, ld21, ld22, ld120, fa120_2, bd120_0_1, ld157, ln157, ia157, ld160, fa160_0, fa160_1, fa160_2, bd160_0_1_2, neq4, ow2, ow3, ow4, ow5, ow6, ow8, ow11, ow20, ow23, cv21_22, cv5_22, cv5_3]
    refine ⟨?_, h.drop.drop.drop.drop.drop.drop⟩
    unfold enumV
    rw [enumOf_pairs, hfind]
    rfl
theorem c_named {w0 w : World} {L : List (Nat × Obj)} (h : So w0 w L) (c n : Int) : Cx P 109 #[.int .u8 c, .int .u32 n] w fun v w => v = .int .i64 (if (enumOf c n).isSome = true then 0 else 31) ∧ So w0 w L := by
  apply F109_ok
  unfold F109
  refine Cx.mono (c_enum h c n) fun v w hv => ?_
  obtain ⟨rfl, h⟩ := hv
  unfold enumV
  cases enumOf c n with
  | none =>
    try simp (disch := omega) only [cnd_bool, on_some_eq, Dr_eq, xNil_ptr, xNil_func, xNil_yield, xPick_bool, unw_nil, xRes_ptr, xUn_not, xUn_neg, xEx_tuple, xBin_add, xBin_sub, xBin_mul, xBin_eql, xBin_neq, xBin_lss, xBin_leq, xBin_gtr, xBin_geq, xBin_eqls, xBin_neqs, wI64, oCell_some, List.getElem?_toArray, List.getElem?_cons_zero, List.getElem?_cons_succ, Nat.zero_add, Bool.not_true, Bool.not_false, if_true, if_false, ite_true, ite_false, beq_iff_eq, bne_iff_ne, decide_eq_true_eq, ne_eq, Bool.false_eq_true, Bool.true_eq_false, reduceIte, Option.some.injEq, Int.toNat_natCast, beq_self_eq_true, bne_self_eq_false, Value.cells, splice, List.setIfInBounds_toArray, List.set_cons_zero, List.set_cons_succ, List.size_toArray, List.length_cons, List.length_nil, and_self, Nat.reduceLeDiff, Nat.reduceAdd, Nat.reduceMul, Int.reduceToNat, Int.reduceLT, Int.reduceLE, Int.reduceGT, Int.reduceGE, Int.reduceAdd, Int.reduceSub, Int.reduceMul, Int.reduceNeg, Int.reduceEq, Int.reduceNe, true_and, and_true, Int.cast_ofNat_Int, Nat.le_refl, ld3, ld4, ld5, ld9, ln9, ix9, ld21, ld22, ld120, fa120_2, bd120_0_1, ld157, ln157, ia157, ld160, fa160_0, fa160_1, fa160_2, bd160_0_1_2, neq4, ow2, ow3, ow4, ow5, ow6, ow8, ow11, ow20, ow23, cv21_22, cv5_22, cv5_3]
    exact ⟨rfl, h⟩
  | some s =>
    try simp (disch := omega) only [cnd_bool, on_some_eq, Dr_eq, xNil_ptr, xNil_func, xNil_yield, xPick_bool, unw_nil, xRes_ptr, xUn_not, xUn_neg, xEx_tuple, xBin_add, xBin_sub, xBin_mul, xBin_eql, xBin_neq, xBin_lss, xBin_leq, xBin_gtr, xBin_geq, xBin_eqls, xBin_neqs, wI64, oCell_some, List.getElem?_toArray, List.getElem?_cons_zero, List.getElem?_cons_succ, Nat.zero_add, Bool.not_true, Bool.not_false, if_true, if_false, ite_true, ite_false, beq_iff_eq, bne_iff_ne, decide_eq_true_eq, ne_eq, Bool.false_eq_true, Bool.true_eq_false, reduceIte, Option.some.injEq, Int.toNat_natCast, beq_self_eq_true, bne_self_eq_false, Value.cells, splice, List.setIfInBounds_toArray, List.set_cons_zero, List.set_cons_succ, List.size_toArray, List.length_cons, List.length_nil, and_self, Nat.reduceLeDiff, Nat.reduceAdd, Nat.reduceMul, Int.reduceToNat, Int.reduceLT, Int.reduceLE, Int.reduceGT, Int.reduceGE, Int.reduceAdd, Int.reduceSub, Int.reduceMul, Int.reduceNeg, Int.reduceEq, Int.reduceNe, true_and, and_true, Int.cast_ofNat_Int, Nat.le_refl, ld3, ld4, ld5, ld9, ln9, ix9, ld21, ld22, ld120, fa120_2, bd120_0_1, ld157, ln157, ia157, ld160, fa160_0, fa160_1, fa160_2, bd160_0_1_2, neq4, ow2, ow3, ow4, ow5, ow6, ow8, ow11, ow20, ow23, cv21_22, cv5_22, cv5_3]
    exact ⟨rfl, h⟩
theorem c_refEnum {w0 w : World} {L : List (Nat × Obj)} (h : So w0 w L) (c n : Int) : Cx P 87 #[.int .u8 c, .int .u32 n] w fun v w => v = enumV c n ∧ So w0 w L := by
  apply F87_ok
  unfold F87
  refine Cx.mono (c_refNames h) fun v w hv => ?_
  obtain ⟨M, ho, h⟩ := hv
  have hsl := ho.sl h (fun x hx => by obtain ⟨y, _, rfl⟩ := List.mem_map.1 hx; rfl) (by simp)
  unfold F87.k1 F87.k3
  refine ⟨nameRows.length + 1, ?_⟩
  have loop : ∀ (m k : Nat), k + m = nameRows.length → enumOf c n = ((nameRows.drop k).find? fun y => y.1 == c && y.2.1 == n).map (·.2.2) →
      F87.l1 (fun v w => v = enumV c n ∧ So w0 w L) (m + 1) (.int .u8 c) (.int .u32 n) v (.int .i64 (k : Int)) w := by
    have hlen : nameRows.length ≤ 1000 := by decide
    intro m
    induction m with
    | zero =>
      intro k hk hno
      unfold F87.l1 F87.l1.b
      try simp (disch := omega) only [cnd_bool, on_some_eq, Dr_eq, xNil_ptr, xNil_func, xNil_yield, xPick_bool, unw_nil, xRes_ptr, xUn_not, xUn_neg, xEx_tuple, xBin_add, xBin_sub, xBin_mul, xBin_eql, xBin_neq, xBin_lss, xBin_leq, xBin_gtr, xBin_geq, xBin_eqls, xBin_neqs, wI64, oCell_some, List.getElem?_toArray, List.getElem?_cons_zero, List.getElem?_cons_succ, Nat.zero_add, Bool.not_true, Bool.not_false, if_true, if_false, ite_true, ite_false, beq_iff_eq, bne_iff_ne, decide_eq_true_eq, ne_eq, Bool.false_eq_true, Bool.true_eq_false, reduceIte, Option.some.injEq, Int.toNat_natCast, beq_self_eq_true, bne_self_eq_false, Value.cells, splice, List.setIfInBounds_toArray, List.set_cons_zero, List.set_cons_succ, List.size_toArray, List.length_cons, List.length_nil, and_self, Nat.reduceLeDiff, Nat.reduceAdd, Nat.reduceMul, Int.reduceToNat, Int.reduceLT, Int.reduceLE, Int.reduceGT, Int.reduceGE, Int.reduceAdd, Int.reduceSub, Int.reduceMul, Int.reduceNeg, Int.reduceEq, Int.reduceNe, true_and, and_true, Int.cast_ofNat_Int, Nat.le_refl, ld3, ld4, ld5, ld9, ln9, ix9, ld21, ld22, ld120, fa120_2, bd120_0_1, ld157, ln157, ia157, ld160, fa160_0, fa160_1, fa160_2, bd160_0_1_2, neq4, ow2, ow3, ow4, ow5, ow6, ow8, ow11, ow20, ow23, cv21_22, cv5_22, cv5_3, Sl.len sl157 hsl, List.length_map]
      rw [if_neg (by omega)]
      unfold F87.k2
      rw [List.drop_of_length_le (by omega)] at hno
      refine ⟨?_, h.drops⟩
      unfold enumV
      rw [hno]; rfl
    | succ m ih =>
      intro k hk hno
      have hlt : k < nameRows.length := by omega
      obtain ⟨g, o, k1, k2, k3⟩ := hsl.get sl157 (k : Int) (i := k) (el := RowN nameRows[k]) rfl (by simp [hlt])
      have k40 : oCell w.heap[g]? o = some (.int .u8 nameRows[k].1) := by
        have := k3 0 (by omega)
        simpa [RowN] using this
      have k41 : oCell w.heap[g]? (o + 1) = some (.int .u32 nameRows[k].2.1) := by
        have := k3 1 (by omega)
        simpa [RowN] using this
      have k42 : oCell w.heap[g]? (o + 2) = some (.string (bs nameRows[k].2.2)) := by
        have := k3 2 (by omega)
        simpa [RowN] using this
      rw [List.drop_eq_getElem_cons hlt, List.find?_cons] at hno
      have next : (nameRows[k].1 == c && nameRows[k].2.1 == n) = false → F87.k5 (fun v w => v = enumV c n ∧ So w0 w L) (F87.l1 (fun v w => v = enumV c n ∧ So w0 w L) (m + 1)) (.int .u8 c) (.int .u32 n) v (.int .i64 (k : Int)) w := by
        intro hf
        rw [hf] at hno
        unfold F87.k5
        try simp (disch := omega) only [cnd_bool, on_some_eq, Dr_eq, xNil_ptr, xNil_func, xNil_yield, xPick_bool, unw_nil, xRes_ptr, xUn_not, xUn_neg, xEx_tuple, xBin_add, xBin_sub, xBin_mul, xBin_eql, xBin_neq, xBin_lss, xBin_leq, xBin_gtr, xBin_geq, xBin_eqls, xBin_neqs, wI64, oCell_some, List.getElem?_toArray, List.getElem?_cons_zero, List.getElem?_cons_succ, Nat.zero_add, Bool.not_true, Bool.not_false, if_true, if_false, ite_true, ite_false, beq_iff_eq, bne_iff_ne, decide_eq_true_eq, ne_eq, Bool.false_eq_true, Bool.true_eq_false, reduceIte, Option.some.injEq, Int.toNat_natCast, beq_self_eq_true, bne_self_eq_false, Value.cells, splice, List.setIfInBounds_toArray, List.set_cons_zero, List.set_cons_succ, List.size_toArray, List.length_cons, List.length_nil, and_self, Nat.reduceLeDiff, Nat.reduceAdd, Nat.reduceMul, Int.reduceToNat, Int.reduceLT, Int.reduceLE, Int.reduceGT, Int.reduceGE, Int.reduceAdd, Int.reduceSub, Int.reduceMul, Int.reduceNeg, Int.reduceEq, Int.reduceNe, true_and, and_true, Int.cast_ofNat_Int, Nat.le_refl, ld3, ld4, ld5, ld9, ln9, ix9, ld21, ld22, ld120, fa120_2, bd120_0_1, ld157, ln157, ia157, ld160, fa160_0, fa160_1, fa160_2, bd160_0_1_2, neq4, ow2, ow3, ow4, ow5, ow6, ow8, ow11, ow20, ow23, cv21_22, cv5_22, cv5_3]
        have := ih (k + 1) (by omega) hno
        rw [show ((k + 1 : Nat) : Int) = (k : Int) + 1 by omega] at this
        exact this
      unfold F87.l1 F87.l1.b
      try simp (disch := omega) only [cnd_bool, on_some_eq, Dr_eq, xNil_ptr, xNil_func, xNil_yield, xPick_bool, unw_nil, xRes_ptr, xUn_not, xUn_neg, xEx_tuple, xBin_add, xBin_sub, xBin_mul, xBin_eql, xBin_neq, xBin_lss, xBin_leq, xBin_gtr, xBin_geq, xBin_eqls, xBin_neqs, wI64, oCell_some, List.getElem?_toArray, List.getElem?_cons_zero, List.getElem?_cons_succ, Nat.zero_add, Bool.not_true, Bool.not_false, if_true, if_false, ite_true, ite_false, beq_iff_eq, bne_iff_ne, decide_eq_true_eq, ne_eq, Bool.false_eq_true, Bool.true_eq_false, reduceIte, Option.some.injEq, Int.toNat_natCast, beq_self_eq_true, bne_self_eq_false, Value.cells, splice, List.setIfInBounds_toArray, List.set_cons_zero, List.set_cons_succ, List.size_toArray, List.length_cons, List.length_nil, and_self, Nat.reduceLeDiff, Nat.reduceAdd, Nat.reduceMul, Int.reduceToNat, Int.reduceLT, Int.reduceLE, Int.reduceGT, Int.reduceGE, Int.reduceAdd, Int.reduceSub, Int.reduceMul, Int.reduceNeg, Int.reduceEq, Int.reduceNe, true_and, and_true, Int.cast_ofNat_Int, Nat.le_refl, ld3, ld4, ld5, ld9, ln9, ix9, ld21, ld22, ld120, fa120_2, bd120_0_1, ld157, ln157, ia157, ld160, fa160_0, fa160_1, fa160_2, bd160_0_1_2, neq4, ow2, ow3, ow4, ow5, ow6, ow8, ow11, ow20, ow23, cv21_22, cv5_22, cv5_3, Sl.len sl157 hsl, List.length_map]
      rw [if_pos (by omega)]
      unfold F87.k4
      try simp (disch := omega) only [cnd_bool, on_some_eq, Dr_eq, xNil_ptr, xNil_func, xNil_yield, xPick_bool, unw_nil, xRes_ptr, xUn_not, xUn_neg, xEx_tuple, xBin_add, xBin_sub, xBin_mul, xBin_eql, xBin_neq, xBin_lss, xBin_leq, xBin_gtr, xBin_geq, xBin_eqls, xBin_neqs, wI64, oCell_some, List.getElem?_toArray, List.getElem?_cons_zero, List.getElem?_cons_succ, Nat.zero_add, Bool.not_true, Bool.not_false, if_true, if_false, ite_true, ite_false, beq_iff_eq, bne_iff_ne, decide_eq_true_eq, ne_eq, Bool.false_eq_true, Bool.true_eq_false, reduceIte, Option.some.injEq, Int.toNat_natCast, beq_self_eq_true, bne_self_eq_false, Value.cells, splice, List.setIfInBounds_toArray, List.set_cons_zero, List.set_cons_succ, List.size_toArray, List.length_cons, List.length_nil, and_self, Nat.reduceLeDiff, Nat.reduceAdd, Nat.reduceMul, Int.reduceToNat, Int.reduceLT, Int.reduceLE, Int.reduceGT, Int.reduceGE, Int.reduceAdd, Int.reduceSub, Int.reduceMul, Int.reduceNeg, Int.reduceEq, Int.reduceNe, true_and, and_true, Int.cast_ofNat_Int, Nat.le_refl, ld3, ld4, ld5, ld9, ln9, ix9, ld21, ld22, ld120, fa120_2, bd120_0_1, ld157, ln157, ia157, ld160, fa160_0, fa160_1, fa160_2, bd160_0_1_2, neq4, ow2, ow3, ow4, ow5, ow6, ow8, ow11, ow20, ow23, cv21_22, cv5_22, cv5_3, k1, k40, k41]
      by_cases he : nameRows[k].1 = c
      · rw [if_pos he]
        unfold F87.k6
        try simp (disch := omega) only [cnd_bool, on_some_eq, Dr_eq, xNil_ptr, xNil_func, xNil_yield, xPick_bool, unw_nil, xRes_ptr, xUn_not, xUn_neg, xEx_tuple, xBin_add, xBin_sub, xBin_mul, xBin_eql, xBin_neq, xBin_lss, xBin_leq, xBin_gtr, xBin_geq, xBin_eqls, xBin_neqs, wI64, oCell_some, List.getElem?_toArray, List.getElem?_cons_zero, List.getElem?_cons_succ, Nat.zero_add, Bool.not_true, Bool.not_false, if_true, if_false, ite_true, ite_false, beq_iff_eq, bne_iff_ne, decide_eq_true_eq, ne_eq, Bool.false_eq_true, Bool.true_eq_false, reduceIte, Option.some.injEq, Int.toNat_natCast, beq_self_eq_true, bne_self_eq_false, Value.cells, splice, List.setIfInBounds_toArray, List.set_cons_zero, List.set_cons_succ, List.size_toArray, List.length_cons, List.length_nil, and_self, Nat.reduceLeDiff, Nat.reduceAdd, Nat.reduceMul, Int.reduceToNat, Int.reduceLT, Int.reduceLE, Int.reduceGT, Int.reduceGE, Int.reduceAdd, Int.reduceSub, Int.reduceMul, Int.reduceNeg, Int.reduceEq, Int.reduceNe, true_and, and_true, Int.cast_ofNat_Int, Nat.le_refl, ld3, ld4, ld5, ld9, ln9, ix9, ld21, ld22, ld120, fa120_2, bd120_0_1, ld157, ln157, ia157, ld160, fa160_0, fa160_1, fa160_2, bd160_0_1_2, neq4, ow2, ow3, ow4, ow5, ow6, ow8, ow11, ow20, ow23, cv21_22, cv5_22, cv5_3, k1, k42]
        by_cases hn : nameRows[k].2.1 = n
        · rw [if_pos (by simpa using hn)]
          have : (nameRows[k].1 == c && nameRows[k].2.1 == n) = true := by simp [he, hn]
          rw [this] at hno
          refine ⟨?_, h.drops⟩
          unfold enumV
          rw [hno]; rfl
        · rw [if_neg (by simpa using hn)]
          exact next (by simp [hn])
      · rw [if_neg he]
        unfold F87.k6
        try simp (disch := omega) only [cnd_bool, on_some_eq, Dr_eq, xNil_ptr, xNil_func, xNil_yield, xPick_bool, unw_nil, xRes_ptr, xUn_not, xUn_neg, xEx_tuple, xBin_add, xBin_sub, xBin_mul, xBin_eql, xBin_neq, xBin_lss, xBin_leq, xBin_gtr, xBin_geq, xBin_eqls, xBin_neqs, wI64, oCell_some, List.getElem?_toArray, List.getElem?_cons_zero, List.getElem?_cons_succ, Nat.zero_add, Bool.not_true, Bool.not_false, if_true, if_false, ite_true, ite_false, beq_iff_eq, bne_iff_ne, decide_eq_true_eq, ne_eq, Bool.false_eq_true, Bool.true_eq_false, reduceIte, Option.some.injEq, Int.toNat_natCast, beq_self_eq_true, bne_self_eq_false, Value.cells, splice, List.setIfInBounds_toArray, List.set_cons_zero, List.set_cons_succ, List.size_toArray, List.length_cons, List.length_nil, and_self, Nat.reduceLeDiff, Nat.reduceAdd, Nat.reduceMul, Int.reduceToNat, Int.reduceLT, Int.reduceLE, Int.reduceGT, Int.reduceGE, Int.reduceAdd, Int.reduceSub, Int.reduceMul, Int.reduceNeg, Int.reduceEq, Int.reduceNe, true_and, and_true, Int.cast_ofNat_Int, Nat.le_refl, ld3, ld4, ld5, ld9, ln9, ix9, ld21, ld22, ld120, fa120_2, bd120_0_1, ld157, ln157, ia157, ld160, fa160_0, fa160_1, fa160_2, bd160_0_1_2, neq4, ow2, ow3, ow4, ow5, ow6, ow8, ow11, ow20, ow23, cv21_22, cv5_22, cv5_3]
        exact next (by simp [he])
  exact loop nameRows.length 0 (by omega) (by rw [List.drop_zero]; rfl)
end Go.Proofs.Ytlmcppbpobnfjaa

