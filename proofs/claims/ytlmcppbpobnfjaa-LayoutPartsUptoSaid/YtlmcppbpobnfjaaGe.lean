/-
  Letters and kinds: ref03's.
-/
import Derived.Test.YtlmcppbpobnfjaaTn
namespace Go.Proofs.Ytlmcppbpobnfjaa
open Go Go.Vc
set_option linter.unusedSimpArgs false
set_option linter.unusedVariables false
set_option maxRecDepth 20000

theorem c_refLetter {w0 w : World} {L : List (Nat × Obj)} (h : So w0 w L) (op : Int) (i : Nat) (hi : i ≤ 1099511627776) :
    Cx P 63 #[.int .u16 op, .int .i64 (i : Int)] w fun v w => v = .int .u8 (letterOf op i) ∧ So w0 w L := by
  apply F63_ok
  unfold F63
  refine Cx.mono (c_refOf h op) fun v w hv => ?_
  obtain ⟨rfl, h⟩ := hv
  obtain ⟨op', he⟩ := ofV_D op
  have hok := formD_ok op
  rw [he, Form.v_size]
  try simp (disch := omega) only [cnd_bool, on_some_eq, Dr_eq, xNil_ptr, xNil_func, xNil_yield, xPick_bool, unw_nil, xRes_ptr, xUn_not, xUn_neg, xEx_tuple, xBin_add, xBin_sub, xBin_mul, xBin_eql, xBin_neq, xBin_lss, xBin_leq, xBin_gtr, xBin_geq, xBin_eqls, xBin_neqs, wI64, oCell_some, List.getElem?_toArray, List.getElem?_cons_zero, List.getElem?_cons_succ, Nat.zero_add, Bool.not_true, Bool.not_false, if_true, if_false, ite_true, ite_false, beq_iff_eq, bne_iff_ne, decide_eq_true_eq, ne_eq, Bool.false_eq_true, Bool.true_eq_false, reduceIte, Option.some.injEq, Int.toNat_natCast, beq_self_eq_true, bne_self_eq_false, Value.cells, splice, List.setIfInBounds_toArray, List.set_cons_zero, List.set_cons_succ, List.size_toArray, List.length_cons, List.length_nil, and_self, Nat.reduceLeDiff, Nat.reduceAdd, Nat.reduceMul, Int.reduceToNat, Int.reduceLT, Int.reduceLE, Int.reduceGT, Int.reduceGE, Int.reduceAdd, Int.reduceSub, Int.reduceMul, Int.reduceNeg, Int.reduceEq, Int.reduceNe, true_and, and_true, Int.cast_ofNat_Int, Nat.le_refl, ld3, ld5, ld9, ln9, ix9, ld77, fa77_0, fa77_2, fa77_3, fa77_4, fa77_5, fa77_6, fa77_7, bd77, bd77_0_1_2_3_4_5_6_7, bd77_0_1_4_5_7, ld157, ln157, ia157, ld160, fa160_0, fa160_1, fa160_2, bd160_0_1_2, ow2, ow3, ow4, ow5, ow6, ow8, ow11, ow20, ow23, cv5_3]
  refine al77 h fun b w h => ?_
  try simp only [Facts, and_true, Value.cells, List.setIfInBounds_toArray, List.set_cons_zero, List.set_cons_succ, splice, Nat.zero_add, Nat.reduceAdd, List.cons_append, List.nil_append] at h
  have hf := h.facts
  simp only [Facts, and_true, Value.cells, List.setIfInBounds_toArray, List.set_cons_zero, List.set_cons_succ, splice, Nat.zero_add, Nat.reduceAdd, List.cons_append, List.nil_append] at hf
  refine soStoreA ty77 0 h (fun w h => ?_) rfl rfl rfl rfl
  simp only [List.set_cons_zero] at h
  have hf := h.facts
  simp only [Facts] at hf
  try simp (disch := omega) only [cnd_bool, on_some_eq, Dr_eq, xNil_ptr, xNil_func, xNil_yield, xPick_bool, unw_nil, xRes_ptr, xUn_not, xUn_neg, xEx_tuple, xBin_add, xBin_sub, xBin_mul, xBin_eql, xBin_neq, xBin_lss, xBin_leq, xBin_gtr, xBin_geq, xBin_eqls, xBin_neqs, wI64, oCell_some, List.getElem?_toArray, List.getElem?_cons_zero, List.getElem?_cons_succ, Nat.zero_add, Bool.not_true, Bool.not_false, if_true, if_false, ite_true, ite_false, beq_iff_eq, bne_iff_ne, decide_eq_true_eq, ne_eq, Bool.false_eq_true, Bool.true_eq_false, reduceIte, Option.some.injEq, Int.toNat_natCast, beq_self_eq_true, bne_self_eq_false, Value.cells, splice, List.setIfInBounds_toArray, List.set_cons_zero, List.set_cons_succ, List.size_toArray, List.length_cons, List.length_nil, and_self, Nat.reduceLeDiff, Nat.reduceAdd, Nat.reduceMul, Int.reduceToNat, Int.reduceLT, Int.reduceLE, Int.reduceGT, Int.reduceGE, Int.reduceAdd, Int.reduceSub, Int.reduceMul, Int.reduceNeg, Int.reduceEq, Int.reduceNe, true_and, and_true, Int.cast_ofNat_Int, Nat.le_refl, hf, ld3, ld5, ld9, ln9, ix9, ld77, fa77_0, fa77_2, fa77_3, fa77_4, fa77_5, fa77_6, fa77_7, bd77, bd77_0_1_2_3_4_5_6_7, bd77_0_1_4_5_7, ld157, ln157, ia157, ld160, fa160_0, fa160_1, fa160_2, bd160_0_1_2, ow2, ow3, ow4, ow5, ow6, ow8, ow11, ow20, ow23, cv5_3]
  unfold letterOf
  by_cases hs : (formOf op).isSome = true
  · rw [if_neg (by rw [hs]; simp), if_neg (by omega)]
    unfold F63.k1
    generalize formD op = f at *
    simp only [okF, Bool.and_eq_true, decide_eq_true_eq] at hok
    obtain ⟨⟨⟨⟨⟨_, _⟩, hl1⟩, hl2⟩, hm1, hm2⟩, _⟩ := hok
    try simp (disch := omega) only [cnd_bool, on_some_eq, Dr_eq, xNil_ptr, xNil_func, xNil_yield, xPick_bool, unw_nil, xRes_ptr, xUn_not, xUn_neg, xEx_tuple, xBin_add, xBin_sub, xBin_mul, xBin_eql, xBin_neq, xBin_lss, xBin_leq, xBin_gtr, xBin_geq, xBin_eqls, xBin_neqs, wI64, oCell_some, List.getElem?_toArray, List.getElem?_cons_zero, List.getElem?_cons_succ, Nat.zero_add, Bool.not_true, Bool.not_false, if_true, if_false, ite_true, ite_false, beq_iff_eq, bne_iff_ne, decide_eq_true_eq, ne_eq, Bool.false_eq_true, Bool.true_eq_false, reduceIte, Option.some.injEq, Int.toNat_natCast, beq_self_eq_true, bne_self_eq_false, Value.cells, splice, List.setIfInBounds_toArray, List.set_cons_zero, List.set_cons_succ, List.size_toArray, List.length_cons, List.length_nil, and_self, Nat.reduceLeDiff, Nat.reduceAdd, Nat.reduceMul, Int.reduceToNat, Int.reduceLT, Int.reduceLE, Int.reduceGT, Int.reduceGE, Int.reduceAdd, Int.reduceSub, Int.reduceMul, Int.reduceNeg, Int.reduceEq, Int.reduceNe, true_and, and_true, Int.cast_ofNat_Int, Nat.le_refl, hf, ld3, ld5, ld9, ln9, ix9, ld77, fa77_0, fa77_2, fa77_3, fa77_4, fa77_5, fa77_6, fa77_7, bd77, bd77_0_1_2_3_4_5_6_7, bd77_0_1_4_5_7, ld157, ln157, ia157, ld160, fa160_0, fa160_1, fa160_2, bd160_0_1_2, ow2, ow3, ow4, ow5, ow6, ow8, ow11, ow20, ow23, cv5_3, bs_size, bs_toList]
    unfold letterF
    by_cases hlt : i < f.fixed.length
    · rw [if_pos (by omega), if_pos hlt]
      have hs : Int.toNat (i : Int) < (bs f.fixed).size := by rw [bs_size]; simpa using hlt
      try simp (disch := omega) only [cnd_bool, on_some_eq, Dr_eq, xNil_ptr, xNil_func, xNil_yield, xPick_bool, unw_nil, xRes_ptr, xUn_not, xUn_neg, xEx_tuple, xBin_add, xBin_sub, xBin_mul, xBin_eql, xBin_neq, xBin_lss, xBin_leq, xBin_gtr, xBin_geq, xBin_eqls, xBin_neqs, wI64, oCell_some, List.getElem?_toArray, List.getElem?_cons_zero, List.getElem?_cons_succ, Nat.zero_add, Bool.not_true, Bool.not_false, if_true, if_false, ite_true, ite_false, beq_iff_eq, bne_iff_ne, decide_eq_true_eq, ne_eq, Bool.false_eq_true, Bool.true_eq_false, reduceIte, Option.some.injEq, Int.toNat_natCast, beq_self_eq_true, bne_self_eq_false, Value.cells, splice, List.setIfInBounds_toArray, List.set_cons_zero, List.set_cons_succ, List.size_toArray, List.length_cons, List.length_nil, and_self, Nat.reduceLeDiff, Nat.reduceAdd, Nat.reduceMul, Int.reduceToNat, Int.reduceLT, Int.reduceLE, Int.reduceGT, Int.reduceGE, Int.reduceAdd, Int.reduceSub, Int.reduceMul, Int.reduceNeg, Int.reduceEq, Int.reduceNe, true_and, and_true, Int.cast_ofNat_Int, Nat.le_refl, hf, ld3, ld5, ld9, ln9, ix9, ld77, fa77_0, fa77_2, fa77_3, fa77_4, fa77_5, fa77_6, fa77_7, bd77, bd77_0_1_2_3_4_5_6_7, bd77_0_1_4_5_7, ld157, ln157, ia157, ld160, fa160_0, fa160_1, fa160_2, bd160_0_1_2, ow2, ow3, ow4, ow5, ow6, ow8, ow11, ow20, ow23, cv5_3, ix9 _ _ _ (Int.natCast_nonneg i) hs]
      refine ⟨?_, h.drop⟩
      rw [bs_get]
      simp [hlt]
    · rw [if_neg (by omega), if_neg hlt]
      unfold restL
      by_cases hr : f.rest = []
      · rw [if_pos (by rw [hr]; rfl), if_pos hr]
        exact ⟨rfl, h.drop⟩
      · have hpos : 0 < f.rest.length := List.length_pos_iff.2 hr
        rw [if_neg (by omega), if_neg hr]
        obtain ⟨k, hk⟩ : ∃ k : Nat, (i : Int) - (f.fixed.length : Int) = (k : Int) := ⟨i - f.fixed.length, by omega⟩
        have hk' : i - f.fixed.length = k := by omega
        rw [hk, hk']
        try rw [Dr_eq]
        have h := h.drew
        have key : ∀ w, So w0 w ((b, cl #[.int .u16 op', .string (bs f.name), .bool f.ty, .bool f.res, .string (bs f.fixed), .string (bs f.rest), .int .i64 f.most, .int .u8 f.part] 77) :: L) →
            F63.k2 (fun v w => v = .int .u8 (((f.rest[k % f.rest.length]?).getD 0).toNat : Int) ∧ So w0 w L) (.pointer (some ⟨b, 0, none⟩)) (.int .i64 (k : Int)) w := by
          intro w h
          unfold F63.k2
          have h := h.drew
          have hf := h.facts
          simp only [Facts] at hf
          have hmod : (k : Int).tmod (f.rest.length : Int) = ((k % f.rest.length : Nat) : Int) := by
            rw [Int.tmod_eq_emod_of_nonneg (by omega)]; rfl
          have hs : Int.toNat ((k % f.rest.length : Nat) : Int) < (bs f.rest).size := by
            rw [bs_size]; have := Nat.mod_lt k hpos; omega
          try simp (disch := omega) only [cnd_bool, on_some_eq, Dr_eq, xNil_ptr, xNil_func, xNil_yield, xPick_bool, unw_nil, xRes_ptr, xUn_not, xUn_neg, xEx_tuple, xBin_add, xBin_sub, xBin_mul, xBin_eql, xBin_neq, xBin_lss, xBin_leq, xBin_gtr, xBin_geq, xBin_eqls, xBin_neqs, wI64, oCell_some, List.getElem?_toArray, List.getElem?_cons_zero, List.getElem?_cons_succ, Nat.zero_add, Bool.not_true, Bool.not_false, if_true, if_false, ite_true, ite_false, beq_iff_eq, bne_iff_ne, decide_eq_true_eq, ne_eq, Bool.false_eq_true, Bool.true_eq_false, reduceIte, Option.some.injEq, Int.toNat_natCast, beq_self_eq_true, bne_self_eq_false, Value.cells, splice, List.setIfInBounds_toArray, List.set_cons_zero, List.set_cons_succ, List.size_toArray, List.length_cons, List.length_nil, and_self, Nat.reduceLeDiff, Nat.reduceAdd, Nat.reduceMul, Int.reduceToNat, Int.reduceLT, Int.reduceLE, Int.reduceGT, Int.reduceGE, Int.reduceAdd, Int.reduceSub, Int.reduceMul, Int.reduceNeg, Int.reduceEq, Int.reduceNe, true_and, and_true, Int.cast_ofNat_Int, Nat.le_refl, hf, ld3, ld5, ld9, ln9, ix9, ld77, fa77_0, fa77_2, fa77_3, fa77_4, fa77_5, fa77_6, fa77_7, bd77, bd77_0_1_2_3_4_5_6_7, bd77_0_1_4_5_7, ld157, ln157, ia157, ld160, fa160_0, fa160_1, fa160_2, bd160_0_1_2, ow2, ow3, ow4, ow5, ow6, ow8, ow11, ow20, ow23, cv5_3, bs_size]
          rw [xBin_rem _ _ _ _ _ _ (by omega), hmod]
          try simp (disch := omega) only [cnd_bool, on_some_eq, Dr_eq, xNil_ptr, xNil_func, xNil_yield, xPick_bool, unw_nil, xRes_ptr, xUn_not, xUn_neg, xEx_tuple, xBin_add, xBin_sub, xBin_mul, xBin_eql, xBin_neq, xBin_lss, xBin_leq, xBin_gtr, xBin_geq, xBin_eqls, xBin_neqs, wI64, oCell_some, List.getElem?_toArray, List.getElem?_cons_zero, List.getElem?_cons_succ, Nat.zero_add, Bool.not_true, Bool.not_false, if_true, if_false, ite_true, ite_false, beq_iff_eq, bne_iff_ne, decide_eq_true_eq, ne_eq, Bool.false_eq_true, Bool.true_eq_false, reduceIte, Option.some.injEq, Int.toNat_natCast, beq_self_eq_true, bne_self_eq_false, Value.cells, splice, List.setIfInBounds_toArray, List.set_cons_zero, List.set_cons_succ, List.size_toArray, List.length_cons, List.length_nil, and_self, Nat.reduceLeDiff, Nat.reduceAdd, Nat.reduceMul, Int.reduceToNat, Int.reduceLT, Int.reduceLE, Int.reduceGT, Int.reduceGE, Int.reduceAdd, Int.reduceSub, Int.reduceMul, Int.reduceNeg, Int.reduceEq, Int.reduceNe, true_and, and_true, Int.cast_ofNat_Int, Nat.le_refl, hf, ld3, ld5, ld9, ln9, ix9, ld77, fa77_0, fa77_2, fa77_3, fa77_4, fa77_5, fa77_6, fa77_7, bd77, bd77_0_1_2_3_4_5_6_7, bd77_0_1_4_5_7, ld157, ln157, ia157, ld160, fa160_0, fa160_1, fa160_2, bd160_0_1_2, ow2, ow3, ow4, ow5, ow6, ow8, ow11, ow20, ow23, cv5_3, ix9 _ _ _ (Int.natCast_nonneg (k % f.rest.length)) hs]
          refine ⟨?_, h.drop⟩
          rw [bs_get]
          simp [Nat.mod_lt k hpos]
        have hf := h.facts
        simp only [Facts] at hf
        try simp (disch := omega) only [cnd_bool, on_some_eq, Dr_eq, xNil_ptr, xNil_func, xNil_yield, xPick_bool, unw_nil, xRes_ptr, xUn_not, xUn_neg, xEx_tuple, xBin_add, xBin_sub, xBin_mul, xBin_eql, xBin_neq, xBin_lss, xBin_leq, xBin_gtr, xBin_geq, xBin_eqls, xBin_neqs, wI64, oCell_some, List.getElem?_toArray, List.getElem?_cons_zero, List.getElem?_cons_succ, Nat.zero_add, Bool.not_true, Bool.not_false, if_true, if_false, ite_true, ite_false, beq_iff_eq, bne_iff_ne, decide_eq_true_eq, ne_eq, Bool.false_eq_true, Bool.true_eq_false, reduceIte, Option.some.injEq, Int.toNat_natCast, beq_self_eq_true, bne_self_eq_false, Value.cells, splice, List.setIfInBounds_toArray, List.set_cons_zero, List.set_cons_succ, List.size_toArray, List.length_cons, List.length_nil, and_self, Nat.reduceLeDiff, Nat.reduceAdd, Nat.reduceMul, Int.reduceToNat, Int.reduceLT, Int.reduceLE, Int.reduceGT, Int.reduceGE, Int.reduceAdd, Int.reduceSub, Int.reduceMul, Int.reduceNeg, Int.reduceEq, Int.reduceNe, true_and, and_true, Int.cast_ofNat_Int, Nat.le_refl, hf, ld3, ld5, ld9, ln9, ix9, ld77, fa77_0, fa77_2, fa77_3, fa77_4, fa77_5, fa77_6, fa77_7, bd77, bd77_0_1_2_3_4_5_6_7, bd77_0_1_4_5_7, ld157, ln157, ia157, ld160, fa160_0, fa160_1, fa160_2, bd160_0_1_2, ow2, ow3, ow4, ow5, ow6, ow8, ow11, ow20, ow23, cv5_3, bs_size]
        by_cases hm : 0 < f.most
        · rw [if_pos hm]
          have hdiv : (k : Int).tdiv (f.rest.length : Int) = ((k / f.rest.length : Nat) : Int) := by
            rw [Int.tdiv_eq_ediv_of_nonneg (by omega)]; rfl
          have hdk : k / f.rest.length ≤ k := Nat.div_le_self _ _
          rw [xBin_quo _ _ _ _ _ _ (by omega), hdiv]
          obtain ⟨m, hmm⟩ : ∃ m : Nat, f.most = (m : Int) := ⟨f.most.toNat, by omega⟩
          have hiff : ((m : Int) ≤ ((k / f.rest.length : Nat) : Int)) ↔ ((m : Int) * (f.rest.length : Int) ≤ (k : Int)) := by
            have : m ≤ k / f.rest.length ↔ m * f.rest.length ≤ k := Nat.le_div_iff_mul_le hpos
            exact_mod_cast this
          generalize k / f.rest.length = q at hdk hiff ⊢
          try simp (disch := omega) only [cnd_bool, on_some_eq, Dr_eq, xNil_ptr, xNil_func, xNil_yield, xPick_bool, unw_nil, xRes_ptr, xUn_not, xUn_neg, xEx_tuple, xBin_add, xBin_sub, xBin_mul, xBin_eql, xBin_neq, xBin_lss, xBin_leq, xBin_gtr, xBin_geq, xBin_eqls, xBin_neqs, wI64, oCell_some, List.getElem?_toArray, List.getElem?_cons_zero, List.getElem?_cons_succ, Nat.zero_add, Bool.not_true, Bool.not_false, if_true, if_false, ite_true, ite_false, beq_iff_eq, bne_iff_ne, decide_eq_true_eq, ne_eq, Bool.false_eq_true, Bool.true_eq_false, reduceIte, Option.some.injEq, Int.toNat_natCast, beq_self_eq_true, bne_self_eq_false, Value.cells, splice, List.setIfInBounds_toArray, List.set_cons_zero, List.set_cons_succ, List.size_toArray, List.length_cons, List.length_nil, and_self, Nat.reduceLeDiff, Nat.reduceAdd, Nat.reduceMul, Int.reduceToNat, Int.reduceLT, Int.reduceLE, Int.reduceGT, Int.reduceGE, Int.reduceAdd, Int.reduceSub, Int.reduceMul, Int.reduceNeg, Int.reduceEq, Int.reduceNe, true_and, and_true, Int.cast_ofNat_Int, Nat.le_refl, hf, ld3, ld5, ld9, ln9, ix9, ld77, fa77_0, fa77_2, fa77_3, fa77_4, fa77_5, fa77_6, fa77_7, bd77, bd77_0_1_2_3_4_5_6_7, bd77_0_1_4_5_7, ld157, ln157, ia157, ld160, fa160_0, fa160_1, fa160_2, bd160_0_1_2, ow2, ow3, ow4, ow5, ow6, ow8, ow11, ow20, ow23, cv5_3]
          rw [hmm] at hm ⊢
          by_cases hge : (m : Int) * (f.rest.length : Int) ≤ (k : Int)
          · rw [if_pos (hiff.2 hge), if_pos ⟨hm, hge⟩]
            exact ⟨rfl, h.drop⟩
          · rw [if_neg (fun hc => hge (hiff.1 hc)), if_neg (fun hh => hge hh.2)]
            rw [hmm] at key h
            exact key _ h
        · rw [if_neg hm, if_neg (fun hh => hm hh.1)]
          exact key _ h
  · rw [if_pos (by simpa using hs)]
    have : formD op = ⟨[], false, false, [], [], 0, 0⟩ := by
      unfold formD
      cases hq : formOf op with
      | none => rfl
      | some f => rw [hq] at hs; simp at hs
    rw [this]
    exact ⟨rfl, h.drop⟩

/-- The kind of argument for which a letter stands. -/
def kindL (c : Int) : Int := if c = 105 then 1 else if c = 110 then 2 else if c = 115 then 3 else if namesOf c = [] then 0 else 4
theorem names_keys : nameTexts.all (fun x => decide (x.2 ≠ []) && nameRows.any (fun y => decide (y.1 = x.1))) && nameRows.all (fun y => nameTexts.any (fun x => decide (x.1 = y.1))) = true := by decide +kernel
theorem namesOf_rows (c : Int) : namesOf c = [] ↔ ∀ y ∈ nameRows, y.1 ≠ c := by
  have hk := names_keys
  simp only [Bool.and_eq_true, List.all_eq_true, List.any_eq_true, decide_eq_true_eq] at hk
  obtain ⟨k1, k2⟩ := hk
  constructor
  · intro h y hy he
    obtain ⟨x, hx, hxe⟩ := k2 y hy
    have : ∀ (l : List (Int × List UInt8)), (∀ x ∈ l, x.2 ≠ []) → (∃ x ∈ l, x.1 = c) → look [] l c ≠ [] := by
      intro l
      induction l with
      | nil => rintro _ ⟨x, hx, _⟩; cases hx
      | cons p l ih =>
        obtain ⟨k, v⟩ := p
        rintro h1 ⟨x, hx, hxc⟩
        by_cases hkc : c = k
        · rw [look_pos hkc]; exact h1 _ (List.mem_cons_self ..)
        · rw [look_neg hkc]
          refine ih (fun x hx => h1 x (List.mem_cons_of_mem _ hx)) ⟨x, ?_, hxc⟩
          rcases List.mem_cons.1 hx with rfl | hx
          · exact absurd hxc.symm hkc
          · exact hx
    exact this nameTexts (fun x hx => (k1 x hx).1) ⟨x, hx, hxe.trans he⟩ h
  · intro h
    rcases look_mem [] nameTexts c with h1 | ⟨p, hp, h1⟩
    · exact h1
    · apply look_not
      intro x hx he
      obtain ⟨y, hy, hye⟩ := (k1 x hx).2
      exact h y hy (hye.trans he)
theorem c_gkind {w0 w : World} {L : List (Nat × Obj)} (h : So w0 w L) (c : Int) : Cx P 107 #[.int .u8 c] w fun v w => v = .int .u8 (kindL c) ∧ So w0 w L := by
  apply F107_ok
  unfold F107 kindL
  refine case_int (fun e => by rw [if_pos e]; exact ⟨rfl, h⟩) fun e1 => ?_
  rw [if_neg e1]
  refine case_int (fun e => by rw [if_pos e]; exact ⟨rfl, h⟩) fun e2 => ?_
  rw [if_neg e2]
  refine case_int (fun e => by rw [if_pos e]; exact ⟨rfl, h⟩) fun e3 => ?_
  rw [if_neg e3]
  refine Cx.mono (c_names h c) fun v w hv => ?_
  obtain ⟨rfl, h⟩ := hv
  try simp (disch := omega) only [cnd_bool, on_some_eq, Dr_eq, xNil_ptr, xNil_func, xNil_yield, xPick_bool, unw_nil, xRes_ptr, xUn_not, xUn_neg, xEx_tuple, xBin_add, xBin_sub, xBin_mul, xBin_eql, xBin_neq, xBin_lss, xBin_leq, xBin_gtr, xBin_geq, xBin_eqls, xBin_neqs, wI64, oCell_some, List.getElem?_toArray, List.getElem?_cons_zero, List.getElem?_cons_succ, Nat.zero_add, Bool.not_true, Bool.not_false, if_true, if_false, ite_true, ite_false, beq_iff_eq, bne_iff_ne, decide_eq_true_eq, ne_eq, Bool.false_eq_true, Bool.true_eq_false, reduceIte, Option.some.injEq, Int.toNat_natCast, beq_self_eq_true, bne_self_eq_false, Value.cells, splice, List.setIfInBounds_toArray, List.set_cons_zero, List.set_cons_succ, List.size_toArray, List.length_cons, List.length_nil, and_self, Nat.reduceLeDiff, Nat.reduceAdd, Nat.reduceMul, Int.reduceToNat, Int.reduceLT, Int.reduceLE, Int.reduceGT, Int.reduceGE, Int.reduceAdd, Int.reduceSub, Int.reduceMul, Int.reduceNeg, Int.reduceEq, Int.reduceNe, true_and, and_true, Int.cast_ofNat_Int, Nat.le_refl, ld3, ld5, ld9, ln9, ix9, ld77, fa77_0, fa77_2, fa77_3, fa77_4, fa77_5, fa77_6, fa77_7, bd77, bd77_0_1_2_3_4_5_6_7, bd77_0_1_4_5_7, ld157, ln157, ia157, ld160, fa160_0, fa160_1, fa160_2, bd160_0_1_2, ow2, ow3, ow4, ow5, ow6, ow8, ow11, ow20, ow23, cv5_3, bs_toList]
  by_cases hn : namesOf c = []
  · rw [hn]
    exact ⟨rfl, h⟩
  · rw [if_neg hn, if_pos (by simpa using hn)]
    exact ⟨rfl, h⟩
theorem c_refKind {w0 w : World} {L : List (Nat × Obj)} (h : So w0 w L) (c : Int) : Cx P 85 #[.int .u8 c] w fun v w => v = .int .u8 (kindL c) ∧ So w0 w L := by
  apply F85_ok
  unfold F85 kindL
  refine case_int (fun e => by rw [if_pos e]; exact ⟨rfl, h⟩) fun e1 => ?_
  rw [if_neg e1]
  refine case_int (fun e => by rw [if_pos e]; exact ⟨rfl, h⟩) fun e2 => ?_
  rw [if_neg e2]
  refine case_int (fun e => by rw [if_pos e]; exact ⟨rfl, h⟩) fun e3 => ?_
  rw [if_neg e3]
  refine Cx.mono (c_refNames h) fun v w hv => ?_
  obtain ⟨M, ho, h⟩ := hv
  have hsl := ho.sl h (fun x hx => by obtain ⟨y, _, rfl⟩ := List.mem_map.1 hx; rfl) (by simp)
  unfold F85.k1 F85.k3
  refine ⟨nameRows.length + 1, ?_⟩
  have loop : ∀ (m k : Nat), k + m = nameRows.length → (∀ j, j < k → ∀ y, nameRows[j]? = some y → y.1 ≠ c) →
      F85.l1 (fun v w => v = .int .u8 (if namesOf c = [] then 0 else 4) ∧ So w0 w L) (m + 1) (.int .u8 c) v (.int .i64 (k : Int)) w := by
    have hlen : nameRows.length ≤ 1000 := by decide
    intro m
    induction m with
    | zero =>
      intro k hk hno
      unfold F85.l1
      try simp (disch := omega) only [cnd_bool, on_some_eq, Dr_eq, xNil_ptr, xNil_func, xNil_yield, xPick_bool, unw_nil, xRes_ptr, xUn_not, xUn_neg, xEx_tuple, xBin_add, xBin_sub, xBin_mul, xBin_eql, xBin_neq, xBin_lss, xBin_leq, xBin_gtr, xBin_geq, xBin_eqls, xBin_neqs, wI64, oCell_some, List.getElem?_toArray, List.getElem?_cons_zero, List.getElem?_cons_succ, Nat.zero_add, Bool.not_true, Bool.not_false, if_true, if_false, ite_true, ite_false, beq_iff_eq, bne_iff_ne, decide_eq_true_eq, ne_eq, Bool.false_eq_true, Bool.true_eq_false, reduceIte, Option.some.injEq, Int.toNat_natCast, beq_self_eq_true, bne_self_eq_false, Value.cells, splice, List.setIfInBounds_toArray, List.set_cons_zero, List.set_cons_succ, List.size_toArray, List.length_cons, List.length_nil, and_self, Nat.reduceLeDiff, Nat.reduceAdd, Nat.reduceMul, Int.reduceToNat, Int.reduceLT, Int.reduceLE, Int.reduceGT, Int.reduceGE, Int.reduceAdd, Int.reduceSub, Int.reduceMul, Int.reduceNeg, Int.reduceEq, Int.reduceNe, true_and, and_true, Int.cast_ofNat_Int, Nat.le_refl, ld3, ld5, ld9, ln9, ix9, ld77, fa77_0, fa77_2, fa77_3, fa77_4, fa77_5, fa77_6, fa77_7, bd77, bd77_0_1_2_3_4_5_6_7, bd77_0_1_4_5_7, ld157, ln157, ia157, ld160, fa160_0, fa160_1, fa160_2, bd160_0_1_2, ow2, ow3, ow4, ow5, ow6, ow8, ow11, ow20, ow23, cv5_3, Sl.len sl157 hsl, List.length_map]
      rw [if_neg (by omega)]
      unfold F85.k2
      have : namesOf c = [] := by
        rw [namesOf_rows]
        intro y hy
        obtain ⟨j, hj⟩ := List.getElem?_of_mem hy
        have : j < nameRows.length := (List.getElem?_eq_some_iff.1 hj).1
        exact hno j (by omega) y hj
      rw [if_pos this]
      exact ⟨rfl, h.drops⟩
    | succ m ih =>
      intro k hk hno
      have hlt : k < nameRows.length := by omega
      obtain ⟨g, o, k1, k2, k3⟩ := hsl.get sl157 (k : Int) (i := k) (el := RowN nameRows[k]) rfl (by simp [hlt])
      have k4 : oCell w.heap[g]? o = some (.int .u8 nameRows[k].1) := by
        have := k3 0 (by omega)
        simpa [RowN] using this
      unfold F85.l1
      try simp (disch := omega) only [cnd_bool, on_some_eq, Dr_eq, xNil_ptr, xNil_func, xNil_yield, xPick_bool, unw_nil, xRes_ptr, xUn_not, xUn_neg, xEx_tuple, xBin_add, xBin_sub, xBin_mul, xBin_eql, xBin_neq, xBin_lss, xBin_leq, xBin_gtr, xBin_geq, xBin_eqls, xBin_neqs, wI64, oCell_some, List.getElem?_toArray, List.getElem?_cons_zero, List.getElem?_cons_succ, Nat.zero_add, Bool.not_true, Bool.not_false, if_true, if_false, ite_true, ite_false, beq_iff_eq, bne_iff_ne, decide_eq_true_eq, ne_eq, Bool.false_eq_true, Bool.true_eq_false, reduceIte, Option.some.injEq, Int.toNat_natCast, beq_self_eq_true, bne_self_eq_false, Value.cells, splice, List.setIfInBounds_toArray, List.set_cons_zero, List.set_cons_succ, List.size_toArray, List.length_cons, List.length_nil, and_self, Nat.reduceLeDiff, Nat.reduceAdd, Nat.reduceMul, Int.reduceToNat, Int.reduceLT, Int.reduceLE, Int.reduceGT, Int.reduceGE, Int.reduceAdd, Int.reduceSub, Int.reduceMul, Int.reduceNeg, Int.reduceEq, Int.reduceNe, true_and, and_true, Int.cast_ofNat_Int, Nat.le_refl, ld3, ld5, ld9, ln9, ix9, ld77, fa77_0, fa77_2, fa77_3, fa77_4, fa77_5, fa77_6, fa77_7, bd77, bd77_0_1_2_3_4_5_6_7, bd77_0_1_4_5_7, ld157, ln157, ia157, ld160, fa160_0, fa160_1, fa160_2, bd160_0_1_2, ow2, ow3, ow4, ow5, ow6, ow8, ow11, ow20, ow23, cv5_3, Sl.len sl157 hsl, List.length_map, k1, k4]
      rw [if_pos (by omega)]
      by_cases he : nameRows[k].1 = c
      · rw [if_pos he]
        have : namesOf c ≠ [] := by
          rw [ne_eq, namesOf_rows]
          intro hh
          exact hh _ (List.getElem_mem hlt) he
        rw [if_neg this]
        exact ⟨rfl, h.drops⟩
      · rw [if_neg he]
        have := ih (k + 1) (by omega) (by
          intro j hj y hy
          by_cases hjk : j = k
          · subst hjk
            rw [List.getElem?_eq_getElem hlt] at hy
            simp only [Option.some.injEq] at hy
            subst hy; exact he
          · exact hno j (by omega) y hy)
        rw [show ((k + 1 : Nat) : Int) = (k : Int) + 1 by omega] at this
        exact this
  exact loop nameRows.length 0 (by omega) (by intro j hj; omega)
end Go.Proofs.Ytlmcppbpobnfjaa

