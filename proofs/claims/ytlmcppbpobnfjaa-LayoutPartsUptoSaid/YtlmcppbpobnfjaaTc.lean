/-
  ref04: Wrong.
-/
import Derived.Test.YtlmcppbpobnfjaaTb
namespace Go.Proofs.Ytlmcppbpobnfjaa
open Go Go.Vc
set_option linter.unusedSimpArgs false
set_option linter.unusedVariables false
set_option maxRecDepth 20000

theorem toList_data (s : ByteArray) : s.toList = s.data.toList := by
  have := bs_toList s.data.toList
  rw [← eta_bs s] at this
  exact this
theorem noS_size {s : ByteArray} (h : noS s = true) : s.size = 0 ∧ nulE s = 0 := by
  unfold noS at h
  rw [show (⟨#[]⟩ : ByteArray).toList = [] from bs_toList [], toList_data] at h
  have h : s.data.toList = [] := by simpa using h
  constructor
  · show s.data.size = 0
    rw [← Array.length_toList, h]; rfl
  · unfold nulE; rw [h]; simp
section
variable {w0 : World} {L : List (Nat × Obj)}
theorem wrong_loop {x4 : Nat} {a : Arg} (hs : a.s.size ≤ 1099511627776) :
    ∀ (m k : Nat) (w : World), k + m = a.s.size → (∀ j (hj : j < a.s.size), j < k → (a.s[j]'hj).toNat ≠ 0) → So w0 w ((x4, cl #[.int .u8 a.kind, .int .u32 a.n, .string a.s] 75) :: L) →
      F62.l1 (fun v w => v = .int .i64 (nulE a.s) ∧ So w0 w L) (m + 1) (.pointer (some ⟨x4, 0, none⟩)) (.int .i64 (k : Int)) w := by
  intro m
  induction m with
  | zero =>
    intro k w hk hno h
    have hf := h.facts
    simp only [Facts] at hf
    unfold F62.l1
    try simp (disch := omega) only [cnd_bool, on_some_eq, Dr_eq, xNil_ptr, xNil_func, xNil_yield, xPick_bool, unw_nil, xRes_ptr, xUn_not, xUn_neg, xEx_tuple, xBin_add, xBin_sub, xBin_mul, xBin_eql, xBin_neq, xBin_lss, xBin_leq, xBin_gtr, xBin_geq, xBin_eqls, xBin_neqs, wI64, oCell_some, List.getElem?_toArray, List.getElem?_cons_zero, List.getElem?_cons_succ, Nat.zero_add, Bool.not_true, Bool.not_false, if_true, if_false, ite_true, ite_false, beq_iff_eq, bne_iff_ne, decide_eq_true_eq, ne_eq, Bool.false_eq_true, Bool.true_eq_false, reduceIte, Option.some.injEq, Int.toNat_natCast, beq_self_eq_true, bne_self_eq_false, Value.cells, splice, List.setIfInBounds_toArray, List.set_cons_zero, List.set_cons_succ, List.size_toArray, List.length_cons, List.length_nil, and_self, Nat.reduceLeDiff, Nat.reduceAdd, Nat.reduceMul, Int.reduceToNat, Int.reduceLT, Int.reduceLE, Int.reduceGT, Int.reduceGE, Int.reduceAdd, Int.reduceSub, Int.reduceMul, Int.reduceNeg, Int.reduceEq, Int.reduceNe, true_and, and_true, Int.cast_ofNat_Int, Nat.le_refl, hf, ld3, ld5, ld9, ln9, ix9, ld22, ld75, fa75_0, fa75_1, fa75_2, ow2, ow3, ow4, ow5, ow6, ow8, ow11, ow20, ow23, cv5_22, cv5_3]
    rw [if_neg (by omega)]
    unfold F62.k5
    have : nulE a.s = 0 := by
      unfold nulE
      rw [if_neg]
      intro hm
      obtain ⟨j, hj, he⟩ := List.getElem_of_mem hm
      have hj' : j < a.s.size := by rw [Array.length_toList] at hj; exact hj
      refine hno j hj' (by omega) ?_
      have : a.s[j] = 0 := by rw [Array.getElem_toList] at he; exact he
      rw [this]; rfl
    rw [this]
    exact ⟨rfl, h.drop⟩
  | succ m ih =>
    intro k w hk hno h
    have hlt : k < a.s.size := by omega
    have hsz : Int.toNat (k : Int) < a.s.size := by simpa using hlt
    have hf := h.facts
    simp only [Facts] at hf
    unfold F62.l1
    try simp (disch := omega) only [cnd_bool, on_some_eq, Dr_eq, xNil_ptr, xNil_func, xNil_yield, xPick_bool, unw_nil, xRes_ptr, xUn_not, xUn_neg, xEx_tuple, xBin_add, xBin_sub, xBin_mul, xBin_eql, xBin_neq, xBin_lss, xBin_leq, xBin_gtr, xBin_geq, xBin_eqls, xBin_neqs, wI64, oCell_some, List.getElem?_toArray, List.getElem?_cons_zero, List.getElem?_cons_succ, Nat.zero_add, Bool.not_true, Bool.not_false, if_true, if_false, ite_true, ite_false, beq_iff_eq, bne_iff_ne, decide_eq_true_eq, ne_eq, Bool.false_eq_true, Bool.true_eq_false, reduceIte, Option.some.injEq, Int.toNat_natCast, beq_self_eq_true, bne_self_eq_false, Value.cells, splice, List.setIfInBounds_toArray, List.set_cons_zero, List.set_cons_succ, List.size_toArray, List.length_cons, List.length_nil, and_self, Nat.reduceLeDiff, Nat.reduceAdd, Nat.reduceMul, Int.reduceToNat, Int.reduceLT, Int.reduceLE, Int.reduceGT, Int.reduceGE, Int.reduceAdd, Int.reduceSub, Int.reduceMul, Int.reduceNeg, Int.reduceEq, Int.reduceNe, true_and, and_true, Int.cast_ofNat_Int, Nat.le_refl, hf, ld3, ld5, ld9, ln9, ix9, ld22, ld75, fa75_0, fa75_1, fa75_2, ow2, ow3, ow4, ow5, ow6, ow8, ow11, ow20, ow23, cv5_22, cv5_3, ix9 _ _ _ (Int.natCast_nonneg k) hsz]
    rw [if_pos (by omega)]
    by_cases h0 : (a.s[k]).toNat = 0
    · rw [if_pos (by omega)]
      have : nulE a.s = 13 := by
        unfold nulE
        rw [if_pos]
        have : a.s[k] = 0 := UInt8.toNat_inj.1 (by simpa using h0)
        rw [← this]
        exact Array.mem_toList_iff.2 (Array.getElem_mem hlt)
      rw [this]
      exact ⟨rfl, h.drop⟩
    · rw [if_neg (by omega)]
      have := ih (k + 1) w (by omega) (by
        intro j hj hjk
        by_cases e : j = k
        · subst e; exact h0
        · exact hno j hj (by omega)) h
      rw [show ((k + 1 : Nat) : Int) = (k : Int) + 1 by omega] at this
      exact this

theorem c_wrong {w : World} (h : So w0 w L) (c : Int) (a : Arg) (bound : Int) (hs : a.s.size ≤ 1048576) : Cx P 62 #[.int .u8 c, a.v, .int .u32 bound] w fun v w => v = .int .i64 (argE c a bound) ∧ So w0 w L := by
  apply F62_ok
  unfold F62 Arg.v
  refine soBox h fun x4 w h => ?_
  try simp only [Facts, and_true, Value.cells, List.setIfInBounds_toArray, List.set_cons_zero, List.set_cons_succ, splice, Nat.zero_add, Nat.reduceAdd, List.cons_append, List.nil_append] at h
  have hf := h.facts
  simp only [Facts, and_true, Value.cells, List.setIfInBounds_toArray, List.set_cons_zero, List.set_cons_succ, splice, Nat.zero_add, Nat.reduceAdd, List.cons_append, List.nil_append] at hf
  rw [Dr_eq]
  have h := h.drew
  have hf := h.facts
  simp only [Facts] at hf
  have bad : ∀ w, So w0 w ((x4, cl #[.int .u8 a.kind, .int .u32 a.n, .string a.s] 75) :: L) → badA c a = true → (Value.int .i64 42 = .int .i64 (argE c a bound) ∧ So w0 w L) := by
    intro w h hb
    refine ⟨?_, h.drop⟩
    unfold argE
    rw [if_pos hb]
  have k4 : ∀ w, So w0 w ((x4, cl #[.int .u8 a.kind, .int .u32 a.n, .string a.s] 75) :: L) → nulE a.s = argE c a bound → F62.k4 (fun v w => v = .int .i64 (argE c a bound) ∧ So w0 w L) (.pointer (some ⟨x4, 0, none⟩)) w := by
    intro w h he
    unfold F62.k4 F62.k6
    rw [← he]
    exact ⟨_, wrong_loop (by omega) a.s.size 0 w (by omega) (by intro j _ hj; omega) h⟩
  have k2 : ∀ w, So w0 w ((x4, cl #[.int .u8 a.kind, .int .u32 a.n, .string a.s] 75) :: L) → badA c a = false → F62.k2 (fun v w => v = .int .i64 (argE c a bound) ∧ So w0 w L) (.int .u8 c) (.int .u32 bound) (.pointer (some ⟨x4, 0, none⟩)) w := by
    intro w h hb
    have hnul : a.kind ≠ 3 → nulE a.s = 0 := by
      intro h3
      unfold badA at hb
      rw [if_neg h3] at hb
      simp only [Bool.or_eq_false_iff, Bool.not_eq_false'] at hb
      exact (noS_size hb.2).2
    have k3 : ∀ w, So w0 w ((x4, cl #[.int .u8 a.kind, .int .u32 a.n, .string a.s] 75) :: L) → (a.kind = 1 → idE a.n bound = 0) → F62.k3 (fun v w => v = .int .i64 (argE c a bound) ∧ So w0 w L) (.int .u8 c) (.pointer (some ⟨x4, 0, none⟩)) w := by
      intro w h hid
      unfold F62.k3
      have hf := h.facts
      simp only [Facts] at hf
      try simp (disch := omega) only [cnd_bool, on_some_eq, Dr_eq, xNil_ptr, xNil_func, xNil_yield, xPick_bool, unw_nil, xRes_ptr, xUn_not, xUn_neg, xEx_tuple, xBin_add, xBin_sub, xBin_mul, xBin_eql, xBin_neq, xBin_lss, xBin_leq, xBin_gtr, xBin_geq, xBin_eqls, xBin_neqs, wI64, oCell_some, List.getElem?_toArray, List.getElem?_cons_zero, List.getElem?_cons_succ, Nat.zero_add, Bool.not_true, Bool.not_false, if_true, if_false, ite_true, ite_false, beq_iff_eq, bne_iff_ne, decide_eq_true_eq, ne_eq, Bool.false_eq_true, Bool.true_eq_false, reduceIte, Option.some.injEq, Int.toNat_natCast, beq_self_eq_true, bne_self_eq_false, Value.cells, splice, List.setIfInBounds_toArray, List.set_cons_zero, List.set_cons_succ, List.size_toArray, List.length_cons, List.length_nil, and_self, Nat.reduceLeDiff, Nat.reduceAdd, Nat.reduceMul, Int.reduceToNat, Int.reduceLT, Int.reduceLE, Int.reduceGT, Int.reduceGE, Int.reduceAdd, Int.reduceSub, Int.reduceMul, Int.reduceNeg, Int.reduceEq, Int.reduceNe, true_and, and_true, Int.cast_ofNat_Int, Nat.le_refl, hf, ld3, ld5, ld9, ln9, ix9, ld22, ld75, fa75_0, fa75_1, fa75_2, ow2, ow3, ow4, ow5, ow6, ow8, ow11, ow20, ow23, cv5_22, cv5_3]
      refine Cx.mono (c_refEnum h c a.n) fun v w hv => ?_
      obtain ⟨rfl, h⟩ := hv
      have hf := h.facts
      simp only [Facts] at hf
      have hA : argE c a bound = if a.kind = 3 then nulE a.s else if a.kind = 1 then 0 else if a.kind = 4 then (if (enumOf c a.n).isSome = true then 0 else 31) else 0 := by
        unfold argE
        rw [hb]
        simp only [Bool.false_eq_true, if_false]
        split
        · rfl
        · split
          · rename_i h1; exact hid h1
          · rfl
      unfold enumV
      cases he : enumOf c a.n with
      | none =>
        try simp (disch := omega) only [cnd_bool, on_some_eq, Dr_eq, xNil_ptr, xNil_func, xNil_yield, xPick_bool, unw_nil, xRes_ptr, xUn_not, xUn_neg, xEx_tuple, xBin_add, xBin_sub, xBin_mul, xBin_eql, xBin_neq, xBin_lss, xBin_leq, xBin_gtr, xBin_geq, xBin_eqls, xBin_neqs, wI64, oCell_some, List.getElem?_toArray, List.getElem?_cons_zero, List.getElem?_cons_succ, Nat.zero_add, Bool.not_true, Bool.not_false, if_true, if_false, ite_true, ite_false, beq_iff_eq, bne_iff_ne, decide_eq_true_eq, ne_eq, Bool.false_eq_true, Bool.true_eq_false, reduceIte, Option.some.injEq, Int.toNat_natCast, beq_self_eq_true, bne_self_eq_false, Value.cells, splice, List.setIfInBounds_toArray, List.set_cons_zero, List.set_cons_succ, List.size_toArray, List.length_cons, List.length_nil, and_self, Nat.reduceLeDiff, Nat.reduceAdd, Nat.reduceMul, Int.reduceToNat, Int.reduceLT, Int.reduceLE, Int.reduceGT, Int.reduceGE, Int.reduceAdd, Int.reduceSub, Int.reduceMul, Int.reduceNeg, Int.reduceEq, Int.reduceNe, true_and, and_true, Int.cast_ofNat_Int, Nat.le_refl, hf, ld3, ld5, ld9, ln9, ix9, ld22, ld75, fa75_0, fa75_1, fa75_2, ow2, ow3, ow4, ow5, ow6, ow8, ow11, ow20, ow23, cv5_22, cv5_3]
        by_cases h4 : a.kind = 4
        · rw [if_pos h4]
          refine ⟨?_, h.drop⟩
          rw [hA, he, if_neg (by omega), if_neg (by omega), if_pos h4]; rfl
        · rw [if_neg h4]
          refine k4 w h ?_
          rw [hA]
          by_cases h3 : a.kind = 3
          · rw [if_pos h3]
          · rw [if_neg h3, hnul h3, if_neg h4]; split <;> rfl
      | some s =>
        try simp (disch := omega) only [cnd_bool, on_some_eq, Dr_eq, xNil_ptr, xNil_func, xNil_yield, xPick_bool, unw_nil, xRes_ptr, xUn_not, xUn_neg, xEx_tuple, xBin_add, xBin_sub, xBin_mul, xBin_eql, xBin_neq, xBin_lss, xBin_leq, xBin_gtr, xBin_geq, xBin_eqls, xBin_neqs, wI64, oCell_some, List.getElem?_toArray, List.getElem?_cons_zero, List.getElem?_cons_succ, Nat.zero_add, Bool.not_true, Bool.not_false, if_true, if_false, ite_true, ite_false, beq_iff_eq, bne_iff_ne, decide_eq_true_eq, ne_eq, Bool.false_eq_true, Bool.true_eq_false, reduceIte, Option.some.injEq, Int.toNat_natCast, beq_self_eq_true, bne_self_eq_false, Value.cells, splice, List.setIfInBounds_toArray, List.set_cons_zero, List.set_cons_succ, List.size_toArray, List.length_cons, List.length_nil, and_self, Nat.reduceLeDiff, Nat.reduceAdd, Nat.reduceMul, Int.reduceToNat, Int.reduceLT, Int.reduceLE, Int.reduceGT, Int.reduceGE, Int.reduceAdd, Int.reduceSub, Int.reduceMul, Int.reduceNeg, Int.reduceEq, Int.reduceNe, true_and, and_true, Int.cast_ofNat_Int, Nat.le_refl, hf, ld3, ld5, ld9, ln9, ix9, ld22, ld75, fa75_0, fa75_1, fa75_2, ow2, ow3, ow4, ow5, ow6, ow8, ow11, ow20, ow23, cv5_22, cv5_3]
        have hfin : nulE a.s = argE c a bound := by
          rw [hA, he]
          by_cases h3 : a.kind = 3
          · rw [if_pos h3]
          · rw [if_neg h3, hnul h3]; simp
        split
        · exact k4 w h hfin
        · exact k4 w h hfin
    unfold F62.k2
    have hf := h.facts
    simp only [Facts] at hf
    try simp (disch := omega) only [cnd_bool, on_some_eq, Dr_eq, xNil_ptr, xNil_func, xNil_yield, xPick_bool, unw_nil, xRes_ptr, xUn_not, xUn_neg, xEx_tuple, xBin_add, xBin_sub, xBin_mul, xBin_eql, xBin_neq, xBin_lss, xBin_leq, xBin_gtr, xBin_geq, xBin_eqls, xBin_neqs, wI64, oCell_some, List.getElem?_toArray, List.getElem?_cons_zero, List.getElem?_cons_succ, Nat.zero_add, Bool.not_true, Bool.not_false, if_true, if_false, ite_true, ite_false, beq_iff_eq, bne_iff_ne, decide_eq_true_eq, ne_eq, Bool.false_eq_true, Bool.true_eq_false, reduceIte, Option.some.injEq, Int.toNat_natCast, beq_self_eq_true, bne_self_eq_false, Value.cells, splice, List.setIfInBounds_toArray, List.set_cons_zero, List.set_cons_succ, List.size_toArray, List.length_cons, List.length_nil, and_self, Nat.reduceLeDiff, Nat.reduceAdd, Nat.reduceMul, Int.reduceToNat, Int.reduceLT, Int.reduceLE, Int.reduceGT, Int.reduceGE, Int.reduceAdd, Int.reduceSub, Int.reduceMul, Int.reduceNeg, Int.reduceEq, Int.reduceNe, true_and, and_true, Int.cast_ofNat_Int, Nat.le_refl, hf, ld3, ld5, ld9, ln9, ix9, ld22, ld75, fa75_0, fa75_1, fa75_2, ow2, ow3, ow4, ow5, ow6, ow8, ow11, ow20, ow23, cv5_22, cv5_3]
    by_cases h1 : a.kind = 1
    · rw [if_pos h1]
      refine Cx.mono (c_none h a.n bound) fun v w hv => ?_
      obtain ⟨rfl, h⟩ := hv
      try simp (disch := omega) only [cnd_bool, on_some_eq, Dr_eq, xNil_ptr, xNil_func, xNil_yield, xPick_bool, unw_nil, xRes_ptr, xUn_not, xUn_neg, xEx_tuple, xBin_add, xBin_sub, xBin_mul, xBin_eql, xBin_neq, xBin_lss, xBin_leq, xBin_gtr, xBin_geq, xBin_eqls, xBin_neqs, wI64, oCell_some, List.getElem?_toArray, List.getElem?_cons_zero, List.getElem?_cons_succ, Nat.zero_add, Bool.not_true, Bool.not_false, if_true, if_false, ite_true, ite_false, beq_iff_eq, bne_iff_ne, decide_eq_true_eq, ne_eq, Bool.false_eq_true, Bool.true_eq_false, reduceIte, Option.some.injEq, Int.toNat_natCast, beq_self_eq_true, bne_self_eq_false, Value.cells, splice, List.setIfInBounds_toArray, List.set_cons_zero, List.set_cons_succ, List.size_toArray, List.length_cons, List.length_nil, and_self, Nat.reduceLeDiff, Nat.reduceAdd, Nat.reduceMul, Int.reduceToNat, Int.reduceLT, Int.reduceLE, Int.reduceGT, Int.reduceGE, Int.reduceAdd, Int.reduceSub, Int.reduceMul, Int.reduceNeg, Int.reduceEq, Int.reduceNe, true_and, and_true, Int.cast_ofNat_Int, Nat.le_refl, ld3, ld5, ld9, ln9, ix9, ld22, ld75, fa75_0, fa75_1, fa75_2, ow2, ow3, ow4, ow5, ow6, ow8, ow11, ow20, ow23, cv5_22, cv5_3]
      by_cases hid : idE a.n bound = 0
      · rw [if_neg]
        · exact k3 w h (fun _ => hid)
        · unfold idE at hid
          intro hc
          simp only [Bool.or_eq_true, beq_iff_eq, decide_eq_true_eq] at hc
          rcases hc with hc | hc
          · rw [if_pos hc] at hid; cases hid
          · split at hid
            · cases hid
            · simp [hc] at hid
      · have hid43 : idE a.n bound = 43 := by
          unfold idE at hid ⊢
          split
          · rfl
          · split
            · rfl
            · rename_i e1 e2; rw [if_neg e1, if_neg e2] at hid; exact absurd rfl hid
        rw [if_pos]
        · refine ⟨?_, h.drop⟩
          unfold argE
          rw [hb, if_neg (by decide), if_neg (by omega), if_pos h1, hid43]
        · unfold idE at hid43
          simp only [Bool.or_eq_true, beq_iff_eq, decide_eq_true_eq]
          by_cases e1 : a.n = 0
          · exact .inl e1
          · right
            rw [if_neg e1] at hid43
            by_cases e2 : bound ≤ a.n
            · exact e2
            · rw [if_neg e2] at hid43; cases hid43
    · rw [if_neg h1]
      exact k3 w h (fun hh => absurd hh h1)
  try simp (disch := omega) only [cnd_bool, on_some_eq, Dr_eq, xNil_ptr, xNil_func, xNil_yield, xPick_bool, unw_nil, xRes_ptr, xUn_not, xUn_neg, xEx_tuple, xBin_add, xBin_sub, xBin_mul, xBin_eql, xBin_neq, xBin_lss, xBin_leq, xBin_gtr, xBin_geq, xBin_eqls, xBin_neqs, wI64, oCell_some, List.getElem?_toArray, List.getElem?_cons_zero, List.getElem?_cons_succ, Nat.zero_add, Bool.not_true, Bool.not_false, if_true, if_false, ite_true, ite_false, beq_iff_eq, bne_iff_ne, decide_eq_true_eq, ne_eq, Bool.false_eq_true, Bool.true_eq_false, reduceIte, Option.some.injEq, Int.toNat_natCast, beq_self_eq_true, bne_self_eq_false, Value.cells, splice, List.setIfInBounds_toArray, List.set_cons_zero, List.set_cons_succ, List.size_toArray, List.length_cons, List.length_nil, and_self, Nat.reduceLeDiff, Nat.reduceAdd, Nat.reduceMul, Int.reduceToNat, Int.reduceLT, Int.reduceLE, Int.reduceGT, Int.reduceGE, Int.reduceAdd, Int.reduceSub, Int.reduceMul, Int.reduceNeg, Int.reduceEq, Int.reduceNe, true_and, and_true, Int.cast_ofNat_Int, Nat.le_refl, hf, ld3, ld5, ld9, ln9, ix9, ld22, ld75, fa75_0, fa75_1, fa75_2, ow2, ow3, ow4, ow5, ow6, ow8, ow11, ow20, ow23, cv5_22, cv5_3]
  by_cases hc : c = 0
  · rw [if_pos hc]
    exact bad _ h (by unfold badA; simp [hc])
  · rw [if_neg hc]
    refine Cx.mono (c_refKind h c) fun v w hv => ?_
    obtain ⟨rfl, h⟩ := hv
    have hf := h.facts
    simp only [Facts] at hf
    try simp (disch := omega) only [cnd_bool, on_some_eq, Dr_eq, xNil_ptr, xNil_func, xNil_yield, xPick_bool, unw_nil, xRes_ptr, xUn_not, xUn_neg, xEx_tuple, xBin_add, xBin_sub, xBin_mul, xBin_eql, xBin_neq, xBin_lss, xBin_leq, xBin_gtr, xBin_geq, xBin_eqls, xBin_neqs, wI64, oCell_some, List.getElem?_toArray, List.getElem?_cons_zero, List.getElem?_cons_succ, Nat.zero_add, Bool.not_true, Bool.not_false, if_true, if_false, ite_true, ite_false, beq_iff_eq, bne_iff_ne, decide_eq_true_eq, ne_eq, Bool.false_eq_true, Bool.true_eq_false, reduceIte, Option.some.injEq, Int.toNat_natCast, beq_self_eq_true, bne_self_eq_false, Value.cells, splice, List.setIfInBounds_toArray, List.set_cons_zero, List.set_cons_succ, List.size_toArray, List.length_cons, List.length_nil, and_self, Nat.reduceLeDiff, Nat.reduceAdd, Nat.reduceMul, Int.reduceToNat, Int.reduceLT, Int.reduceLE, Int.reduceGT, Int.reduceGE, Int.reduceAdd, Int.reduceSub, Int.reduceMul, Int.reduceNeg, Int.reduceEq, Int.reduceNe, true_and, and_true, Int.cast_ofNat_Int, Nat.le_refl, hf, ld3, ld5, ld9, ln9, ix9, ld22, ld75, fa75_0, fa75_1, fa75_2, ow2, ow3, ow4, ow5, ow6, ow8, ow11, ow20, ow23, cv5_22, cv5_3]
    by_cases hkd : a.kind = kindL c
    · rw [if_neg (by simpa using hkd)]
      unfold F62.k1
      try simp (disch := omega) only [cnd_bool, on_some_eq, Dr_eq, xNil_ptr, xNil_func, xNil_yield, xPick_bool, unw_nil, xRes_ptr, xUn_not, xUn_neg, xEx_tuple, xBin_add, xBin_sub, xBin_mul, xBin_eql, xBin_neq, xBin_lss, xBin_leq, xBin_gtr, xBin_geq, xBin_eqls, xBin_neqs, wI64, oCell_some, List.getElem?_toArray, List.getElem?_cons_zero, List.getElem?_cons_succ, Nat.zero_add, Bool.not_true, Bool.not_false, if_true, if_false, ite_true, ite_false, beq_iff_eq, bne_iff_ne, decide_eq_true_eq, ne_eq, Bool.false_eq_true, Bool.true_eq_false, reduceIte, Option.some.injEq, Int.toNat_natCast, beq_self_eq_true, bne_self_eq_false, Value.cells, splice, List.setIfInBounds_toArray, List.set_cons_zero, List.set_cons_succ, List.size_toArray, List.length_cons, List.length_nil, and_self, Nat.reduceLeDiff, Nat.reduceAdd, Nat.reduceMul, Int.reduceToNat, Int.reduceLT, Int.reduceLE, Int.reduceGT, Int.reduceGE, Int.reduceAdd, Int.reduceSub, Int.reduceMul, Int.reduceNeg, Int.reduceEq, Int.reduceNe, true_and, and_true, Int.cast_ofNat_Int, Nat.le_refl, hf, ld3, ld5, ld9, ln9, ix9, ld22, ld75, fa75_0, fa75_1, fa75_2, ow2, ow3, ow4, ow5, ow6, ow8, ow11, ow20, ow23, cv5_22, cv5_3]
      by_cases h3 : a.kind = 3
      · rw [if_pos h3]
        by_cases hn0 : a.n = 0
        · rw [if_neg (by simpa using hn0), if_neg (by simpa using h3)]
          refine k2 w h ?_
          unfold badA
          rw [if_pos h3, hn0, ← hkd]
          simp [hc]
        · rw [if_pos hn0]
          exact bad w h (by unfold badA; rw [if_pos h3]; simp [hn0])
      · rw [if_neg h3, if_pos (by simpa using h3)]
        cases hns : noS a.s with
        | true =>
          have hns' := hns
          unfold noS at hns'
          rw [hns']
          simp only [Bool.not_true, Bool.false_eq_true, if_false]
          exact k2 w h (by unfold badA; rw [if_neg h3, hns, ← hkd]; simp [hc])
        | false =>
          have hns' := hns
          unfold noS at hns'
          rw [hns']
          simp only [Bool.not_false, if_true]
          exact bad w h (by unfold badA; rw [if_neg h3, hns]; simp)
    · rw [if_pos hkd]
      exact bad w h (by unfold badA; simp [hkd])
end
end Go.Proofs.Ytlmcppbpobnfjaa

