/-
  grammar.Of answers what ref03.Of answers.
-/
import Derived.Test.YtlmcppbpobnfjaaTg
namespace Go.Proofs.Ytlmcppbpobnfjaa
open Go Go.Vc
set_option linter.unusedSimpArgs false
set_option linter.unusedVariables false
set_option maxRecDepth 20000

/-- The fields of a row. -/
def splitB (cur : List UInt8) : List UInt8 → List (List UInt8)
  | [] => [cur]
  | c :: r => if c = 32 then cur :: splitB [] r else splitB (cur ++ [c]) r
theorem splitB_pos (cur r : List UInt8) : 0 < (splitB cur r).length := by
  induction r generalizing cur with
  | nil => simp [splitB]
  | cons c r ih => unfold splitB; split <;> simp [ih]
def strs (l : List (List UInt8)) : List Value := l.map fun x => .string (bs x)
theorem one_fields {w0 : World} {L : List (Nat × Obj)} {b2 b3 it : Nat} {c2 : Array Value} (hc2 : c2.size = 6) (s : List UInt8) (hs : ∀ c ∈ s, c.toNat < 128) :
    ∀ (rest : List UInt8) (pos : Nat) (done : List (List UInt8)) (cur : List UInt8) (k : Nat) (w : World), s.drop pos = rest → done.length + 1 + k = 6 → done.length + (splitB cur rest).length = 6 → cur.length + rest.length ≤ 1000 →
      So w0 w ((it, .stringIter (bs s) pos) :: (b3, cl (strs (done ++ cur :: List.replicate k [])).toArray 162) :: (b2, cl c2 162) :: L) →
      F103.l1 (fun v w => v = .agg (strs (done ++ splitB cur rest)).toArray ∧ So w0 w L) (rest.length + 1) (.pointer (some ⟨b2, 0, none⟩)) (.pointer (some ⟨b3, 0, none⟩)) (.int .i64 done.length) (.pointer (some ⟨it, 0, none⟩)) w := by
  intro rest
  induction rest with
  | nil =>
    intro pos done cur k w hd hk hl _ h
    unfold F103.l1
    have hp : ¬ pos < (bs s).size := by
      rw [bs_size]; intro hp
      have := congrArg List.length hd
      simp at this; omega
    refine soNextE 0 h rfl hp ?_
    have hk0 : k = 0 := by simp [splitB] at hl; omega
    subst hk0
    have hf := h.facts
    simp only [Facts] at hf
    unfold F103.k2
    have hsz : (strs (done ++ [cur])).toArray.size = 6 := by simp [strs]; omega
    try simp (disch := omega) only [cnd_bool, on_some_eq, Dr_eq, xNil_ptr, xNil_func, xNil_yield, xPick_bool, unw_nil, xRes_ptr, xUn_not, xUn_neg, xEx_tuple, xBin_add, xBin_sub, xBin_mul, xBin_eql, xBin_neq, xBin_lss, xBin_leq, xBin_gtr, xBin_geq, xBin_eqls, xBin_neqs, wI64, oCell_some, List.getElem?_toArray, List.getElem?_cons_zero, List.getElem?_cons_succ, Nat.zero_add, Bool.not_true, Bool.not_false, if_true, if_false, ite_true, ite_false, beq_iff_eq, bne_iff_ne, decide_eq_true_eq, ne_eq, Bool.false_eq_true, Bool.true_eq_false, reduceIte, Option.some.injEq, Int.toNat_natCast, beq_self_eq_true, bne_self_eq_false, Value.cells, splice, List.setIfInBounds_toArray, List.set_cons_zero, List.set_cons_succ, List.size_toArray, List.length_cons, List.length_nil, and_self, Nat.reduceLeDiff, Nat.reduceAdd, Nat.reduceMul, Int.reduceToNat, Int.reduceLT, Int.reduceLE, Int.reduceGT, Int.reduceGE, Int.reduceAdd, Int.reduceSub, Int.reduceMul, Int.reduceNeg, Int.reduceEq, Int.reduceNe, true_and, and_true, Int.cast_ofNat_Int, Nat.le_refl, hf, ld3, ld9, ln9, ix9, ld21, ld162, ia162, ow2, ow3, ow4, ow5, ow6, ow8, ow11, ow20, ow23, oRow_all, oRow_all hsz, List.replicate_zero]
    refine soStoreA ty162 2 h (fun w h => ?_) rfl hsz hc2 (by simp [strs, one1])
    simp only [List.set_cons_zero, List.set_cons_succ] at h
    have hf := h.facts
    simp only [Facts] at hf
    try simp (disch := omega) only [cnd_bool, on_some_eq, Dr_eq, xNil_ptr, xNil_func, xNil_yield, xPick_bool, unw_nil, xRes_ptr, xUn_not, xUn_neg, xEx_tuple, xBin_add, xBin_sub, xBin_mul, xBin_eql, xBin_neq, xBin_lss, xBin_leq, xBin_gtr, xBin_geq, xBin_eqls, xBin_neqs, wI64, oCell_some, List.getElem?_toArray, List.getElem?_cons_zero, List.getElem?_cons_succ, Nat.zero_add, Bool.not_true, Bool.not_false, if_true, if_false, ite_true, ite_false, beq_iff_eq, bne_iff_ne, decide_eq_true_eq, ne_eq, Bool.false_eq_true, Bool.true_eq_false, reduceIte, Option.some.injEq, Int.toNat_natCast, beq_self_eq_true, bne_self_eq_false, Value.cells, splice, List.setIfInBounds_toArray, List.set_cons_zero, List.set_cons_succ, List.size_toArray, List.length_cons, List.length_nil, and_self, Nat.reduceLeDiff, Nat.reduceAdd, Nat.reduceMul, Int.reduceToNat, Int.reduceLT, Int.reduceLE, Int.reduceGT, Int.reduceGE, Int.reduceAdd, Int.reduceSub, Int.reduceMul, Int.reduceNeg, Int.reduceEq, Int.reduceNe, true_and, and_true, Int.cast_ofNat_Int, Nat.le_refl, hf, ld3, ld9, ln9, ix9, ld21, ld162, ia162, ow2, ow3, ow4, ow5, ow6, ow8, ow11, ow20, ow23, oRow_all hsz]
    exact ⟨rfl, h.drop.drop.drop⟩
  | cons c r ih =>
    intro pos done cur k w hd hk hl hlen h
    have hp' : pos < s.length := by
      have := congrArg List.length hd
      simp at this; omega
    have hp : pos < (bs s).size := by rw [bs_size]; exact hp'
    have hc : (bs s)[pos]'hp = c := by
      rw [bs_get]
      rw [List.drop_eq_getElem_cons hp'] at hd
      exact (List.cons.inj hd).1
    have hd' : s.drop (pos + 1) = r := by
      rw [List.drop_eq_getElem_cons hp'] at hd
      exact (List.cons.inj hd).2
    have ha : c.toNat < 128 := hs c (List.mem_of_mem_drop (hd ▸ List.mem_cons_self ..))
    unfold F103.l1
    refine soNextS 0 h rfl hp (by rw [hc]; exact ha) fun w h => ?_
    rw [hc]
    simp only [List.set_cons_zero] at h
    have hf := h.facts
    simp only [Facts] at hf
    try simp (disch := omega) only [cnd_bool, on_some_eq, Dr_eq, xNil_ptr, xNil_func, xNil_yield, xPick_bool, unw_nil, xRes_ptr, xUn_not, xUn_neg, xEx_tuple, xBin_add, xBin_sub, xBin_mul, xBin_eql, xBin_neq, xBin_lss, xBin_leq, xBin_gtr, xBin_geq, xBin_eqls, xBin_neqs, wI64, oCell_some, List.getElem?_toArray, List.getElem?_cons_zero, List.getElem?_cons_succ, Nat.zero_add, Bool.not_true, Bool.not_false, if_true, if_false, ite_true, ite_false, beq_iff_eq, bne_iff_ne, decide_eq_true_eq, ne_eq, Bool.false_eq_true, Bool.true_eq_false, reduceIte, Option.some.injEq, Int.toNat_natCast, beq_self_eq_true, bne_self_eq_false, Value.cells, splice, List.setIfInBounds_toArray, List.set_cons_zero, List.set_cons_succ, List.size_toArray, List.length_cons, List.length_nil, and_self, Nat.reduceLeDiff, Nat.reduceAdd, Nat.reduceMul, Int.reduceToNat, Int.reduceLT, Int.reduceLE, Int.reduceGT, Int.reduceGE, Int.reduceAdd, Int.reduceSub, Int.reduceMul, Int.reduceNeg, Int.reduceEq, Int.reduceNe, true_and, and_true, Int.cast_ofNat_Int, Nat.le_refl, hf, ld3, ld9, ln9, ix9, ld21, ld162, ia162, ow2, ow3, ow4, ow5, ow6, ow8, ow11, ow20, ow23]
    by_cases h32 : c = 32
    · subst h32
      rw [if_pos (by decide)]
      have hk1 : k = (k - 1) + 1 := by
        simp only [splitB, if_true, List.length_cons] at hl
        have := splitB_pos [] r
        omega
      have h1 : done.length + (splitB cur ((32 : UInt8) :: r)).length = 6 := hl
      simp only [splitB, if_true, List.length_cons] at hl ⊢
      have := ih (pos + 1) (done ++ [cur]) [] (k - 1) w hd' (by simp; omega) (by simp; omega) (by simp at hlen ⊢; omega) (by
        rw [hk1, List.replicate_succ] at h
        simpa using h)
      simp only [List.length_append, List.length_cons, List.length_nil, List.append_assoc, List.cons_append, List.nil_append] at this
      rw [show (((done.length + (0 + 1) : Nat)) : Int) = (done.length : Int) + 1 by omega] at this
      exact this
    · rw [if_neg (by intro he; apply h32; apply UInt8.toNat_inj.1; simpa using Int.ofNat.inj he)]
      have hin : (strs (done ++ cur :: List.replicate k []))[done.length]? = some (.string (bs cur)) := by simp [strs]
      try simp (disch := omega) only [cnd_bool, on_some_eq, Dr_eq, xNil_ptr, xNil_func, xNil_yield, xPick_bool, unw_nil, xRes_ptr, xUn_not, xUn_neg, xEx_tuple, xBin_add, xBin_sub, xBin_mul, xBin_eql, xBin_neq, xBin_lss, xBin_leq, xBin_gtr, xBin_geq, xBin_eqls, xBin_neqs, wI64, oCell_some, List.getElem?_toArray, List.getElem?_cons_zero, List.getElem?_cons_succ, Nat.zero_add, Bool.not_true, Bool.not_false, if_true, if_false, ite_true, ite_false, beq_iff_eq, bne_iff_ne, decide_eq_true_eq, ne_eq, Bool.false_eq_true, Bool.true_eq_false, reduceIte, Option.some.injEq, Int.toNat_natCast, beq_self_eq_true, bne_self_eq_false, Value.cells, splice, List.setIfInBounds_toArray, List.set_cons_zero, List.set_cons_succ, List.size_toArray, List.length_cons, List.length_nil, and_self, Nat.reduceLeDiff, Nat.reduceAdd, Nat.reduceMul, Int.reduceToNat, Int.reduceLT, Int.reduceLE, Int.reduceGT, Int.reduceGE, Int.reduceAdd, Int.reduceSub, Int.reduceMul, Int.reduceNeg, Int.reduceEq, Int.reduceNe, true_and, and_true, Int.cast_ofNat_Int, Nat.le_refl, hf, ld3, ld9, ln9, ix9, ld21, ld162, ia162, ow2, ow3, ow4, ow5, ow6, ow8, ow11, ow20, ow23, hin, Nat.mul_one]
      refine eConv_rune un21 un9 ha ?_
      rw [xBin_adds _ _ _ _ _ (by simp only [bs_size, List.length_cons, List.length_nil] at hlen ⊢; omega), bs_append]
      try simp (disch := omega) only [cnd_bool, on_some_eq, Dr_eq, xNil_ptr, xNil_func, xNil_yield, xPick_bool, unw_nil, xRes_ptr, xUn_not, xUn_neg, xEx_tuple, xBin_add, xBin_sub, xBin_mul, xBin_eql, xBin_neq, xBin_lss, xBin_leq, xBin_gtr, xBin_geq, xBin_eqls, xBin_neqs, wI64, oCell_some, List.getElem?_toArray, List.getElem?_cons_zero, List.getElem?_cons_succ, Nat.zero_add, Bool.not_true, Bool.not_false, if_true, if_false, ite_true, ite_false, beq_iff_eq, bne_iff_ne, decide_eq_true_eq, ne_eq, Bool.false_eq_true, Bool.true_eq_false, reduceIte, Option.some.injEq, Int.toNat_natCast, beq_self_eq_true, bne_self_eq_false, Value.cells, splice, List.setIfInBounds_toArray, List.set_cons_zero, List.set_cons_succ, List.size_toArray, List.length_cons, List.length_nil, and_self, Nat.reduceLeDiff, Nat.reduceAdd, Nat.reduceMul, Int.reduceToNat, Int.reduceLT, Int.reduceLE, Int.reduceGT, Int.reduceGE, Int.reduceAdd, Int.reduceSub, Int.reduceMul, Int.reduceNeg, Int.reduceEq, Int.reduceNe, true_and, and_true, Int.cast_ofNat_Int, Nat.le_refl, hf, ld3, ld9, ln9, ix9, ld21, ld162, ia162, ow2, ow3, ow4, ow5, ow6, ow8, ow11, ow20, ow23, Nat.mul_one]
      refine soStore1 ty9 1 h (fun w h => ?_) rfl (by simp [strs]) rfl
      simp only [splitB, if_neg h32] at hl ⊢
      refine ih (pos + 1) done (cur ++ [c]) k w hd' hk hl (by simp at hlen ⊢; omega) ?_
      simp only [List.set_cons_zero, List.set_cons_succ, List.setIfInBounds_toArray] at h
      have : (strs (done ++ cur :: List.replicate k [])).set done.length (.string (bs (cur ++ [c]))) = strs (done ++ (cur ++ [c]) :: List.replicate k []) := by
        simp [strs]
      rw [this] at h
      exact h
theorem c_fields {w0 w : World} {L : List (Nat × Obj)} (h : So w0 w L) (s : List UInt8) (hs : ∀ c ∈ s, c.toNat < 128) (h6 : (splitB [] s).length = 6) (hl : s.length ≤ 1000) : Cx P 103 #[.string (bs s)] w fun v w => v = .agg (strs (splitB [] s)).toArray ∧ So w0 w L := by
  apply F103_ok
  unfold F103
  refine al162 h fun b2 w h => ?_
  try simp only [Facts, and_true, Value.cells, List.setIfInBounds_toArray, List.set_cons_zero, List.set_cons_succ, splice, Nat.zero_add, Nat.reduceAdd, List.cons_append, List.nil_append] at h
  have hf := h.facts
  simp only [Facts, and_true, Value.cells, List.setIfInBounds_toArray, List.set_cons_zero, List.set_cons_succ, splice, Nat.zero_add, Nat.reduceAdd, List.cons_append, List.nil_append] at hf
  refine al162 h fun b3 w h => ?_
  try simp only [Facts, and_true, Value.cells, List.setIfInBounds_toArray, List.set_cons_zero, List.set_cons_succ, splice, Nat.zero_add, Nat.reduceAdd, List.cons_append, List.nil_append] at h
  have hf := h.facts
  simp only [Facts, and_true, Value.cells, List.setIfInBounds_toArray, List.set_cons_zero, List.set_cons_succ, splice, Nat.zero_add, Nat.reduceAdd, List.cons_append, List.nil_append] at hf
  unfold F103.k1
  refine soRangeS un9 h fun it w h => ?_
  exact ⟨_, one_fields rfl s hs s 0 [] [] 5 w (by simp) (by simp) (by simpa using h6) (by simpa using hl) h⟩
end Go.Proofs.Ytlmcppbpobnfjaa

