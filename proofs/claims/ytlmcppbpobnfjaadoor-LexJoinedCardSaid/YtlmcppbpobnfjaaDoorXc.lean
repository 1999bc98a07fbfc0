/-
  LexJoined: the lines are the text.
-/
import Derived.Test.YtlmcppbpobnfjaaDoorXb
import Derived.Test.YtlmcppbpobnfjaaDoorVr
namespace Go.Proofs.YtlmcppbpobnfjaaDoor
open Go Go.Vc
set_option linter.unusedSimpArgs false
set_option linter.unusedVariables false
set_option maxRecDepth 20000

/-- A text, a byte 10 behind it if it has none. -/
def fixT : List UInt8 → List UInt8
  | [] => []
  | [b] => if b = 10 then [b] else [b, 10]
  | b :: c :: l => b :: fixT (c :: l)
theorem fixT_law : ∀ l : List UInt8, l ≠ [] → fixT l = aheadB 10 l ++ [10] ++ fixT (behindB 10 l)
  | [], h => absurd rfl h
  | [b], _ => by
    by_cases hb : b = 10
    · simp [fixT, aheadB, behindB, hb]
    · simp [fixT, aheadB, behindB, hb]
  | b :: c :: l, _ => by
    have ih := fixT_law (c :: l) (by simp)
    by_cases hb : b = 10
    · rw [fixT, aheadB, behindB, if_pos hb, if_pos hb, hb]; rfl
    · rw [fixT, aheadB, behindB, if_neg hb, if_neg hb, ih]; rfl
theorem fixT_last : ∀ l : List UInt8, (h : l ≠ []) → fixT l = if l[l.length - 1]'(by have := List.length_pos_iff.2 h; omega) = 10 then l else l ++ [10]
  | [], h => absurd rfl h
  | [b], _ => by
    by_cases hb : b = 10
    · simp [fixT, hb]
    · simp [fixT, hb]
  | b :: c :: l, _ => by
    have ih := fixT_last (c :: l) (by simp)
    rw [fixT, ih]
    have e : (b :: c :: l)[(b :: c :: l).length - 1]'(by simp) = (c :: l)[(c :: l).length - 1]'(by simp) := by simp
    rw [e]
    split <;> rfl
theorem fixT_len : ∀ l : List UInt8, (fixT l).length ≤ l.length + 1
  | [] => by simp [fixT]
  | [b] => by unfold fixT; split <;> simp
  | b :: c :: l => by have := fixT_len (c :: l); simp only [fixT, List.length_cons] at this ⊢; omega
theorem aheadB_no : ∀ l : List UInt8, ∀ b ∈ aheadB 10 l, b ≠ 10
  | [], b, h => by simp [aheadB] at h
  | a :: l, b, h => by
    unfold aheadB at h
    by_cases ha : a = 10
    · rw [if_pos ha] at h; cases h
    · rw [if_neg ha] at h
      rcases List.mem_cons.1 h with rfl | h
      · exact ha
      · exact aheadB_no l b h
theorem behindB_len : ∀ l : List UInt8, l ≠ [] → (behindB 10 l).length < l.length
  | [], h => absurd rfl h
  | a :: l, _ => by
    unfold behindB
    by_cases ha : a = 10
    · rw [if_pos ha]; simp
    · rw [if_neg ha]
      by_cases hl : l = []
      · subst hl; simp [behindB]
      · have := behindB_len l hl; simp; omega
theorem aheadB_len (l : List UInt8) : (aheadB 10 l).length ≤ l.length := by
  rcases indexByte_law 10 l with ⟨_, h, _⟩ | ⟨_, h⟩
  · rw [h]; exact Nat.le_refl _
  · omega

abbrev LOj := LO 57 #[18, 19] (cL (cL (cN 1 (cL (cN 6 (cB Tryd.f3)))))) (cR (cL (cN 1 (cL (cN 6 (cB Tryd.f3))))))
section
variable {w0 : World} {L : List (Nat × Obj)} {d l x1 x2 x3 x4 : Nat} {ob1 : Obj} {Qc : Value → World → Prop}
abbrev EnvJ (x2 x3 x4 : Nat) : List (Nat × Value) := [(2, .pointer (some ⟨x2, 0, none⟩)), (3, .pointer (some ⟨x3, 0, none⟩)), (4, .pointer (some ⟨x4, 0, none⟩))]
/-- The bytes of a line are gone over. -/
theorem bytes_loop {line all : List UInt8} {n : Nat} {o : Obj} (hno : ∀ b ∈ line, b ≠ 10) (hlen : all.length + line.length ≤ 50000) (ho : LOj (EnvJ x2 x3 x4) .busy none o)
    (hk : ∀ w o, LOj (EnvJ x2 x3 x4) .ready none o → So w0 w ((d, .deferred (some [])) :: (l, o) :: (x1, ob1) :: (x4, cl #[.int .i64 (n : Int)] 3) :: (x3, cl #[.string (bs (all ++ line ++ [10]))] 9) :: (x2, cl #[.bool false] 4) :: L) → Qc (.bool true) w) :
    ∀ (m i : Nat) (w : World), i + m = line.length → So w0 w ((d, .deferred (some [])) :: (l, o) :: (x1, ob1) :: (x4, cl #[.int .i64 (n : Int)] 3) :: (x3, cl #[.string (bs all)] 9) :: (x2, cl #[.bool false] 4) :: L) →
      F3.l1 Qc l (m + 1) (.pointer (some ⟨x2, 0, none⟩)) (.pointer (some ⟨x3, 0, none⟩)) (.string (bs line)) (.int .i64 (i : Int)) w := by
  intro m
  induction m with
  | zero =>
    intro i w hi h
    have hf := h.facts
    simp only [Facts] at hf
    unfold F3.l1
    try simp (disch := omega) only [cnd_bool, on_some_eq, Dr_eq, xNil_ptr, xNil_func, xNil_yield, xPick_bool, unw_nil, xRes_ptr, xUn_not, xUn_neg, xEx_tuple, xBin_add, xBin_sub, xBin_mul, xBin_eql, xBin_neq, xBin_lss, xBin_leq, xBin_gtr, xBin_geq, xBin_eqls, xBin_neqs, wI64, oCell_some, List.getElem?_toArray, List.getElem?_cons_zero, List.getElem?_cons_succ, Nat.zero_add, Bool.not_true, Bool.not_false, if_true, if_false, ite_true, ite_false, beq_iff_eq, bne_iff_ne, decide_eq_true_eq, ne_eq, Bool.false_eq_true, Bool.true_eq_false, reduceIte, Option.some.injEq, Int.toNat_natCast, beq_self_eq_true, bne_self_eq_false, Value.cells, splice, List.setIfInBounds_toArray, List.set_cons_zero, List.set_cons_succ, List.size_toArray, List.length_cons, List.length_nil, and_self, Nat.reduceLeDiff, Nat.reduceAdd, Nat.reduceMul, Int.reduceToNat, Int.reduceLT, Int.reduceLE, Int.reduceGT, Int.reduceGE, Int.reduceAdd, Int.reduceSub, Int.reduceMul, Int.reduceNeg, Int.reduceEq, Int.reduceNe, true_and, and_true, Int.cast_ofNat_Int, Nat.le_refl, hf, ld3, ld4, ld5, ld9, ln9, ix9, ow2, ow3, ow24, bs_size]
    rw [if_neg (by omega)]
    unfold F3.k7
    try simp (disch := omega) only [cnd_bool, on_some_eq, Dr_eq, xNil_ptr, xNil_func, xNil_yield, xPick_bool, unw_nil, xRes_ptr, xUn_not, xUn_neg, xEx_tuple, xBin_add, xBin_sub, xBin_mul, xBin_eql, xBin_neq, xBin_lss, xBin_leq, xBin_gtr, xBin_geq, xBin_eqls, xBin_neqs, wI64, oCell_some, List.getElem?_toArray, List.getElem?_cons_zero, List.getElem?_cons_succ, Nat.zero_add, Bool.not_true, Bool.not_false, if_true, if_false, ite_true, ite_false, beq_iff_eq, bne_iff_ne, decide_eq_true_eq, ne_eq, Bool.false_eq_true, Bool.true_eq_false, reduceIte, Option.some.injEq, Int.toNat_natCast, beq_self_eq_true, bne_self_eq_false, Value.cells, splice, List.setIfInBounds_toArray, List.set_cons_zero, List.set_cons_succ, List.size_toArray, List.length_cons, List.length_nil, and_self, Nat.reduceLeDiff, Nat.reduceAdd, Nat.reduceMul, Int.reduceToNat, Int.reduceLT, Int.reduceLE, Int.reduceGT, Int.reduceGE, Int.reduceAdd, Int.reduceSub, Int.reduceMul, Int.reduceNeg, Int.reduceEq, Int.reduceNe, true_and, and_true, Int.cast_ofNat_Int, Nat.le_refl, hf, ld3, ld4, ld5, ld9, ln9, ix9, ow2, ow3, ow24]
    rw [xBin_adds _ _ _ _ _ (by simp only [bs_size]; omega), bs_append]
    try simp (disch := omega) only [cnd_bool, on_some_eq, Dr_eq, xNil_ptr, xNil_func, xNil_yield, xPick_bool, unw_nil, xRes_ptr, xUn_not, xUn_neg, xEx_tuple, xBin_add, xBin_sub, xBin_mul, xBin_eql, xBin_neq, xBin_lss, xBin_leq, xBin_gtr, xBin_geq, xBin_eqls, xBin_neqs, wI64, oCell_some, List.getElem?_toArray, List.getElem?_cons_zero, List.getElem?_cons_succ, Nat.zero_add, Bool.not_true, Bool.not_false, if_true, if_false, ite_true, ite_false, beq_iff_eq, bne_iff_ne, decide_eq_true_eq, ne_eq, Bool.false_eq_true, Bool.true_eq_false, reduceIte, Option.some.injEq, Int.toNat_natCast, beq_self_eq_true, bne_self_eq_false, Value.cells, splice, List.setIfInBounds_toArray, List.set_cons_zero, List.set_cons_succ, List.size_toArray, List.length_cons, List.length_nil, and_self, Nat.reduceLeDiff, Nat.reduceAdd, Nat.reduceMul, Int.reduceToNat, Int.reduceLT, Int.reduceLE, Int.reduceGT, Int.reduceGE, Int.reduceAdd, Int.reduceSub, Int.reduceMul, Int.reduceNeg, Int.reduceEq, Int.reduceNe, true_and, and_true, Int.cast_ofNat_Int, Nat.le_refl, ld3, ld4, ld5, ld9, ln9, ix9, ow2, ow3, ow24]
    rw [bs_one, xBin_adds _ _ _ _ _ (by simp only [bs_size, List.length_append, List.length_cons, List.length_nil]; omega), bs_append]
    try simp (disch := omega) only [cnd_bool, on_some_eq, Dr_eq, xNil_ptr, xNil_func, xNil_yield, xPick_bool, unw_nil, xRes_ptr, xUn_not, xUn_neg, xEx_tuple, xBin_add, xBin_sub, xBin_mul, xBin_eql, xBin_neq, xBin_lss, xBin_leq, xBin_gtr, xBin_geq, xBin_eqls, xBin_neqs, wI64, oCell_some, List.getElem?_toArray, List.getElem?_cons_zero, List.getElem?_cons_succ, Nat.zero_add, Bool.not_true, Bool.not_false, if_true, if_false, ite_true, ite_false, beq_iff_eq, bne_iff_ne, decide_eq_true_eq, ne_eq, Bool.false_eq_true, Bool.true_eq_false, reduceIte, Option.some.injEq, Int.toNat_natCast, beq_self_eq_true, bne_self_eq_false, Value.cells, splice, List.setIfInBounds_toArray, List.set_cons_zero, List.set_cons_succ, List.size_toArray, List.length_cons, List.length_nil, and_self, Nat.reduceLeDiff, Nat.reduceAdd, Nat.reduceMul, Int.reduceToNat, Int.reduceLT, Int.reduceLE, Int.reduceGT, Int.reduceGE, Int.reduceAdd, Int.reduceSub, Int.reduceMul, Int.reduceNeg, Int.reduceEq, Int.reduceNe, true_and, and_true, Int.cast_ofNat_Int, Nat.le_refl, ld3, ld4, ld5, ld9, ln9, ix9, ow2, ow3, ow24]
    refine soStore1 ty9 4 h (fun w h => ?_) rfl (by simp) rfl
    simp only [List.set_cons_zero, List.set_cons_succ, List.setIfInBounds_toArray] at h
    refine soEnd 1 h rfl ho fun w o ho h => ?_
    simp only [List.set_cons_zero, List.set_cons_succ] at h
    exact hk w o ho h
  | succ m ih =>
    intro i w hi h
    have hlt : i < line.length := by omega
    have hsz : Int.toNat (i : Int) < (bs line).size := by rw [bs_size]; simpa using hlt
    unfold F3.l1
    try simp (disch := omega) only [cnd_bool, on_some_eq, Dr_eq, xNil_ptr, xNil_func, xNil_yield, xPick_bool, unw_nil, xRes_ptr, xUn_not, xUn_neg, xEx_tuple, xBin_add, xBin_sub, xBin_mul, xBin_eql, xBin_neq, xBin_lss, xBin_leq, xBin_gtr, xBin_geq, xBin_eqls, xBin_neqs, wI64, oCell_some, List.getElem?_toArray, List.getElem?_cons_zero, List.getElem?_cons_succ, Nat.zero_add, Bool.not_true, Bool.not_false, if_true, if_false, ite_true, ite_false, beq_iff_eq, bne_iff_ne, decide_eq_true_eq, ne_eq, Bool.false_eq_true, Bool.true_eq_false, reduceIte, Option.some.injEq, Int.toNat_natCast, beq_self_eq_true, bne_self_eq_false, Value.cells, splice, List.setIfInBounds_toArray, List.set_cons_zero, List.set_cons_succ, List.size_toArray, List.length_cons, List.length_nil, and_self, Nat.reduceLeDiff, Nat.reduceAdd, Nat.reduceMul, Int.reduceToNat, Int.reduceLT, Int.reduceLE, Int.reduceGT, Int.reduceGE, Int.reduceAdd, Int.reduceSub, Int.reduceMul, Int.reduceNeg, Int.reduceEq, Int.reduceNe, true_and, and_true, Int.cast_ofNat_Int, Nat.le_refl, ld3, ld4, ld5, ld9, ln9, ix9, ow2, ow3, ow24, bs_size, ix9 _ _ _ (Int.natCast_nonneg i) hsz]
    rw [if_pos (by omega)]
    have hb : ((bs line)[i]'(by rw [bs_size]; exact hlt)).toNat ≠ 10 := by
      rw [bs_get]
      intro he
      exact hno _ (List.getElem_mem _) (UInt8.toNat_inj.1 (by simpa using he))
    rw [if_neg (by omega)]
    have := ih (i + 1) w (by omega) h
    rw [show ((i + 1 : Nat) : Int) = (i : Int) + 1 by omega] at this
    exact this
/-- The lines are gone over. -/
theorem lines_loop {text : List UInt8} (htl : text.length ≤ 40000)
    (hk : ∀ w o n, LOj (EnvJ x2 x3 x4) .ready none o → So w0 w ((d, .deferred (some [])) :: (l, o) :: (x1, ob1) :: (x4, cl #[.int .i64 (n : Int)] 3) :: (x3, cl #[.string (bs (fixT text))] 9) :: (x2, cl #[.bool false] 4) :: L) → Qc (.tuple #[]) w) :
    ∀ (m : Nat) (rest all : List UInt8) (n : Nat) (w : World) (o : Obj), rest.length < m → all ++ fixT rest = fixT text → n + rest.length ≤ 40000 → LOj (EnvJ x2 x3 x4) .ready none o →
      So w0 w ((d, .deferred (some [])) :: (l, o) :: (x1, ob1) :: (x4, cl #[.int .i64 (n : Int)] 3) :: (x3, cl #[.string (bs all)] 9) :: (x2, cl #[.bool false] 4) :: L) →
      F8.l1 Qc m (.func (.yield l) #[] #[]) (.int .i64 ((n : Int) + 1)) (.string (bs rest)) w := by
  intro m
  induction m with
  | zero => intro rest all n w o hm; omega
  | succ m ih =>
    intro rest all n w o hm he hn ho h
    unfold F8.l1
    by_cases hr : rest = []
    · subst hr
      try simp (disch := omega) only [cnd_bool, on_some_eq, Dr_eq, xNil_ptr, xNil_func, xNil_yield, xPick_bool, unw_nil, xRes_ptr, xUn_not, xUn_neg, xEx_tuple, xBin_add, xBin_sub, xBin_mul, xBin_eql, xBin_neq, xBin_lss, xBin_leq, xBin_gtr, xBin_geq, xBin_eqls, xBin_neqs, wI64, oCell_some, List.getElem?_toArray, List.getElem?_cons_zero, List.getElem?_cons_succ, Nat.zero_add, Bool.not_true, Bool.not_false, if_true, if_false, ite_true, ite_false, beq_iff_eq, bne_iff_ne, decide_eq_true_eq, ne_eq, Bool.false_eq_true, Bool.true_eq_false, reduceIte, Option.some.injEq, Int.toNat_natCast, beq_self_eq_true, bne_self_eq_false, Value.cells, splice, List.setIfInBounds_toArray, List.set_cons_zero, List.set_cons_succ, List.size_toArray, List.length_cons, List.length_nil, and_self, Nat.reduceLeDiff, Nat.reduceAdd, Nat.reduceMul, Int.reduceToNat, Int.reduceLT, Int.reduceLE, Int.reduceGT, Int.reduceGE, Int.reduceAdd, Int.reduceSub, Int.reduceMul, Int.reduceNeg, Int.reduceEq, Int.reduceNe, true_and, and_true, Int.cast_ofNat_Int, Nat.le_refl, ld3, ld4, ld5, ld9, ln9, ix9, ow2, ow3, ow24, bs_nil, bs_toList]
      have he' : all = fixT text := by simpa [fixT] using he
      rw [he'] at h
      exact hk w o n ho h
    · try simp (disch := omega) only [cnd_bool, on_some_eq, Dr_eq, xNil_ptr, xNil_func, xNil_yield, xPick_bool, unw_nil, xRes_ptr, xUn_not, xUn_neg, xEx_tuple, xBin_add, xBin_sub, xBin_mul, xBin_eql, xBin_neq, xBin_lss, xBin_leq, xBin_gtr, xBin_geq, xBin_eqls, xBin_neqs, wI64, oCell_some, List.getElem?_toArray, List.getElem?_cons_zero, List.getElem?_cons_succ, Nat.zero_add, Bool.not_true, Bool.not_false, if_true, if_false, ite_true, ite_false, beq_iff_eq, bne_iff_ne, decide_eq_true_eq, ne_eq, Bool.false_eq_true, Bool.true_eq_false, reduceIte, Option.some.injEq, Int.toNat_natCast, beq_self_eq_true, bne_self_eq_false, Value.cells, splice, List.setIfInBounds_toArray, List.set_cons_zero, List.set_cons_succ, List.size_toArray, List.length_cons, List.length_nil, and_self, Nat.reduceLeDiff, Nat.reduceAdd, Nat.reduceMul, Int.reduceToNat, Int.reduceLT, Int.reduceLE, Int.reduceGT, Int.reduceGE, Int.reduceAdd, Int.reduceSub, Int.reduceMul, Int.reduceNeg, Int.reduceEq, Int.reduceNe, true_and, and_true, Int.cast_ofNat_Int, Nat.le_refl, ld3, ld4, ld5, ld9, ln9, ix9, ow2, ow3, ow24, bs_nil, bs_toList]
      have hne : (!(rest == ([] : List UInt8))) = true := by simpa using hr
      rw [hne]
      simp only [if_true]
      rw [bs_one]
      refine Cx.mono (c_cut h rest (by omega)) fun v w hv => ?_
      obtain ⟨⟨b, rfl⟩, h⟩ := hv
      try simp (disch := omega) only [cnd_bool, on_some_eq, Dr_eq, xNil_ptr, xNil_func, xNil_yield, xPick_bool, unw_nil, xRes_ptr, xUn_not, xUn_neg, xEx_tuple, xBin_add, xBin_sub, xBin_mul, xBin_eql, xBin_neq, xBin_lss, xBin_leq, xBin_gtr, xBin_geq, xBin_eqls, xBin_neqs, wI64, oCell_some, List.getElem?_toArray, List.getElem?_cons_zero, List.getElem?_cons_succ, Nat.zero_add, Bool.not_true, Bool.not_false, if_true, if_false, ite_true, ite_false, beq_iff_eq, bne_iff_ne, decide_eq_true_eq, ne_eq, Bool.false_eq_true, Bool.true_eq_false, reduceIte, Option.some.injEq, Int.toNat_natCast, beq_self_eq_true, bne_self_eq_false, Value.cells, splice, List.setIfInBounds_toArray, List.set_cons_zero, List.set_cons_succ, List.size_toArray, List.length_cons, List.length_nil, and_self, Nat.reduceLeDiff, Nat.reduceAdd, Nat.reduceMul, Int.reduceToNat, Int.reduceLT, Int.reduceLE, Int.reduceGT, Int.reduceGE, Int.reduceAdd, Int.reduceSub, Int.reduceMul, Int.reduceNeg, Int.reduceEq, Int.reduceNe, true_and, and_true, Int.cast_ofNat_Int, Nat.le_refl, ld3, ld4, ld5, ld9, ln9, ix9, ow2, ow3, ow24]
      have hbl := behindB_len rest hr
      have hal := aheadB_len rest
      have hlaw := fixT_law rest hr
      have hfl := fixT_len text
      have hall : all.length + (aheadB 10 rest).length ≤ 40001 := by
        have := congrArg List.length he
        rw [hlaw] at this
        simp at this
        omega
      refine F3.r1_ok (st := .ready) _ l _ _ (ho.rec' (h.st.blk (l, o) (by simp))) ?_
      unfold F3.r1
      refine soBeg 1 h rfl ho fun w o ho h => ?_
      simp only [List.set_cons_zero, List.set_cons_succ] at h
      unfold F3.k5
      have hf := h.facts
      simp only [Facts] at hf
      try simp (disch := omega) only [cnd_bool, on_some_eq, Dr_eq, xNil_ptr, xNil_func, xNil_yield, xPick_bool, unw_nil, xRes_ptr, xUn_not, xUn_neg, xEx_tuple, xBin_add, xBin_sub, xBin_mul, xBin_eql, xBin_neq, xBin_lss, xBin_leq, xBin_gtr, xBin_geq, xBin_eqls, xBin_neqs, wI64, oCell_some, List.getElem?_toArray, List.getElem?_cons_zero, List.getElem?_cons_succ, Nat.zero_add, Bool.not_true, Bool.not_false, if_true, if_false, ite_true, ite_false, beq_iff_eq, bne_iff_ne, decide_eq_true_eq, ne_eq, Bool.false_eq_true, Bool.true_eq_false, reduceIte, Option.some.injEq, Int.toNat_natCast, beq_self_eq_true, bne_self_eq_false, Value.cells, splice, List.setIfInBounds_toArray, List.set_cons_zero, List.set_cons_succ, List.size_toArray, List.length_cons, List.length_nil, and_self, Nat.reduceLeDiff, Nat.reduceAdd, Nat.reduceMul, Int.reduceToNat, Int.reduceLT, Int.reduceLE, Int.reduceGT, Int.reduceGE, Int.reduceAdd, Int.reduceSub, Int.reduceMul, Int.reduceNeg, Int.reduceEq, Int.reduceNe, true_and, and_true, Int.cast_ofNat_Int, Nat.le_refl, hf, ld3, ld4, ld5, ld9, ln9, ix9, ow2, ow3, ow24]
      refine soStore1 ty3 3 h (fun w h => ?_) rfl (by simp) rfl
      simp only [List.set_cons_zero, List.set_cons_succ, List.setIfInBounds_toArray] at h
      have hf := h.facts
      simp only [Facts] at hf
      try simp (disch := omega) only [cnd_bool, on_some_eq, Dr_eq, xNil_ptr, xNil_func, xNil_yield, xPick_bool, unw_nil, xRes_ptr, xUn_not, xUn_neg, xEx_tuple, xBin_add, xBin_sub, xBin_mul, xBin_eql, xBin_neq, xBin_lss, xBin_leq, xBin_gtr, xBin_geq, xBin_eqls, xBin_neqs, wI64, oCell_some, List.getElem?_toArray, List.getElem?_cons_zero, List.getElem?_cons_succ, Nat.zero_add, Bool.not_true, Bool.not_false, if_true, if_false, ite_true, ite_false, beq_iff_eq, bne_iff_ne, decide_eq_true_eq, ne_eq, Bool.false_eq_true, Bool.true_eq_false, reduceIte, Option.some.injEq, Int.toNat_natCast, beq_self_eq_true, bne_self_eq_false, Value.cells, splice, List.setIfInBounds_toArray, List.set_cons_zero, List.set_cons_succ, List.size_toArray, List.length_cons, List.length_nil, and_self, Nat.reduceLeDiff, Nat.reduceAdd, Nat.reduceMul, Int.reduceToNat, Int.reduceLT, Int.reduceLE, Int.reduceGT, Int.reduceGE, Int.reduceAdd, Int.reduceSub, Int.reduceMul, Int.reduceNeg, Int.reduceEq, Int.reduceNe, true_and, and_true, Int.cast_ofNat_Int, Nat.le_refl, hf, ld3, ld4, ld5, ld9, ln9, ix9, ow2, ow3, ow24]
      have hcast : ((n + 1 : Nat) : Int) = (n : Int) + 1 := by omega
      rw [← hcast] at h
      unfold F3.k6 F3.k8
      refine ⟨_, bytes_loop (line := aheadB 10 rest) (all := all) (n := n + 1) (L := L) (aheadB_no rest) (by omega) ho ?_ (aheadB 10 rest).length 0 w (by omega) h⟩
      intro w o ho h
      try simp (disch := omega) only [cnd_bool, on_some_eq, Dr_eq, xNil_ptr, xNil_func, xNil_yield, xPick_bool, unw_nil, xRes_ptr, xUn_not, xUn_neg, xEx_tuple, xBin_add, xBin_sub, xBin_mul, xBin_eql, xBin_neq, xBin_lss, xBin_leq, xBin_gtr, xBin_geq, xBin_eqls, xBin_neqs, wI64, oCell_some, List.getElem?_toArray, List.getElem?_cons_zero, List.getElem?_cons_succ, Nat.zero_add, Bool.not_true, Bool.not_false, if_true, if_false, ite_true, ite_false, beq_iff_eq, bne_iff_ne, decide_eq_true_eq, ne_eq, Bool.false_eq_true, Bool.true_eq_false, reduceIte, Option.some.injEq, Int.toNat_natCast, beq_self_eq_true, bne_self_eq_false, Value.cells, splice, List.setIfInBounds_toArray, List.set_cons_zero, List.set_cons_succ, List.size_toArray, List.length_cons, List.length_nil, and_self, Nat.reduceLeDiff, Nat.reduceAdd, Nat.reduceMul, Int.reduceToNat, Int.reduceLT, Int.reduceLE, Int.reduceGT, Int.reduceGE, Int.reduceAdd, Int.reduceSub, Int.reduceMul, Int.reduceNeg, Int.reduceEq, Int.reduceNe, true_and, and_true, Int.cast_ofNat_Int, Nat.le_refl, ld3, ld4, ld5, ld9, ln9, ix9, ow2, ow3, ow24]
      have := ih (behindB 10 rest) (all ++ aheadB 10 rest ++ [10]) (n + 1) w o (by omega) (by rw [← he, hlaw]; simp) (by omega) ho h
      rw [hcast] at this
      exact this
/-- awake returns true. -/
def Awake (w0 : World) : Prop := ∀ (w : World) (L : List (Nat × Obj)), So w0 w L → Cx P 4 #[] w fun v w => v = .bool true ∧ So w0 w L
theorem c_joined {w : World} (haw : Awake w0) (h : So w0 w L) (text : List UInt8) (hmax : text.length ≤ 9223372036854775807) : Cx P 3 #[.string (bs text)] w fun v w => v = .bool true ∧ So w0 w L := by
  apply F3_ok
  unfold F3
  refine al4 h fun x2 w h => ?_
  try simp (disch := omega) only [cnd_bool, on_some_eq, Dr_eq, xNil_ptr, xNil_func, xNil_yield, xPick_bool, unw_nil, xRes_ptr, xUn_not, xUn_neg, xEx_tuple, xBin_add, xBin_sub, xBin_mul, xBin_eql, xBin_neq, xBin_lss, xBin_leq, xBin_gtr, xBin_geq, xBin_eqls, xBin_neqs, wI64, oCell_some, List.getElem?_toArray, List.getElem?_cons_zero, List.getElem?_cons_succ, Nat.zero_add, Bool.not_true, Bool.not_false, if_true, if_false, ite_true, ite_false, beq_iff_eq, bne_iff_ne, decide_eq_true_eq, ne_eq, Bool.false_eq_true, Bool.true_eq_false, reduceIte, Option.some.injEq, Int.toNat_natCast, beq_self_eq_true, bne_self_eq_false, Value.cells, splice, List.setIfInBounds_toArray, List.set_cons_zero, List.set_cons_succ, List.size_toArray, List.length_cons, List.length_nil, and_self, Nat.reduceLeDiff, Nat.reduceAdd, Nat.reduceMul, Int.reduceToNat, Int.reduceLT, Int.reduceLE, Int.reduceGT, Int.reduceGE, Int.reduceAdd, Int.reduceSub, Int.reduceMul, Int.reduceNeg, Int.reduceEq, Int.reduceNe, true_and, and_true, Int.cast_ofNat_Int, Nat.le_refl, ld3, ld4, ld5, ld9, ln9, ix9, ow2, ow3, ow24, bs_size]
  by_cases hbig : 40000 < text.length
  · rw [if_pos (by omega)]
    refine Cx.mono (haw _ _ h) fun v w hv => ?_
    obtain ⟨rfl, h⟩ := hv
    refine soStore1 ty4 0 h (fun w h => ?_) rfl (by simp) rfl
    simp only [List.set_cons_zero, List.setIfInBounds_toArray] at h
    have hf := h.facts
    simp only [Facts] at hf
    try simp (disch := omega) only [cnd_bool, on_some_eq, Dr_eq, xNil_ptr, xNil_func, xNil_yield, xPick_bool, unw_nil, xRes_ptr, xUn_not, xUn_neg, xEx_tuple, xBin_add, xBin_sub, xBin_mul, xBin_eql, xBin_neq, xBin_lss, xBin_leq, xBin_gtr, xBin_geq, xBin_eqls, xBin_neqs, wI64, oCell_some, List.getElem?_toArray, List.getElem?_cons_zero, List.getElem?_cons_succ, Nat.zero_add, Bool.not_true, Bool.not_false, if_true, if_false, ite_true, ite_false, beq_iff_eq, bne_iff_ne, decide_eq_true_eq, ne_eq, Bool.false_eq_true, Bool.true_eq_false, reduceIte, Option.some.injEq, Int.toNat_natCast, beq_self_eq_true, bne_self_eq_false, Value.cells, splice, List.setIfInBounds_toArray, List.set_cons_zero, List.set_cons_succ, List.size_toArray, List.length_cons, List.length_nil, and_self, Nat.reduceLeDiff, Nat.reduceAdd, Nat.reduceMul, Int.reduceToNat, Int.reduceLT, Int.reduceLE, Int.reduceGT, Int.reduceGE, Int.reduceAdd, Int.reduceSub, Int.reduceMul, Int.reduceNeg, Int.reduceEq, Int.reduceNe, true_and, and_true, Int.cast_ofNat_Int, Nat.le_refl, hf, ld3, ld4, ld5, ld9, ln9, ix9, ow2, ow3, ow24]
    first | exact h.drop | exact ⟨rfl, h.drop⟩
  rw [if_neg (by omega)]
  refine al9 h fun x3 w h => ?_
  refine soStore1 ty9 0 h (fun w h => ?_) rfl (by simp) rfl
  simp only [List.set_cons_zero, List.setIfInBounds_toArray] at h
  refine al3 h fun x4 w h => ?_
  refine soStore1 ty3 0 h (fun w h => ?_) rfl (by simp) rfl
  simp only [List.set_cons_zero, List.setIfInBounds_toArray] at h
  apply F5_ok
  unfold F5
  refine soBox h fun x1 w h => ?_
  have hne : xBin P .eql 24 false true (.func (.func 8) #[] #[.pointer (some ⟨x1, 0, none⟩)]) .nilFunc = some (.bool false) := by kernel_rfl
  simp only [hne, on_some_eq]
  try simp (disch := omega) only [cnd_bool, on_some_eq, Dr_eq, xNil_ptr, xNil_func, xNil_yield, xPick_bool, unw_nil, xRes_ptr, xUn_not, xUn_neg, xEx_tuple, xBin_add, xBin_sub, xBin_mul, xBin_eql, xBin_neq, xBin_lss, xBin_leq, xBin_gtr, xBin_geq, xBin_eqls, xBin_neqs, wI64, oCell_some, List.getElem?_toArray, List.getElem?_cons_zero, List.getElem?_cons_succ, Nat.zero_add, Bool.not_true, Bool.not_false, if_true, if_false, ite_true, ite_false, beq_iff_eq, bne_iff_ne, decide_eq_true_eq, ne_eq, Bool.false_eq_true, Bool.true_eq_false, reduceIte, Option.some.injEq, Int.toNat_natCast, beq_self_eq_true, bne_self_eq_false, Value.cells, splice, List.setIfInBounds_toArray, List.set_cons_zero, List.set_cons_succ, List.size_toArray, List.length_cons, List.length_nil, and_self, Nat.reduceLeDiff, Nat.reduceAdd, Nat.reduceMul, Int.reduceToNat, Int.reduceLT, Int.reduceLE, Int.reduceGT, Int.reduceGE, Int.reduceAdd, Int.reduceSub, Int.reduceMul, Int.reduceNeg, Int.reduceEq, Int.reduceNe, true_and, and_true, Int.cast_ofNat_Int, Nat.le_refl, ld3, ld4, ld5, ld9, ln9, ix9, ow2, ow3, ow24]
  unfold F3.k1 F3.k4
  refine soRFo h fun d l w o ho h => ?_
  refine callF_func (by kernel_rfl) ?_
  show Cx P 8 #[.func (.yield l) #[] #[], .pointer (some ⟨x1, 0, none⟩)] w _
  apply F8_ok
  unfold F8
  try rw [Dr_eq]
  have h := h.drew
  have hf := h.facts
  simp only [Facts, Value.cells] at hf
  try simp (disch := omega) only [cnd_bool, on_some_eq, Dr_eq, xNil_ptr, xNil_func, xNil_yield, xPick_bool, unw_nil, xRes_ptr, xUn_not, xUn_neg, xEx_tuple, xBin_add, xBin_sub, xBin_mul, xBin_eql, xBin_neq, xBin_lss, xBin_leq, xBin_gtr, xBin_geq, xBin_eqls, xBin_neqs, wI64, oCell_some, List.getElem?_toArray, List.getElem?_cons_zero, List.getElem?_cons_succ, Nat.zero_add, Bool.not_true, Bool.not_false, if_true, if_false, ite_true, ite_false, beq_iff_eq, bne_iff_ne, decide_eq_true_eq, ne_eq, Bool.false_eq_true, Bool.true_eq_false, reduceIte, Option.some.injEq, Int.toNat_natCast, beq_self_eq_true, bne_self_eq_false, Value.cells, splice, List.setIfInBounds_toArray, List.set_cons_zero, List.set_cons_succ, List.size_toArray, List.length_cons, List.length_nil, and_self, Nat.reduceLeDiff, Nat.reduceAdd, Nat.reduceMul, Int.reduceToNat, Int.reduceLT, Int.reduceLE, Int.reduceGT, Int.reduceGE, Int.reduceAdd, Int.reduceSub, Int.reduceMul, Int.reduceNeg, Int.reduceEq, Int.reduceNe, true_and, and_true, Int.cast_ofNat_Int, Nat.le_refl, hf, ld3, ld4, ld5, ld9, ln9, ix9, ow2, ow3, ow24]
  unfold F8.k1
  refine ⟨_, lines_loop (text := text) (L := L) (by omega) ?_ (text.length + 1) text [] 0 w.drew o (by omega) rfl (by omega) ho h⟩
  intro w o n ho h
  refine soRfEnd 1 h rfl ho rfl fun w o ho h => ?_
  simp only [List.set_cons_zero, List.set_cons_succ] at h
  show F3.k2 (fun v w => v = .bool true ∧ So w0 w L) [d] (.string (bs text)) (.pointer (some ⟨x2, 0, none⟩)) (.pointer (some ⟨x3, 0, none⟩)) w
  have k3 : F3.k3 (fun v w => v = .bool true ∧ So w0 w L) [d] (.string (bs (fixT text))) (.pointer (some ⟨x2, 0, none⟩)) (.pointer (some ⟨x3, 0, none⟩)) w := by
    unfold F3.k3
    have hf := h.facts
    simp only [Facts] at hf
    try simp (disch := omega) only [cnd_bool, on_some_eq, Dr_eq, xNil_ptr, xNil_func, xNil_yield, xPick_bool, unw_nil, xRes_ptr, xUn_not, xUn_neg, xEx_tuple, xBin_add, xBin_sub, xBin_mul, xBin_eql, xBin_neq, xBin_lss, xBin_leq, xBin_gtr, xBin_geq, xBin_eqls, xBin_neqs, wI64, oCell_some, List.getElem?_toArray, List.getElem?_cons_zero, List.getElem?_cons_succ, Nat.zero_add, Bool.not_true, Bool.not_false, if_true, if_false, ite_true, ite_false, beq_iff_eq, bne_iff_ne, decide_eq_true_eq, ne_eq, Bool.false_eq_true, Bool.true_eq_false, reduceIte, Option.some.injEq, Int.toNat_natCast, beq_self_eq_true, bne_self_eq_false, Value.cells, splice, List.setIfInBounds_toArray, List.set_cons_zero, List.set_cons_succ, List.size_toArray, List.length_cons, List.length_nil, and_self, Nat.reduceLeDiff, Nat.reduceAdd, Nat.reduceMul, Int.reduceToNat, Int.reduceLT, Int.reduceLE, Int.reduceGT, Int.reduceGE, Int.reduceAdd, Int.reduceSub, Int.reduceMul, Int.reduceNeg, Int.reduceEq, Int.reduceNe, true_and, and_true, Int.cast_ofNat_Int, Nat.le_refl, hf, ld3, ld4, ld5, ld9, ln9, ix9, ow2, ow3, ow24, bs_toList]
    refine Cx.mono (haw _ _ h) fun v w hv => ?_
    obtain ⟨rfl, h⟩ := hv
    refine soStore1 ty4 5 h (fun w h => ?_) rfl (by simp) rfl
    simp only [List.set_cons_zero, List.set_cons_succ, List.setIfInBounds_toArray] at h
    refine soUnw 0 h rfl fun w h => ?_
    simp only [List.set_cons_zero] at h
    have hf := h.facts
    simp only [Facts] at hf
    try simp (disch := omega) only [cnd_bool, on_some_eq, Dr_eq, xNil_ptr, xNil_func, xNil_yield, xPick_bool, unw_nil, xRes_ptr, xUn_not, xUn_neg, xEx_tuple, xBin_add, xBin_sub, xBin_mul, xBin_eql, xBin_neq, xBin_lss, xBin_leq, xBin_gtr, xBin_geq, xBin_eqls, xBin_neqs, wI64, oCell_some, List.getElem?_toArray, List.getElem?_cons_zero, List.getElem?_cons_succ, Nat.zero_add, Bool.not_true, Bool.not_false, if_true, if_false, ite_true, ite_false, beq_iff_eq, bne_iff_ne, decide_eq_true_eq, ne_eq, Bool.false_eq_true, Bool.true_eq_false, reduceIte, Option.some.injEq, Int.toNat_natCast, beq_self_eq_true, bne_self_eq_false, Value.cells, splice, List.setIfInBounds_toArray, List.set_cons_zero, List.set_cons_succ, List.size_toArray, List.length_cons, List.length_nil, and_self, Nat.reduceLeDiff, Nat.reduceAdd, Nat.reduceMul, Int.reduceToNat, Int.reduceLT, Int.reduceLE, Int.reduceGT, Int.reduceGE, Int.reduceAdd, Int.reduceSub, Int.reduceMul, Int.reduceNeg, Int.reduceEq, Int.reduceNe, true_and, and_true, Int.cast_ofNat_Int, Nat.le_refl, hf, ld3, ld4, ld5, ld9, ln9, ix9, ow2, ow3, ow24]
    first | exact h.drop.drop.drop.drop.drop.drop | exact ⟨rfl, h.drop.drop.drop.drop.drop.drop⟩
  unfold F3.k2
  try simp (disch := omega) only [cnd_bool, on_some_eq, Dr_eq, xNil_ptr, xNil_func, xNil_yield, xPick_bool, unw_nil, xRes_ptr, xUn_not, xUn_neg, xEx_tuple, xBin_add, xBin_sub, xBin_mul, xBin_eql, xBin_neq, xBin_lss, xBin_leq, xBin_gtr, xBin_geq, xBin_eqls, xBin_neqs, wI64, oCell_some, List.getElem?_toArray, List.getElem?_cons_zero, List.getElem?_cons_succ, Nat.zero_add, Bool.not_true, Bool.not_false, if_true, if_false, ite_true, ite_false, beq_iff_eq, bne_iff_ne, decide_eq_true_eq, ne_eq, Bool.false_eq_true, Bool.true_eq_false, reduceIte, Option.some.injEq, Int.toNat_natCast, beq_self_eq_true, bne_self_eq_false, Value.cells, splice, List.setIfInBounds_toArray, List.set_cons_zero, List.set_cons_succ, List.size_toArray, List.length_cons, List.length_nil, and_self, Nat.reduceLeDiff, Nat.reduceAdd, Nat.reduceMul, Int.reduceToNat, Int.reduceLT, Int.reduceLE, Int.reduceGT, Int.reduceGE, Int.reduceAdd, Int.reduceSub, Int.reduceMul, Int.reduceNeg, Int.reduceEq, Int.reduceNe, true_and, and_true, Int.cast_ofNat_Int, Nat.le_refl, ld3, ld4, ld5, ld9, ln9, ix9, ow2, ow3, ow24, bs_nil, bs_toList]
  by_cases hne : text = []
  · subst hne
    exact k3
  · have hq : (!(text == ([] : List UInt8))) = true := by simpa using hne
    rw [hq]
    simp only [if_true]
    have hpos := List.length_pos_iff.2 hne
    have hsz : ((text.length : Int) - 1).toNat < (bs text).size := by rw [bs_size]; omega
    have hlast := fixT_last text hne
    try simp (disch := omega) only [cnd_bool, on_some_eq, Dr_eq, xNil_ptr, xNil_func, xNil_yield, xPick_bool, unw_nil, xRes_ptr, xUn_not, xUn_neg, xEx_tuple, xBin_add, xBin_sub, xBin_mul, xBin_eql, xBin_neq, xBin_lss, xBin_leq, xBin_gtr, xBin_geq, xBin_eqls, xBin_neqs, wI64, oCell_some, List.getElem?_toArray, List.getElem?_cons_zero, List.getElem?_cons_succ, Nat.zero_add, Bool.not_true, Bool.not_false, if_true, if_false, ite_true, ite_false, beq_iff_eq, bne_iff_ne, decide_eq_true_eq, ne_eq, Bool.false_eq_true, Bool.true_eq_false, reduceIte, Option.some.injEq, Int.toNat_natCast, beq_self_eq_true, bne_self_eq_false, Value.cells, splice, List.setIfInBounds_toArray, List.set_cons_zero, List.set_cons_succ, List.size_toArray, List.length_cons, List.length_nil, and_self, Nat.reduceLeDiff, Nat.reduceAdd, Nat.reduceMul, Int.reduceToNat, Int.reduceLT, Int.reduceLE, Int.reduceGT, Int.reduceGE, Int.reduceAdd, Int.reduceSub, Int.reduceMul, Int.reduceNeg, Int.reduceEq, Int.reduceNe, true_and, and_true, Int.cast_ofNat_Int, Nat.le_refl, ld3, ld4, ld5, ld9, ln9, ix9, ow2, ow3, ow24, bs_size, ix9 _ _ _ (by omega : (0 : Int) ≤ (text.length : Int) - 1) hsz]
    have hbg : ((bs text)[((text.length : Int) - 1).toNat]'hsz).toNat = (text[text.length - 1]'(by omega)).toNat := by
      rw [bs_get]
      congr 2
      omega
    rw [hbg]
    by_cases h10 : text[text.length - 1]'(by omega) = 10
    · rw [if_pos h10] at hlast
      rw [hlast] at k3
      rw [h10]
      try simp (disch := omega) only [cnd_bool, on_some_eq, Dr_eq, xNil_ptr, xNil_func, xNil_yield, xPick_bool, unw_nil, xRes_ptr, xUn_not, xUn_neg, xEx_tuple, xBin_add, xBin_sub, xBin_mul, xBin_eql, xBin_neq, xBin_lss, xBin_leq, xBin_gtr, xBin_geq, xBin_eqls, xBin_neqs, wI64, oCell_some, List.getElem?_toArray, List.getElem?_cons_zero, List.getElem?_cons_succ, Nat.zero_add, Bool.not_true, Bool.not_false, if_true, if_false, ite_true, ite_false, beq_iff_eq, bne_iff_ne, decide_eq_true_eq, ne_eq, Bool.false_eq_true, Bool.true_eq_false, reduceIte, Option.some.injEq, Int.toNat_natCast, beq_self_eq_true, bne_self_eq_false, Value.cells, splice, List.setIfInBounds_toArray, List.set_cons_zero, List.set_cons_succ, List.size_toArray, List.length_cons, List.length_nil, and_self, Nat.reduceLeDiff, Nat.reduceAdd, Nat.reduceMul, Int.reduceToNat, Int.reduceLT, Int.reduceLE, Int.reduceGT, Int.reduceGE, Int.reduceAdd, Int.reduceSub, Int.reduceMul, Int.reduceNeg, Int.reduceEq, Int.reduceNe, true_and, and_true, Int.cast_ofNat_Int, Nat.le_refl, ld3, ld4, ld5, ld9, ln9, ix9, ow2, ow3, ow24]
      exact k3
    · rw [if_neg h10] at hlast
      rw [hlast] at k3
      have hn : (text[text.length - 1]'(by omega)).toNat ≠ 10 := fun e => h10 (UInt8.toNat_inj.1 (by simpa using e))
      rw [if_pos (by omega), bs_one, xBin_adds _ _ _ _ _ (by simp only [bs_size, List.length_cons, List.length_nil]; omega), bs_append]
      try simp (disch := omega) only [cnd_bool, on_some_eq, Dr_eq, xNil_ptr, xNil_func, xNil_yield, xPick_bool, unw_nil, xRes_ptr, xUn_not, xUn_neg, xEx_tuple, xBin_add, xBin_sub, xBin_mul, xBin_eql, xBin_neq, xBin_lss, xBin_leq, xBin_gtr, xBin_geq, xBin_eqls, xBin_neqs, wI64, oCell_some, List.getElem?_toArray, List.getElem?_cons_zero, List.getElem?_cons_succ, Nat.zero_add, Bool.not_true, Bool.not_false, if_true, if_false, ite_true, ite_false, beq_iff_eq, bne_iff_ne, decide_eq_true_eq, ne_eq, Bool.false_eq_true, Bool.true_eq_false, reduceIte, Option.some.injEq, Int.toNat_natCast, beq_self_eq_true, bne_self_eq_false, Value.cells, splice, List.setIfInBounds_toArray, List.set_cons_zero, List.set_cons_succ, List.size_toArray, List.length_cons, List.length_nil, and_self, Nat.reduceLeDiff, Nat.reduceAdd, Nat.reduceMul, Int.reduceToNat, Int.reduceLT, Int.reduceLE, Int.reduceGT, Int.reduceGE, Int.reduceAdd, Int.reduceSub, Int.reduceMul, Int.reduceNeg, Int.reduceEq, Int.reduceNe, true_and, and_true, Int.cast_ofNat_Int, Nat.le_refl, ld3, ld4, ld5, ld9, ln9, ix9, ow2, ow3, ow24]
      exact k3
end
end Go.Proofs.YtlmcppbpobnfjaaDoor

