/-
  kit: CopyInst, CopyModule.
-/
import Derived.Test.YtlmcppbpobnfjaaSe
namespace Go.Proofs.Ytlmcppbpobnfjaa
open Go Go.Vc
set_option linter.unusedSimpArgs false
set_option linter.unusedVariables false
set_option maxRecDepth 20000

theorem splice_take : ∀ (vs : List Value) (c : Array Value) (o : Nat), o + vs.length ≤ c.size → (splice c o vs).toList.take (o + vs.length) = c.toList.take o ++ vs
  | [], c, o, _ => by simp [splice]
  | v :: vs, c, o, h => by
    simp only [List.length_cons] at h
    simp only [splice, List.length_cons]
    rw [show o + (vs.length + 1) = o + 1 + vs.length by omega, splice_take vs _ (o + 1) (by simp; omega)]
    rw [Array.toList_setIfInBounds, List.take_add_one, List.getElem?_set_self (by simpa using (by omega : o < c.size))]
    have : (c.toList.set o v).take o = c.toList.take o := by
      rw [List.take_set, List.set_eq_of_length_le (by simp; omega)]
    rw [this]
    simp
section
variable {w0 : World} {L : List (Nat × Obj)}
def Inst.with (i : Inst) (av : Value) : Inst := ⟨i.op, i.ty, i.res, av, i.args⟩
theorem copyInst_loop {i : Inst} (ha : ArgsAt w0 i) (hn : i.args.length ≤ 1048576) {x1 x2 y : Nat} {z : Array Value} {Q : Value → World → Prop}
    (hQ : ∀ (c : Array Value) w, c.size = i.args.length * 3 → c.toList = (i.args.map Arg.c).flatten → So w0 w ((y, cl c 75) :: (x2, cl z 53) :: (x1, cl i.v.cells 53) :: L) →
      F20.k2 Q (.pointer (some ⟨x1, 0, none⟩)) (.pointer (some ⟨x2, 0, none⟩)) (.slice (some ⟨y, 0, none⟩) i.args.length i.args.length) w) :
    ∀ (m k : Nat) (c : Array Value) (w : World), k + m = i.args.length → c.size = i.args.length * 3 → c.toList.take (k * 3) = ((i.args.take k).map Arg.c).flatten → So w0 w ((y, cl c 75) :: (x2, cl z 53) :: (x1, cl i.v.cells 53) :: L) →
      F20.l1 Q (m + 1) (.pointer (some ⟨x1, 0, none⟩)) (.pointer (some ⟨x2, 0, none⟩)) (.slice (some ⟨y, 0, none⟩) i.args.length i.args.length) (.int .i64 (k : Int)) w := by
  intro m
  induction m with
  | zero =>
    intro k c w hk hc ht h
    have hke : k = i.args.length := by omega
    subst hke
    have hf := h.facts
    simp only [Facts, Inst.v, Value.cells] at hf
    unfold F20.l1
    try simp (disch := omega) only [cnd_bool, on_some_eq, Dr_eq, xNil_ptr, xNil_func, xNil_yield, xPick_bool, unw_nil, xRes_ptr, xUn_not, xUn_neg, xEx_tuple, xBin_add, xBin_sub, xBin_mul, xBin_eql, xBin_neq, xBin_lss, xBin_leq, xBin_gtr, xBin_geq, xBin_eqls, xBin_neqs, wI64, oCell_some, List.getElem?_toArray, List.getElem?_cons_zero, List.getElem?_cons_succ, Nat.zero_add, Bool.not_true, Bool.not_false, if_true, if_false, ite_true, ite_false, beq_iff_eq, bne_iff_ne, decide_eq_true_eq, ne_eq, Bool.false_eq_true, Bool.true_eq_false, reduceIte, Option.some.injEq, Int.toNat_natCast, beq_self_eq_true, bne_self_eq_false, Value.cells, splice, List.setIfInBounds_toArray, List.set_cons_zero, List.set_cons_succ, List.size_toArray, List.length_cons, List.length_nil, and_self, Nat.reduceLeDiff, Nat.reduceAdd, Nat.reduceMul, Int.reduceToNat, Int.reduceLT, Int.reduceLE, Int.reduceGT, Int.reduceGE, Int.reduceAdd, Int.reduceSub, Int.reduceMul, Int.reduceNeg, Int.reduceEq, Int.reduceNe, true_and, and_true, Int.cast_ofNat_Int, Nat.le_refl, hf, ld3, ld23, ln23, ia23, ld25, fa25_1, fa25_2, ld51, ln51, ia51, ld53, fa53_0, fa53_1, fa53_2, fa53_3, ld75, fa75_0, fa75_1, fa75_2, ow2, ow3, ow4, ow5, ow6, ow8, ow11, ow20, ow23, Sl.len sl51 ha, List.length_map]
    rw [if_neg (by omega)]
    refine hQ c w hc ?_ h
    rw [List.take_length, List.take_of_length_le (by simp [hc])] at ht
    exact ht
  | succ m ih =>
    intro k c w hk hc ht h
    have hlt : k < i.args.length := by omega
    obtain ⟨g, o, k1, k2, k3⟩ := Sl.fix sl51 ha (k : Int) (i := k) (el := i.args[k].c) rfl (by simp [hlt])
    have hf := h.facts
    simp only [Facts, Inst.v, Value.cells] at hf
    unfold F20.l1
    try simp (disch := omega) only [cnd_bool, on_some_eq, Dr_eq, xNil_ptr, xNil_func, xNil_yield, xPick_bool, unw_nil, xRes_ptr, xUn_not, xUn_neg, xEx_tuple, xBin_add, xBin_sub, xBin_mul, xBin_eql, xBin_neq, xBin_lss, xBin_leq, xBin_gtr, xBin_geq, xBin_eqls, xBin_neqs, wI64, oCell_some, List.getElem?_toArray, List.getElem?_cons_zero, List.getElem?_cons_succ, Nat.zero_add, Bool.not_true, Bool.not_false, if_true, if_false, ite_true, ite_false, beq_iff_eq, bne_iff_ne, decide_eq_true_eq, ne_eq, Bool.false_eq_true, Bool.true_eq_false, reduceIte, Option.some.injEq, Int.toNat_natCast, beq_self_eq_true, bne_self_eq_false, Value.cells, splice, List.setIfInBounds_toArray, List.set_cons_zero, List.set_cons_succ, List.size_toArray, List.length_cons, List.length_nil, and_self, Nat.reduceLeDiff, Nat.reduceAdd, Nat.reduceMul, Int.reduceToNat, Int.reduceLT, Int.reduceLE, Int.reduceGT, Int.reduceGE, Int.reduceAdd, Int.reduceSub, Int.reduceMul, Int.reduceNeg, Int.reduceEq, Int.reduceNe, true_and, and_true, Int.cast_ofNat_Int, Nat.le_refl, hf, ld3, ld23, ln23, ia23, ld25, fa25_1, fa25_2, ld51, ln51, ia51, ld53, fa53_0, fa53_1, fa53_2, fa53_3, ld75, fa75_0, fa75_1, fa75_2, ow2, ow3, ow4, ow5, ow6, ow8, ow11, ow20, ow23, Sl.len sl51 ha, List.length_map, k1, k2 _ _ h]
    rw [if_pos (by omega)]
    refine soStoreN ty75 0 h (fun w h => ?_) rfl rfl (by omega) rfl
    simp only [List.set_cons_zero] at h
    have := ih (k + 1) _ w (by omega) (by rw [splice_size]; exact hc) ?_ h
    · rw [show ((k + 1 : Nat) : Int) = (k : Int) + 1 by omega] at this
      exact this
    · have hs := splice_take i.args[k].c c (k * 3) (by show k * 3 + 3 ≤ c.size; omega)
      rw [List.take_add_one, List.getElem?_eq_getElem hlt]
      simp only [Option.toList_some, List.map_append, List.map_cons, List.map_nil, List.flatten_append, List.flatten_cons, List.flatten_nil, List.append_nil]
      rw [← ht, ← hs]
      try simp only [Int.toNat_natCast, Nat.zero_add]
      rw [show (k + 1) * 3 = k * 3 + (Arg.c i.args[k]).length by show (k + 1) * 3 = k * 3 + 3; omega]
theorem c_copyInst {w : World} (h : So w0 w L) (i : Inst) (ha : ArgsAt w0 i) (hn : i.args.length ≤ 1048576) :
    Cx P 20 #[i.v] w fun v w => ∃ av M, v = (i.with av).v ∧ OwnS w0.heap.size 75 3 av i.args.length (i.args.map Arg.c).flatten M ∧ So w0 w (M ++ L) := by
  apply F20_ok
  unfold F20
  refine soBox h fun x1 w h => ?_
  refine al53 h fun x2 w h => ?_
  have hf := h.facts
  simp only [Facts, Inst.v, Value.cells] at hf
  try simp (disch := omega) only [cnd_bool, on_some_eq, Dr_eq, xNil_ptr, xNil_func, xNil_yield, xPick_bool, unw_nil, xRes_ptr, xUn_not, xUn_neg, xEx_tuple, xBin_add, xBin_sub, xBin_mul, xBin_eql, xBin_neq, xBin_lss, xBin_leq, xBin_gtr, xBin_geq, xBin_eqls, xBin_neqs, wI64, oCell_some, List.getElem?_toArray, List.getElem?_cons_zero, List.getElem?_cons_succ, Nat.zero_add, Bool.not_true, Bool.not_false, if_true, if_false, ite_true, ite_false, beq_iff_eq, bne_iff_ne, decide_eq_true_eq, ne_eq, Bool.false_eq_true, Bool.true_eq_false, reduceIte, Option.some.injEq, Int.toNat_natCast, beq_self_eq_true, bne_self_eq_false, Value.cells, splice, List.setIfInBounds_toArray, List.set_cons_zero, List.set_cons_succ, List.size_toArray, List.length_cons, List.length_nil, and_self, Nat.reduceLeDiff, Nat.reduceAdd, Nat.reduceMul, Int.reduceToNat, Int.reduceLT, Int.reduceLE, Int.reduceGT, Int.reduceGE, Int.reduceAdd, Int.reduceSub, Int.reduceMul, Int.reduceNeg, Int.reduceEq, Int.reduceNe, true_and, and_true, Int.cast_ofNat_Int, Nat.le_refl, hf, ld3, ld23, ln23, ia23, ld25, fa25_1, fa25_2, ld51, ln51, ia51, ld53, fa53_0, fa53_1, fa53_2, fa53_3, ld75, fa75_0, fa75_1, fa75_2, ow2, ow3, ow4, ow5, ow6, ow8, ow11, ow20, ow23, Sl.len sl51 ha, List.length_map]
  refine soMkSl un51 rw51 h .i64 .i64 _ _ (by omega) (Int.le_refl _) (by simp; omega) (by omega) (by omega) fun y w h => ?_
  simp only [Int.toNat_natCast] at h ⊢
  unfold F20.k1 F20.k3
  refine ⟨_, copyInst_loop ha hn ?_ i.args.length 0 _ w (by omega) (size_madeCells _ _) (by simp) h⟩
  intro c w hc hl h
  have hy : w0.heap.size ≤ y := h.own _ (List.mem_cons_self ..)
  unfold F20.k2
  try simp (disch := omega) only [cnd_bool, on_some_eq, Dr_eq, xNil_ptr, xNil_func, xNil_yield, xPick_bool, unw_nil, xRes_ptr, xUn_not, xUn_neg, xEx_tuple, xBin_add, xBin_sub, xBin_mul, xBin_eql, xBin_neq, xBin_lss, xBin_leq, xBin_gtr, xBin_geq, xBin_eqls, xBin_neqs, wI64, oCell_some, List.getElem?_toArray, List.getElem?_cons_zero, List.getElem?_cons_succ, Nat.zero_add, Bool.not_true, Bool.not_false, if_true, if_false, ite_true, ite_false, beq_iff_eq, bne_iff_ne, decide_eq_true_eq, ne_eq, Bool.false_eq_true, Bool.true_eq_false, reduceIte, Option.some.injEq, Int.toNat_natCast, beq_self_eq_true, bne_self_eq_false, Value.cells, splice, List.setIfInBounds_toArray, List.set_cons_zero, List.set_cons_succ, List.size_toArray, List.length_cons, List.length_nil, and_self, Nat.reduceLeDiff, Nat.reduceAdd, Nat.reduceMul, Int.reduceToNat, Int.reduceLT, Int.reduceLE, Int.reduceGT, Int.reduceGE, Int.reduceAdd, Int.reduceSub, Int.reduceMul, Int.reduceNeg, Int.reduceEq, Int.reduceNe, true_and, and_true, Int.cast_ofNat_Int, Nat.le_refl, ld3, ld23, ln23, ia23, ld25, fa25_1, fa25_2, ld51, ln51, ia51, ld53, fa53_0, fa53_1, fa53_2, fa53_3, ld75, fa75_0, fa75_1, fa75_2, ow2, ow3, ow4, ow5, ow6, ow8, ow11, ow20, ow23]
  refine soStore1 ty51 2 h (fun w h => ?_) rfl (by simp [Inst.v, Value.cells]) rfl
  simp only [List.set_cons_zero, List.set_cons_succ, Inst.v, Value.cells, List.setIfInBounds_toArray] at h
  have hf := h.facts
  simp only [Facts] at hf
  try simp (disch := omega) only [cnd_bool, on_some_eq, Dr_eq, xNil_ptr, xNil_func, xNil_yield, xPick_bool, unw_nil, xRes_ptr, xUn_not, xUn_neg, xEx_tuple, xBin_add, xBin_sub, xBin_mul, xBin_eql, xBin_neq, xBin_lss, xBin_leq, xBin_gtr, xBin_geq, xBin_eqls, xBin_neqs, wI64, oCell_some, List.getElem?_toArray, List.getElem?_cons_zero, List.getElem?_cons_succ, Nat.zero_add, Bool.not_true, Bool.not_false, if_true, if_false, ite_true, ite_false, beq_iff_eq, bne_iff_ne, decide_eq_true_eq, ne_eq, Bool.false_eq_true, Bool.true_eq_false, reduceIte, Option.some.injEq, Int.toNat_natCast, beq_self_eq_true, bne_self_eq_false, Value.cells, splice, List.setIfInBounds_toArray, List.set_cons_zero, List.set_cons_succ, List.size_toArray, List.length_cons, List.length_nil, and_self, Nat.reduceLeDiff, Nat.reduceAdd, Nat.reduceMul, Int.reduceToNat, Int.reduceLT, Int.reduceLE, Int.reduceGT, Int.reduceGE, Int.reduceAdd, Int.reduceSub, Int.reduceMul, Int.reduceNeg, Int.reduceEq, Int.reduceNe, true_and, and_true, Int.cast_ofNat_Int, Nat.le_refl, hf, ld3, ld23, ln23, ia23, ld25, fa25_1, fa25_2, ld51, ln51, ia51, ld53, fa53_0, fa53_1, fa53_2, fa53_3, ld75, fa75_0, fa75_1, fa75_2, ow2, ow3, ow4, ow5, ow6, ow8, ow11, ow20, ow23]
  refine soStoreA ty53 1 h (fun w h => ?_) rfl rfl rfl rfl
  simp only [List.set_cons_zero, List.set_cons_succ] at h
  have hf := h.facts
  simp only [Facts] at hf
  try simp (disch := omega) only [cnd_bool, on_some_eq, Dr_eq, xNil_ptr, xNil_func, xNil_yield, xPick_bool, unw_nil, xRes_ptr, xUn_not, xUn_neg, xEx_tuple, xBin_add, xBin_sub, xBin_mul, xBin_eql, xBin_neq, xBin_lss, xBin_leq, xBin_gtr, xBin_geq, xBin_eqls, xBin_neqs, wI64, oCell_some, List.getElem?_toArray, List.getElem?_cons_zero, List.getElem?_cons_succ, Nat.zero_add, Bool.not_true, Bool.not_false, if_true, if_false, ite_true, ite_false, beq_iff_eq, bne_iff_ne, decide_eq_true_eq, ne_eq, Bool.false_eq_true, Bool.true_eq_false, reduceIte, Option.some.injEq, Int.toNat_natCast, beq_self_eq_true, bne_self_eq_false, Value.cells, splice, List.setIfInBounds_toArray, List.set_cons_zero, List.set_cons_succ, List.size_toArray, List.length_cons, List.length_nil, and_self, Nat.reduceLeDiff, Nat.reduceAdd, Nat.reduceMul, Int.reduceToNat, Int.reduceLT, Int.reduceLE, Int.reduceGT, Int.reduceGE, Int.reduceAdd, Int.reduceSub, Int.reduceMul, Int.reduceNeg, Int.reduceEq, Int.reduceNe, true_and, and_true, Int.cast_ofNat_Int, Nat.le_refl, hf, ld3, ld23, ln23, ia23, ld25, fa25_1, fa25_2, ld51, ln51, ia51, ld53, fa53_0, fa53_1, fa53_2, fa53_3, ld75, fa75_0, fa75_1, fa75_2, ow2, ow3, ow4, ow5, ow6, ow8, ow11, ow20, ow23]
  refine ⟨.slice (some ⟨y, 0, none⟩) i.args.length i.args.length, [(y, cl c 75)], rfl, ?_, ?_⟩
  · rw [← hl]
    exact OwnS.of hy (by unfold maxLen; omega) hc
  · exact (h.perm (M := (x2, cl #[.int .u16 i.op, .int .u32 i.ty, .int .u32 i.res, .slice (some ⟨y, 0, none⟩) i.args.length i.args.length] 53) :: (x1, cl #[.int .u16 i.op, .int .u32 i.ty, .int .u32 i.res, .slice (some ⟨y, 0, none⟩) i.args.length i.args.length] 53) :: (y, cl c 75) :: L) (perm_of fun c d ha hc h0 => by simp only [ha, hc, h0]; omega)).drop.drop
/-- Instructions copied: each with a slice of its own. -/
structure Copied (w0 : World) (l l' : List Inst) (M : List (Nat × Obj)) : Prop where
  len : l'.length = l.length
  same : ∀ (k : Nat) i i', l[k]? = some i → l'[k]? = some i' → ∃ av, i' = i.with av
  own : ∀ i ∈ l', ∃ Mi, OwnS w0.heap.size 75 3 i.av i.args.length (i.args.map Arg.c).flatten Mi ∧ ∀ x ∈ Mi, x ∈ M
theorem Copied.nil (w0 : World) : Copied w0 [] [] [] := ⟨rfl, fun k i i' h => by simp at h, fun i h => by simp at h⟩
theorem Copied.snoc {l l' : List Inst} {M N : List (Nat × Obj)} (h : Copied w0 l l' M) (i : Inst) (av : Value) (ho : OwnS w0.heap.size 75 3 av i.args.length (i.args.map Arg.c).flatten N) : Copied w0 (l ++ [i]) (l' ++ [i.with av]) (N ++ M) := by
  obtain ⟨h1, h2, h3⟩ := h
  refine ⟨by simp [h1], ?_, ?_⟩
  · intro k a b ha hb
    by_cases hlt : k < l.length
    · rw [List.getElem?_append_left hlt] at ha
      rw [List.getElem?_append_left (by omega)] at hb
      exact h2 k a b ha hb
    · rw [List.getElem?_append_right (by omega)] at ha
      rw [List.getElem?_append_right (by omega)] at hb
      have : k - l.length = 0 := by
        cases hq : k - l.length with
        | zero => rfl
        | succ k => rw [hq] at ha; simp at ha
      rw [this] at ha
      rw [show k - l'.length = 0 by omega] at hb
      simp at ha hb
      subst ha hb
      exact ⟨av, rfl⟩
  · intro x hx
    rcases List.mem_append.1 hx with hx | hx
    · obtain ⟨Mi, h4, h5⟩ := h3 x hx
      exact ⟨Mi, h4, fun y hy => List.mem_append_right _ (h5 y hy)⟩
    · simp at hx
      subst hx
      exact ⟨N, ho, fun y hy => List.mem_append_left _ hy⟩
theorem copyMod_loop {m : Modl} (hi : InstsAt w0 m.iv m.insts) (hl : m.insts.length ≤ 3000) (hz : ∀ i ∈ m.insts, SizedI i) {x1 x2 y : Nat} {z : Array Value} {Q : Value → World → Prop}
    (hQ : ∀ (c : Array Value) l' M w, c.size = m.insts.length * 4 → c.toList = (l'.map Inst.c).flatten → Copied w0 m.insts l' M → So w0 w ((y, cl c 53) :: (x2, cl z 25) :: (x1, cl m.c 25) :: (M ++ L)) →
      F7.k2 Q (.pointer (some ⟨x1, 0, none⟩)) (.pointer (some ⟨x2, 0, none⟩)) (.slice (some ⟨y, 0, none⟩) m.insts.length m.insts.length) w) :
    ∀ (q k : Nat) (c : Array Value) (l' : List Inst) (M : List (Nat × Obj)) (w : World), k + q = m.insts.length → c.size = m.insts.length * 4 → c.toList.take (k * 4) = (l'.map Inst.c).flatten → Copied w0 (m.insts.take k) l' M → So w0 w ((y, cl c 53) :: (x2, cl z 25) :: (x1, cl m.c 25) :: (M ++ L)) →
      F7.l1 Q (q + 1) (.pointer (some ⟨x1, 0, none⟩)) (.pointer (some ⟨x2, 0, none⟩)) (.slice (some ⟨y, 0, none⟩) m.insts.length m.insts.length) (.int .i64 (k : Int)) w := by
  intro q
  induction q with
  | zero =>
    intro k c l' M w hk hc ht hcp h
    have hke : k = m.insts.length := by omega
    subst hke
    have hf := h.facts
    simp only [Facts, Modl.c] at hf
    unfold F7.l1
    try simp (disch := omega) only [cnd_bool, on_some_eq, Dr_eq, xNil_ptr, xNil_func, xNil_yield, xPick_bool, unw_nil, xRes_ptr, xUn_not, xUn_neg, xEx_tuple, xBin_add, xBin_sub, xBin_mul, xBin_eql, xBin_neq, xBin_lss, xBin_leq, xBin_gtr, xBin_geq, xBin_eqls, xBin_neqs, wI64, oCell_some, List.getElem?_toArray, List.getElem?_cons_zero, List.getElem?_cons_succ, Nat.zero_add, Bool.not_true, Bool.not_false, if_true, if_false, ite_true, ite_false, beq_iff_eq, bne_iff_ne, decide_eq_true_eq, ne_eq, Bool.false_eq_true, Bool.true_eq_false, reduceIte, Option.some.injEq, Int.toNat_natCast, beq_self_eq_true, bne_self_eq_false, Value.cells, splice, List.setIfInBounds_toArray, List.set_cons_zero, List.set_cons_succ, List.size_toArray, List.length_cons, List.length_nil, and_self, Nat.reduceLeDiff, Nat.reduceAdd, Nat.reduceMul, Int.reduceToNat, Int.reduceLT, Int.reduceLE, Int.reduceGT, Int.reduceGE, Int.reduceAdd, Int.reduceSub, Int.reduceMul, Int.reduceNeg, Int.reduceEq, Int.reduceNe, true_and, and_true, Int.cast_ofNat_Int, Nat.le_refl, hf, ld3, ld23, ln23, ia23, ld25, fa25_1, fa25_2, ld51, ln51, ia51, ld53, fa53_0, fa53_1, fa53_2, fa53_3, ld75, fa75_0, fa75_1, fa75_2, ow2, ow3, ow4, ow5, ow6, ow8, ow11, ow20, ow23, Sl.len sl23 hi.1, List.length_map]
    rw [if_neg (by omega)]
    rw [List.take_length] at hcp
    refine hQ c l' M w hc ?_ hcp h
    rw [List.take_of_length_le (by simp [hc])] at ht
    exact ht
  | succ q ih =>
    intro k c l' M w hk hc ht hcp h
    have hlt : k < m.insts.length := by omega
    obtain ⟨g, o, i, k1, k2, k3, hp, ha, hm, hik⟩ := inst_at hi hlt (k : Int) rfl
    have hf := h.facts
    simp only [Facts, Modl.c] at hf
    unfold F7.l1
    try simp (disch := omega) only [cnd_bool, on_some_eq, Dr_eq, xNil_ptr, xNil_func, xNil_yield, xPick_bool, unw_nil, xRes_ptr, xUn_not, xUn_neg, xEx_tuple, xBin_add, xBin_sub, xBin_mul, xBin_eql, xBin_neq, xBin_lss, xBin_leq, xBin_gtr, xBin_geq, xBin_eqls, xBin_neqs, wI64, oCell_some, List.getElem?_toArray, List.getElem?_cons_zero, List.getElem?_cons_succ, Nat.zero_add, Bool.not_true, Bool.not_false, if_true, if_false, ite_true, ite_false, beq_iff_eq, bne_iff_ne, decide_eq_true_eq, ne_eq, Bool.false_eq_true, Bool.true_eq_false, reduceIte, Option.some.injEq, Int.toNat_natCast, beq_self_eq_true, bne_self_eq_false, Value.cells, splice, List.setIfInBounds_toArray, List.set_cons_zero, List.set_cons_succ, List.size_toArray, List.length_cons, List.length_nil, and_self, Nat.reduceLeDiff, Nat.reduceAdd, Nat.reduceMul, Int.reduceToNat, Int.reduceLT, Int.reduceLE, Int.reduceGT, Int.reduceGE, Int.reduceAdd, Int.reduceSub, Int.reduceMul, Int.reduceNeg, Int.reduceEq, Int.reduceNe, true_and, and_true, Int.cast_ofNat_Int, Nat.le_refl, hf, ld3, ld23, ln23, ia23, ld25, fa25_1, fa25_2, ld51, ln51, ia51, ld53, fa53_0, fa53_1, fa53_2, fa53_3, ld75, fa75_0, fa75_1, fa75_2, ow2, ow3, ow4, ow5, ow6, ow8, ow11, ow20, ow23, Sl.len sl23 hi.1, List.length_map, k1, k2 _ _ h]
    rw [if_pos (by omega)]
    refine Cx.mono (c_copyInst h i ha (hz i hm).1) fun v w hv => ?_
    obtain ⟨av, N, rfl, ho, h⟩ := hv
    unfold Inst.v
    try simp (disch := omega) only [cnd_bool, on_some_eq, Dr_eq, xNil_ptr, xNil_func, xNil_yield, xPick_bool, unw_nil, xRes_ptr, xUn_not, xUn_neg, xEx_tuple, xBin_add, xBin_sub, xBin_mul, xBin_eql, xBin_neq, xBin_lss, xBin_leq, xBin_gtr, xBin_geq, xBin_eqls, xBin_neqs, wI64, oCell_some, List.getElem?_toArray, List.getElem?_cons_zero, List.getElem?_cons_succ, Nat.zero_add, Bool.not_true, Bool.not_false, if_true, if_false, ite_true, ite_false, beq_iff_eq, bne_iff_ne, decide_eq_true_eq, ne_eq, Bool.false_eq_true, Bool.true_eq_false, reduceIte, Option.some.injEq, Int.toNat_natCast, beq_self_eq_true, bne_self_eq_false, Value.cells, splice, List.setIfInBounds_toArray, List.set_cons_zero, List.set_cons_succ, List.size_toArray, List.length_cons, List.length_nil, and_self, Nat.reduceLeDiff, Nat.reduceAdd, Nat.reduceMul, Int.reduceToNat, Int.reduceLT, Int.reduceLE, Int.reduceGT, Int.reduceGE, Int.reduceAdd, Int.reduceSub, Int.reduceMul, Int.reduceNeg, Int.reduceEq, Int.reduceNe, true_and, and_true, Int.cast_ofNat_Int, Nat.le_refl, ld3, ld23, ln23, ia23, ld25, fa25_1, fa25_2, ld51, ln51, ia51, ld53, fa53_0, fa53_1, fa53_2, fa53_3, ld75, fa75_0, fa75_1, fa75_2, ow2, ow3, ow4, ow5, ow6, ow8, ow11, ow20, ow23]
    have hav : one1 av = true := by
      rcases ho.2 with ⟨e, _⟩ | ⟨_, _, _, e, _⟩ <;> rw [e] <;> rfl
    have h := h.perm (M := (y, cl c 53) :: (x2, cl z 25) :: (x1, cl m.c 25) :: ((N ++ M) ++ L)) (by
      rw [List.append_assoc]
      exact (List.perm_append_comm_assoc N [_, _, _] (M ++ L)))
    refine soStoreN ty53 0 h (fun w h => ?_) rfl rfl (by omega) (by simp [Inst.with, one1]; simpa [one1] using hav)
    simp only [List.set_cons_zero] at h
    have hlen : l'.length = k := by rw [hcp.len]; simp; omega
    have := ih (k + 1) _ (l' ++ [i.with av]) (N ++ M) w (by omega) (by rw [splice_size]; exact hc) ?_ ?_ h
    · rw [show ((k + 1 : Nat) : Int) = (k : Int) + 1 by omega] at this
      exact this
    · have hs := splice_take (i.with av).c c (k * 4) (by show k * 4 + 4 ≤ c.size; omega)
      simp only [List.map_append, List.map_cons, List.map_nil, List.flatten_append, List.flatten_cons, List.flatten_nil, List.append_nil]
      rw [← ht, ← hs]
      try simp only [Int.toNat_natCast, Nat.zero_add]
      rw [show (k + 1) * 4 = k * 4 + (Inst.c (i.with av)).length by show (k + 1) * 4 = k * 4 + 4; omega]
      rfl
    · rw [List.take_add_one, hik]
      exact hcp.snoc i av ho
theorem own_sl_sub {w : World} {K : List (Nat × Obj)} {e size n : Nat} {v : Value} {els : List (List Value)} {M : List (Nat × Obj)} (h : So w0 w K) (ho : OwnS w0.heap.size e size v n els.flatten M) (hsub : ∀ x ∈ M, x ∈ K) (hl : ∀ x ∈ els, x.length = size) (hn : els.length = n) : Sl w size v els := by
  have ho' := ho
  rcases ho.2 with ⟨_, _, rfl⟩ | ⟨g, cap, cur, _, rfl, _⟩
  · exact OwnS.sl (M := []) (L := K) h ho' hl hn
  · obtain ⟨s, t, rfl⟩ := List.append_of_mem (hsub _ (List.mem_singleton_self _))
    exact OwnS.sl (M := [_]) (L := s ++ t) (h.perm List.perm_middle) ho' hl hn
/-- From the base world to one behind it, and on. -/
theorem So.base {w1 w2 : World} {K : List (Nat × Obj)} (h : So w0 w1 K) (h' : So w1 w2 []) : So w0 w2 K := by
  refine ⟨⟨h'.st.os.trans h.st.os, h'.st.tape.trans h.st.tape, h'.st.output.trans h.st.output, Nat.le_trans h.st.size h'.st.size, h.st.nodup, ?_, ?_⟩, h.own⟩
  · intro x hx
    rw [h'.st.old x.1 (h.st.lt hx) (by simp)]
    exact h.st.blk x hx
  · intro b hb hn
    rw [h'.st.old b (Nat.lt_of_lt_of_le hb h.st.size) (by simp)]
    exact h.st.old b hb hn
theorem c_copyModule {w : World} (h : So w0 w L) (m : Modl) (hi : InstsAt w0 m.iv m.insts) (hl : m.insts.length ≤ 3000) (hz : ∀ i ∈ m.insts, SizedI i) :
    Cx P 7 #[m.v] w fun v w => ∃ iv l' K, v = (Modl.mk m.gen m.bound iv l').v ∧ l'.length = m.insts.length ∧ (∀ (k : Nat) i i', m.insts[k]? = some i → l'[k]? = some i' → ∃ av, i' = i.with av) ∧ InstsAt w iv l' ∧ So w0 w (K ++ L) := by
  apply F7_ok
  unfold F7 Modl.v
  refine soBox h fun x1 w h => ?_
  have h : So w0 w ((x1, cl m.c 25) :: L) := h
  refine al25 h fun x2 w h => ?_
  have hf := h.facts
  simp only [Facts, Modl.c] at hf
  try simp (disch := omega) only [cnd_bool, on_some_eq, Dr_eq, xNil_ptr, xNil_func, xNil_yield, xPick_bool, unw_nil, xRes_ptr, xUn_not, xUn_neg, xEx_tuple, xBin_add, xBin_sub, xBin_mul, xBin_eql, xBin_neq, xBin_lss, xBin_leq, xBin_gtr, xBin_geq, xBin_eqls, xBin_neqs, wI64, oCell_some, List.getElem?_toArray, List.getElem?_cons_zero, List.getElem?_cons_succ, Nat.zero_add, Bool.not_true, Bool.not_false, if_true, if_false, ite_true, ite_false, beq_iff_eq, bne_iff_ne, decide_eq_true_eq, ne_eq, Bool.false_eq_true, Bool.true_eq_false, reduceIte, Option.some.injEq, Int.toNat_natCast, beq_self_eq_true, bne_self_eq_false, Value.cells, splice, List.setIfInBounds_toArray, List.set_cons_zero, List.set_cons_succ, List.size_toArray, List.length_cons, List.length_nil, and_self, Nat.reduceLeDiff, Nat.reduceAdd, Nat.reduceMul, Int.reduceToNat, Int.reduceLT, Int.reduceLE, Int.reduceGT, Int.reduceGE, Int.reduceAdd, Int.reduceSub, Int.reduceMul, Int.reduceNeg, Int.reduceEq, Int.reduceNe, true_and, and_true, Int.cast_ofNat_Int, Nat.le_refl, hf, ld3, ld23, ln23, ia23, ld25, fa25_1, fa25_2, ld51, ln51, ia51, ld53, fa53_0, fa53_1, fa53_2, fa53_3, ld75, fa75_0, fa75_1, fa75_2, ow2, ow3, ow4, ow5, ow6, ow8, ow11, ow20, ow23, Sl.len sl23 hi.1, List.length_map]
  refine soMkSl un23 rw23 h .i64 .i64 _ _ (by omega) (Int.le_refl _) (by simp; omega) (by omega) (by omega) fun y w h => ?_
  simp only [Int.toNat_natCast] at h ⊢
  unfold F7.k1 F7.k3
  refine ⟨_, copyMod_loop (L := L) hi hl hz ?_ m.insts.length 0 _ [] [] w (by omega) (size_madeCells _ _) (by simp) (Copied.nil _) h⟩
  intro c l' M w hc hcl hcp h
  have hy : w0.heap.size ≤ y := h.own _ (List.mem_cons_self ..)
  unfold F7.k2
  try simp (disch := omega) only [cnd_bool, on_some_eq, Dr_eq, xNil_ptr, xNil_func, xNil_yield, xPick_bool, unw_nil, xRes_ptr, xUn_not, xUn_neg, xEx_tuple, xBin_add, xBin_sub, xBin_mul, xBin_eql, xBin_neq, xBin_lss, xBin_leq, xBin_gtr, xBin_geq, xBin_eqls, xBin_neqs, wI64, oCell_some, List.getElem?_toArray, List.getElem?_cons_zero, List.getElem?_cons_succ, Nat.zero_add, Bool.not_true, Bool.not_false, if_true, if_false, ite_true, ite_false, beq_iff_eq, bne_iff_ne, decide_eq_true_eq, ne_eq, Bool.false_eq_true, Bool.true_eq_false, reduceIte, Option.some.injEq, Int.toNat_natCast, beq_self_eq_true, bne_self_eq_false, Value.cells, splice, List.setIfInBounds_toArray, List.set_cons_zero, List.set_cons_succ, List.size_toArray, List.length_cons, List.length_nil, and_self, Nat.reduceLeDiff, Nat.reduceAdd, Nat.reduceMul, Int.reduceToNat, Int.reduceLT, Int.reduceLE, Int.reduceGT, Int.reduceGE, Int.reduceAdd, Int.reduceSub, Int.reduceMul, Int.reduceNeg, Int.reduceEq, Int.reduceNe, true_and, and_true, Int.cast_ofNat_Int, Nat.le_refl, ld3, ld23, ln23, ia23, ld25, fa25_1, fa25_2, ld51, ln51, ia51, ld53, fa53_0, fa53_1, fa53_2, fa53_3, ld75, fa75_0, fa75_1, fa75_2, ow2, ow3, ow4, ow5, ow6, ow8, ow11, ow20, ow23]
  refine soStore1 ty23 2 h (fun w h => ?_) rfl (by simp [Modl.c]) rfl
  simp only [List.set_cons_zero, List.set_cons_succ, Modl.c, List.setIfInBounds_toArray] at h
  have hf := h.facts
  simp only [Facts] at hf
  try simp (disch := omega) only [cnd_bool, on_some_eq, Dr_eq, xNil_ptr, xNil_func, xNil_yield, xPick_bool, unw_nil, xRes_ptr, xUn_not, xUn_neg, xEx_tuple, xBin_add, xBin_sub, xBin_mul, xBin_eql, xBin_neq, xBin_lss, xBin_leq, xBin_gtr, xBin_geq, xBin_eqls, xBin_neqs, wI64, oCell_some, List.getElem?_toArray, List.getElem?_cons_zero, List.getElem?_cons_succ, Nat.zero_add, Bool.not_true, Bool.not_false, if_true, if_false, ite_true, ite_false, beq_iff_eq, bne_iff_ne, decide_eq_true_eq, ne_eq, Bool.false_eq_true, Bool.true_eq_false, reduceIte, Option.some.injEq, Int.toNat_natCast, beq_self_eq_true, bne_self_eq_false, Value.cells, splice, List.setIfInBounds_toArray, List.set_cons_zero, List.set_cons_succ, List.size_toArray, List.length_cons, List.length_nil, and_self, Nat.reduceLeDiff, Nat.reduceAdd, Nat.reduceMul, Int.reduceToNat, Int.reduceLT, Int.reduceLE, Int.reduceGT, Int.reduceGE, Int.reduceAdd, Int.reduceSub, Int.reduceMul, Int.reduceNeg, Int.reduceEq, Int.reduceNe, true_and, and_true, Int.cast_ofNat_Int, Nat.le_refl, hf, ld3, ld23, ln23, ia23, ld25, fa25_1, fa25_2, ld51, ln51, ia51, ld53, fa53_0, fa53_1, fa53_2, fa53_3, ld75, fa75_0, fa75_1, fa75_2, ow2, ow3, ow4, ow5, ow6, ow8, ow11, ow20, ow23]
  refine soStoreA ty25 1 h (fun w h => ?_) rfl rfl rfl rfl
  simp only [List.set_cons_zero, List.set_cons_succ] at h
  have hf := h.facts
  simp only [Facts] at hf
  try simp (disch := omega) only [cnd_bool, on_some_eq, Dr_eq, xNil_ptr, xNil_func, xNil_yield, xPick_bool, unw_nil, xRes_ptr, xUn_not, xUn_neg, xEx_tuple, xBin_add, xBin_sub, xBin_mul, xBin_eql, xBin_neq, xBin_lss, xBin_leq, xBin_gtr, xBin_geq, xBin_eqls, xBin_neqs, wI64, oCell_some, List.getElem?_toArray, List.getElem?_cons_zero, List.getElem?_cons_succ, Nat.zero_add, Bool.not_true, Bool.not_false, if_true, if_false, ite_true, ite_false, beq_iff_eq, bne_iff_ne, decide_eq_true_eq, ne_eq, Bool.false_eq_true, Bool.true_eq_false, reduceIte, Option.some.injEq, Int.toNat_natCast, beq_self_eq_true, bne_self_eq_false, Value.cells, splice, List.setIfInBounds_toArray, List.set_cons_zero, List.set_cons_succ, List.size_toArray, List.length_cons, List.length_nil, and_self, Nat.reduceLeDiff, Nat.reduceAdd, Nat.reduceMul, Int.reduceToNat, Int.reduceLT, Int.reduceLE, Int.reduceGT, Int.reduceGE, Int.reduceAdd, Int.reduceSub, Int.reduceMul, Int.reduceNeg, Int.reduceEq, Int.reduceNe, true_and, and_true, Int.cast_ofNat_Int, Nat.le_refl, hf, ld3, ld23, ln23, ia23, ld25, fa25_1, fa25_2, ld51, ln51, ia51, ld53, fa53_0, fa53_1, fa53_2, fa53_3, ld75, fa75_0, fa75_1, fa75_2, ow2, ow3, ow4, ow5, ow6, ow8, ow11, ow20, ow23]
  have hlen := hcp.len
  refine ⟨.slice (some ⟨y, 0, none⟩) m.insts.length m.insts.length, l', (y, cl c 53) :: (x2, cl #[.int .u32 m.gen, .int .u32 m.bound, .slice (some ⟨y, 0, none⟩) m.insts.length m.insts.length] 25) :: (x1, cl #[.int .u32 m.gen, .int .u32 m.bound, .slice (some ⟨y, 0, none⟩) m.insts.length m.insts.length] 25) :: M, rfl, hlen, hcp.same, ⟨?_, ?_⟩, by simpa using h⟩
  · refine own_sl_sub h (e := 53) (n := m.insts.length) (M := [(y, cl c 53)]) ?_ (fun x hx => by simp at hx; subst hx; exact List.mem_cons_self ..) (fun x hx => by obtain ⟨i, _, rfl⟩ := List.mem_map.1 hx; rfl) (by simp [hlen])
    rw [← hcl]
    exact OwnS.of hy (by unfold maxLen; omega) hc
  · intro i him
    obtain ⟨Mi, ho, hs⟩ := hcp.own i him
    refine own_sl_sub h ho (fun x hx => ?_) (fun x hx => by obtain ⟨i, _, rfl⟩ := List.mem_map.1 hx; rfl) (by simp)
    have := hs x hx
    simp [this]
end
end Go.Proofs.Ytlmcppbpobnfjaa

