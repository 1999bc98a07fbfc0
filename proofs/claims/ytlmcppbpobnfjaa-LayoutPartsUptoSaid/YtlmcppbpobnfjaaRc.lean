/-
  code: an argument put into words; whether arguments fit.
-/
import Derived.Test.YtlmcppbpobnfjaaRb
namespace Go.Proofs.Ytlmcppbpobnfjaa
open Go Go.Vc
set_option linter.unusedSimpArgs false
set_option linter.unusedVariables false
set_option maxRecDepth 20000

def Arg.v (a : Arg) : Value := .agg #[.int .u8 a.kind, .int .u32 a.n, .string a.s]
theorem agg_ac (a : Arg) : Value.agg a.c.toArray = a.v := rfl
def noS (s : ByteArray) : Bool := s.toList == (⟨#[]⟩ : ByteArray).toList
/-- Does an argument not fit its letter? -/
def badA (c : Int) (a : Arg) : Bool := c == 0 || a.kind != kindL c || (if a.kind = 3 then a.n != 0 else !noS a.s)
/-- What is wrong with an argument that stands where a letter is. -/
def argE (c : Int) (a : Arg) (bound : Int) : Int :=
  if badA c a = true then 42 else if a.kind = 3 then nulE a.s else if a.kind = 1 then idE a.n bound else if a.kind = 4 then (if (enumOf c a.n).isSome = true then 0 else 31) else 0
def roomA (a : Arg) : Nat := if a.kind = 3 then roomS a.s else 1
section
variable {w0 : World} {L : List (Nat × Obj)} {b : Nat} {op bound : Int} {f : Form}
/-- What arg leaves. -/
def ArgQ (w0 : World) (L : List (Nat × Obj)) (b : Nat) (op bound : Int) (f : Form) (room : Nat) (e : Int) (a : Arg) (v : Value) (w : World) : Prop :=
  v = .int .i64 e ∧ ∃ n' room', WrS w0 L b op f bound n' room' w ∧ room ≤ room' ∧ room' ≤ room + 262145 ∧ (e = 0 → room' = room + roomA a)
theorem WrS.own {x : Nat × Obj} {n room : Nat} {w : World} (h : WrS w0 (x :: L) b op f bound n room w) : WrS w0 L b op f bound n room w := by
  obtain ⟨wv, xs, M, ho, h, hnr⟩ := h
  exact ⟨wv, xs, M, ho, (h.perm (M := x :: (b, cl (wrC op f bound wv room) 146) :: (M ++ L)) (perm_of fun c d ha hc h0 => by simp only [ha, hc, h0]; omega)).drop, hnr⟩
theorem c_arg {n room : Nat} {w : World} (hn : room ≤ 17592186044416) (h : WrS w0 L b op f bound n room w) (k : Nat) (hk : k ≤ 1099511627776) (a : Arg) (hs : a.s.size ≤ 1048576) :
    Cx P 91 #[.pointer (some ⟨b, 0, none⟩), .int .i64 (k : Int), a.v] w (ArgQ w0 L b op bound f room (argE (letterOf op k) a bound) a) := by
  obtain ⟨wv, xs, M, ho, h, hnr⟩ := h
  apply F91_ok
  unfold F91 Arg.v
  refine soBox h fun x5 w h => ?_
  try simp only [Facts, and_true, Value.cells, List.setIfInBounds_toArray, List.set_cons_zero, List.set_cons_succ, splice, Nat.zero_add, Nat.reduceAdd, List.cons_append, List.nil_append] at h
  have hf := h.facts
  simp only [Facts, and_true, Value.cells, List.setIfInBounds_toArray, List.set_cons_zero, List.set_cons_succ, splice, Nat.zero_add, Nat.reduceAdd, List.cons_append, List.nil_append] at hf
  unfold wrC at hf
  try simp (disch := omega) only [cnd_bool, on_some_eq, Dr_eq, xNil_ptr, xNil_func, xNil_yield, xPick_bool, unw_nil, xRes_ptr, xUn_not, xUn_neg, xEx_tuple, xBin_add, xBin_sub, xBin_mul, xBin_eql, xBin_neq, xBin_lss, xBin_leq, xBin_gtr, xBin_geq, xBin_eqls, xBin_neqs, wI64, oCell_some, List.getElem?_toArray, List.getElem?_cons_zero, List.getElem?_cons_succ, Nat.zero_add, Bool.not_true, Bool.not_false, if_true, if_false, ite_true, ite_false, beq_iff_eq, bne_iff_ne, decide_eq_true_eq, ne_eq, Bool.false_eq_true, Bool.true_eq_false, reduceIte, Option.some.injEq, Int.toNat_natCast, beq_self_eq_true, bne_self_eq_false, Value.cells, splice, List.setIfInBounds_toArray, List.set_cons_zero, List.set_cons_succ, List.size_toArray, List.length_cons, List.length_nil, and_self, Nat.reduceLeDiff, Nat.reduceAdd, Nat.reduceMul, Int.reduceToNat, Int.reduceLT, Int.reduceLE, Int.reduceGT, Int.reduceGE, Int.reduceAdd, Int.reduceSub, Int.reduceMul, Int.reduceNeg, Int.reduceEq, Int.reduceNe, true_and, and_true, Int.cast_ofNat_Int, Nat.le_refl, hf, ld5, ld9, ln9, ix9, ld22, ld50, ld75, fa75_0, fa75_1, fa75_2, ld77, fa77_0, fa77_2, fa77_3, fa77_4, fa77_5, fa77_6, fa77_7, bd77, bd77_0_1_2_3_4_5_6_7, bd77_0_1_4_5_7, ld91, ln91, ia91, ld146, fa146_0, fa146_1, fa146_2, fa146_3, bd146_0_1, ow2, ow3, ow4, ow5, ow6, ow8, ow11, ow20, ow23, cv5_22]
  refine Cx.mono (c_letter h op k hk) fun v w hv => ?_
  obtain ⟨rfl, h⟩ := hv
  have hf := h.facts
  simp only [Facts] at hf
  try simp (disch := omega) only [cnd_bool, on_some_eq, Dr_eq, xNil_ptr, xNil_func, xNil_yield, xPick_bool, unw_nil, xRes_ptr, xUn_not, xUn_neg, xEx_tuple, xBin_add, xBin_sub, xBin_mul, xBin_eql, xBin_neq, xBin_lss, xBin_leq, xBin_gtr, xBin_geq, xBin_eqls, xBin_neqs, wI64, oCell_some, List.getElem?_toArray, List.getElem?_cons_zero, List.getElem?_cons_succ, Nat.zero_add, Bool.not_true, Bool.not_false, if_true, if_false, ite_true, ite_false, beq_iff_eq, bne_iff_ne, decide_eq_true_eq, ne_eq, Bool.false_eq_true, Bool.true_eq_false, reduceIte, Option.some.injEq, Int.toNat_natCast, beq_self_eq_true, bne_self_eq_false, Value.cells, splice, List.setIfInBounds_toArray, List.set_cons_zero, List.set_cons_succ, List.size_toArray, List.length_cons, List.length_nil, and_self, Nat.reduceLeDiff, Nat.reduceAdd, Nat.reduceMul, Int.reduceToNat, Int.reduceLT, Int.reduceLE, Int.reduceGT, Int.reduceGE, Int.reduceAdd, Int.reduceSub, Int.reduceMul, Int.reduceNeg, Int.reduceEq, Int.reduceNe, true_and, and_true, Int.cast_ofNat_Int, Nat.le_refl, hf, ld5, ld9, ln9, ix9, ld22, ld50, ld75, fa75_0, fa75_1, fa75_2, ld77, fa77_0, fa77_2, fa77_3, fa77_4, fa77_5, fa77_6, fa77_7, bd77, bd77_0_1_2_3_4_5_6_7, bd77_0_1_4_5_7, ld91, ln91, ia91, ld146, fa146_0, fa146_1, fa146_2, fa146_3, bd146_0_1, ow2, ow3, ow4, ow5, ow6, ow8, ow11, ow20, ow23, cv5_22]
  generalize letterOf op k = c
  have hw : WrS w0 ((x5, cl #[.int .u8 a.kind, .int .u32 a.n, .string a.s] 75) :: L) b op f bound n room w := ⟨wv, xs, M, ho, h.perm (perm_of fun c d ha hc h0 => by simp only [ha, hc, h0]; omega), hnr⟩
  clear h
  have rd : ∀ {n room : Nat} {w : World}, WrS w0 ((x5, cl #[.int .u8 a.kind, .int .u32 a.n, .string a.s] 75) :: L) b op f bound n room w → w.heap[x5]? = some (cl #[.int .u8 a.kind, .int .u32 a.n, .string a.s] 75) ∧ oCell w.heap[b]? 8 = some (.int .u32 bound) := by
    intro n room w h
    obtain ⟨wv, xs, M, ho, h, hnr⟩ := h
    refine ⟨h.st.blk (x5, _) (by simp), ?_⟩
    rw [h.st.blk (b, _) (List.mem_cons_self ..)]
    rfl
  have k2 : ∀ {w : World}, WrS w0 ((x5, cl #[.int .u8 a.kind, .int .u32 a.n, .string a.s] 75) :: L) b op f bound n room w → a.kind ≠ 3 →
      F91.k2 (ArgQ w0 L b op bound f room (if a.kind = 1 then idE a.n bound else if a.kind = 4 then (if (enumOf c a.n).isSome = true then 0 else 31) else 0) a) (.pointer (some ⟨b, 0, none⟩)) (.pointer (some ⟨x5, 0, none⟩)) (.int .u8 c) w := by
    intro w hw h3
    unfold F91.k2
    have hf := rd hw
    try simp (disch := omega) only [cnd_bool, on_some_eq, Dr_eq, xNil_ptr, xNil_func, xNil_yield, xPick_bool, unw_nil, xRes_ptr, xUn_not, xUn_neg, xEx_tuple, xBin_add, xBin_sub, xBin_mul, xBin_eql, xBin_neq, xBin_lss, xBin_leq, xBin_gtr, xBin_geq, xBin_eqls, xBin_neqs, wI64, oCell_some, List.getElem?_toArray, List.getElem?_cons_zero, List.getElem?_cons_succ, Nat.zero_add, Bool.not_true, Bool.not_false, if_true, if_false, ite_true, ite_false, beq_iff_eq, bne_iff_ne, decide_eq_true_eq, ne_eq, Bool.false_eq_true, Bool.true_eq_false, reduceIte, Option.some.injEq, Int.toNat_natCast, beq_self_eq_true, bne_self_eq_false, Value.cells, splice, List.setIfInBounds_toArray, List.set_cons_zero, List.set_cons_succ, List.size_toArray, List.length_cons, List.length_nil, and_self, Nat.reduceLeDiff, Nat.reduceAdd, Nat.reduceMul, Int.reduceToNat, Int.reduceLT, Int.reduceLE, Int.reduceGT, Int.reduceGE, Int.reduceAdd, Int.reduceSub, Int.reduceMul, Int.reduceNeg, Int.reduceEq, Int.reduceNe, true_and, and_true, Int.cast_ofNat_Int, Nat.le_refl, hf, ld5, ld9, ln9, ix9, ld22, ld50, ld75, fa75_0, fa75_1, fa75_2, ld77, fa77_0, fa77_2, fa77_3, fa77_4, fa77_5, fa77_6, fa77_7, bd77, bd77_0_1_2_3_4_5_6_7, bd77_0_1_4_5_7, ld91, ln91, ia91, ld146, fa146_0, fa146_1, fa146_2, fa146_3, bd146_0_1, ow2, ow3, ow4, ow5, ow6, ow8, ow11, ow20, ow23, cv5_22]
    refine Cx.mono (c_put hn hw a.n) fun v w hw => ?_
    have hf := rd hw
    have fin : ∀ (e : Int) (w : World), WrS w0 ((x5, cl #[.int .u8 a.kind, .int .u32 a.n, .string a.s] 75) :: L) b op f bound (n + 1) (room + 1) w → ArgQ w0 L b op bound f room e a (.int .i64 e) w := by
      intro e w hw
      exact ⟨rfl, n + 1, room + 1, hw.own, by omega, by omega, fun _ => by unfold roomA; rw [if_neg h3]⟩
    try simp (disch := omega) only [cnd_bool, on_some_eq, Dr_eq, xNil_ptr, xNil_func, xNil_yield, xPick_bool, unw_nil, xRes_ptr, xUn_not, xUn_neg, xEx_tuple, xBin_add, xBin_sub, xBin_mul, xBin_eql, xBin_neq, xBin_lss, xBin_leq, xBin_gtr, xBin_geq, xBin_eqls, xBin_neqs, wI64, oCell_some, List.getElem?_toArray, List.getElem?_cons_zero, List.getElem?_cons_succ, Nat.zero_add, Bool.not_true, Bool.not_false, if_true, if_false, ite_true, ite_false, beq_iff_eq, bne_iff_ne, decide_eq_true_eq, ne_eq, Bool.false_eq_true, Bool.true_eq_false, reduceIte, Option.some.injEq, Int.toNat_natCast, beq_self_eq_true, bne_self_eq_false, Value.cells, splice, List.setIfInBounds_toArray, List.set_cons_zero, List.set_cons_succ, List.size_toArray, List.length_cons, List.length_nil, and_self, Nat.reduceLeDiff, Nat.reduceAdd, Nat.reduceMul, Int.reduceToNat, Int.reduceLT, Int.reduceLE, Int.reduceGT, Int.reduceGE, Int.reduceAdd, Int.reduceSub, Int.reduceMul, Int.reduceNeg, Int.reduceEq, Int.reduceNe, true_and, and_true, Int.cast_ofNat_Int, Nat.le_refl, hf, ld5, ld9, ln9, ix9, ld22, ld50, ld75, fa75_0, fa75_1, fa75_2, ld77, fa77_0, fa77_2, fa77_3, fa77_4, fa77_5, fa77_6, fa77_7, bd77, bd77_0_1_2_3_4_5_6_7, bd77_0_1_4_5_7, ld91, ln91, ia91, ld146, fa146_0, fa146_1, fa146_2, fa146_3, bd146_0_1, ow2, ow3, ow4, ow5, ow6, ow8, ow11, ow20, ow23, cv5_22]
    by_cases h1 : a.kind = 1
    · rw [if_pos h1, if_pos h1]
      try rw [Dr_eq]
      obtain ⟨wv, xs, M, ho, h, hnr⟩ := hw
      have h := h.drew
      have hf := rd ⟨wv, xs, M, ho, h, hnr⟩
      try simp (disch := omega) only [cnd_bool, on_some_eq, Dr_eq, xNil_ptr, xNil_func, xNil_yield, xPick_bool, unw_nil, xRes_ptr, xUn_not, xUn_neg, xEx_tuple, xBin_add, xBin_sub, xBin_mul, xBin_eql, xBin_neq, xBin_lss, xBin_leq, xBin_gtr, xBin_geq, xBin_eqls, xBin_neqs, wI64, oCell_some, List.getElem?_toArray, List.getElem?_cons_zero, List.getElem?_cons_succ, Nat.zero_add, Bool.not_true, Bool.not_false, if_true, if_false, ite_true, ite_false, beq_iff_eq, bne_iff_ne, decide_eq_true_eq, ne_eq, Bool.false_eq_true, Bool.true_eq_false, reduceIte, Option.some.injEq, Int.toNat_natCast, beq_self_eq_true, bne_self_eq_false, Value.cells, splice, List.setIfInBounds_toArray, List.set_cons_zero, List.set_cons_succ, List.size_toArray, List.length_cons, List.length_nil, and_self, Nat.reduceLeDiff, Nat.reduceAdd, Nat.reduceMul, Int.reduceToNat, Int.reduceLT, Int.reduceLE, Int.reduceGT, Int.reduceGE, Int.reduceAdd, Int.reduceSub, Int.reduceMul, Int.reduceNeg, Int.reduceEq, Int.reduceNe, true_and, and_true, Int.cast_ofNat_Int, Nat.le_refl, hf, ld5, ld9, ln9, ix9, ld22, ld50, ld75, fa75_0, fa75_1, fa75_2, ld77, fa77_0, fa77_2, fa77_3, fa77_4, fa77_5, fa77_6, fa77_7, bd77, bd77_0_1_2_3_4_5_6_7, bd77_0_1_4_5_7, ld91, ln91, ia91, ld146, fa146_0, fa146_1, fa146_2, fa146_3, bd146_0_1, ow2, ow3, ow4, ow5, ow6, ow8, ow11, ow20, ow23, cv5_22]
      refine Cx.mono (c_id h a.n bound) fun v w hv => ?_
      obtain ⟨rfl, h⟩ := hv
      exact fin _ w ⟨wv, xs, M, ho, h, hnr⟩
    · rw [if_neg h1, if_neg h1]
      by_cases h4 : a.kind = 4
      · rw [if_pos h4, if_pos h4]
        obtain ⟨wv, xs, M, ho, h, hnr⟩ := hw
        refine Cx.mono (c_named h c a.n) fun v w hv => ?_
        obtain ⟨rfl, h⟩ := hv
        exact fin _ w ⟨wv, xs, M, ho, h, hnr⟩
      · rw [if_neg h4, if_neg h4]
        exact fin _ w hw
  have k3 : ∀ {w : World} (bad : Bool), bad = badA c a → WrS w0 ((x5, cl #[.int .u8 a.kind, .int .u32 a.n, .string a.s] 75) :: L) b op f bound n room w →
      F91.k3 (ArgQ w0 L b op bound f room (argE c a bound) a) (.pointer (some ⟨b, 0, none⟩)) (.pointer (some ⟨x5, 0, none⟩)) (.int .u8 c) (.bool (a.kind == 3)) (.bool bad) w := by
    intro w bad hb hw
    unfold F91.k3 argE
    rw [← hb]
    have hf := rd hw
    try simp (disch := omega) only [cnd_bool, on_some_eq, Dr_eq, xNil_ptr, xNil_func, xNil_yield, xPick_bool, unw_nil, xRes_ptr, xUn_not, xUn_neg, xEx_tuple, xBin_add, xBin_sub, xBin_mul, xBin_eql, xBin_neq, xBin_lss, xBin_leq, xBin_gtr, xBin_geq, xBin_eqls, xBin_neqs, wI64, oCell_some, List.getElem?_toArray, List.getElem?_cons_zero, List.getElem?_cons_succ, Nat.zero_add, Bool.not_true, Bool.not_false, if_true, if_false, ite_true, ite_false, beq_iff_eq, bne_iff_ne, decide_eq_true_eq, ne_eq, Bool.false_eq_true, Bool.true_eq_false, reduceIte, Option.some.injEq, Int.toNat_natCast, beq_self_eq_true, bne_self_eq_false, Value.cells, splice, List.setIfInBounds_toArray, List.set_cons_zero, List.set_cons_succ, List.size_toArray, List.length_cons, List.length_nil, and_self, Nat.reduceLeDiff, Nat.reduceAdd, Nat.reduceMul, Int.reduceToNat, Int.reduceLT, Int.reduceLE, Int.reduceGT, Int.reduceGE, Int.reduceAdd, Int.reduceSub, Int.reduceMul, Int.reduceNeg, Int.reduceEq, Int.reduceNe, true_and, and_true, Int.cast_ofNat_Int, Nat.le_refl, hf, ld5, ld9, ln9, ix9, ld22, ld50, ld75, fa75_0, fa75_1, fa75_2, ld77, fa77_0, fa77_2, fa77_3, fa77_4, fa77_5, fa77_6, fa77_7, bd77, bd77_0_1_2_3_4_5_6_7, bd77_0_1_4_5_7, ld91, ln91, ia91, ld146, fa146_0, fa146_1, fa146_2, fa146_3, bd146_0_1, ow2, ow3, ow4, ow5, ow6, ow8, ow11, ow20, ow23, cv5_22]
    cases bad with
    | true =>
      simp only [if_true]
      exact ⟨rfl, n, room, hw.own, Nat.le_refl _, by omega, fun h => by cases h⟩
    | false =>
      simp only [Bool.false_eq_true, if_false]
      by_cases h3 : a.kind = 3
      · rw [if_pos h3, if_pos h3]
        refine Cx.mono (c_text hn hw a.s hs) fun v w hv => ?_
        obtain ⟨rfl, n', room', hw, h1, h2, h4⟩ := hv
        refine ⟨rfl, n', room', hw.own, h1, ?_, fun he => by unfold roomA; rw [if_pos h3]; exact h4 he⟩
        have : roomS a.s ≤ 262145 := by unfold roomS; omega
        omega
      · rw [if_neg h3, if_neg h3]
        exact k2 hw h3
  unfold F91.k1
  rw [Dr_eq]
  have hw : WrS w0 ((x5, cl #[.int .u8 a.kind, .int .u32 a.n, .string a.s] 75) :: L) b op f bound n room w.drew := by
    obtain ⟨wv, xs, M, ho, h, hnr⟩ := hw
    exact ⟨wv, xs, M, ho, h.drew, hnr⟩
  have hf := rd hw
  try simp (disch := omega) only [cnd_bool, on_some_eq, Dr_eq, xNil_ptr, xNil_func, xNil_yield, xPick_bool, unw_nil, xRes_ptr, xUn_not, xUn_neg, xEx_tuple, xBin_add, xBin_sub, xBin_mul, xBin_eql, xBin_neq, xBin_lss, xBin_leq, xBin_gtr, xBin_geq, xBin_eqls, xBin_neqs, wI64, oCell_some, List.getElem?_toArray, List.getElem?_cons_zero, List.getElem?_cons_succ, Nat.zero_add, Bool.not_true, Bool.not_false, if_true, if_false, ite_true, ite_false, beq_iff_eq, bne_iff_ne, decide_eq_true_eq, ne_eq, Bool.false_eq_true, Bool.true_eq_false, reduceIte, Option.some.injEq, Int.toNat_natCast, beq_self_eq_true, bne_self_eq_false, Value.cells, splice, List.setIfInBounds_toArray, List.set_cons_zero, List.set_cons_succ, List.size_toArray, List.length_cons, List.length_nil, and_self, Nat.reduceLeDiff, Nat.reduceAdd, Nat.reduceMul, Int.reduceToNat, Int.reduceLT, Int.reduceLE, Int.reduceGT, Int.reduceGE, Int.reduceAdd, Int.reduceSub, Int.reduceMul, Int.reduceNeg, Int.reduceEq, Int.reduceNe, true_and, and_true, Int.cast_ofNat_Int, Nat.le_refl, hf, ld5, ld9, ln9, ix9, ld22, ld50, ld75, fa75_0, fa75_1, fa75_2, ld77, fa77_0, fa77_2, fa77_3, fa77_4, fa77_5, fa77_6, fa77_7, bd77, bd77_0_1_2_3_4_5_6_7, bd77_0_1_4_5_7, ld91, ln91, ia91, ld146, fa146_0, fa146_1, fa146_2, fa146_3, bd146_0_1, ow2, ow3, ow4, ow5, ow6, ow8, ow11, ow20, ow23, cv5_22]
  by_cases hc : c = 0
  · rw [if_pos hc]
    exact k3 true (by unfold badA; simp [hc]) hw
  · rw [if_neg hc]
    obtain ⟨wv, xs, M, ho, h, hnr⟩ := hw
    refine Cx.mono (c_gkind h c) fun v w hv => ?_
    obtain ⟨rfl, h⟩ := hv
    have hw : WrS w0 ((x5, cl #[.int .u8 a.kind, .int .u32 a.n, .string a.s] 75) :: L) b op f bound n room w := ⟨wv, xs, M, ho, h, hnr⟩
    have hf := rd hw
    try simp (disch := omega) only [cnd_bool, on_some_eq, Dr_eq, xNil_ptr, xNil_func, xNil_yield, xPick_bool, unw_nil, xRes_ptr, xUn_not, xUn_neg, xEx_tuple, xBin_add, xBin_sub, xBin_mul, xBin_eql, xBin_neq, xBin_lss, xBin_leq, xBin_gtr, xBin_geq, xBin_eqls, xBin_neqs, wI64, oCell_some, List.getElem?_toArray, List.getElem?_cons_zero, List.getElem?_cons_succ, Nat.zero_add, Bool.not_true, Bool.not_false, if_true, if_false, ite_true, ite_false, beq_iff_eq, bne_iff_ne, decide_eq_true_eq, ne_eq, Bool.false_eq_true, Bool.true_eq_false, reduceIte, Option.some.injEq, Int.toNat_natCast, beq_self_eq_true, bne_self_eq_false, Value.cells, splice, List.setIfInBounds_toArray, List.set_cons_zero, List.set_cons_succ, List.size_toArray, List.length_cons, List.length_nil, and_self, Nat.reduceLeDiff, Nat.reduceAdd, Nat.reduceMul, Int.reduceToNat, Int.reduceLT, Int.reduceLE, Int.reduceGT, Int.reduceGE, Int.reduceAdd, Int.reduceSub, Int.reduceMul, Int.reduceNeg, Int.reduceEq, Int.reduceNe, true_and, and_true, Int.cast_ofNat_Int, Nat.le_refl, hf, ld5, ld9, ln9, ix9, ld22, ld50, ld75, fa75_0, fa75_1, fa75_2, ld77, fa77_0, fa77_2, fa77_3, fa77_4, fa77_5, fa77_6, fa77_7, bd77, bd77_0_1_2_3_4_5_6_7, bd77_0_1_4_5_7, ld91, ln91, ia91, ld146, fa146_0, fa146_1, fa146_2, fa146_3, bd146_0_1, ow2, ow3, ow4, ow5, ow6, ow8, ow11, ow20, ow23, cv5_22]
    by_cases hkd : a.kind = kindL c
    · rw [if_neg (by simpa using hkd)]
      by_cases h3 : a.kind = 3
      · rw [if_pos h3]
        by_cases hn0 : a.n = 0
        · rw [if_neg (by simpa using hn0), if_neg (by simpa using h3)]
          exact k3 false (by unfold badA; simp [hc, hkd, hn0]; intro hh; exact absurd (hkd.symm.trans h3 ▸ rfl) hh) hw
        · rw [if_pos hn0]
          exact k3 true (by unfold badA; simp [h3, hn0]) hw
      · rw [if_neg h3, if_pos (by simpa using h3)]
        exact k3 (!noS a.s) (by unfold badA; rw [if_neg h3]; simp [hc, hkd]) hw
    · rw [if_pos hkd]
      exact k3 true (by unfold badA; simp [hkd]) hw
end
end Go.Proofs.Ytlmcppbpobnfjaa

