/-
  code.Raw.
-/
import Derived.Test.YtlmcppbpobnfjaaRe
namespace Go.Proofs.Ytlmcppbpobnfjaa
open Go Go.Vc
set_option linter.unusedSimpArgs false
set_option linter.unusedVariables false
set_option maxRecDepth 20000

section
variable {w0 : World} {L : List (Nat × Obj)}
/-- What Raw leaves. -/
def RawQ (w0 : World) (L : List (Nat × Obj)) (i : Inst) (bound : Int) (v : Value) (w : World) : Prop :=
  ∃ op' a c, v = .tuple #[.agg #[.int .u16 op', .slice a (if rawE i bound = 0 then rawE.roomI i else 0) c], .int .i64 (rawE i bound)] ∧ So w0 w L
theorem raw_args {b : Nat} {op bound : Int} {f : Form} {av v2 v4 v6 : Value} {args : List Arg} (hl : args.length ≤ 1048576) (hs : ∀ a ∈ args, a.s.size ≤ 1048576) (ha : Sl w0 3 av (args.map Arg.c)) {Q : Value → World → Prop} {r0 : Nat} (hr0 : r0 ≤ 2) {e0 : Int}
    (hQ : ∀ (n room : Nat) (w : World), WrS w0 L b op f bound n room w → ((if e0 = 0 then argsE op bound 0 args else e0) = 0 → room = r0 + roomAs args) → F67.k3 Q v2 v4 v6 (.pointer (some ⟨b, 0, none⟩)) (.int .i64 (if e0 = 0 then argsE op bound 0 args else e0)) w) :
    ∀ (m k n room : Nat) (e : Int) (w : World), k + m = args.length → WrS w0 L b op f bound n room w → room ≤ 2 + k * 262145 → (if e = 0 then argsE op bound k (args.drop k) else e) = (if e0 = 0 then argsE op bound 0 args else e0) → (e = 0 → room + roomAs (args.drop k) = r0 + roomAs args) →
      F67.l1 Q (m + 1) v2 v4 v6 (.pointer (some ⟨b, 0, none⟩)) (.int .i64 e) (.func (.func 91) #[.pointer (some ⟨b, 0, none⟩)] #[]) av (.int .i64 (args.length : Int)) (.int .i64 (k : Int)) w := by
  intro m
  induction m with
  | zero =>
    intro k n room e w hk h hr he hroom
    rw [List.drop_of_length_le (by omega)] at he hroom
    have he' : e = (if e0 = 0 then argsE op bound 0 args else e0) := by
      rw [← he]
      by_cases h0 : e = 0
      · rw [if_pos h0]; exact h0
      · rw [if_neg h0]
    unfold F67.l1
    try simp (disch := omega) only [cnd_bool, on_some_eq, Dr_eq, xNil_ptr, xNil_func, xNil_yield, xPick_bool, unw_nil, xRes_ptr, xUn_not, xUn_neg, xEx_tuple, xBin_add, xBin_sub, xBin_mul, xBin_eql, xBin_neq, xBin_lss, xBin_leq, xBin_gtr, xBin_geq, xBin_eqls, xBin_neqs, wI64, oCell_some, List.getElem?_toArray, List.getElem?_cons_zero, List.getElem?_cons_succ, Nat.zero_add, Bool.not_true, Bool.not_false, if_true, if_false, ite_true, ite_false, beq_iff_eq, bne_iff_ne, decide_eq_true_eq, ne_eq, Bool.false_eq_true, Bool.true_eq_false, reduceIte, Option.some.injEq, Int.toNat_natCast, beq_self_eq_true, bne_self_eq_false, Value.cells, splice, List.setIfInBounds_toArray, List.set_cons_zero, List.set_cons_succ, List.size_toArray, List.length_cons, List.length_nil, and_self, Nat.reduceLeDiff, Nat.reduceAdd, Nat.reduceMul, Int.reduceToNat, Int.reduceLT, Int.reduceLE, Int.reduceGT, Int.reduceGE, Int.reduceAdd, Int.reduceSub, Int.reduceMul, Int.reduceNeg, Int.reduceEq, Int.reduceNe, true_and, and_true, Int.cast_ofNat_Int, Nat.le_refl, ld3, ld4, ld22, ld29, ld50, ld51, ln51, ia51, ld53, fa53_0, fa53_1, fa53_2, fa53_3, ld75, fa75_0, fa75_1, fa75_2, ld77, fa77_0, fa77_2, fa77_3, fa77_4, fa77_5, fa77_6, fa77_7, bd77, bd77_0_1_2_3_4_5_6_7, bd77_0_1_4_5_7, ld113, ln113, ia113, ld115, fa115_1, bd115, bd115_0_1, ld146, fa146_0, fa146_1, fa146_2, fa146_3, bd146_0_1, neq4, ow2, ow3, ow4, ow5, ow6, ow8, ow11, ow20, ow23]
    rw [if_neg (by omega), he']
    refine hQ n room w h fun h0 => ?_
    have := hroom (by rw [he']; exact h0)
    simpa [roomAs] using this
  | succ m ih =>
    intro k n room e w hk h hr he hroom
    have hlt : k < args.length := by omega
    unfold F67.l1
    obtain ⟨wv, xs, M, ho, h, hnr⟩ := h
    obtain ⟨g, o, k1, k2, k3⟩ := (ha.go h).get sl51 (k : Int) (i := k) (el := args[k].c) rfl (by simp [hlt])
    rw [agg_ac] at k2
    try simp (disch := omega) only [cnd_bool, on_some_eq, Dr_eq, xNil_ptr, xNil_func, xNil_yield, xPick_bool, unw_nil, xRes_ptr, xUn_not, xUn_neg, xEx_tuple, xBin_add, xBin_sub, xBin_mul, xBin_eql, xBin_neq, xBin_lss, xBin_leq, xBin_gtr, xBin_geq, xBin_eqls, xBin_neqs, wI64, oCell_some, List.getElem?_toArray, List.getElem?_cons_zero, List.getElem?_cons_succ, Nat.zero_add, Bool.not_true, Bool.not_false, if_true, if_false, ite_true, ite_false, beq_iff_eq, bne_iff_ne, decide_eq_true_eq, ne_eq, Bool.false_eq_true, Bool.true_eq_false, reduceIte, Option.some.injEq, Int.toNat_natCast, beq_self_eq_true, bne_self_eq_false, Value.cells, splice, List.setIfInBounds_toArray, List.set_cons_zero, List.set_cons_succ, List.size_toArray, List.length_cons, List.length_nil, and_self, Nat.reduceLeDiff, Nat.reduceAdd, Nat.reduceMul, Int.reduceToNat, Int.reduceLT, Int.reduceLE, Int.reduceGT, Int.reduceGE, Int.reduceAdd, Int.reduceSub, Int.reduceMul, Int.reduceNeg, Int.reduceEq, Int.reduceNe, true_and, and_true, Int.cast_ofNat_Int, Nat.le_refl, ld3, ld4, ld22, ld29, ld50, ld51, ln51, ia51, ld53, fa53_0, fa53_1, fa53_2, fa53_3, ld75, fa75_0, fa75_1, fa75_2, ld77, fa77_0, fa77_2, fa77_3, fa77_4, fa77_5, fa77_6, fa77_7, bd77, bd77_0_1_2_3_4_5_6_7, bd77_0_1_4_5_7, ld113, ln113, ia113, ld115, fa115_1, bd115, bd115_0_1, ld146, fa146_0, fa146_1, fa146_2, fa146_3, bd146_0_1, neq4, ow2, ow3, ow4, ow5, ow6, ow8, ow11, ow20, ow23, k1, k2]
    rw [if_pos (by omega)]
    unfold Arg.v
    refine al75 h fun x12 w h => ?_
    try simp only [Facts, and_true, Value.cells, List.setIfInBounds_toArray, List.set_cons_zero, List.set_cons_succ, splice, Nat.zero_add, Nat.reduceAdd, List.cons_append, List.nil_append] at h
    have hf := h.facts
    simp only [Facts, and_true, Value.cells, List.setIfInBounds_toArray, List.set_cons_zero, List.set_cons_succ, splice, Nat.zero_add, Nat.reduceAdd, List.cons_append, List.nil_append] at hf
    refine soStoreA ty75 0 h (fun w h => ?_) rfl rfl rfl rfl
    simp only [List.set_cons_zero] at h
    have hf := h.facts
    simp only [Facts] at hf
    try simp (disch := omega) only [cnd_bool, on_some_eq, Dr_eq, xNil_ptr, xNil_func, xNil_yield, xPick_bool, unw_nil, xRes_ptr, xUn_not, xUn_neg, xEx_tuple, xBin_add, xBin_sub, xBin_mul, xBin_eql, xBin_neq, xBin_lss, xBin_leq, xBin_gtr, xBin_geq, xBin_eqls, xBin_neqs, wI64, oCell_some, List.getElem?_toArray, List.getElem?_cons_zero, List.getElem?_cons_succ, Nat.zero_add, Bool.not_true, Bool.not_false, if_true, if_false, ite_true, ite_false, beq_iff_eq, bne_iff_ne, decide_eq_true_eq, ne_eq, Bool.false_eq_true, Bool.true_eq_false, reduceIte, Option.some.injEq, Int.toNat_natCast, beq_self_eq_true, bne_self_eq_false, Value.cells, splice, List.setIfInBounds_toArray, List.set_cons_zero, List.set_cons_succ, List.size_toArray, List.length_cons, List.length_nil, and_self, Nat.reduceLeDiff, Nat.reduceAdd, Nat.reduceMul, Int.reduceToNat, Int.reduceLT, Int.reduceLE, Int.reduceGT, Int.reduceGE, Int.reduceAdd, Int.reduceSub, Int.reduceMul, Int.reduceNeg, Int.reduceEq, Int.reduceNe, true_and, and_true, Int.cast_ofNat_Int, Nat.le_refl, hf, ld3, ld4, ld22, ld29, ld50, ld51, ln51, ia51, ld53, fa53_0, fa53_1, fa53_2, fa53_3, ld75, fa75_0, fa75_1, fa75_2, ld77, fa77_0, fa77_2, fa77_3, fa77_4, fa77_5, fa77_6, fa77_7, bd77, bd77_0_1_2_3_4_5_6_7, bd77_0_1_4_5_7, ld113, ln113, ia113, ld115, fa115_1, bd115, bd115_0_1, ld146, fa146_0, fa146_1, fa146_2, fa146_3, bd146_0_1, neq4, ow2, ow3, ow4, ow5, ow6, ow8, ow11, ow20, ow23]
    rw [List.drop_eq_getElem_cons hlt] at he hroom
    have hw : WrS w0 L b op f bound n room w := ⟨wv, xs, M, ho, h.drop, hnr⟩
    by_cases h0 : e = 0
    · rw [if_pos h0]
      rw [if_pos h0] at he
      refine @callV_func P 91 #[.pointer (some ⟨b, 0, none⟩)] #[] #[.int .i64 (k : Int), args[k].v] w _ (by kernel_rfl) ?_
      show Cx P 91 #[.pointer (some ⟨b, 0, none⟩), .int .i64 (k : Int), args[k].v] w _
      refine Cx.mono (c_arg (by omega) hw k (by omega) args[k] (hs _ (List.getElem_mem hlt))) fun v w hv => ?_
      obtain ⟨rfl, n', room', hw, r1, r2, r3⟩ := hv
      try simp (disch := omega) only [cnd_bool, on_some_eq, Dr_eq, xNil_ptr, xNil_func, xNil_yield, xPick_bool, unw_nil, xRes_ptr, xUn_not, xUn_neg, xEx_tuple, xBin_add, xBin_sub, xBin_mul, xBin_eql, xBin_neq, xBin_lss, xBin_leq, xBin_gtr, xBin_geq, xBin_eqls, xBin_neqs, wI64, oCell_some, List.getElem?_toArray, List.getElem?_cons_zero, List.getElem?_cons_succ, Nat.zero_add, Bool.not_true, Bool.not_false, if_true, if_false, ite_true, ite_false, beq_iff_eq, bne_iff_ne, decide_eq_true_eq, ne_eq, Bool.false_eq_true, Bool.true_eq_false, reduceIte, Option.some.injEq, Int.toNat_natCast, beq_self_eq_true, bne_self_eq_false, Value.cells, splice, List.setIfInBounds_toArray, List.set_cons_zero, List.set_cons_succ, List.size_toArray, List.length_cons, List.length_nil, and_self, Nat.reduceLeDiff, Nat.reduceAdd, Nat.reduceMul, Int.reduceToNat, Int.reduceLT, Int.reduceLE, Int.reduceGT, Int.reduceGE, Int.reduceAdd, Int.reduceSub, Int.reduceMul, Int.reduceNeg, Int.reduceEq, Int.reduceNe, true_and, and_true, Int.cast_ofNat_Int, Nat.le_refl, ld3, ld4, ld22, ld29, ld50, ld51, ln51, ia51, ld53, fa53_0, fa53_1, fa53_2, fa53_3, ld75, fa75_0, fa75_1, fa75_2, ld77, fa77_0, fa77_2, fa77_3, fa77_4, fa77_5, fa77_6, fa77_7, bd77, bd77_0_1_2_3_4_5_6_7, bd77_0_1_4_5_7, ld113, ln113, ia113, ld115, fa115_1, bd115, bd115_0_1, ld146, fa146_0, fa146_1, fa146_2, fa146_3, bd146_0_1, neq4, ow2, ow3, ow4, ow5, ow6, ow8, ow11, ow20, ow23]
      have := ih (k + 1) n' room' (argE (letterOf op k) args[k] bound) w (by omega) hw (by omega) ?_ ?_
      · rw [show ((k + 1 : Nat) : Int) = (k : Int) + 1 by omega] at this
        exact this
      · rw [← he, argsE]
      · intro ha0
        have h1 := hroom h0
        rw [roomAs_cons] at h1
        have h2 := r3 ha0
        omega
    · rw [if_neg h0]
      rw [if_neg h0] at he
      have := ih (k + 1) n room e w (by omega) hw (Nat.le_trans hr (Nat.add_le_add_left (Nat.mul_le_mul_right _ (Nat.le_succ k)) 2)) (by rw [if_neg h0]; exact he) (fun hh => absurd hh h0)
      rw [show ((k + 1 : Nat) : Int) = (k : Int) + 1 by omega] at this
      exact this
end
end Go.Proofs.Ytlmcppbpobnfjaa

