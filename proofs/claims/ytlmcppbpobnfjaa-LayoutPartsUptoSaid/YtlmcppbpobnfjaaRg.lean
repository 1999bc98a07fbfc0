/-
  code.Raw, the whole.
-/
import Derived.Test.YtlmcppbpobnfjaaRf
namespace Go.Proofs.Ytlmcppbpobnfjaa
open Go Go.Vc
set_option linter.unusedSimpArgs false
set_option linter.unusedVariables false
set_option maxRecDepth 20000

section
variable {w0 : World} {L : List (Nat × Obj)}
def zRaw : Array Value := #[.int .u16 0, .slice none 0 0]
/-- The end of Raw: e is what is wrong. -/
theorem raw_end {b x2 x4 x6 : Nat} {i : Inst} {bound e : Int} {f : Form} {n room : Nat} {w : World} {o6 : Obj}
    (he : e = rawE i bound) (hroom : e = 0 → room = rawE.roomI i ∧ room < 65535)
    (h : WrS w0 ((x2, cl i.v.cells 53) :: (x4, cl zRaw 115) :: (x6, o6) :: L) b i.op f bound n room w) :
    F67.k5 (RawQ w0 L i bound) (.pointer (some ⟨x2, 0, none⟩)) (.pointer (some ⟨x4, 0, none⟩)) (.pointer (some ⟨b, 0, none⟩)) (.int .i64 e) w := by
  obtain ⟨wv, xs, M, ho, h, hnr⟩ := h
  unfold F67.k5
  try simp (disch := omega) only [cnd_bool, on_some_eq, Dr_eq, xNil_ptr, xNil_func, xNil_yield, xPick_bool, unw_nil, xRes_ptr, xUn_not, xUn_neg, xEx_tuple, xBin_add, xBin_sub, xBin_mul, xBin_eql, xBin_neq, xBin_lss, xBin_leq, xBin_gtr, xBin_geq, xBin_eqls, xBin_neqs, wI64, oCell_some, List.getElem?_toArray, List.getElem?_cons_zero, List.getElem?_cons_succ, Nat.zero_add, Bool.not_true, Bool.not_false, if_true, if_false, ite_true, ite_false, beq_iff_eq, bne_iff_ne, decide_eq_true_eq, ne_eq, Bool.false_eq_true, Bool.true_eq_false, reduceIte, Option.some.injEq, Int.toNat_natCast, beq_self_eq_true, bne_self_eq_false, Value.cells, splice, List.setIfInBounds_toArray, List.set_cons_zero, List.set_cons_succ, List.size_toArray, List.length_cons, List.length_nil, and_self, Nat.reduceLeDiff, Nat.reduceAdd, Nat.reduceMul, Int.reduceToNat, Int.reduceLT, Int.reduceLE, Int.reduceGT, Int.reduceGE, Int.reduceAdd, Int.reduceSub, Int.reduceMul, Int.reduceNeg, Int.reduceEq, Int.reduceNe, true_and, and_true, Int.cast_ofNat_Int, Nat.le_refl, ld3, ld4, ld22, ld29, ld50, ld51, ln51, ia51, ld53, fa53_0, fa53_1, fa53_2, fa53_3, ld75, fa75_0, fa75_1, fa75_2, ld77, fa77_0, fa77_2, fa77_3, fa77_4, fa77_5, fa77_6, fa77_7, bd77, bd77_0_1_2_3_4_5_6_7, bd77_0_1_4_5_7, ld113, ln113, ia113, ld115, fa115_1, bd115, bd115_0_1, ld146, fa146_0, fa146_1, fa146_2, fa146_3, bd146_0_1, neq4, ow2, ow3, ow4, ow5, ow6, ow8, ow11, ow20, ow23]
  by_cases h0 : e = 0
  · rw [if_neg (by simpa using h0)]
    obtain ⟨hr1, hr2⟩ := hroom h0
    have hn : n = rawE.roomI i := by omega
    have hsh : ∃ a c, wv = .slice a n c := by
      rcases ho.2 with ⟨e, e2, _⟩ | ⟨_, _, _, e, _⟩
      · exact ⟨_, _, by rw [e, e2]⟩
      · exact ⟨_, _, e⟩
    obtain ⟨a, c, rfl⟩ := hsh
    try rw [Dr_eq]
    have h := (h.perm (M := (x4, cl zRaw 115) :: (x2, cl i.v.cells 53) :: (b, cl (wrC i.op f bound (.slice a n c) room) 146) :: (M ++ ((x6, o6) :: L))) (perm_of fun c d ha hc h0 => by simp only [ha, hc, h0]; omega)).drew
    have hf := h.facts
    simp only [Facts, wrC, Inst.v, Value.cells, zRaw] at hf
    try simp (disch := omega) only [cnd_bool, on_some_eq, Dr_eq, xNil_ptr, xNil_func, xNil_yield, xPick_bool, unw_nil, xRes_ptr, xUn_not, xUn_neg, xEx_tuple, xBin_add, xBin_sub, xBin_mul, xBin_eql, xBin_neq, xBin_lss, xBin_leq, xBin_gtr, xBin_geq, xBin_eqls, xBin_neqs, wI64, oCell_some, List.getElem?_toArray, List.getElem?_cons_zero, List.getElem?_cons_succ, Nat.zero_add, Bool.not_true, Bool.not_false, if_true, if_false, ite_true, ite_false, beq_iff_eq, bne_iff_ne, decide_eq_true_eq, ne_eq, Bool.false_eq_true, Bool.true_eq_false, reduceIte, Option.some.injEq, Int.toNat_natCast, beq_self_eq_true, bne_self_eq_false, Value.cells, splice, List.setIfInBounds_toArray, List.set_cons_zero, List.set_cons_succ, List.size_toArray, List.length_cons, List.length_nil, and_self, Nat.reduceLeDiff, Nat.reduceAdd, Nat.reduceMul, Int.reduceToNat, Int.reduceLT, Int.reduceLE, Int.reduceGT, Int.reduceGE, Int.reduceAdd, Int.reduceSub, Int.reduceMul, Int.reduceNeg, Int.reduceEq, Int.reduceNe, true_and, and_true, Int.cast_ofNat_Int, Nat.le_refl, hf, ld3, ld4, ld22, ld29, ld50, ld51, ln51, ia51, ld53, fa53_0, fa53_1, fa53_2, fa53_3, ld75, fa75_0, fa75_1, fa75_2, ld77, fa77_0, fa77_2, fa77_3, fa77_4, fa77_5, fa77_6, fa77_7, bd77, bd77_0_1_2_3_4_5_6_7, bd77_0_1_4_5_7, ld113, ln113, ia113, ld115, fa115_1, bd115, bd115_0_1, ld146, fa146_0, fa146_1, fa146_2, fa146_3, bd146_0_1, neq4, ow2, ow3, ow4, ow5, ow6, ow8, ow11, ow20, ow23]
    refine soStoreA ty115 0 h (fun w h => ?_) rfl rfl rfl rfl
    simp only [List.set_cons_zero] at h
    have hf := h.facts
    simp only [Facts] at hf
    try simp (disch := omega) only [cnd_bool, on_some_eq, Dr_eq, xNil_ptr, xNil_func, xNil_yield, xPick_bool, unw_nil, xRes_ptr, xUn_not, xUn_neg, xEx_tuple, xBin_add, xBin_sub, xBin_mul, xBin_eql, xBin_neq, xBin_lss, xBin_leq, xBin_gtr, xBin_geq, xBin_eqls, xBin_neqs, wI64, oCell_some, List.getElem?_toArray, List.getElem?_cons_zero, List.getElem?_cons_succ, Nat.zero_add, Bool.not_true, Bool.not_false, if_true, if_false, ite_true, ite_false, beq_iff_eq, bne_iff_ne, decide_eq_true_eq, ne_eq, Bool.false_eq_true, Bool.true_eq_false, reduceIte, Option.some.injEq, Int.toNat_natCast, beq_self_eq_true, bne_self_eq_false, Value.cells, splice, List.setIfInBounds_toArray, List.set_cons_zero, List.set_cons_succ, List.size_toArray, List.length_cons, List.length_nil, and_self, Nat.reduceLeDiff, Nat.reduceAdd, Nat.reduceMul, Int.reduceToNat, Int.reduceLT, Int.reduceLE, Int.reduceGT, Int.reduceGE, Int.reduceAdd, Int.reduceSub, Int.reduceMul, Int.reduceNeg, Int.reduceEq, Int.reduceNe, true_and, and_true, Int.cast_ofNat_Int, Nat.le_refl, hf, ld3, ld4, ld22, ld29, ld50, ld51, ln51, ia51, ld53, fa53_0, fa53_1, fa53_2, fa53_3, ld75, fa75_0, fa75_1, fa75_2, ld77, fa77_0, fa77_2, fa77_3, fa77_4, fa77_5, fa77_6, fa77_7, bd77, bd77_0_1_2_3_4_5_6_7, bd77_0_1_4_5_7, ld113, ln113, ia113, ld115, fa115_1, bd115, bd115_0_1, ld146, fa146_0, fa146_1, fa146_2, fa146_3, bd146_0_1, neq4, ow2, ow3, ow4, ow5, ow6, ow8, ow11, ow20, ow23]
    refine ⟨i.op, a, c, ?_, h.drop.drop.drop.drops.drop⟩
    rw [← he, if_pos h0, ← hn]
    rw [h0]
  · rw [if_pos (by simpa using h0)]
    have h := h.perm (M := (x4, cl zRaw 115) :: (x2, cl i.v.cells 53) :: (b, cl (wrC i.op f bound wv room) 146) :: (M ++ ((x6, o6) :: L))) (perm_of fun c d ha hc h0 => by simp only [ha, hc, h0]; omega)
    refine soStoreA ty115 0 h (fun w h => ?_) rfl rfl rfl rfl
    simp only [List.set_cons_zero] at h
    have hf := h.facts
    simp only [Facts] at hf
    try simp (disch := omega) only [cnd_bool, on_some_eq, Dr_eq, xNil_ptr, xNil_func, xNil_yield, xPick_bool, unw_nil, xRes_ptr, xUn_not, xUn_neg, xEx_tuple, xBin_add, xBin_sub, xBin_mul, xBin_eql, xBin_neq, xBin_lss, xBin_leq, xBin_gtr, xBin_geq, xBin_eqls, xBin_neqs, wI64, oCell_some, List.getElem?_toArray, List.getElem?_cons_zero, List.getElem?_cons_succ, Nat.zero_add, Bool.not_true, Bool.not_false, if_true, if_false, ite_true, ite_false, beq_iff_eq, bne_iff_ne, decide_eq_true_eq, ne_eq, Bool.false_eq_true, Bool.true_eq_false, reduceIte, Option.some.injEq, Int.toNat_natCast, beq_self_eq_true, bne_self_eq_false, Value.cells, splice, List.setIfInBounds_toArray, List.set_cons_zero, List.set_cons_succ, List.size_toArray, List.length_cons, List.length_nil, and_self, Nat.reduceLeDiff, Nat.reduceAdd, Nat.reduceMul, Int.reduceToNat, Int.reduceLT, Int.reduceLE, Int.reduceGT, Int.reduceGE, Int.reduceAdd, Int.reduceSub, Int.reduceMul, Int.reduceNeg, Int.reduceEq, Int.reduceNe, true_and, and_true, Int.cast_ofNat_Int, Nat.le_refl, hf, ld3, ld4, ld22, ld29, ld50, ld51, ln51, ia51, ld53, fa53_0, fa53_1, fa53_2, fa53_3, ld75, fa75_0, fa75_1, fa75_2, ld77, fa77_0, fa77_2, fa77_3, fa77_4, fa77_5, fa77_6, fa77_7, bd77, bd77_0_1_2_3_4_5_6_7, bd77_0_1_4_5_7, ld113, ln113, ia113, ld115, fa115_1, bd115, bd115_0_1, ld146, fa146_0, fa146_1, fa146_2, fa146_3, bd146_0_1, neq4, ow2, ow3, ow4, ow5, ow6, ow8, ow11, ow20, ow23]
    refine ⟨0, none, 0, ?_, h.drop.drop.drop.drops.drop⟩
    rw [← he, if_neg h0]

def formC (op : Int) (f : Form) : Array Value := #[.int .u16 op, .string (bs f.name), .bool f.ty, .bool f.res, .string (bs f.fixed), .string (bs f.rest), .int .i64 f.most, .int .u8 f.part]
/-- Behind the arguments. -/
theorem raw_k3 {b x2 x4 x6 : Nat} {i : Inst} {bound e : Int} {n room : Nat} {w : World} (hz : SizedI i) (ha : ArgsAt w0 i) (hok : (formOf i.op).isSome = true)
    (he : (if e ≠ 0 then e else if wholeE i.op i.args ≠ 0 then wholeE i.op i.args else if 65535 ≤ rawE.roomI i then 25 else 0) = rawE i bound) (hroom : e = 0 → room = rawE.roomI i)
    (h : WrS w0 ((x2, cl i.v.cells 53) :: (x4, cl zRaw 115) :: (x6, cl (formC i.op (formD i.op)) 77) :: L) b i.op (formD i.op) bound n room w) :
    F67.k3 (RawQ w0 L i bound) (.pointer (some ⟨x2, 0, none⟩)) (.pointer (some ⟨x4, 0, none⟩)) (.pointer (some ⟨x6, 0, none⟩)) (.pointer (some ⟨b, 0, none⟩)) (.int .i64 e) w := by
  have k4 : ∀ (e : Int) (w : World), (if e ≠ 0 then e else if 65535 ≤ rawE.roomI i then 25 else 0) = rawE i bound → (e = 0 → room = rawE.roomI i) →
      WrS w0 ((x2, cl i.v.cells 53) :: (x4, cl zRaw 115) :: (x6, cl (formC i.op (formD i.op)) 77) :: L) b i.op (formD i.op) bound n room w →
      F67.k4 (RawQ w0 L i bound) (.pointer (some ⟨x2, 0, none⟩)) (.pointer (some ⟨x4, 0, none⟩)) (.pointer (some ⟨b, 0, none⟩)) (.int .i64 e) w := by
    intro e w he hroom h
    have hw := h
    obtain ⟨wv, xs, M, ho, h, hnr⟩ := h
    unfold F67.k4
    have hf := h.facts
    simp only [Facts, wrC] at hf
    try simp (disch := omega) only [cnd_bool, on_some_eq, Dr_eq, xNil_ptr, xNil_func, xNil_yield, xPick_bool, unw_nil, xRes_ptr, xUn_not, xUn_neg, xEx_tuple, xBin_add, xBin_sub, xBin_mul, xBin_eql, xBin_neq, xBin_lss, xBin_leq, xBin_gtr, xBin_geq, xBin_eqls, xBin_neqs, wI64, oCell_some, List.getElem?_toArray, List.getElem?_cons_zero, List.getElem?_cons_succ, Nat.zero_add, Bool.not_true, Bool.not_false, if_true, if_false, ite_true, ite_false, beq_iff_eq, bne_iff_ne, decide_eq_true_eq, ne_eq, Bool.false_eq_true, Bool.true_eq_false, reduceIte, Option.some.injEq, Int.toNat_natCast, beq_self_eq_true, bne_self_eq_false, Value.cells, splice, List.setIfInBounds_toArray, List.set_cons_zero, List.set_cons_succ, List.size_toArray, List.length_cons, List.length_nil, and_self, Nat.reduceLeDiff, Nat.reduceAdd, Nat.reduceMul, Int.reduceToNat, Int.reduceLT, Int.reduceLE, Int.reduceGT, Int.reduceGE, Int.reduceAdd, Int.reduceSub, Int.reduceMul, Int.reduceNeg, Int.reduceEq, Int.reduceNe, true_and, and_true, Int.cast_ofNat_Int, Nat.le_refl, hf, ld3, ld4, ld22, ld29, ld50, ld51, ln51, ia51, ld53, fa53_0, fa53_1, fa53_2, fa53_3, ld75, fa75_0, fa75_1, fa75_2, ld77, fa77_0, fa77_2, fa77_3, fa77_4, fa77_5, fa77_6, fa77_7, bd77, bd77_0_1_2_3_4_5_6_7, bd77_0_1_4_5_7, ld113, ln113, ia113, ld115, fa115_1, bd115, bd115_0_1, ld146, fa146_0, fa146_1, fa146_2, fa146_3, bd146_0_1, neq4, ow2, ow3, ow4, ow5, ow6, ow8, ow11, ow20, ow23]
    by_cases h0 : e = 0
    · rw [if_pos h0]
      have hr := hroom h0
      rw [if_neg (by simpa using h0)] at he
      by_cases hbig : 65535 ≤ room
      · rw [if_pos (by omega)]
        rw [if_pos (by omega)] at he
        exact raw_end he (fun h => by cases h) hw
      · rw [if_neg (by omega)]
        rw [if_neg (by omega)] at he
        exact raw_end (h0.trans he) (fun _ => ⟨hr, by omega⟩) hw
    · rw [if_neg h0]
      rw [if_pos h0] at he
      exact raw_end he (fun h => absurd h h0) hw
  have hw := h
  obtain ⟨wv, xs, M, ho, h, hnr⟩ := h
  unfold F67.k3
  have hf := (h.perm (M := (x2, cl i.v.cells 53) :: (x6, cl (formC i.op (formD i.op)) 77) :: (b, cl (wrC i.op (formD i.op) bound wv room) 146) :: (M ++ ((x4, cl zRaw 115) :: L))) (perm_of fun c d ha hc h0 => by simp only [ha, hc, h0]; omega)).facts
  simp only [Facts, wrC, Inst.v, Value.cells, formC] at hf
  try simp (disch := omega) only [cnd_bool, on_some_eq, Dr_eq, xNil_ptr, xNil_func, xNil_yield, xPick_bool, unw_nil, xRes_ptr, xUn_not, xUn_neg, xEx_tuple, xBin_add, xBin_sub, xBin_mul, xBin_eql, xBin_neq, xBin_lss, xBin_leq, xBin_gtr, xBin_geq, xBin_eqls, xBin_neqs, wI64, oCell_some, List.getElem?_toArray, List.getElem?_cons_zero, List.getElem?_cons_succ, Nat.zero_add, Bool.not_true, Bool.not_false, if_true, if_false, ite_true, ite_false, beq_iff_eq, bne_iff_ne, decide_eq_true_eq, ne_eq, Bool.false_eq_true, Bool.true_eq_false, reduceIte, Option.some.injEq, Int.toNat_natCast, beq_self_eq_true, bne_self_eq_false, Value.cells, splice, List.setIfInBounds_toArray, List.set_cons_zero, List.set_cons_succ, List.size_toArray, List.length_cons, List.length_nil, and_self, Nat.reduceLeDiff, Nat.reduceAdd, Nat.reduceMul, Int.reduceToNat, Int.reduceLT, Int.reduceLE, Int.reduceGT, Int.reduceGE, Int.reduceAdd, Int.reduceSub, Int.reduceMul, Int.reduceNeg, Int.reduceEq, Int.reduceNe, true_and, and_true, Int.cast_ofNat_Int, Nat.le_refl, hf, ld3, ld4, ld22, ld29, ld50, ld51, ln51, ia51, ld53, fa53_0, fa53_1, fa53_2, fa53_3, ld75, fa75_0, fa75_1, fa75_2, ld77, fa77_0, fa77_2, fa77_3, fa77_4, fa77_5, fa77_6, fa77_7, bd77, bd77_0_1_2_3_4_5_6_7, bd77_0_1_4_5_7, ld113, ln113, ia113, ld115, fa115_1, bd115, bd115_0_1, ld146, fa146_0, fa146_1, fa146_2, fa146_3, bd146_0_1, neq4, ow2, ow3, ow4, ow5, ow6, ow8, ow11, ow20, ow23]
  by_cases h0 : e = 0
  · rw [if_pos h0]
    refine Cx.mono (c_whole (op := i.op) (f := formD i.op) hz.1 ha h) fun v w hv => ?_
    obtain ⟨rfl, h⟩ := hv
    rw [if_neg (by simpa using h0)] at he
    exact k4 _ w he (fun _ => hroom h0) ⟨wv, xs, M, ho, h, hnr⟩
  · rw [if_neg h0]
    rw [if_pos h0] at he
    exact k4 e w (by rw [if_pos h0]; exact he) (fun h => absurd h h0) hw
theorem raw_k1 {b x2 x4 x6 : Nat} {i : Inst} {bound e0 : Int} {n room : Nat} {w : World} (hz : SizedI i) (ha : ArgsAt w0 i) (hok : (formOf i.op).isSome = true)
    (he : (if e0 ≠ 0 then e0 else if argsE i.op bound 0 i.args ≠ 0 then argsE i.op bound 0 i.args else if wholeE i.op i.args ≠ 0 then wholeE i.op i.args else if 65535 ≤ rawE.roomI i then 25 else 0) = rawE i bound)
    (hroom : e0 = 0 → room + roomAs i.args = rawE.roomI i) (hr2 : room ≤ 2)
    (h : WrS w0 ((x2, cl i.v.cells 53) :: (x4, cl zRaw 115) :: (x6, cl (formC i.op (formD i.op)) 77) :: L) b i.op (formD i.op) bound n room w) :
    F67.k1 (RawQ w0 L i bound) (.pointer (some ⟨x2, 0, none⟩)) (.pointer (some ⟨x4, 0, none⟩)) (.pointer (some ⟨x6, 0, none⟩)) (.pointer (some ⟨b, 0, none⟩)) (.int .i64 e0) w := by
  unfold F67.k1 F67.k2
  have hw := h
  obtain ⟨wv, xs, M, ho, h, hnr⟩ := h
  have hf := (h.perm (M := (x2, cl i.v.cells 53) :: (x6, cl (formC i.op (formD i.op)) 77) :: (b, cl (wrC i.op (formD i.op) bound wv room) 146) :: (M ++ ((x4, cl zRaw 115) :: L))) (perm_of fun c d ha hc h0 => by simp only [ha, hc, h0]; omega)).facts
  simp only [Facts, wrC, Inst.v, Value.cells, formC] at hf
  try simp (disch := omega) only [cnd_bool, on_some_eq, Dr_eq, xNil_ptr, xNil_func, xNil_yield, xPick_bool, unw_nil, xRes_ptr, xUn_not, xUn_neg, xEx_tuple, xBin_add, xBin_sub, xBin_mul, xBin_eql, xBin_neq, xBin_lss, xBin_leq, xBin_gtr, xBin_geq, xBin_eqls, xBin_neqs, wI64, oCell_some, List.getElem?_toArray, List.getElem?_cons_zero, List.getElem?_cons_succ, Nat.zero_add, Bool.not_true, Bool.not_false, if_true, if_false, ite_true, ite_false, beq_iff_eq, bne_iff_ne, decide_eq_true_eq, ne_eq, Bool.false_eq_true, Bool.true_eq_false, reduceIte, Option.some.injEq, Int.toNat_natCast, beq_self_eq_true, bne_self_eq_false, Value.cells, splice, List.setIfInBounds_toArray, List.set_cons_zero, List.set_cons_succ, List.size_toArray, List.length_cons, List.length_nil, and_self, Nat.reduceLeDiff, Nat.reduceAdd, Nat.reduceMul, Int.reduceToNat, Int.reduceLT, Int.reduceLE, Int.reduceGT, Int.reduceGE, Int.reduceAdd, Int.reduceSub, Int.reduceMul, Int.reduceNeg, Int.reduceEq, Int.reduceNe, true_and, and_true, Int.cast_ofNat_Int, Nat.le_refl, hf, ld3, ld4, ld22, ld29, ld50, ld51, ln51, ia51, ld53, fa53_0, fa53_1, fa53_2, fa53_3, ld75, fa75_0, fa75_1, fa75_2, ld77, fa77_0, fa77_2, fa77_3, fa77_4, fa77_5, fa77_6, fa77_7, bd77, bd77_0_1_2_3_4_5_6_7, bd77_0_1_4_5_7, ld113, ln113, ia113, ld115, fa115_1, bd115, bd115_0_1, ld146, fa146_0, fa146_1, fa146_2, fa146_3, bd146_0_1, neq4, ow2, ow3, ow4, ow5, ow6, ow8, ow11, ow20, ow23, Sl.len sl51 ha, List.length_map]
  unfold F67.k6
  refine ⟨i.args.length + 1, raw_args (r0 := room) (e0 := e0) hz.1 hz.2 ha hr2 ?_ i.args.length 0 n room e0 w (by omega) hw (by omega) ?_ ?_⟩
  · intro n' room' w hw' hroom'
    refine raw_k3 hz ha hok ?_ ?_ hw'
    · rw [← he]
      by_cases h0 : e0 = 0
      · simp only [h0, if_true, ne_eq, not_true_eq_false, if_false]
      · simp only [h0, if_false, ne_eq, not_false_eq_true, if_true]
    · intro hfin
      have := hroom' hfin
      by_cases h0 : e0 = 0
      · rw [this]; exact hroom h0
      · rw [if_neg h0] at hfin; exact absurd hfin h0
  · rw [List.drop_zero]
  · intro _; rw [List.drop_zero]
theorem c_raw {w : World} (h : So w0 w L) (i : Inst) (bound : Int) (hz : SizedI i) (ha : ArgsAt w0 i) : Cx P 67 #[i.v, .int .u32 bound] w (RawQ w0 L i bound) := by
  apply F67_ok
  unfold F67
  refine soBox h fun x2 w h => ?_
  refine al115 h fun x4 w h => ?_
  try simp only [Facts, and_true, Value.cells, List.setIfInBounds_toArray, List.set_cons_zero, List.set_cons_succ, splice, Nat.zero_add, Nat.reduceAdd, List.cons_append, List.nil_append] at h
  have hf := h.facts
  simp only [Facts, and_true, Value.cells, List.setIfInBounds_toArray, List.set_cons_zero, List.set_cons_succ, splice, Nat.zero_add, Nat.reduceAdd, List.cons_append, List.nil_append] at hf
  have hf := h.facts
  simp only [Facts, Inst.v, Value.cells] at hf
  try simp (disch := omega) only [cnd_bool, on_some_eq, Dr_eq, xNil_ptr, xNil_func, xNil_yield, xPick_bool, unw_nil, xRes_ptr, xUn_not, xUn_neg, xEx_tuple, xBin_add, xBin_sub, xBin_mul, xBin_eql, xBin_neq, xBin_lss, xBin_leq, xBin_gtr, xBin_geq, xBin_eqls, xBin_neqs, wI64, oCell_some, List.getElem?_toArray, List.getElem?_cons_zero, List.getElem?_cons_succ, Nat.zero_add, Bool.not_true, Bool.not_false, if_true, if_false, ite_true, ite_false, beq_iff_eq, bne_iff_ne, decide_eq_true_eq, ne_eq, Bool.false_eq_true, Bool.true_eq_false, reduceIte, Option.some.injEq, Int.toNat_natCast, beq_self_eq_true, bne_self_eq_false, Value.cells, splice, List.setIfInBounds_toArray, List.set_cons_zero, List.set_cons_succ, List.size_toArray, List.length_cons, List.length_nil, and_self, Nat.reduceLeDiff, Nat.reduceAdd, Nat.reduceMul, Int.reduceToNat, Int.reduceLT, Int.reduceLE, Int.reduceGT, Int.reduceGE, Int.reduceAdd, Int.reduceSub, Int.reduceMul, Int.reduceNeg, Int.reduceEq, Int.reduceNe, true_and, and_true, Int.cast_ofNat_Int, Nat.le_refl, hf, ld3, ld4, ld22, ld29, ld50, ld51, ln51, ia51, ld53, fa53_0, fa53_1, fa53_2, fa53_3, ld75, fa75_0, fa75_1, fa75_2, ld77, fa77_0, fa77_2, fa77_3, fa77_4, fa77_5, fa77_6, fa77_7, bd77, bd77_0_1_2_3_4_5_6_7, bd77_0_1_4_5_7, ld113, ln113, ia113, ld115, fa115_1, bd115, bd115_0_1, ld146, fa146_0, fa146_1, fa146_2, fa146_3, bd146_0_1, neq4, ow2, ow3, ow4, ow5, ow6, ow8, ow11, ow20, ow23]
  refine Cx.mono (c_of h i.op) fun v w hv => ?_
  obtain ⟨rfl, h⟩ := hv
  cases hok : formOf i.op with
  | none =>
    have he : rawE i bound = 30 := by unfold rawE; rw [hok]; rfl
    unfold ofV
    rw [hok]
    simp only [noForm]
    try simp (disch := omega) only [cnd_bool, on_some_eq, Dr_eq, xNil_ptr, xNil_func, xNil_yield, xPick_bool, unw_nil, xRes_ptr, xUn_not, xUn_neg, xEx_tuple, xBin_add, xBin_sub, xBin_mul, xBin_eql, xBin_neq, xBin_lss, xBin_leq, xBin_gtr, xBin_geq, xBin_eqls, xBin_neqs, wI64, oCell_some, List.getElem?_toArray, List.getElem?_cons_zero, List.getElem?_cons_succ, Nat.zero_add, Bool.not_true, Bool.not_false, if_true, if_false, ite_true, ite_false, beq_iff_eq, bne_iff_ne, decide_eq_true_eq, ne_eq, Bool.false_eq_true, Bool.true_eq_false, reduceIte, Option.some.injEq, Int.toNat_natCast, beq_self_eq_true, bne_self_eq_false, Value.cells, splice, List.setIfInBounds_toArray, List.set_cons_zero, List.set_cons_succ, List.size_toArray, List.length_cons, List.length_nil, and_self, Nat.reduceLeDiff, Nat.reduceAdd, Nat.reduceMul, Int.reduceToNat, Int.reduceLT, Int.reduceLE, Int.reduceGT, Int.reduceGE, Int.reduceAdd, Int.reduceSub, Int.reduceMul, Int.reduceNeg, Int.reduceEq, Int.reduceNe, true_and, and_true, Int.cast_ofNat_Int, Nat.le_refl, ld3, ld4, ld22, ld29, ld50, ld51, ln51, ia51, ld53, fa53_0, fa53_1, fa53_2, fa53_3, ld75, fa75_0, fa75_1, fa75_2, ld77, fa77_0, fa77_2, fa77_3, fa77_4, fa77_5, fa77_6, fa77_7, bd77, bd77_0_1_2_3_4_5_6_7, bd77_0_1_4_5_7, ld113, ln113, ia113, ld115, fa115_1, bd115, bd115_0_1, ld146, fa146_0, fa146_1, fa146_2, fa146_3, bd146_0_1, neq4, ow2, ow3, ow4, ow5, ow6, ow8, ow11, ow20, ow23]
    refine al77 h fun x6 w h => ?_
    try simp only [Facts, and_true, Value.cells, List.setIfInBounds_toArray, List.set_cons_zero, List.set_cons_succ, splice, Nat.zero_add, Nat.reduceAdd, List.cons_append, List.nil_append] at h
    have hf := h.facts
    simp only [Facts, and_true, Value.cells, List.setIfInBounds_toArray, List.set_cons_zero, List.set_cons_succ, splice, Nat.zero_add, Nat.reduceAdd, List.cons_append, List.nil_append] at hf
    refine soStoreA ty77 0 h (fun w h => ?_) rfl rfl rfl rfl
    simp only [List.set_cons_zero] at h
    try simp (disch := omega) only [cnd_bool, on_some_eq, Dr_eq, xNil_ptr, xNil_func, xNil_yield, xPick_bool, unw_nil, xRes_ptr, xUn_not, xUn_neg, xEx_tuple, xBin_add, xBin_sub, xBin_mul, xBin_eql, xBin_neq, xBin_lss, xBin_leq, xBin_gtr, xBin_geq, xBin_eqls, xBin_neqs, wI64, oCell_some, List.getElem?_toArray, List.getElem?_cons_zero, List.getElem?_cons_succ, Nat.zero_add, Bool.not_true, Bool.not_false, if_true, if_false, ite_true, ite_false, beq_iff_eq, bne_iff_ne, decide_eq_true_eq, ne_eq, Bool.false_eq_true, Bool.true_eq_false, reduceIte, Option.some.injEq, Int.toNat_natCast, beq_self_eq_true, bne_self_eq_false, Value.cells, splice, List.setIfInBounds_toArray, List.set_cons_zero, List.set_cons_succ, List.size_toArray, List.length_cons, List.length_nil, and_self, Nat.reduceLeDiff, Nat.reduceAdd, Nat.reduceMul, Int.reduceToNat, Int.reduceLT, Int.reduceLE, Int.reduceGT, Int.reduceGE, Int.reduceAdd, Int.reduceSub, Int.reduceMul, Int.reduceNeg, Int.reduceEq, Int.reduceNe, true_and, and_true, Int.cast_ofNat_Int, Nat.le_refl, ld3, ld4, ld22, ld29, ld50, ld51, ln51, ia51, ld53, fa53_0, fa53_1, fa53_2, fa53_3, ld75, fa75_0, fa75_1, fa75_2, ld77, fa77_0, fa77_2, fa77_3, fa77_4, fa77_5, fa77_6, fa77_7, bd77, bd77_0_1_2_3_4_5_6_7, bd77_0_1_4_5_7, ld113, ln113, ia113, ld115, fa115_1, bd115, bd115_0_1, ld146, fa146_0, fa146_1, fa146_2, fa146_3, bd146_0_1, neq4, ow2, ow3, ow4, ow5, ow6, ow8, ow11, ow20, ow23]
    refine soStoreA ty115 1 h (fun w h => ?_) rfl rfl rfl rfl
    simp only [List.set_cons_zero, List.set_cons_succ] at h
    have hf := h.facts
    simp only [Facts] at hf
    try simp (disch := omega) only [cnd_bool, on_some_eq, Dr_eq, xNil_ptr, xNil_func, xNil_yield, xPick_bool, unw_nil, xRes_ptr, xUn_not, xUn_neg, xEx_tuple, xBin_add, xBin_sub, xBin_mul, xBin_eql, xBin_neq, xBin_lss, xBin_leq, xBin_gtr, xBin_geq, xBin_eqls, xBin_neqs, wI64, oCell_some, List.getElem?_toArray, List.getElem?_cons_zero, List.getElem?_cons_succ, Nat.zero_add, Bool.not_true, Bool.not_false, if_true, if_false, ite_true, ite_false, beq_iff_eq, bne_iff_ne, decide_eq_true_eq, ne_eq, Bool.false_eq_true, Bool.true_eq_false, reduceIte, Option.some.injEq, Int.toNat_natCast, beq_self_eq_true, bne_self_eq_false, Value.cells, splice, List.setIfInBounds_toArray, List.set_cons_zero, List.set_cons_succ, List.size_toArray, List.length_cons, List.length_nil, and_self, Nat.reduceLeDiff, Nat.reduceAdd, Nat.reduceMul, Int.reduceToNat, Int.reduceLT, Int.reduceLE, Int.reduceGT, Int.reduceGE, Int.reduceAdd, Int.reduceSub, Int.reduceMul, Int.reduceNeg, Int.reduceEq, Int.reduceNe, true_and, and_true, Int.cast_ofNat_Int, Nat.le_refl, hf, ld3, ld4, ld22, ld29, ld50, ld51, ln51, ia51, ld53, fa53_0, fa53_1, fa53_2, fa53_3, ld75, fa75_0, fa75_1, fa75_2, ld77, fa77_0, fa77_2, fa77_3, fa77_4, fa77_5, fa77_6, fa77_7, bd77, bd77_0_1_2_3_4_5_6_7, bd77_0_1_4_5_7, ld113, ln113, ia113, ld115, fa115_1, bd115, bd115_0_1, ld146, fa146_0, fa146_1, fa146_2, fa146_3, bd146_0_1, neq4, ow2, ow3, ow4, ow5, ow6, ow8, ow11, ow20, ow23]
    refine ⟨0, none, 0, ?_, h.drop.drop.drop⟩
    rw [he]; rfl
  | some f =>
    have hD : formD i.op = f := by unfold formD; rw [hok]; rfl
    have hS : (formOf i.op).isSome = true := by rw [hok]; rfl
    unfold ofV
    rw [hok]
    simp only [Form.v]
    try simp (disch := omega) only [cnd_bool, on_some_eq, Dr_eq, xNil_ptr, xNil_func, xNil_yield, xPick_bool, unw_nil, xRes_ptr, xUn_not, xUn_neg, xEx_tuple, xBin_add, xBin_sub, xBin_mul, xBin_eql, xBin_neq, xBin_lss, xBin_leq, xBin_gtr, xBin_geq, xBin_eqls, xBin_neqs, wI64, oCell_some, List.getElem?_toArray, List.getElem?_cons_zero, List.getElem?_cons_succ, Nat.zero_add, Bool.not_true, Bool.not_false, if_true, if_false, ite_true, ite_false, beq_iff_eq, bne_iff_ne, decide_eq_true_eq, ne_eq, Bool.false_eq_true, Bool.true_eq_false, reduceIte, Option.some.injEq, Int.toNat_natCast, beq_self_eq_true, bne_self_eq_false, Value.cells, splice, List.setIfInBounds_toArray, List.set_cons_zero, List.set_cons_succ, List.size_toArray, List.length_cons, List.length_nil, and_self, Nat.reduceLeDiff, Nat.reduceAdd, Nat.reduceMul, Int.reduceToNat, Int.reduceLT, Int.reduceLE, Int.reduceGT, Int.reduceGE, Int.reduceAdd, Int.reduceSub, Int.reduceMul, Int.reduceNeg, Int.reduceEq, Int.reduceNe, true_and, and_true, Int.cast_ofNat_Int, Nat.le_refl, ld3, ld4, ld22, ld29, ld50, ld51, ln51, ia51, ld53, fa53_0, fa53_1, fa53_2, fa53_3, ld75, fa75_0, fa75_1, fa75_2, ld77, fa77_0, fa77_2, fa77_3, fa77_4, fa77_5, fa77_6, fa77_7, bd77, bd77_0_1_2_3_4_5_6_7, bd77_0_1_4_5_7, ld113, ln113, ia113, ld115, fa115_1, bd115, bd115_0_1, ld146, fa146_0, fa146_1, fa146_2, fa146_3, bd146_0_1, neq4, ow2, ow3, ow4, ow5, ow6, ow8, ow11, ow20, ow23]
    refine al77 h fun x6 w h => ?_
    try simp only [Facts, and_true, Value.cells, List.setIfInBounds_toArray, List.set_cons_zero, List.set_cons_succ, splice, Nat.zero_add, Nat.reduceAdd, List.cons_append, List.nil_append] at h
    have hf := h.facts
    simp only [Facts, and_true, Value.cells, List.setIfInBounds_toArray, List.set_cons_zero, List.set_cons_succ, splice, Nat.zero_add, Nat.reduceAdd, List.cons_append, List.nil_append] at hf
    refine soStoreA ty77 0 h (fun w h => ?_) rfl rfl rfl rfl
    simp only [List.set_cons_zero] at h
    have hf := h.facts
    simp only [Facts] at hf
    try simp (disch := omega) only [cnd_bool, on_some_eq, Dr_eq, xNil_ptr, xNil_func, xNil_yield, xPick_bool, unw_nil, xRes_ptr, xUn_not, xUn_neg, xEx_tuple, xBin_add, xBin_sub, xBin_mul, xBin_eql, xBin_neq, xBin_lss, xBin_leq, xBin_gtr, xBin_geq, xBin_eqls, xBin_neqs, wI64, oCell_some, List.getElem?_toArray, List.getElem?_cons_zero, List.getElem?_cons_succ, Nat.zero_add, Bool.not_true, Bool.not_false, if_true, if_false, ite_true, ite_false, beq_iff_eq, bne_iff_ne, decide_eq_true_eq, ne_eq, Bool.false_eq_true, Bool.true_eq_false, reduceIte, Option.some.injEq, Int.toNat_natCast, beq_self_eq_true, bne_self_eq_false, Value.cells, splice, List.setIfInBounds_toArray, List.set_cons_zero, List.set_cons_succ, List.size_toArray, List.length_cons, List.length_nil, and_self, Nat.reduceLeDiff, Nat.reduceAdd, Nat.reduceMul, Int.reduceToNat, Int.reduceLT, Int.reduceLE, Int.reduceGT, Int.reduceGE, Int.reduceAdd, Int.reduceSub, Int.reduceMul, Int.reduceNeg, Int.reduceEq, Int.reduceNe, true_and, and_true, Int.cast_ofNat_Int, Nat.le_refl, hf, ld3, ld4, ld22, ld29, ld50, ld51, ln51, ia51, ld53, fa53_0, fa53_1, fa53_2, fa53_3, ld75, fa75_0, fa75_1, fa75_2, ld77, fa77_0, fa77_2, fa77_3, fa77_4, fa77_5, fa77_6, fa77_7, bd77, bd77_0_1_2_3_4_5_6_7, bd77_0_1_4_5_7, ld113, ln113, ia113, ld115, fa115_1, bd115, bd115_0_1, ld146, fa146_0, fa146_1, fa146_2, fa146_3, bd146_0_1, neq4, ow2, ow3, ow4, ow5, ow6, ow8, ow11, ow20, ow23]
    refine soBox h fun b w h => ?_
    have hf := h.facts
    simp only [Facts, Value.cells, Inst.v] at hf
    have hw : WrS w0 ((x2, cl i.v.cells 53) :: (x4, cl zRaw 115) :: (x6, cl (formC i.op (formD i.op)) 77) :: L) b i.op (formD i.op) bound 0 0 w := by
      refine ⟨.slice none 0 0, [], [], OwnS.nil _ _ _, ?_, .inl rfl⟩
      rw [hD]
      have h : So w0 w ((b, cl (wrC i.op f bound (.slice none 0 0) 0) 146) :: (x6, cl (formC i.op f) 77) :: (x4, cl zRaw 115) :: (x2, cl i.v.cells 53) :: L) := h
      exact h.perm (M := (b, cl (wrC i.op f bound (.slice none 0 0) 0) 146) :: ([] ++ ((x2, cl i.v.cells 53) :: (x4, cl zRaw 115) :: (x6, cl (formC i.op f) 77) :: L))) (perm_of fun c d ha hc h0 => by simp only [ha, hc, h0]; omega)
    try simp (disch := omega) only [cnd_bool, on_some_eq, Dr_eq, xNil_ptr, xNil_func, xNil_yield, xPick_bool, unw_nil, xRes_ptr, xUn_not, xUn_neg, xEx_tuple, xBin_add, xBin_sub, xBin_mul, xBin_eql, xBin_neq, xBin_lss, xBin_leq, xBin_gtr, xBin_geq, xBin_eqls, xBin_neqs, wI64, oCell_some, List.getElem?_toArray, List.getElem?_cons_zero, List.getElem?_cons_succ, Nat.zero_add, Bool.not_true, Bool.not_false, if_true, if_false, ite_true, ite_false, beq_iff_eq, bne_iff_ne, decide_eq_true_eq, ne_eq, Bool.false_eq_true, Bool.true_eq_false, reduceIte, Option.some.injEq, Int.toNat_natCast, beq_self_eq_true, bne_self_eq_false, Value.cells, splice, List.setIfInBounds_toArray, List.set_cons_zero, List.set_cons_succ, List.size_toArray, List.length_cons, List.length_nil, and_self, Nat.reduceLeDiff, Nat.reduceAdd, Nat.reduceMul, Int.reduceToNat, Int.reduceLT, Int.reduceLE, Int.reduceGT, Int.reduceGE, Int.reduceAdd, Int.reduceSub, Int.reduceMul, Int.reduceNeg, Int.reduceEq, Int.reduceNe, true_and, and_true, Int.cast_ofNat_Int, Nat.le_refl, hf, ld3, ld4, ld22, ld29, ld50, ld51, ln51, ia51, ld53, fa53_0, fa53_1, fa53_2, fa53_3, ld75, fa75_0, fa75_1, fa75_2, ld77, fa77_0, fa77_2, fa77_3, fa77_4, fa77_5, fa77_6, fa77_7, bd77, bd77_0_1_2_3_4_5_6_7, bd77_0_1_4_5_7, ld113, ln113, ia113, ld115, fa115_1, bd115, bd115_0_1, ld146, fa146_0, fa146_1, fa146_2, fa146_3, bd146_0_1, neq4, ow2, ow3, ow4, ow5, ow6, ow8, ow11, ow20, ow23]
    rw [← hD]
    refine Cx.mono (c_head (by omega) hw (formD i.op).ty i.ty 40) fun v w hv => ?_
    obtain ⟨rfl, n1, r1, hw, q1, q2, q3⟩ := hv
    try simp (disch := omega) only [cnd_bool, on_some_eq, Dr_eq, xNil_ptr, xNil_func, xNil_yield, xPick_bool, unw_nil, xRes_ptr, xUn_not, xUn_neg, xEx_tuple, xBin_add, xBin_sub, xBin_mul, xBin_eql, xBin_neq, xBin_lss, xBin_leq, xBin_gtr, xBin_geq, xBin_eqls, xBin_neqs, wI64, oCell_some, List.getElem?_toArray, List.getElem?_cons_zero, List.getElem?_cons_succ, Nat.zero_add, Bool.not_true, Bool.not_false, if_true, if_false, ite_true, ite_false, beq_iff_eq, bne_iff_ne, decide_eq_true_eq, ne_eq, Bool.false_eq_true, Bool.true_eq_false, reduceIte, Option.some.injEq, Int.toNat_natCast, beq_self_eq_true, bne_self_eq_false, Value.cells, splice, List.setIfInBounds_toArray, List.set_cons_zero, List.set_cons_succ, List.size_toArray, List.length_cons, List.length_nil, and_self, Nat.reduceLeDiff, Nat.reduceAdd, Nat.reduceMul, Int.reduceToNat, Int.reduceLT, Int.reduceLE, Int.reduceGT, Int.reduceGE, Int.reduceAdd, Int.reduceSub, Int.reduceMul, Int.reduceNeg, Int.reduceEq, Int.reduceNe, true_and, and_true, Int.cast_ofNat_Int, Nat.le_refl, ld3, ld4, ld22, ld29, ld50, ld51, ln51, ia51, ld53, fa53_0, fa53_1, fa53_2, fa53_3, ld75, fa75_0, fa75_1, fa75_2, ld77, fa77_0, fa77_2, fa77_3, fa77_4, fa77_5, fa77_6, fa77_7, bd77, bd77_0_1_2_3_4_5_6_7, bd77_0_1_4_5_7, ld113, ln113, ia113, ld115, fa115_1, bd115, bd115_0_1, ld146, fa146_0, fa146_1, fa146_2, fa146_3, bd146_0_1, neq4, ow2, ow3, ow4, ow5, ow6, ow8, ow11, ow20, ow23]
    by_cases h1 : headE (formD i.op).ty i.ty bound 40 = 0
    · rw [if_pos h1]
      have q4 := q3 h1 (by decide)
      have hw' := hw
      obtain ⟨wv, xs, M, ho, h, hnr⟩ := hw'
      have hf := (h.perm (M := (x2, cl i.v.cells 53) :: (x6, cl (formC i.op (formD i.op)) 77) :: (b, cl (wrC i.op (formD i.op) bound wv r1) 146) :: (M ++ ((x4, cl zRaw 115) :: L))) (perm_of fun c d ha hc h0 => by simp only [ha, hc, h0]; omega)).facts
      simp only [Facts, wrC, Inst.v, Value.cells, formC] at hf
      try simp (disch := omega) only [cnd_bool, on_some_eq, Dr_eq, xNil_ptr, xNil_func, xNil_yield, xPick_bool, unw_nil, xRes_ptr, xUn_not, xUn_neg, xEx_tuple, xBin_add, xBin_sub, xBin_mul, xBin_eql, xBin_neq, xBin_lss, xBin_leq, xBin_gtr, xBin_geq, xBin_eqls, xBin_neqs, wI64, oCell_some, List.getElem?_toArray, List.getElem?_cons_zero, List.getElem?_cons_succ, Nat.zero_add, Bool.not_true, Bool.not_false, if_true, if_false, ite_true, ite_false, beq_iff_eq, bne_iff_ne, decide_eq_true_eq, ne_eq, Bool.false_eq_true, Bool.true_eq_false, reduceIte, Option.some.injEq, Int.toNat_natCast, beq_self_eq_true, bne_self_eq_false, Value.cells, splice, List.setIfInBounds_toArray, List.set_cons_zero, List.set_cons_succ, List.size_toArray, List.length_cons, List.length_nil, and_self, Nat.reduceLeDiff, Nat.reduceAdd, Nat.reduceMul, Int.reduceToNat, Int.reduceLT, Int.reduceLE, Int.reduceGT, Int.reduceGE, Int.reduceAdd, Int.reduceSub, Int.reduceMul, Int.reduceNeg, Int.reduceEq, Int.reduceNe, true_and, and_true, Int.cast_ofNat_Int, Nat.le_refl, hf, ld3, ld4, ld22, ld29, ld50, ld51, ln51, ia51, ld53, fa53_0, fa53_1, fa53_2, fa53_3, ld75, fa75_0, fa75_1, fa75_2, ld77, fa77_0, fa77_2, fa77_3, fa77_4, fa77_5, fa77_6, fa77_7, bd77, bd77_0_1_2_3_4_5_6_7, bd77_0_1_4_5_7, ld113, ln113, ia113, ld115, fa115_1, bd115, bd115_0_1, ld146, fa146_0, fa146_1, fa146_2, fa146_3, bd146_0_1, neq4, ow2, ow3, ow4, ow5, ow6, ow8, ow11, ow20, ow23]
      refine Cx.mono (c_head (by omega) hw (formD i.op).res i.res 41) fun v w hv => ?_
      obtain ⟨rfl, n2, r2, hw, p1, p2, p3⟩ := hv
      refine raw_k1 hz ha hS ?_ ?_ (by omega) hw
      · unfold rawE
        rw [hS]
        simp only [h1, Bool.true_eq_false, if_false, ne_eq, not_true_eq_false]
      · intro h0
        rw [p3 h0 (by decide), q4]
        unfold rawE.roomI
        omega
    · rw [if_neg h1]
      refine raw_k1 hz ha hS ?_ (fun h => absurd h h1) (by omega) hw
      unfold rawE
      rw [hS]
      simp only [h1, Bool.true_eq_false, if_false, ne_eq, not_false_eq_true, if_true]
end
end Go.Proofs.Ytlmcppbpobnfjaa

