/-
  code: a writer puts an instruction into words.
-/
import Derived.Test.YtlmcppbpobnfjaaRa
import Derived.Test.YtlmcppbpobnfjaaLe
namespace Go.Proofs.Ytlmcppbpobnfjaa
open Go Go.Vc
set_option linter.unusedSimpArgs false
set_option linter.unusedVariables false
set_option maxRecDepth 20000

/-- A writer's cells. -/
def wrC (op : Int) (f : Form) (bound : Int) (wv : Value) (room : Nat) : Array Value :=
  #[.int .u16 op, .string (bs f.name), .bool f.ty, .bool f.res, .string (bs f.fixed), .string (bs f.rest), .int .i64 f.most, .int .u8 f.part, .int .u32 bound, wv, .int .i64 (room : Int)]
/-- A writer in block b: n words laid, room of them counted. -/
def WrS (w0 : World) (L : List (Nat × Obj)) (b : Nat) (op : Int) (f : Form) (bound : Int) (n room : Nat) (w : World) : Prop :=
  ∃ wv xs M, OwnS w0.heap.size 22 1 wv n xs M ∧ So w0 w ((b, cl (wrC op f bound wv room) 146) :: (M ++ L)) ∧ (n = room ∨ (n ≤ room ∧ 65535 ≤ room))
def idE (n bound : Int) : Int := if n = 0 then 43 else if bound ≤ n then 43 else 0
section
variable {w0 : World} {L : List (Nat × Obj)} {b : Nat} {op bound : Int} {f : Form}
theorem c_id {w : World} (h : So w0 w L) (n bound : Int) : Cx P 105 #[.int .u32 n, .int .u32 bound] w fun v w => v = .int .i64 (idE n bound) ∧ So w0 w L := by
  apply F105_ok
  unfold F105 idE
  try simp (disch := omega) only [cnd_bool, on_some_eq, Dr_eq, xNil_ptr, xNil_func, xNil_yield, xPick_bool, unw_nil, xRes_ptr, xUn_not, xUn_neg, xEx_tuple, xBin_add, xBin_sub, xBin_mul, xBin_eql, xBin_neq, xBin_lss, xBin_leq, xBin_gtr, xBin_geq, xBin_eqls, xBin_neqs, wI64, oCell_some, List.getElem?_toArray, List.getElem?_cons_zero, List.getElem?_cons_succ, Nat.zero_add, Bool.not_true, Bool.not_false, if_true, if_false, ite_true, ite_false, beq_iff_eq, bne_iff_ne, decide_eq_true_eq, ne_eq, Bool.false_eq_true, Bool.true_eq_false, reduceIte, Option.some.injEq, Int.toNat_natCast, beq_self_eq_true, bne_self_eq_false, Value.cells, splice, List.setIfInBounds_toArray, List.set_cons_zero, List.set_cons_succ, List.size_toArray, List.length_cons, List.length_nil, and_self, Nat.reduceLeDiff, Nat.reduceAdd, Nat.reduceMul, Int.reduceToNat, Int.reduceLT, Int.reduceLE, Int.reduceGT, Int.reduceGE, Int.reduceAdd, Int.reduceSub, Int.reduceMul, Int.reduceNeg, Int.reduceEq, Int.reduceNe, true_and, and_true, Int.cast_ofNat_Int, Nat.le_refl, ld3, ld4, ld22, ld29, ld113, ln113, ia113, ld146, fa146_0, fa146_1, fa146_2, fa146_3, bd146_0_1, neq4, ow2, ow3, ow4, ow5, ow6, ow8, ow11, ow20, ow23]
  by_cases h1 : n = 0
  · rw [if_pos h1, if_pos h1]; exact ⟨rfl, h⟩
  · rw [if_neg h1, if_neg h1]
    by_cases h2 : bound ≤ n
    · rw [if_pos (by omega), if_pos h2]; exact ⟨rfl, h⟩
    · rw [if_neg (by omega), if_neg h2]; exact ⟨rfl, h⟩
theorem c_put {n room : Nat} {w : World} (hn : room ≤ 17592186044416) (h : WrS w0 L b op f bound n room w) (x : Int) :
    Cx P 104 #[.pointer (some ⟨b, 0, none⟩), .int .u32 x] w fun _ w => WrS w0 L b op f bound (n + 1) (room + 1) w := by
  obtain ⟨wv, xs, M, ho, h, hnr⟩ := h
  have hle : n ≤ room := by omega
  apply F104_ok
  unfold F104
  have hf := h.facts
  simp only [Facts, wrC] at hf
  try simp (disch := omega) only [cnd_bool, on_some_eq, Dr_eq, xNil_ptr, xNil_func, xNil_yield, xPick_bool, unw_nil, xRes_ptr, xUn_not, xUn_neg, xEx_tuple, xBin_add, xBin_sub, xBin_mul, xBin_eql, xBin_neq, xBin_lss, xBin_leq, xBin_gtr, xBin_geq, xBin_eqls, xBin_neqs, wI64, oCell_some, List.getElem?_toArray, List.getElem?_cons_zero, List.getElem?_cons_succ, Nat.zero_add, Bool.not_true, Bool.not_false, if_true, if_false, ite_true, ite_false, beq_iff_eq, bne_iff_ne, decide_eq_true_eq, ne_eq, Bool.false_eq_true, Bool.true_eq_false, reduceIte, Option.some.injEq, Int.toNat_natCast, beq_self_eq_true, bne_self_eq_false, Value.cells, splice, List.setIfInBounds_toArray, List.set_cons_zero, List.set_cons_succ, List.size_toArray, List.length_cons, List.length_nil, and_self, Nat.reduceLeDiff, Nat.reduceAdd, Nat.reduceMul, Int.reduceToNat, Int.reduceLT, Int.reduceLE, Int.reduceGT, Int.reduceGE, Int.reduceAdd, Int.reduceSub, Int.reduceMul, Int.reduceNeg, Int.reduceEq, Int.reduceNe, true_and, and_true, Int.cast_ofNat_Int, Nat.le_refl, hf, ld3, ld4, ld22, ld29, ld113, ln113, ia113, ld146, fa146_0, fa146_1, fa146_2, fa146_3, bd146_0_1, neq4, ow2, ow3, ow4, ow5, ow6, ow8, ow11, ow20, ow23]
  refine pu113 (h.perm (M := M ++ ((b, cl (wrC op f bound wv room) 146) :: L)) (perm_of fun c d ha hc h0 => by simp only [ha, hc, h0]; omega)) ho rfl (by simp [one1, Value.cells]) (by omega) (by omega) fun v' M' w ho h => ?_
  have h := h.perm (M := (b, cl (wrC op f bound wv room) 146) :: (M' ++ L)) (perm_of fun c d ha hc h0 => by simp only [ha, hc, h0]; omega)
  unfold wrC at h
  have hf := h.facts
  simp only [Facts] at hf
  have hv1 : one1 v' = true := by
    rcases ho.2 with ⟨e, _⟩ | ⟨_, _, _, e, _⟩ <;> rw [e] <;> rfl
  try simp (disch := omega) only [cnd_bool, on_some_eq, Dr_eq, xNil_ptr, xNil_func, xNil_yield, xPick_bool, unw_nil, xRes_ptr, xUn_not, xUn_neg, xEx_tuple, xBin_add, xBin_sub, xBin_mul, xBin_eql, xBin_neq, xBin_lss, xBin_leq, xBin_gtr, xBin_geq, xBin_eqls, xBin_neqs, wI64, oCell_some, List.getElem?_toArray, List.getElem?_cons_zero, List.getElem?_cons_succ, Nat.zero_add, Bool.not_true, Bool.not_false, if_true, if_false, ite_true, ite_false, beq_iff_eq, bne_iff_ne, decide_eq_true_eq, ne_eq, Bool.false_eq_true, Bool.true_eq_false, reduceIte, Option.some.injEq, Int.toNat_natCast, beq_self_eq_true, bne_self_eq_false, Value.cells, splice, List.setIfInBounds_toArray, List.set_cons_zero, List.set_cons_succ, List.size_toArray, List.length_cons, List.length_nil, and_self, Nat.reduceLeDiff, Nat.reduceAdd, Nat.reduceMul, Int.reduceToNat, Int.reduceLT, Int.reduceLE, Int.reduceGT, Int.reduceGE, Int.reduceAdd, Int.reduceSub, Int.reduceMul, Int.reduceNeg, Int.reduceEq, Int.reduceNe, true_and, and_true, Int.cast_ofNat_Int, Nat.le_refl, hf, ld3, ld4, ld22, ld29, ld113, ln113, ia113, ld146, fa146_0, fa146_1, fa146_2, fa146_3, bd146_0_1, neq4, ow2, ow3, ow4, ow5, ow6, ow8, ow11, ow20, ow23]
  refine soStore1 ty113 0 h (fun w h => ?_) rfl (by simp) hv1
  simp only [List.set_cons_zero, List.setIfInBounds_toArray, List.set_cons_succ] at h
  have hf := h.facts
  simp only [Facts] at hf
  try simp (disch := omega) only [cnd_bool, on_some_eq, Dr_eq, xNil_ptr, xNil_func, xNil_yield, xPick_bool, unw_nil, xRes_ptr, xUn_not, xUn_neg, xEx_tuple, xBin_add, xBin_sub, xBin_mul, xBin_eql, xBin_neq, xBin_lss, xBin_leq, xBin_gtr, xBin_geq, xBin_eqls, xBin_neqs, wI64, oCell_some, List.getElem?_toArray, List.getElem?_cons_zero, List.getElem?_cons_succ, Nat.zero_add, Bool.not_true, Bool.not_false, if_true, if_false, ite_true, ite_false, beq_iff_eq, bne_iff_ne, decide_eq_true_eq, ne_eq, Bool.false_eq_true, Bool.true_eq_false, reduceIte, Option.some.injEq, Int.toNat_natCast, beq_self_eq_true, bne_self_eq_false, Value.cells, splice, List.setIfInBounds_toArray, List.set_cons_zero, List.set_cons_succ, List.size_toArray, List.length_cons, List.length_nil, and_self, Nat.reduceLeDiff, Nat.reduceAdd, Nat.reduceMul, Int.reduceToNat, Int.reduceLT, Int.reduceLE, Int.reduceGT, Int.reduceGE, Int.reduceAdd, Int.reduceSub, Int.reduceMul, Int.reduceNeg, Int.reduceEq, Int.reduceNe, true_and, and_true, Int.cast_ofNat_Int, Nat.le_refl, hf, ld3, ld4, ld22, ld29, ld113, ln113, ia113, ld146, fa146_0, fa146_1, fa146_2, fa146_3, bd146_0_1, neq4, ow2, ow3, ow4, ow5, ow6, ow8, ow11, ow20, ow23]
  refine soStore1 ty3 0 h (fun w h => ?_) rfl (by simp) rfl
  simp only [List.set_cons_zero, List.setIfInBounds_toArray, List.set_cons_succ] at h
  exact ⟨v', _, M', ho, h, by omega⟩
/-- What is wrong with a type's or a result's id. -/
def headE (must : Bool) (n bound lacks : Int) : Int := if must = (n != 0) then (if must = true then idE n bound else 0) else lacks
theorem c_head {n room : Nat} {w : World} (hn : room ≤ 17592186044416) (h : WrS w0 L b op f bound n room w) (must : Bool) (x lacks : Int) :
    Cx P 90 #[.pointer (some ⟨b, 0, none⟩), .bool must, .int .u32 x, .int .i64 lacks] w fun v w => v = .int .i64 (headE must x bound lacks) ∧ ∃ n' room', WrS w0 L b op f bound n' room' w ∧ room ≤ room' ∧ room' ≤ room + 1 ∧ (headE must x bound lacks = 0 → lacks ≠ 0 → room' = room + (if must = true then 1 else 0)) := by
  apply F90_ok
  unfold F90 headE
  try simp (disch := omega) only [cnd_bool, on_some_eq, Dr_eq, xNil_ptr, xNil_func, xNil_yield, xPick_bool, unw_nil, xRes_ptr, xUn_not, xUn_neg, xEx_tuple, xBin_add, xBin_sub, xBin_mul, xBin_eql, xBin_neq, xBin_lss, xBin_leq, xBin_gtr, xBin_geq, xBin_eqls, xBin_neqs, wI64, oCell_some, List.getElem?_toArray, List.getElem?_cons_zero, List.getElem?_cons_succ, Nat.zero_add, Bool.not_true, Bool.not_false, if_true, if_false, ite_true, ite_false, beq_iff_eq, bne_iff_ne, decide_eq_true_eq, ne_eq, Bool.false_eq_true, Bool.true_eq_false, reduceIte, Option.some.injEq, Int.toNat_natCast, beq_self_eq_true, bne_self_eq_false, Value.cells, splice, List.setIfInBounds_toArray, List.set_cons_zero, List.set_cons_succ, List.size_toArray, List.length_cons, List.length_nil, and_self, Nat.reduceLeDiff, Nat.reduceAdd, Nat.reduceMul, Int.reduceToNat, Int.reduceLT, Int.reduceLE, Int.reduceGT, Int.reduceGE, Int.reduceAdd, Int.reduceSub, Int.reduceMul, Int.reduceNeg, Int.reduceEq, Int.reduceNe, true_and, and_true, Int.cast_ofNat_Int, Nat.le_refl, ld3, ld4, ld22, ld29, ld113, ln113, ia113, ld146, fa146_0, fa146_1, fa146_2, fa146_3, bd146_0_1, neq4, ow2, ow3, ow4, ow5, ow6, ow8, ow11, ow20, ow23]
  by_cases hm : must = (x != 0)
  · rw [if_neg (by rw [hm]; simp), if_pos hm]
    cases must with
    | false =>
      simp only [Bool.not_false, if_true, Bool.false_eq_true, if_false]
      exact ⟨trivial, n, room, h, Nat.le_refl _, Nat.le_succ _, fun _ _ => rfl⟩
    | true =>
      simp only [Bool.not_true, Bool.false_eq_true, if_false, if_true]
      refine Cx.mono (c_put hn h x) fun v w h => ?_
      obtain ⟨wv, xs, M, ho, h, hnr⟩ := h
      have hf := h.facts
      simp only [Facts, wrC] at hf
      try simp (disch := omega) only [cnd_bool, on_some_eq, Dr_eq, xNil_ptr, xNil_func, xNil_yield, xPick_bool, unw_nil, xRes_ptr, xUn_not, xUn_neg, xEx_tuple, xBin_add, xBin_sub, xBin_mul, xBin_eql, xBin_neq, xBin_lss, xBin_leq, xBin_gtr, xBin_geq, xBin_eqls, xBin_neqs, wI64, oCell_some, List.getElem?_toArray, List.getElem?_cons_zero, List.getElem?_cons_succ, Nat.zero_add, Bool.not_true, Bool.not_false, if_true, if_false, ite_true, ite_false, beq_iff_eq, bne_iff_ne, decide_eq_true_eq, ne_eq, Bool.false_eq_true, Bool.true_eq_false, reduceIte, Option.some.injEq, Int.toNat_natCast, beq_self_eq_true, bne_self_eq_false, Value.cells, splice, List.setIfInBounds_toArray, List.set_cons_zero, List.set_cons_succ, List.size_toArray, List.length_cons, List.length_nil, and_self, Nat.reduceLeDiff, Nat.reduceAdd, Nat.reduceMul, Int.reduceToNat, Int.reduceLT, Int.reduceLE, Int.reduceGT, Int.reduceGE, Int.reduceAdd, Int.reduceSub, Int.reduceMul, Int.reduceNeg, Int.reduceEq, Int.reduceNe, true_and, and_true, Int.cast_ofNat_Int, Nat.le_refl, hf, ld3, ld4, ld22, ld29, ld113, ln113, ia113, ld146, fa146_0, fa146_1, fa146_2, fa146_3, bd146_0_1, neq4, ow2, ow3, ow4, ow5, ow6, ow8, ow11, ow20, ow23]
      refine Cx.mono (c_id h x bound) fun v w hv => ?_
      obtain ⟨rfl, h⟩ := hv
      exact ⟨rfl, n + 1, room + 1, ⟨wv, xs, M, ho, h, hnr⟩, by omega, by omega, fun _ _ => rfl⟩
  · rw [if_pos (by simpa using hm), if_neg hm]
    exact ⟨rfl, n, room, h, Nat.le_refl _, Nat.le_succ _, fun h1 h2 => absurd h1 h2⟩
end
theorem indexByte_neg : ∀ (l : List UInt8), 0 ∉ l → Lib.indexByte l 0 = -1
  | [], _ => rfl
  | c :: l, h => by
    simp only [List.mem_cons, not_or] at h
    unfold Lib.indexByte
    rw [indexByte_neg l h.2, if_neg (by intro e; exact h.1 (by simpa using (beq_iff_eq.1 e).symm))]
    rfl
theorem indexByte_pos : ∀ (l : List UInt8), 0 ∈ l → 0 ≤ Lib.indexByte l 0
  | [], h => by cases h
  | c :: l, h => by
    unfold Lib.indexByte
    split
    · omega
    · rename_i hc
      have : 0 ∈ l := by
        rcases List.mem_cons.1 h with rfl | h
        · exact absurd (by decide) hc
        · exact h
      have := indexByte_pos l this
      split
      · rename_i he
        have : Lib.indexByte l 0 = -1 := by simpa using he
        omega
      · omega
def nulE (s : ByteArray) : Int := if (0 : UInt8) ∈ s.data.toList then 13 else 0
theorem c_text {w0 : World} {L : List (Nat × Obj)} {b : Nat} {op bound : Int} {f : Form} {n room : Nat} {w : World} (hn : room ≤ 17592186044416) (h : WrS w0 L b op f bound n room w) (s : ByteArray) (hs : s.size ≤ 1048576) :
    Cx P 108 #[.pointer (some ⟨b, 0, none⟩), .string s] w fun v w => v = .int .i64 (nulE s) ∧ ∃ n' room', WrS w0 L b op f bound n' room' w ∧ room ≤ room' ∧ room' ≤ room + roomS s ∧ (nulE s = 0 → room' = room + roomS s) := by
  apply F108_ok
  unfold F108 nulE
  refine Cx.mono (c_indexByte s 0 w) fun v w' hv => ?_
  obtain ⟨rfl, rfl⟩ := hv
  have hz0 : (Int.toNat 0).toUInt8 = 0 := rfl
  rw [hz0]
  try simp (disch := omega) only [cnd_bool, on_some_eq, Dr_eq, xNil_ptr, xNil_func, xNil_yield, xPick_bool, unw_nil, xRes_ptr, xUn_not, xUn_neg, xEx_tuple, xBin_add, xBin_sub, xBin_mul, xBin_eql, xBin_neq, xBin_lss, xBin_leq, xBin_gtr, xBin_geq, xBin_eqls, xBin_neqs, wI64, oCell_some, List.getElem?_toArray, List.getElem?_cons_zero, List.getElem?_cons_succ, Nat.zero_add, Bool.not_true, Bool.not_false, if_true, if_false, ite_true, ite_false, beq_iff_eq, bne_iff_ne, decide_eq_true_eq, ne_eq, Bool.false_eq_true, Bool.true_eq_false, reduceIte, Option.some.injEq, Int.toNat_natCast, beq_self_eq_true, bne_self_eq_false, Value.cells, splice, List.setIfInBounds_toArray, List.set_cons_zero, List.set_cons_succ, List.size_toArray, List.length_cons, List.length_nil, and_self, Nat.reduceLeDiff, Nat.reduceAdd, Nat.reduceMul, Int.reduceToNat, Int.reduceLT, Int.reduceLE, Int.reduceGT, Int.reduceGE, Int.reduceAdd, Int.reduceSub, Int.reduceMul, Int.reduceNeg, Int.reduceEq, Int.reduceNe, true_and, and_true, Int.cast_ofNat_Int, Nat.le_refl, ld3, ld4, ld22, ld29, ld113, ln113, ia113, ld146, fa146_0, fa146_1, fa146_2, fa146_3, bd146_0_1, neq4, ow2, ow3, ow4, ow5, ow6, ow8, ow11, ow20, ow23]
  by_cases hz : (0 : UInt8) ∈ s.data.toList
  · have := indexByte_pos _ hz
    rw [if_pos (by omega), if_pos hz]
    exact ⟨rfl, n, room, h, Nat.le_refl _, by omega, fun h => by cases h⟩
  · rw [indexByte_neg _ hz, if_neg (by omega), if_neg hz]
    obtain ⟨wv, xs, M, ho, h, hnr⟩ := h
    have hle : n ≤ room := by omega
    have hrs : roomS s ≤ 262145 := by unfold roomS; omega
    refine Cx.mono (c_ofText h s (by omega) ?_) fun v w hv => ?_
    · intro i hi he
      apply hz
      have : s[i] = 0 := UInt8.toNat_inj.1 (by simpa using he)
      rw [← this]
      exact Array.mem_toList_iff.2 (Array.getElem_mem hi)
    · unfold OfTextQ at hv
      split at hv
      · rename_i hbig
        obtain ⟨rfl, h⟩ := hv
        try simp (disch := omega) only [cnd_bool, on_some_eq, Dr_eq, xNil_ptr, xNil_func, xNil_yield, xPick_bool, unw_nil, xRes_ptr, xUn_not, xUn_neg, xEx_tuple, xBin_add, xBin_sub, xBin_mul, xBin_eql, xBin_neq, xBin_lss, xBin_leq, xBin_gtr, xBin_geq, xBin_eqls, xBin_neqs, wI64, oCell_some, List.getElem?_toArray, List.getElem?_cons_zero, List.getElem?_cons_succ, Nat.zero_add, Bool.not_true, Bool.not_false, if_true, if_false, ite_true, ite_false, beq_iff_eq, bne_iff_ne, decide_eq_true_eq, ne_eq, Bool.false_eq_true, Bool.true_eq_false, reduceIte, Option.some.injEq, Int.toNat_natCast, beq_self_eq_true, bne_self_eq_false, Value.cells, splice, List.setIfInBounds_toArray, List.set_cons_zero, List.set_cons_succ, List.size_toArray, List.length_cons, List.length_nil, and_self, Nat.reduceLeDiff, Nat.reduceAdd, Nat.reduceMul, Int.reduceToNat, Int.reduceLT, Int.reduceLE, Int.reduceGT, Int.reduceGE, Int.reduceAdd, Int.reduceSub, Int.reduceMul, Int.reduceNeg, Int.reduceEq, Int.reduceNe, true_and, and_true, Int.cast_ofNat_Int, Nat.le_refl, ld3, ld4, ld22, ld29, ld113, ln113, ia113, ld146, fa146_0, fa146_1, fa146_2, fa146_3, bd146_0_1, neq4, ow2, ow3, ow4, ow5, ow6, ow8, ow11, ow20, ow23]
        try rw [Dr_eq]
        have h := h.drew
        have hf := h.facts
        simp only [Facts, wrC] at hf
        try simp (disch := omega) only [cnd_bool, on_some_eq, Dr_eq, xNil_ptr, xNil_func, xNil_yield, xPick_bool, unw_nil, xRes_ptr, xUn_not, xUn_neg, xEx_tuple, xBin_add, xBin_sub, xBin_mul, xBin_eql, xBin_neq, xBin_lss, xBin_leq, xBin_gtr, xBin_geq, xBin_eqls, xBin_neqs, wI64, oCell_some, List.getElem?_toArray, List.getElem?_cons_zero, List.getElem?_cons_succ, Nat.zero_add, Bool.not_true, Bool.not_false, if_true, if_false, ite_true, ite_false, beq_iff_eq, bne_iff_ne, decide_eq_true_eq, ne_eq, Bool.false_eq_true, Bool.true_eq_false, reduceIte, Option.some.injEq, Int.toNat_natCast, beq_self_eq_true, bne_self_eq_false, Value.cells, splice, List.setIfInBounds_toArray, List.set_cons_zero, List.set_cons_succ, List.size_toArray, List.length_cons, List.length_nil, and_self, Nat.reduceLeDiff, Nat.reduceAdd, Nat.reduceMul, Int.reduceToNat, Int.reduceLT, Int.reduceLE, Int.reduceGT, Int.reduceGE, Int.reduceAdd, Int.reduceSub, Int.reduceMul, Int.reduceNeg, Int.reduceEq, Int.reduceNe, true_and, and_true, Int.cast_ofNat_Int, Nat.le_refl, hf, ld3, ld4, ld22, ld29, ld113, ln113, ia113, ld146, fa146_0, fa146_1, fa146_2, fa146_3, bd146_0_1, neq4, ow2, ow3, ow4, ow5, ow6, ow8, ow11, ow20, ow23]
        refine Cx.mono (c_room h s (by omega)) fun v w hv => ?_
        obtain ⟨rfl, h⟩ := hv
        have hf := h.facts
        simp only [Facts, wrC] at hf
        try simp (disch := omega) only [cnd_bool, on_some_eq, Dr_eq, xNil_ptr, xNil_func, xNil_yield, xPick_bool, unw_nil, xRes_ptr, xUn_not, xUn_neg, xEx_tuple, xBin_add, xBin_sub, xBin_mul, xBin_eql, xBin_neq, xBin_lss, xBin_leq, xBin_gtr, xBin_geq, xBin_eqls, xBin_neqs, wI64, oCell_some, List.getElem?_toArray, List.getElem?_cons_zero, List.getElem?_cons_succ, Nat.zero_add, Bool.not_true, Bool.not_false, if_true, if_false, ite_true, ite_false, beq_iff_eq, bne_iff_ne, decide_eq_true_eq, ne_eq, Bool.false_eq_true, Bool.true_eq_false, reduceIte, Option.some.injEq, Int.toNat_natCast, beq_self_eq_true, bne_self_eq_false, Value.cells, splice, List.setIfInBounds_toArray, List.set_cons_zero, List.set_cons_succ, List.size_toArray, List.length_cons, List.length_nil, and_self, Nat.reduceLeDiff, Nat.reduceAdd, Nat.reduceMul, Int.reduceToNat, Int.reduceLT, Int.reduceLE, Int.reduceGT, Int.reduceGE, Int.reduceAdd, Int.reduceSub, Int.reduceMul, Int.reduceNeg, Int.reduceEq, Int.reduceNe, true_and, and_true, Int.cast_ofNat_Int, Nat.le_refl, hf, ld3, ld4, ld22, ld29, ld113, ln113, ia113, ld146, fa146_0, fa146_1, fa146_2, fa146_3, bd146_0_1, neq4, ow2, ow3, ow4, ow5, ow6, ow8, ow11, ow20, ow23]
        unfold wrC at h
        refine soStore1 ty3 0 h (fun w h => ?_) rfl (by simp) rfl
        simp only [List.set_cons_zero, List.setIfInBounds_toArray, List.set_cons_succ] at h
        refine ⟨n, room + roomS s, ⟨wv, xs, M, ho, ?_, by omega⟩, by omega, by omega, fun _ => rfl⟩
        unfold wrC
        rw [show ((room + roomS s : Nat) : Int) = (room : Int) + (roomS s : Int) by omega]
        exact h
      · rename_i hsmall
        obtain ⟨y, cells, rfl, hc, hw, h⟩ := hv
        try simp (disch := omega) only [cnd_bool, on_some_eq, Dr_eq, xNil_ptr, xNil_func, xNil_yield, xPick_bool, unw_nil, xRes_ptr, xUn_not, xUn_neg, xEx_tuple, xBin_add, xBin_sub, xBin_mul, xBin_eql, xBin_neq, xBin_lss, xBin_leq, xBin_gtr, xBin_geq, xBin_eqls, xBin_neqs, wI64, oCell_some, List.getElem?_toArray, List.getElem?_cons_zero, List.getElem?_cons_succ, Nat.zero_add, Bool.not_true, Bool.not_false, if_true, if_false, ite_true, ite_false, beq_iff_eq, bne_iff_ne, decide_eq_true_eq, ne_eq, Bool.false_eq_true, Bool.true_eq_false, reduceIte, Option.some.injEq, Int.toNat_natCast, beq_self_eq_true, bne_self_eq_false, Value.cells, splice, List.setIfInBounds_toArray, List.set_cons_zero, List.set_cons_succ, List.size_toArray, List.length_cons, List.length_nil, and_self, Nat.reduceLeDiff, Nat.reduceAdd, Nat.reduceMul, Int.reduceToNat, Int.reduceLT, Int.reduceLE, Int.reduceGT, Int.reduceGE, Int.reduceAdd, Int.reduceSub, Int.reduceMul, Int.reduceNeg, Int.reduceEq, Int.reduceNe, true_and, and_true, Int.cast_ofNat_Int, Nat.le_refl, ld3, ld4, ld22, ld29, ld113, ln113, ia113, ld146, fa146_0, fa146_1, fa146_2, fa146_3, bd146_0_1, neq4, ow2, ow3, ow4, ow5, ow6, ow8, ow11, ow20, ow23]
        have hpos : 0 < roomS s := by unfold roomS; omega
        have hf := h.facts
        simp only [Facts, wrC] at hf
        try simp (disch := omega) only [cnd_bool, on_some_eq, Dr_eq, xNil_ptr, xNil_func, xNil_yield, xPick_bool, unw_nil, xRes_ptr, xUn_not, xUn_neg, xEx_tuple, xBin_add, xBin_sub, xBin_mul, xBin_eql, xBin_neq, xBin_lss, xBin_leq, xBin_gtr, xBin_geq, xBin_eqls, xBin_neqs, wI64, oCell_some, List.getElem?_toArray, List.getElem?_cons_zero, List.getElem?_cons_succ, Nat.zero_add, Bool.not_true, Bool.not_false, if_true, if_false, ite_true, ite_false, beq_iff_eq, bne_iff_ne, decide_eq_true_eq, ne_eq, Bool.false_eq_true, Bool.true_eq_false, reduceIte, Option.some.injEq, Int.toNat_natCast, beq_self_eq_true, bne_self_eq_false, Value.cells, splice, List.setIfInBounds_toArray, List.set_cons_zero, List.set_cons_succ, List.size_toArray, List.length_cons, List.length_nil, and_self, Nat.reduceLeDiff, Nat.reduceAdd, Nat.reduceMul, Int.reduceToNat, Int.reduceLT, Int.reduceLE, Int.reduceGT, Int.reduceGE, Int.reduceAdd, Int.reduceSub, Int.reduceMul, Int.reduceNeg, Int.reduceEq, Int.reduceNe, true_and, and_true, Int.cast_ofNat_Int, Nat.le_refl, hf, ld3, ld4, ld22, ld29, ld113, ln113, ia113, ld146, fa146_0, fa146_1, fa146_2, fa146_3, bd146_0_1, neq4, ow2, ow3, ow4, ow5, ow6, ow8, ow11, ow20, ow23]
        have hy := hf.1
        refine soApp un113 rw113 rfl (h.perm (M := M ++ ((y, cl cells 22) :: (b, cl (wrC op f bound wv room) 146) :: L)) (perm_of fun c d ha hc h0 => by simp only [ha, hc, h0]; omega)) ho (news := cells.toList) (by simpa using hc) hpos ?_ ?_ (by simp only [maxLen]; omega) (by omega) fun v' M' w ho h => ?_
        · intro j u hu
          rw [add_mk, cell_oCell, hy, oCell_some]
          simpa using hu
        · intro u hu
          obtain ⟨x, rfl⟩ := hw u hu
          rfl
        have h := h.perm (M := (b, cl (wrC op f bound wv room) 146) :: (y, cl cells 22) :: (M' ++ L)) (perm_of fun c d ha hc h0 => by simp only [ha, hc, h0]; omega)
        unfold wrC at h
        have hf := h.facts
        simp only [Facts] at hf
        have hv1 : one1 v' = true := by
          rcases ho.2 with ⟨e, _⟩ | ⟨_, _, _, e, _⟩ <;> rw [e] <;> rfl
        try simp (disch := omega) only [cnd_bool, on_some_eq, Dr_eq, xNil_ptr, xNil_func, xNil_yield, xPick_bool, unw_nil, xRes_ptr, xUn_not, xUn_neg, xEx_tuple, xBin_add, xBin_sub, xBin_mul, xBin_eql, xBin_neq, xBin_lss, xBin_leq, xBin_gtr, xBin_geq, xBin_eqls, xBin_neqs, wI64, oCell_some, List.getElem?_toArray, List.getElem?_cons_zero, List.getElem?_cons_succ, Nat.zero_add, Bool.not_true, Bool.not_false, if_true, if_false, ite_true, ite_false, beq_iff_eq, bne_iff_ne, decide_eq_true_eq, ne_eq, Bool.false_eq_true, Bool.true_eq_false, reduceIte, Option.some.injEq, Int.toNat_natCast, beq_self_eq_true, bne_self_eq_false, Value.cells, splice, List.setIfInBounds_toArray, List.set_cons_zero, List.set_cons_succ, List.size_toArray, List.length_cons, List.length_nil, and_self, Nat.reduceLeDiff, Nat.reduceAdd, Nat.reduceMul, Int.reduceToNat, Int.reduceLT, Int.reduceLE, Int.reduceGT, Int.reduceGE, Int.reduceAdd, Int.reduceSub, Int.reduceMul, Int.reduceNeg, Int.reduceEq, Int.reduceNe, true_and, and_true, Int.cast_ofNat_Int, Nat.le_refl, hf, ld3, ld4, ld22, ld29, ld113, ln113, ia113, ld146, fa146_0, fa146_1, fa146_2, fa146_3, bd146_0_1, neq4, ow2, ow3, ow4, ow5, ow6, ow8, ow11, ow20, ow23]
        refine soStore1 ty113 0 h (fun w h => ?_) rfl (by simp) hv1
        simp only [List.set_cons_zero, List.setIfInBounds_toArray, List.set_cons_succ] at h
        have hf := h.facts
        simp only [Facts] at hf
        try simp (disch := omega) only [cnd_bool, on_some_eq, Dr_eq, xNil_ptr, xNil_func, xNil_yield, xPick_bool, unw_nil, xRes_ptr, xUn_not, xUn_neg, xEx_tuple, xBin_add, xBin_sub, xBin_mul, xBin_eql, xBin_neq, xBin_lss, xBin_leq, xBin_gtr, xBin_geq, xBin_eqls, xBin_neqs, wI64, oCell_some, List.getElem?_toArray, List.getElem?_cons_zero, List.getElem?_cons_succ, Nat.zero_add, Bool.not_true, Bool.not_false, if_true, if_false, ite_true, ite_false, beq_iff_eq, bne_iff_ne, decide_eq_true_eq, ne_eq, Bool.false_eq_true, Bool.true_eq_false, reduceIte, Option.some.injEq, Int.toNat_natCast, beq_self_eq_true, bne_self_eq_false, Value.cells, splice, List.setIfInBounds_toArray, List.set_cons_zero, List.set_cons_succ, List.size_toArray, List.length_cons, List.length_nil, and_self, Nat.reduceLeDiff, Nat.reduceAdd, Nat.reduceMul, Int.reduceToNat, Int.reduceLT, Int.reduceLE, Int.reduceGT, Int.reduceGE, Int.reduceAdd, Int.reduceSub, Int.reduceMul, Int.reduceNeg, Int.reduceEq, Int.reduceNe, true_and, and_true, Int.cast_ofNat_Int, Nat.le_refl, hf, ld3, ld4, ld22, ld29, ld113, ln113, ia113, ld146, fa146_0, fa146_1, fa146_2, fa146_3, bd146_0_1, neq4, ow2, ow3, ow4, ow5, ow6, ow8, ow11, ow20, ow23]
        refine soStore1 ty3 0 h (fun w h => ?_) rfl (by simp) rfl
        simp only [List.set_cons_zero, List.setIfInBounds_toArray, List.set_cons_succ] at h
        refine ⟨n + roomS s, room + roomS s, ⟨v', _, M', ho, ?_, by omega⟩, by omega, by omega, fun _ => rfl⟩
        unfold wrC
        rw [show ((room + roomS s : Nat) : Int) = (room : Int) + (roomS s : Int) by omega]
        exact So.dropMid (M := [_]) h
end Go.Proofs.Ytlmcppbpobnfjaa

