/-
  lex: texts in quotes.
-/
import Derived.Test.YtlmcppbpobnfjaaDoorXe
import Derived.Laws.IdiomStrings
import Derived.Lib.BufferRead
namespace Go.Proofs.YtlmcppbpobnfjaaDoor
open Go Go.Vc
set_option linter.unusedSimpArgs false
set_option linter.unusedVariables false
set_option maxRecDepth 20000

def byteV (b : UInt8) : Value := .int .u8 (b.toNat : Int)
theorem byteV_one (b : UInt8) : one1 (byteV b) = true := rfl
theorem soConvB {P : Program} {src dst e : TypeId} {w0 w : World} {M L : List (Nat × Obj)} {v : Value} {l : List UInt8} {base : Nat} {K : Value → World → Prop} (hs : P.underlying src = some (.slice e)) (he : P.underlying e = some (.int .u8)) (hd : P.underlying dst = some .string)
    (h : So w0 w (M ++ L)) (ho : OwnS base e 1 v l.length (l.map byteV) M) (k : K (.string (bs l)) w) : eConv P src dst v w K := by
  unfold eConv eff
  rcases ho.2 with ⟨rfl, hn, rfl⟩ | ⟨g, cap, cur, rfl, rfl, hb, hcap, hmax, hsz, hcur⟩
  · have hl : l = [] := List.length_eq_zero_iff.1 hn
    subst hl
    rw [Go.Lib.run_convert_nil_bytes w src dst e 0 hs he hd]
    exact k
  · rw [run_convert_bytes_back w src dst e ⟨g, 0, none⟩ cap l hs he hd ?_]
    · exact k
    · intro j hj
      have hg : w.heap[g]? = some (cl cur e) := h.st.blk (g, cl cur e) (by simp)
      have ea : (⟨g, 0, none⟩ : Addr).add j = ⟨g, j, none⟩ := by
        unfold Addr.add
        split
        · rename_i hz; rw [hz]
        · simp
      rw [ea]
      unfold World.cell?
      rw [hg]
      show cur[j]? = _
      have : (cur.toList.take (l.length * 1))[j]? = (l.map byteV)[j]? := by rw [hcur]
      rw [List.getElem?_take_of_lt (by omega), Array.getElem?_toList, List.getElem?_map, List.getElem?_eq_getElem hj] at this
      exact this
def plainC (b : UInt8) : Prop := 32 ≤ b.toNat ∧ b.toNat ≤ 126 ∧ b.toNat ≠ 34 ∧ b.toNat ≠ 92
section
variable {w0 : World} {L : List (Nat × Obj)}
theorem quoted_k3 {s r : List UInt8} (hs : ∀ b ∈ s, plainC b) (hl : s.length ≤ 1000000) (hr : r.length ≤ 1000000) :
    ∀ (rest pref : List UInt8) (m : Nat) (v : Value) (M : List (Nat × Obj)) (w : World), s = pref ++ rest → rest.length ≤ m → OwnS w0.heap.size 5 1 v pref.length (pref.map byteV) M → So w0 w (M ++ L) →
      F15.k3 (fun v w => v = .tuple #[.string (bs s), .int .i64 ((s.length : Int) + 2)] ∧ So w0 w L) (F15.g1 (fun v w => v = .tuple #[.string (bs s), .int .i64 ((s.length : Int) + 2)] ∧ So w0 w L) m) (.string (bs (34 :: (s ++ 34 :: r)))) v (.int .i64 (1 + (pref.length : Int))) w := by
  intro rest
  induction rest with
  | nil =>
    intro pref m v M w hsp hm ho h
    have hsp : s = pref := by simpa using hsp
    have hpl : pref.length ≤ 1000000 := hsp ▸ hl
    have hsz : Int.toNat (1 + (pref.length : Int)) < (bs (34 :: (s ++ 34 :: r))).size := by rw [bs_size]; simp; rw [hsp]; omega
    have hb : ((bs (34 :: (s ++ 34 :: r)))[Int.toNat (1 + (pref.length : Int))]'hsz).toNat = 34 := by
      rw [bs_get]
      have e : Int.toNat (1 + (pref.length : Int)) = pref.length + 1 := by omega
      simp only [e, List.getElem_cons_succ]
      rw [List.getElem_append_right (by rw [hsp]; exact Nat.le_refl _)]
      simp [hsp]
    unfold F15.k3
    try simp (disch := omega) only [cnd_bool, on_some_eq, Dr_eq, xNil_ptr, xNil_func, xNil_yield, xPick_bool, unw_nil, xRes_ptr, xUn_not, xUn_neg, xEx_tuple, xBin_add, xBin_sub, xBin_mul, xBin_eql, xBin_neq, xBin_lss, xBin_leq, xBin_gtr, xBin_geq, xBin_eqls, xBin_neqs, wI64, oCell_some, List.getElem?_toArray, List.getElem?_cons_zero, List.getElem?_cons_succ, Nat.zero_add, Bool.not_true, Bool.not_false, if_true, if_false, ite_true, ite_false, beq_iff_eq, bne_iff_ne, decide_eq_true_eq, ne_eq, Bool.false_eq_true, Bool.true_eq_false, reduceIte, Option.some.injEq, Int.toNat_natCast, beq_self_eq_true, bne_self_eq_false, Value.cells, splice, List.setIfInBounds_toArray, List.set_cons_zero, List.set_cons_succ, List.size_toArray, List.length_cons, List.length_nil, and_self, Nat.reduceLeDiff, Nat.reduceAdd, Nat.reduceMul, Int.reduceToNat, Int.reduceLT, Int.reduceLE, Int.reduceGT, Int.reduceGE, Int.reduceAdd, Int.reduceSub, Int.reduceMul, Int.reduceNeg, Int.reduceEq, Int.reduceNe, true_and, and_true, Int.cast_ofNat_Int, Nat.le_refl, ld3, ld4, ld5, ld9, ln9, ix9, ld57, ln57, ia57, ow2, ow3, ow24, ix9 _ _ _ (by omega : (0 : Int) ≤ 1 + (pref.length : Int)) hsz]
    rw [hb]
    unfold F15.k5
    try simp (disch := omega) only [cnd_bool, on_some_eq, Dr_eq, xNil_ptr, xNil_func, xNil_yield, xPick_bool, unw_nil, xRes_ptr, xUn_not, xUn_neg, xEx_tuple, xBin_add, xBin_sub, xBin_mul, xBin_eql, xBin_neq, xBin_lss, xBin_leq, xBin_gtr, xBin_geq, xBin_eqls, xBin_neqs, wI64, oCell_some, List.getElem?_toArray, List.getElem?_cons_zero, List.getElem?_cons_succ, Nat.zero_add, Bool.not_true, Bool.not_false, if_true, if_false, ite_true, ite_false, beq_iff_eq, bne_iff_ne, decide_eq_true_eq, ne_eq, Bool.false_eq_true, Bool.true_eq_false, reduceIte, Option.some.injEq, Int.toNat_natCast, beq_self_eq_true, bne_self_eq_false, Value.cells, splice, List.setIfInBounds_toArray, List.set_cons_zero, List.set_cons_succ, List.size_toArray, List.length_cons, List.length_nil, and_self, Nat.reduceLeDiff, Nat.reduceAdd, Nat.reduceMul, Int.reduceToNat, Int.reduceLT, Int.reduceLE, Int.reduceGT, Int.reduceGE, Int.reduceAdd, Int.reduceSub, Int.reduceMul, Int.reduceNeg, Int.reduceEq, Int.reduceNe, true_and, and_true, Int.cast_ofNat_Int, Nat.le_refl, ld3, ld4, ld5, ld9, ln9, ix9, ld57, ln57, ia57, ow2, ow3, ow24]
    unfold F15.k6 F15.k7
    try simp (disch := omega) only [cnd_bool, on_some_eq, Dr_eq, xNil_ptr, xNil_func, xNil_yield, xPick_bool, unw_nil, xRes_ptr, xUn_not, xUn_neg, xEx_tuple, xBin_add, xBin_sub, xBin_mul, xBin_eql, xBin_neq, xBin_lss, xBin_leq, xBin_gtr, xBin_geq, xBin_eqls, xBin_neqs, wI64, oCell_some, List.getElem?_toArray, List.getElem?_cons_zero, List.getElem?_cons_succ, Nat.zero_add, Bool.not_true, Bool.not_false, if_true, if_false, ite_true, ite_false, beq_iff_eq, bne_iff_ne, decide_eq_true_eq, ne_eq, Bool.false_eq_true, Bool.true_eq_false, reduceIte, Option.some.injEq, Int.toNat_natCast, beq_self_eq_true, bne_self_eq_false, Value.cells, splice, List.setIfInBounds_toArray, List.set_cons_zero, List.set_cons_succ, List.size_toArray, List.length_cons, List.length_nil, and_self, Nat.reduceLeDiff, Nat.reduceAdd, Nat.reduceMul, Int.reduceToNat, Int.reduceLT, Int.reduceLE, Int.reduceGT, Int.reduceGE, Int.reduceAdd, Int.reduceSub, Int.reduceMul, Int.reduceNeg, Int.reduceEq, Int.reduceNe, true_and, and_true, Int.cast_ofNat_Int, Nat.le_refl, ld3, ld4, ld5, ld9, ln9, ix9, ld57, ln57, ia57, ow2, ow3, ow24]
    refine soConvB un57 un5 un9 h ho ?_
    try simp (disch := omega) only [cnd_bool, on_some_eq, Dr_eq, xNil_ptr, xNil_func, xNil_yield, xPick_bool, unw_nil, xRes_ptr, xUn_not, xUn_neg, xEx_tuple, xBin_add, xBin_sub, xBin_mul, xBin_eql, xBin_neq, xBin_lss, xBin_leq, xBin_gtr, xBin_geq, xBin_eqls, xBin_neqs, wI64, oCell_some, List.getElem?_toArray, List.getElem?_cons_zero, List.getElem?_cons_succ, Nat.zero_add, Bool.not_true, Bool.not_false, if_true, if_false, ite_true, ite_false, beq_iff_eq, bne_iff_ne, decide_eq_true_eq, ne_eq, Bool.false_eq_true, Bool.true_eq_false, reduceIte, Option.some.injEq, Int.toNat_natCast, beq_self_eq_true, bne_self_eq_false, Value.cells, splice, List.setIfInBounds_toArray, List.set_cons_zero, List.set_cons_succ, List.size_toArray, List.length_cons, List.length_nil, and_self, Nat.reduceLeDiff, Nat.reduceAdd, Nat.reduceMul, Int.reduceToNat, Int.reduceLT, Int.reduceLE, Int.reduceGT, Int.reduceGE, Int.reduceAdd, Int.reduceSub, Int.reduceMul, Int.reduceNeg, Int.reduceEq, Int.reduceNe, true_and, and_true, Int.cast_ofNat_Int, Nat.le_refl, ld3, ld4, ld5, ld9, ln9, ix9, ld57, ln57, ia57, ow2, ow3, ow24]
    refine ⟨?_, h.drops⟩
    rw [hsp, show 1 + (pref.length : Int) + 1 = (pref.length : Int) + 2 by omega]
  | cons b rest ih =>
    intro pref m v M w hsp hm ho h
    obtain ⟨m, rfl⟩ : ∃ q, m = q + 1 := ⟨m - 1, by simp at hm; omega⟩
    have hlen := congrArg List.length hsp
    simp only [List.length_append, List.length_cons] at hlen
    have hpc := hs b (by rw [hsp]; simp)
    have hsz : Int.toNat (1 + (pref.length : Int)) < (bs (34 :: (s ++ 34 :: r))).size := by rw [bs_size]; simp; omega
    have hb : ((bs (34 :: (s ++ 34 :: r)))[Int.toNat (1 + (pref.length : Int))]'hsz).toNat = b.toNat := by
      rw [bs_get]
      have e : Int.toNat (1 + (pref.length : Int)) = pref.length + 1 := by omega
      simp only [e, List.getElem_cons_succ]
      rw [List.getElem_append_left (by omega)]
      simp [hsp]
    obtain ⟨p1, p2, p3, p4⟩ := hpc
    unfold F15.k3
    try simp (disch := omega) only [cnd_bool, on_some_eq, Dr_eq, xNil_ptr, xNil_func, xNil_yield, xPick_bool, unw_nil, xRes_ptr, xUn_not, xUn_neg, xEx_tuple, xBin_add, xBin_sub, xBin_mul, xBin_eql, xBin_neq, xBin_lss, xBin_leq, xBin_gtr, xBin_geq, xBin_eqls, xBin_neqs, wI64, oCell_some, List.getElem?_toArray, List.getElem?_cons_zero, List.getElem?_cons_succ, Nat.zero_add, Bool.not_true, Bool.not_false, if_true, if_false, ite_true, ite_false, beq_iff_eq, bne_iff_ne, decide_eq_true_eq, ne_eq, Bool.false_eq_true, Bool.true_eq_false, reduceIte, Option.some.injEq, Int.toNat_natCast, beq_self_eq_true, bne_self_eq_false, Value.cells, splice, List.setIfInBounds_toArray, List.set_cons_zero, List.set_cons_succ, List.size_toArray, List.length_cons, List.length_nil, and_self, Nat.reduceLeDiff, Nat.reduceAdd, Nat.reduceMul, Int.reduceToNat, Int.reduceLT, Int.reduceLE, Int.reduceGT, Int.reduceGE, Int.reduceAdd, Int.reduceSub, Int.reduceMul, Int.reduceNeg, Int.reduceEq, Int.reduceNe, true_and, and_true, Int.cast_ofNat_Int, Nat.le_refl, ld3, ld4, ld5, ld9, ln9, ix9, ld57, ln57, ia57, ow2, ow3, ow24, ix9 _ _ _ (by omega : (0 : Int) ≤ 1 + (pref.length : Int)) hsz]
    rw [hb]
    unfold F15.k5
    try simp (disch := omega) only [cnd_bool, on_some_eq, Dr_eq, xNil_ptr, xNil_func, xNil_yield, xPick_bool, unw_nil, xRes_ptr, xUn_not, xUn_neg, xEx_tuple, xBin_add, xBin_sub, xBin_mul, xBin_eql, xBin_neq, xBin_lss, xBin_leq, xBin_gtr, xBin_geq, xBin_eqls, xBin_neqs, wI64, oCell_some, List.getElem?_toArray, List.getElem?_cons_zero, List.getElem?_cons_succ, Nat.zero_add, Bool.not_true, Bool.not_false, if_true, if_false, ite_true, ite_false, beq_iff_eq, bne_iff_ne, decide_eq_true_eq, ne_eq, Bool.false_eq_true, Bool.true_eq_false, reduceIte, Option.some.injEq, Int.toNat_natCast, beq_self_eq_true, bne_self_eq_false, Value.cells, splice, List.setIfInBounds_toArray, List.set_cons_zero, List.set_cons_succ, List.size_toArray, List.length_cons, List.length_nil, and_self, Nat.reduceLeDiff, Nat.reduceAdd, Nat.reduceMul, Int.reduceToNat, Int.reduceLT, Int.reduceLE, Int.reduceGT, Int.reduceGE, Int.reduceAdd, Int.reduceSub, Int.reduceMul, Int.reduceNeg, Int.reduceEq, Int.reduceNe, true_and, and_true, Int.cast_ofNat_Int, Nat.le_refl, ld3, ld4, ld5, ld9, ln9, ix9, ld57, ln57, ia57, ow2, ow3, ow24]
    have e1 : ((b.toNat : Int) == 34) = false := by simpa using (by omega : ¬ ((b.toNat : Int) = 34))
    rw [e1]
    unfold F15.k6
    try simp (disch := omega) only [cnd_bool, on_some_eq, Dr_eq, xNil_ptr, xNil_func, xNil_yield, xPick_bool, unw_nil, xRes_ptr, xUn_not, xUn_neg, xEx_tuple, xBin_add, xBin_sub, xBin_mul, xBin_eql, xBin_neq, xBin_lss, xBin_leq, xBin_gtr, xBin_geq, xBin_eqls, xBin_neqs, wI64, oCell_some, List.getElem?_toArray, List.getElem?_cons_zero, List.getElem?_cons_succ, Nat.zero_add, Bool.not_true, Bool.not_false, if_true, if_false, ite_true, ite_false, beq_iff_eq, bne_iff_ne, decide_eq_true_eq, ne_eq, Bool.false_eq_true, Bool.true_eq_false, reduceIte, Option.some.injEq, Int.toNat_natCast, beq_self_eq_true, bne_self_eq_false, Value.cells, splice, List.setIfInBounds_toArray, List.set_cons_zero, List.set_cons_succ, List.size_toArray, List.length_cons, List.length_nil, and_self, Nat.reduceLeDiff, Nat.reduceAdd, Nat.reduceMul, Int.reduceToNat, Int.reduceLT, Int.reduceLE, Int.reduceGT, Int.reduceGE, Int.reduceAdd, Int.reduceSub, Int.reduceMul, Int.reduceNeg, Int.reduceEq, Int.reduceNe, true_and, and_true, Int.cast_ofNat_Int, Nat.le_refl, ld3, ld4, ld5, ld9, ln9, ix9, ld57, ln57, ia57, ow2, ow3, ow24]
    unfold F15.k8
    try simp (disch := omega) only [cnd_bool, on_some_eq, Dr_eq, xNil_ptr, xNil_func, xNil_yield, xPick_bool, unw_nil, xRes_ptr, xUn_not, xUn_neg, xEx_tuple, xBin_add, xBin_sub, xBin_mul, xBin_eql, xBin_neq, xBin_lss, xBin_leq, xBin_gtr, xBin_geq, xBin_eqls, xBin_neqs, wI64, oCell_some, List.getElem?_toArray, List.getElem?_cons_zero, List.getElem?_cons_succ, Nat.zero_add, Bool.not_true, Bool.not_false, if_true, if_false, ite_true, ite_false, beq_iff_eq, bne_iff_ne, decide_eq_true_eq, ne_eq, Bool.false_eq_true, Bool.true_eq_false, reduceIte, Option.some.injEq, Int.toNat_natCast, beq_self_eq_true, bne_self_eq_false, Value.cells, splice, List.setIfInBounds_toArray, List.set_cons_zero, List.set_cons_succ, List.size_toArray, List.length_cons, List.length_nil, and_self, Nat.reduceLeDiff, Nat.reduceAdd, Nat.reduceMul, Int.reduceToNat, Int.reduceLT, Int.reduceLE, Int.reduceGT, Int.reduceGE, Int.reduceAdd, Int.reduceSub, Int.reduceMul, Int.reduceNeg, Int.reduceEq, Int.reduceNe, true_and, and_true, Int.cast_ofNat_Int, Nat.le_refl, ld3, ld4, ld5, ld9, ln9, ix9, ld57, ln57, ia57, ow2, ow3, ow24]
    rw [if_neg (by omega)]
    have e2 : decide ((b.toNat : Int) > 126) = false := by simpa using (by omega : ¬ (126 < (b.toNat : Int)))
    rw [e2]
    unfold F15.k9
    try simp (disch := omega) only [cnd_bool, on_some_eq, Dr_eq, xNil_ptr, xNil_func, xNil_yield, xPick_bool, unw_nil, xRes_ptr, xUn_not, xUn_neg, xEx_tuple, xBin_add, xBin_sub, xBin_mul, xBin_eql, xBin_neq, xBin_lss, xBin_leq, xBin_gtr, xBin_geq, xBin_eqls, xBin_neqs, wI64, oCell_some, List.getElem?_toArray, List.getElem?_cons_zero, List.getElem?_cons_succ, Nat.zero_add, Bool.not_true, Bool.not_false, if_true, if_false, ite_true, ite_false, beq_iff_eq, bne_iff_ne, decide_eq_true_eq, ne_eq, Bool.false_eq_true, Bool.true_eq_false, reduceIte, Option.some.injEq, Int.toNat_natCast, beq_self_eq_true, bne_self_eq_false, Value.cells, splice, List.setIfInBounds_toArray, List.set_cons_zero, List.set_cons_succ, List.size_toArray, List.length_cons, List.length_nil, and_self, Nat.reduceLeDiff, Nat.reduceAdd, Nat.reduceMul, Int.reduceToNat, Int.reduceLT, Int.reduceLE, Int.reduceGT, Int.reduceGE, Int.reduceAdd, Int.reduceSub, Int.reduceMul, Int.reduceNeg, Int.reduceEq, Int.reduceNe, true_and, and_true, Int.cast_ofNat_Int, Nat.le_refl, ld3, ld4, ld5, ld9, ln9, ix9, ld57, ln57, ia57, ow2, ow3, ow24]
    rw [if_neg (by omega)]
    refine pu57 h ho rfl (by simp [one1, Value.cells]) (by omega) (by omega) fun v' M' w ho' h => ?_
    unfold F15.k4
    try simp (disch := omega) only [cnd_bool, on_some_eq, Dr_eq, xNil_ptr, xNil_func, xNil_yield, xPick_bool, unw_nil, xRes_ptr, xUn_not, xUn_neg, xEx_tuple, xBin_add, xBin_sub, xBin_mul, xBin_eql, xBin_neq, xBin_lss, xBin_leq, xBin_gtr, xBin_geq, xBin_eqls, xBin_neqs, wI64, oCell_some, List.getElem?_toArray, List.getElem?_cons_zero, List.getElem?_cons_succ, Nat.zero_add, Bool.not_true, Bool.not_false, if_true, if_false, ite_true, ite_false, beq_iff_eq, bne_iff_ne, decide_eq_true_eq, ne_eq, Bool.false_eq_true, Bool.true_eq_false, reduceIte, Option.some.injEq, Int.toNat_natCast, beq_self_eq_true, bne_self_eq_false, Value.cells, splice, List.setIfInBounds_toArray, List.set_cons_zero, List.set_cons_succ, List.size_toArray, List.length_cons, List.length_nil, and_self, Nat.reduceLeDiff, Nat.reduceAdd, Nat.reduceMul, Int.reduceToNat, Int.reduceLT, Int.reduceLE, Int.reduceGT, Int.reduceGE, Int.reduceAdd, Int.reduceSub, Int.reduceMul, Int.reduceNeg, Int.reduceEq, Int.reduceNe, true_and, and_true, Int.cast_ofNat_Int, Nat.le_refl, ld3, ld4, ld5, ld9, ln9, ix9, ld57, ln57, ia57, ow2, ow3, ow24]
    show F15.g1 _ (m + 1) _ _ _ w
    unfold F15.g1 F15.k10
    try simp (disch := omega) only [cnd_bool, on_some_eq, Dr_eq, xNil_ptr, xNil_func, xNil_yield, xPick_bool, unw_nil, xRes_ptr, xUn_not, xUn_neg, xEx_tuple, xBin_add, xBin_sub, xBin_mul, xBin_eql, xBin_neq, xBin_lss, xBin_leq, xBin_gtr, xBin_geq, xBin_eqls, xBin_neqs, wI64, oCell_some, List.getElem?_toArray, List.getElem?_cons_zero, List.getElem?_cons_succ, Nat.zero_add, Bool.not_true, Bool.not_false, if_true, if_false, ite_true, ite_false, beq_iff_eq, bne_iff_ne, decide_eq_true_eq, ne_eq, Bool.false_eq_true, Bool.true_eq_false, reduceIte, Option.some.injEq, Int.toNat_natCast, beq_self_eq_true, bne_self_eq_false, Value.cells, splice, List.setIfInBounds_toArray, List.set_cons_zero, List.set_cons_succ, List.size_toArray, List.length_cons, List.length_nil, and_self, Nat.reduceLeDiff, Nat.reduceAdd, Nat.reduceMul, Int.reduceToNat, Int.reduceLT, Int.reduceLE, Int.reduceGT, Int.reduceGE, Int.reduceAdd, Int.reduceSub, Int.reduceMul, Int.reduceNeg, Int.reduceEq, Int.reduceNe, true_and, and_true, Int.cast_ofNat_Int, Nat.le_refl, ld3, ld4, ld5, ld9, ln9, ix9, ld57, ln57, ia57, ow2, ow3, ow24, bs_size]
    rw [if_neg (by simp; omega)]
    have ho'' : OwnS w0.heap.size 5 1 v' (pref ++ [b]).length ((pref ++ [b]).map byteV) M' := by
      rw [List.length_append, List.map_append]; exact ho'
    have := ih (pref ++ [b]) m v' M' w (by rw [hsp]; simp) (by simp at hm; omega) ho'' h
    rw [show 1 + (((pref ++ [b]).length : Nat) : Int) = 1 + (pref.length : Int) + 1 by simp; omega] at this
    exact this
theorem c_quoted {w : World} (h : So w0 w L) (s r : List UInt8) (hs : ∀ b ∈ s, plainC b) (hl : s.length ≤ 1000000) (hr : r.length ≤ 1000000) :
    Cx P 15 #[.string (bs (34 :: (s ++ 34 :: r)))] w fun v w => v = .tuple #[.string (bs s), .int .i64 ((s.length : Int) + 2)] ∧ So w0 w L := by
  apply F15_ok
  unfold F15 F15.k1
  refine ⟨s.length, ?_⟩
  unfold F15.k2
  try simp (disch := omega) only [cnd_bool, on_some_eq, Dr_eq, xNil_ptr, xNil_func, xNil_yield, xPick_bool, unw_nil, xRes_ptr, xUn_not, xUn_neg, xEx_tuple, xBin_add, xBin_sub, xBin_mul, xBin_eql, xBin_neq, xBin_lss, xBin_leq, xBin_gtr, xBin_geq, xBin_eqls, xBin_neqs, wI64, oCell_some, List.getElem?_toArray, List.getElem?_cons_zero, List.getElem?_cons_succ, Nat.zero_add, Bool.not_true, Bool.not_false, if_true, if_false, ite_true, ite_false, beq_iff_eq, bne_iff_ne, decide_eq_true_eq, ne_eq, Bool.false_eq_true, Bool.true_eq_false, reduceIte, Option.some.injEq, Int.toNat_natCast, beq_self_eq_true, bne_self_eq_false, Value.cells, splice, List.setIfInBounds_toArray, List.set_cons_zero, List.set_cons_succ, List.size_toArray, List.length_cons, List.length_nil, and_self, Nat.reduceLeDiff, Nat.reduceAdd, Nat.reduceMul, Int.reduceToNat, Int.reduceLT, Int.reduceLE, Int.reduceGT, Int.reduceGE, Int.reduceAdd, Int.reduceSub, Int.reduceMul, Int.reduceNeg, Int.reduceEq, Int.reduceNe, true_and, and_true, Int.cast_ofNat_Int, Nat.le_refl, ld3, ld4, ld5, ld9, ln9, ix9, ld57, ln57, ia57, ow2, ow3, ow24, bs_size]
  rw [if_neg (by simp; omega)]
  have := quoted_k3 (L := L) hs hl hr s [] s.length (.slice none 0 0) [] w rfl (Nat.le_refl _) (OwnS.nil _ _ _) (by simpa using h)
  exact this
theorem quote_loop {s : List UInt8} (hs : ∀ b ∈ s, plainC b) (hl : s.length ≤ 1000000) :
    ∀ (rest pref : List UInt8) (v : Value) (M : List (Nat × Obj)) (w : World), s = pref ++ rest → OwnS w0.heap.size 5 1 v (pref.length + 1) ((34 :: pref).map byteV) M → So w0 w (M ++ L) →
      F19.l1 (fun v w => v = .string (bs (34 :: (s ++ [34]))) ∧ So w0 w L) (rest.length + 1) (.string (bs s)) v (.int .i64 (pref.length : Int)) w := by
  intro rest
  induction rest with
  | nil =>
    intro pref v M w hsp ho h
    have hsp : s = pref := by simpa using hsp
    unfold F19.l1 F19.l1.b
    try simp (disch := omega) only [cnd_bool, on_some_eq, Dr_eq, xNil_ptr, xNil_func, xNil_yield, xPick_bool, unw_nil, xRes_ptr, xUn_not, xUn_neg, xEx_tuple, xBin_add, xBin_sub, xBin_mul, xBin_eql, xBin_neq, xBin_lss, xBin_leq, xBin_gtr, xBin_geq, xBin_eqls, xBin_neqs, wI64, oCell_some, List.getElem?_toArray, List.getElem?_cons_zero, List.getElem?_cons_succ, Nat.zero_add, Bool.not_true, Bool.not_false, if_true, if_false, ite_true, ite_false, beq_iff_eq, bne_iff_ne, decide_eq_true_eq, ne_eq, Bool.false_eq_true, Bool.true_eq_false, reduceIte, Option.some.injEq, Int.toNat_natCast, beq_self_eq_true, bne_self_eq_false, Value.cells, splice, List.setIfInBounds_toArray, List.set_cons_zero, List.set_cons_succ, List.size_toArray, List.length_cons, List.length_nil, and_self, Nat.reduceLeDiff, Nat.reduceAdd, Nat.reduceMul, Int.reduceToNat, Int.reduceLT, Int.reduceLE, Int.reduceGT, Int.reduceGE, Int.reduceAdd, Int.reduceSub, Int.reduceMul, Int.reduceNeg, Int.reduceEq, Int.reduceNe, true_and, and_true, Int.cast_ofNat_Int, Nat.le_refl, ld3, ld4, ld5, ld9, ln9, ix9, ld57, ln57, ia57, ow2, ow3, ow24, bs_size]
    rw [if_neg (by rw [hsp]; omega)]
    unfold F19.k2
    have hpl : pref.length ≤ 1000000 := by rw [← hsp]; exact hl
    refine pu57 h ho rfl (by simp [one1, Value.cells]) (by omega) (by omega) fun v' M' w ho' h => ?_
    have ho'' : OwnS w0.heap.size 5 1 v' (34 :: (pref ++ [34])).length ((34 :: (pref ++ [34])).map byteV) M' := by
      simp only [List.length_cons, List.length_append, List.map_cons, List.map_append] at ho' ⊢
      exact ho'
    refine soConvB un57 un5 un9 h ho'' ?_
    rw [hsp]
    exact ⟨rfl, h.drops⟩
  | cons b rest ih =>
    intro pref v M w hsp ho h
    have hlen := congrArg List.length hsp
    simp only [List.length_append, List.length_cons] at hlen
    obtain ⟨p1, p2, p3, p4⟩ := hs b (by rw [hsp]; simp)
    have hsz : Int.toNat (pref.length : Int) < (bs s).size := by rw [bs_size]; omega
    have hb : ((bs s)[pref.length]'(by rw [bs_size]; omega)).toNat = b.toNat := by
      rw [bs_get]
      simp [hsp]
    unfold F19.l1 F19.l1.b
    try simp (disch := omega) only [cnd_bool, on_some_eq, Dr_eq, xNil_ptr, xNil_func, xNil_yield, xPick_bool, unw_nil, xRes_ptr, xUn_not, xUn_neg, xEx_tuple, xBin_add, xBin_sub, xBin_mul, xBin_eql, xBin_neq, xBin_lss, xBin_leq, xBin_gtr, xBin_geq, xBin_eqls, xBin_neqs, wI64, oCell_some, List.getElem?_toArray, List.getElem?_cons_zero, List.getElem?_cons_succ, Nat.zero_add, Bool.not_true, Bool.not_false, if_true, if_false, ite_true, ite_false, beq_iff_eq, bne_iff_ne, decide_eq_true_eq, ne_eq, Bool.false_eq_true, Bool.true_eq_false, reduceIte, Option.some.injEq, Int.toNat_natCast, beq_self_eq_true, bne_self_eq_false, Value.cells, splice, List.setIfInBounds_toArray, List.set_cons_zero, List.set_cons_succ, List.size_toArray, List.length_cons, List.length_nil, and_self, Nat.reduceLeDiff, Nat.reduceAdd, Nat.reduceMul, Int.reduceToNat, Int.reduceLT, Int.reduceLE, Int.reduceGT, Int.reduceGE, Int.reduceAdd, Int.reduceSub, Int.reduceMul, Int.reduceNeg, Int.reduceEq, Int.reduceNe, true_and, and_true, Int.cast_ofNat_Int, Nat.le_refl, ld3, ld4, ld5, ld9, ln9, ix9, ld57, ln57, ia57, ow2, ow3, ow24, bs_size]
    rw [if_pos (by omega)]
    unfold F19.k4
    try simp (disch := omega) only [cnd_bool, on_some_eq, Dr_eq, xNil_ptr, xNil_func, xNil_yield, xPick_bool, unw_nil, xRes_ptr, xUn_not, xUn_neg, xEx_tuple, xBin_add, xBin_sub, xBin_mul, xBin_eql, xBin_neq, xBin_lss, xBin_leq, xBin_gtr, xBin_geq, xBin_eqls, xBin_neqs, wI64, oCell_some, List.getElem?_toArray, List.getElem?_cons_zero, List.getElem?_cons_succ, Nat.zero_add, Bool.not_true, Bool.not_false, if_true, if_false, ite_true, ite_false, beq_iff_eq, bne_iff_ne, decide_eq_true_eq, ne_eq, Bool.false_eq_true, Bool.true_eq_false, reduceIte, Option.some.injEq, Int.toNat_natCast, beq_self_eq_true, bne_self_eq_false, Value.cells, splice, List.setIfInBounds_toArray, List.set_cons_zero, List.set_cons_succ, List.size_toArray, List.length_cons, List.length_nil, and_self, Nat.reduceLeDiff, Nat.reduceAdd, Nat.reduceMul, Int.reduceToNat, Int.reduceLT, Int.reduceLE, Int.reduceGT, Int.reduceGE, Int.reduceAdd, Int.reduceSub, Int.reduceMul, Int.reduceNeg, Int.reduceEq, Int.reduceNe, true_and, and_true, Int.cast_ofNat_Int, Nat.le_refl, ld3, ld4, ld5, ld9, ln9, ix9, ld57, ln57, ia57, ow2, ow3, ow24, ix9 _ _ _ (Int.natCast_nonneg pref.length) hsz]
    rw [hb]
    unfold F19.k6
    try simp (disch := omega) only [cnd_bool, on_some_eq, Dr_eq, xNil_ptr, xNil_func, xNil_yield, xPick_bool, unw_nil, xRes_ptr, xUn_not, xUn_neg, xEx_tuple, xBin_add, xBin_sub, xBin_mul, xBin_eql, xBin_neq, xBin_lss, xBin_leq, xBin_gtr, xBin_geq, xBin_eqls, xBin_neqs, wI64, oCell_some, List.getElem?_toArray, List.getElem?_cons_zero, List.getElem?_cons_succ, Nat.zero_add, Bool.not_true, Bool.not_false, if_true, if_false, ite_true, ite_false, beq_iff_eq, bne_iff_ne, decide_eq_true_eq, ne_eq, Bool.false_eq_true, Bool.true_eq_false, reduceIte, Option.some.injEq, Int.toNat_natCast, beq_self_eq_true, bne_self_eq_false, Value.cells, splice, List.setIfInBounds_toArray, List.set_cons_zero, List.set_cons_succ, List.size_toArray, List.length_cons, List.length_nil, and_self, Nat.reduceLeDiff, Nat.reduceAdd, Nat.reduceMul, Int.reduceToNat, Int.reduceLT, Int.reduceLE, Int.reduceGT, Int.reduceGE, Int.reduceAdd, Int.reduceSub, Int.reduceMul, Int.reduceNeg, Int.reduceEq, Int.reduceNe, true_and, and_true, Int.cast_ofNat_Int, Nat.le_refl, ld3, ld4, ld5, ld9, ln9, ix9, ld57, ln57, ia57, ow2, ow3, ow24]
    rw [if_neg (by omega), if_neg (by omega)]
    unfold F19.k11
    try simp (disch := omega) only [cnd_bool, on_some_eq, Dr_eq, xNil_ptr, xNil_func, xNil_yield, xPick_bool, unw_nil, xRes_ptr, xUn_not, xUn_neg, xEx_tuple, xBin_add, xBin_sub, xBin_mul, xBin_eql, xBin_neq, xBin_lss, xBin_leq, xBin_gtr, xBin_geq, xBin_eqls, xBin_neqs, wI64, oCell_some, List.getElem?_toArray, List.getElem?_cons_zero, List.getElem?_cons_succ, Nat.zero_add, Bool.not_true, Bool.not_false, if_true, if_false, ite_true, ite_false, beq_iff_eq, bne_iff_ne, decide_eq_true_eq, ne_eq, Bool.false_eq_true, Bool.true_eq_false, reduceIte, Option.some.injEq, Int.toNat_natCast, beq_self_eq_true, bne_self_eq_false, Value.cells, splice, List.setIfInBounds_toArray, List.set_cons_zero, List.set_cons_succ, List.size_toArray, List.length_cons, List.length_nil, and_self, Nat.reduceLeDiff, Nat.reduceAdd, Nat.reduceMul, Int.reduceToNat, Int.reduceLT, Int.reduceLE, Int.reduceGT, Int.reduceGE, Int.reduceAdd, Int.reduceSub, Int.reduceMul, Int.reduceNeg, Int.reduceEq, Int.reduceNe, true_and, and_true, Int.cast_ofNat_Int, Nat.le_refl, ld3, ld4, ld5, ld9, ln9, ix9, ld57, ln57, ia57, ow2, ow3, ow24]
    rw [if_neg (by omega), if_neg (by omega)]
    unfold F19.k10 F19.k7
    refine pu57 h ho rfl (by simp [one1, Value.cells]) (by omega) (by omega) fun v' M' w ho' h => ?_
    unfold F19.k5
    try simp (disch := omega) only [cnd_bool, on_some_eq, Dr_eq, xNil_ptr, xNil_func, xNil_yield, xPick_bool, unw_nil, xRes_ptr, xUn_not, xUn_neg, xEx_tuple, xBin_add, xBin_sub, xBin_mul, xBin_eql, xBin_neq, xBin_lss, xBin_leq, xBin_gtr, xBin_geq, xBin_eqls, xBin_neqs, wI64, oCell_some, List.getElem?_toArray, List.getElem?_cons_zero, List.getElem?_cons_succ, Nat.zero_add, Bool.not_true, Bool.not_false, if_true, if_false, ite_true, ite_false, beq_iff_eq, bne_iff_ne, decide_eq_true_eq, ne_eq, Bool.false_eq_true, Bool.true_eq_false, reduceIte, Option.some.injEq, Int.toNat_natCast, beq_self_eq_true, bne_self_eq_false, Value.cells, splice, List.setIfInBounds_toArray, List.set_cons_zero, List.set_cons_succ, List.size_toArray, List.length_cons, List.length_nil, and_self, Nat.reduceLeDiff, Nat.reduceAdd, Nat.reduceMul, Int.reduceToNat, Int.reduceLT, Int.reduceLE, Int.reduceGT, Int.reduceGE, Int.reduceAdd, Int.reduceSub, Int.reduceMul, Int.reduceNeg, Int.reduceEq, Int.reduceNe, true_and, and_true, Int.cast_ofNat_Int, Nat.le_refl, ld3, ld4, ld5, ld9, ln9, ix9, ld57, ln57, ia57, ow2, ow3, ow24]
    have ho'' : OwnS w0.heap.size 5 1 v' ((pref ++ [b]).length + 1) ((34 :: (pref ++ [b])).map byteV) M' := by
      simp only [List.length_cons, List.length_append, List.map_cons, List.map_append, List.length_nil] at ho' ⊢
      exact ho'
    have := ih (pref ++ [b]) v' M' w (by rw [hsp]; simp) ho'' h
    rw [show (((pref ++ [b]).length : Nat) : Int) = (pref.length : Int) + 1 by simp] at this
    exact this
theorem c_quote {w : World} (h : So w0 w L) (s : List UInt8) (hs : ∀ b ∈ s, plainC b) (hl : s.length ≤ 1000000) :
    Cx P 19 #[.string (bs s)] w fun v w => v = .string (bs (34 :: (s ++ [34]))) ∧ So w0 w L := by
  apply F19_ok
  unfold F19
  refine bs57 h rfl fun y w h => ?_
  unfold F19.k1 F19.k3
  have hy : w0.heap.size ≤ y := h.own _ (List.mem_cons_self ..)
  have ho : OwnS w0.heap.size 5 1 (.slice (some ⟨y, 0, none⟩) 1 1) (([] : List UInt8).length + 1) ((34 :: ([] : List UInt8)).map byteV) [(y, cl (Value.int .u8 34).cells 5)] := OwnS.of hy (by unfold maxLen; omega) rfl
  exact ⟨_, quote_loop (L := L) hs hl s [] _ _ w rfl ho h⟩
end
end Go.Proofs.YtlmcppbpobnfjaaDoor

