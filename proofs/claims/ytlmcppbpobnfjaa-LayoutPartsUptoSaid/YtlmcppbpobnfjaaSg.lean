/-
  LayoutParts: what is compared.
-/
import Derived.Test.YtlmcppbpobnfjaaSf
import Derived.Test.YtlmcppbpobnfjaaVq
import Derived.Laws.StructEq
namespace Go.Proofs.Ytlmcppbpobnfjaa
open Go Go.Vc
set_option linter.unusedSimpArgs false
set_option linter.unusedVariables false
set_option maxRecDepth 20000

theorem xBin_self {P : Program} {t : TypeId} {xs : Array Value} (cx cy : Bool) (hm : P.eqGuardType P.depth t = false) (h : pr P (Op.equalIn 10000 t (.agg xs) (.agg xs)) = some true) : xBin P .eql t cx cy (.agg xs) (.agg xs) = some (.bool true) := by
  unfold xBin
  have hg : ∀ x y, pr P (eqGuard .eql t x y (.agg xs) (.agg xs)) = some () := by
    intro x y
    unfold eqGuard
    simp only [Bool.not_true, Bool.false_eq_true, if_false]
    refine (pr_bind (s := program) (a := P) rfl).trans ?_
    refine (pr_bind (s := program) (a := P) rfl).trans ?_
    rw [hm]
    rfl
  refine (pr_bind (hg _ _)).trans ?_
  unfold binOp
  refine (pr_bind (s := Op.equal t (.agg xs) (.agg xs)) (a := true) ?_).trans rfl
  exact h
theorem eqSpot (cx cy : Bool) (a b : Int) : xBin P .eql 31 cx cy (.agg #[.int .i64 a, .int .i64 b]) (.agg #[.int .i64 a, .int .i64 b]) = some (.bool true) := by
  refine xBin_self _ _ (by kernel_rfl) ?_
  refine pr_eqStruct (d := 9999) (fs := P.fieldsOf 31) (by kernel_rfl) (by kernel_rfl) fun f hf => ?_
  have hl : (P.fieldsOf 31).toList.map (fun f => (f.type, f.offset)) = [(29, 0), (3, 1)] := by kernel_rfl
  have hm : (f.type, f.offset) ∈ [(29, 0), (3, 1)] := by rw [← hl]; exact List.mem_map_of_mem hf
  have hu : P.underlying 29 = some (.int .i64) := by kernel_rfl
  have hu3 : P.underlying 3 = some (.int .i64) := by kernel_rfl
  simp only [List.mem_cons, Prod.mk.injEq, List.not_mem_nil, or_false] at hm
  rcases hm with ⟨h1, h2⟩ | ⟨h1, h2⟩ <;> rw [h1, h2]
  · exact ⟨_, pr_part1 hu rfl, pr_eqInt hu _ _⟩
  · exact ⟨_, pr_part1 hu3 rfl, pr_eqInt hu3 _ _⟩
theorem eqSpans (cx cy : Bool) {xs : Array Value} (h : ∀ j, j < 20 → ∃ n, xs[j]? = some (.int .i64 n)) : xBin P .eql 28 cx cy (.agg xs) (.agg xs) = some (.bool true) := by
  refine xBin_self _ _ (by kernel_rfl) ?_
  have hS : P.underlying 27 = some (.struct (P.fieldsOf 27)) := by kernel_rfl
  have hsz : (P.info? 27).map (·.size) = some 2 := by kernel_rfl
  refine pr_eqArray (d := 9999) (n := 10) (c := 2) (e := 27) (by kernel_rfl) hsz fun i hi => ?_
  have hp : pr P (part 27 xs (i * 2)) = some (.agg (xs.extract (i * 2) (i * 2 + 2))) := by
    unfold part
    refine (pr_bind (pr_isAgg hS)).trans ?_
    exact (pr_bind (pr_sizeOf hsz)).trans rfl
  refine ⟨_, hp, ?_⟩
  obtain ⟨a, ha⟩ := h (i * 2) (by omega)
  obtain ⟨b, hb⟩ := h (i * 2 + 1) (by omega)
  have hsize : i * 2 + 1 < xs.size := (Array.getElem?_eq_some_iff.1 hb).1
  have ea : (xs.extract (i * 2) (i * 2 + 2))[0]? = some (.int .i64 a) := by
    rw [Array.getElem?_extract_of_lt (by omega), ← ha]; exact (Array.getElem?_eq_getElem _).symm
  have eb : (xs.extract (i * 2) (i * 2 + 2))[1]? = some (.int .i64 b) := by
    rw [Array.getElem?_extract_of_lt (by omega), ← hb]; exact (Array.getElem?_eq_getElem _).symm
  refine pr_eqStruct (d := 9998) (by kernel_rfl : P.underlying 27 = some (.struct (P.fieldsOf 27))) (by kernel_rfl) fun f hf => ?_
  have hl : (P.fieldsOf 27).toList.map (fun f => (f.type, f.offset)) = [(3, 0), (3, 1)] := by kernel_rfl
  have hm : (f.type, f.offset) ∈ [(3, 0), (3, 1)] := by rw [← hl]; exact List.mem_map_of_mem hf
  have hu3 : P.underlying 3 = some (.int .i64) := by kernel_rfl
  simp only [List.mem_cons, Prod.mk.injEq, List.not_mem_nil, or_false] at hm
  rcases hm with ⟨h1, h2⟩ | ⟨h1, h2⟩ <;> rw [h1, h2]
  · exact ⟨_, pr_part1 hu3 ea, pr_eqInt hu3 _ _⟩
  · exact ⟨_, pr_part1 hu3 eb, pr_eqInt hu3 _ _⟩
/-! ## What is said of a module does not hang on where its arguments lie -/
section
variable {l l' : List Inst}
/-- The same instructions, but for where their arguments lie. -/
def SameL (l l' : List Inst) : Prop := l'.length = l.length ∧ ∀ (k : Nat) i i', l[k]? = some i → l'[k]? = some i' → ∃ av, i' = i.with av
theorem SameL.at (h : SameL l l') (k : Nat) : (l[k]? = none ∧ l'[k]? = none) ∨ ∃ i av, l[k]? = some i ∧ l'[k]? = some (i.with av) := by
  obtain ⟨h1, h2⟩ := h
  by_cases hk : k < l.length
  · right
    obtain ⟨av, he⟩ := h2 k _ _ (List.getElem?_eq_getElem hk) (List.getElem?_eq_getElem (by omega : k < l'.length))
    exact ⟨l[k], av, List.getElem?_eq_getElem hk, by rw [List.getElem?_eq_getElem (by omega : k < l'.length), he]⟩
  · exact .inl ⟨List.getElem?_eq_none (by omega), List.getElem?_eq_none (by omega)⟩
theorem SameL.pAt (h : SameL l l') (k : Nat) : pAt l' k = pAt l k := by
  unfold Proofs.Ytlmcppbpobnfjaa.pAt
  rcases h.at k with ⟨h1, h2⟩ | ⟨i, av, h1, h2⟩ <;> rw [h1, h2]
  rfl
theorem SameL.opAt (h : SameL l l') (k : Nat) : opAt l' k = opAt l k := by
  unfold Proofs.Ytlmcppbpobnfjaa.opAt
  rcases h.at k with ⟨h1, h2⟩ | ⟨i, av, h1, h2⟩ <;> rw [h1, h2]
  rfl
theorem SameL.models (h : SameL l l') : ∀ n, modelsL l' n = modelsL l n
  | 0 => rfl
  | n + 1 => by simp only [modelsL, h.pAt, h.models n]
theorem SameL.le (h : SameL l l') (p : Int) : ∀ n, leL l' p n = leL l p n
  | 0 => rfl
  | n + 1 => by simp only [leL, h.pAt, h.le p n]
theorem SameL.first (h : SameL l l') : ∀ n, firstL l' n = firstL l n
  | 0 => rfl
  | n + 1 => by simp only [firstL, h.opAt, h.first n]
theorem SameL.cnt (h : SameL l l') (p : Int) : ∀ n, cntL l' p n = cntL l p n
  | 0 => rfl
  | n + 1 => by simp only [cntL, h.pAt, h.cnt p n]
theorem SameL.may (h : SameL l l') (k : Nat) : mayL l' k = mayL l k := by
  unfold mayL aheadL
  simp only [h.pAt, h.opAt, h.models, h.le, h.first]
theorem SameL.good (h : SameL l l') (n : Nat) : GoodL l' n ↔ GoodL l n := by
  unfold GoodL
  simp only [h.may]
theorem SameL.chkR (h : SameL l l') (e : Int) (k : Nat) : ChkR l' e k ↔ ChkR l e k := by
  unfold ChkR openL
  simp only [h.good, h.may, h.models, h.pAt, h.opAt, h.1]
theorem SameL.spans (h : SameL l l') : spansL l' = spansL l := by
  unfold spansL
  simp only [h.cnt, h.1]
theorem SameL.tail {i i' : Inst} {l l' : List Inst} (h : SameL (i :: l) (i' :: l')) : (∃ av, i' = i.with av) ∧ SameL l l' := by
  obtain ⟨h1, h2⟩ := h
  refine ⟨h2 0 i i' rfl rfl, by simpa using h1, fun k a b ha hb => h2 (k + 1) a b (by simpa using ha) (by simpa using hb)⟩
theorem shapeL_same (bound : Int) : ∀ (l l' : List Inst), SameL l l' → ∀ k n, shapeL bound k n l' = shapeL bound k n l
  | [], [], _, _, _ => rfl
  | [], _ :: _, h, _, _ => by have := h.1; simp at this
  | _ :: _, [], h, _, _ => by have := h.1; simp at this
  | i :: l, i' :: l', h, k, n => by
    obtain ⟨⟨av, rfl⟩, ht⟩ := h.tail
    have h1 : rawE (i.with av) bound = rawE i bound := rfl
    have h2 : rawE.roomI (i.with av) = rawE.roomI i := rfl
    simp only [shapeL, h1, h2, shapeL_same bound l l' ht]
theorem SameL.shape (h : SameL l l') (bound : Int) : shapeP bound l' = shapeP bound l := by
  unfold shapeP
  rw [shapeL_same bound l l' h]
theorem SameL.chkM (h : SameL l l') (bound e k : Int) : ChkM bound l' e k ↔ ChkM bound l e k := by
  unfold ChkM
  simp only [h.shape, h.chkR]
end
theorem PartsV.same {m : Modl} {iv : Value} {l' : List Inst} {v v' : Value} (h : PartsV m v) (h' : PartsV (Modl.mk m.gen m.bound iv l') v') (hs : SameL m.insts l') : v' = v := by
  obtain ⟨e, k, hc, rfl⟩ := h
  obtain ⟨e', k', hc', rfl⟩ := h'
  obtain ⟨rfl, rfl⟩ := ((hs.chkM m.bound e' k').1 hc').unique hc
  simp only [hs.spans]
theorem PartsV.ints (m : Modl) (e : Int) : ∀ j, j < 20 → ∃ n, ((if e = 0 then spansL m.insts else zeroSp).toArray)[j]? = some (.int .i64 n) := by
  intro j hj
  split
  · unfold spansL
    refine ⟨(cntL m.insts (((j + 1) / 2 : Nat) : Int) m.insts.length : Int), ?_⟩
    · rw [List.getElem?_toArray, List.getElem?_map, List.getElem?_range hj]; rfl
  · refine ⟨0, ?_⟩
    unfold zeroSp
    rw [List.getElem?_toArray, List.getElem?_replicate, if_pos hj]
section
variable {w0 : World}
theorem c_law {w : World} (h : So w0 w []) (m : Modl) (hi : InstsAt w0 m.iv m.insts) (hz : ∀ i ∈ m.insts, SizedI i) (hl : m.insts.length ≤ 9223372036854775807) :
    Cx P 3 #[m.v] w fun v w => v = .bool true ∧ So w0 w [] := by
  apply F3_ok
  unfold F3 Modl.v
  refine soBox h fun x1 w h => ?_
  have h : So w0 w ((x1, cl m.c 25) :: []) := h
  have hf := h.facts
  simp only [Facts, Modl.c] at hf
  try simp (disch := omega) only [cnd_bool, on_some_eq, Dr_eq, xNil_ptr, xNil_func, xNil_yield, xPick_bool, unw_nil, xRes_ptr, xUn_not, xUn_neg, xEx_tuple, xBin_add, xBin_sub, xBin_mul, xBin_eql, xBin_neq, xBin_lss, xBin_leq, xBin_gtr, xBin_geq, xBin_eqls, xBin_neqs, wI64, oCell_some, List.getElem?_toArray, List.getElem?_cons_zero, List.getElem?_cons_succ, Nat.zero_add, Bool.not_true, Bool.not_false, if_true, if_false, ite_true, ite_false, beq_iff_eq, bne_iff_ne, decide_eq_true_eq, ne_eq, Bool.false_eq_true, Bool.true_eq_false, reduceIte, Option.some.injEq, Int.toNat_natCast, beq_self_eq_true, bne_self_eq_false, Value.cells, splice, List.setIfInBounds_toArray, List.set_cons_zero, List.set_cons_succ, List.size_toArray, List.length_cons, List.length_nil, and_self, Nat.reduceLeDiff, Nat.reduceAdd, Nat.reduceMul, Int.reduceToNat, Int.reduceLT, Int.reduceLE, Int.reduceGT, Int.reduceGE, Int.reduceAdd, Int.reduceSub, Int.reduceMul, Int.reduceNeg, Int.reduceEq, Int.reduceNe, true_and, and_true, Int.cast_ofNat_Int, Nat.le_refl, hf, ld3, ld5, ld23, ln23, ia23, ld25, fa25_1, fa25_2, ld28, ia28, bd28, ld31, fa31_0, bd31, bd31_0, bd31_0_1, ow2, ow3, ow4, ow5, ow6, ow8, ow11, ow20, ow23, cv5_3, Sl.len sl23 hi.1, List.length_map]
  by_cases hbig : 3000 < m.insts.length
  · rw [if_pos (by omega)]
    first | exact h.drop | exact ⟨rfl, h.drop⟩
  rw [if_neg (by omega)]
  refine Cx.mono (c_refParts h m hi (by omega) hz) fun v w hv => ?_
  obtain ⟨hp1, h⟩ := hv
  have hp1' := hp1
  obtain ⟨e, k, hc, rfl⟩ := hp1
  have hints := PartsV.ints m e
  have hsz : (if e = 0 then spansL m.insts else zeroSp).length = 20 := by split; exact spansL_length _; rfl
  have hone : (if e = 0 then spansL m.insts else zeroSp).all one1 = true := by split; exact spansL_one _; rfl
  generalize hsp : (if e = 0 then spansL m.insts else zeroSp) = sp at *
  unfold spotV
  try simp (disch := omega) only [cnd_bool, on_some_eq, Dr_eq, xNil_ptr, xNil_func, xNil_yield, xPick_bool, unw_nil, xRes_ptr, xUn_not, xUn_neg, xEx_tuple, xBin_add, xBin_sub, xBin_mul, xBin_eql, xBin_neq, xBin_lss, xBin_leq, xBin_gtr, xBin_geq, xBin_eqls, xBin_neqs, wI64, oCell_some, List.getElem?_toArray, List.getElem?_cons_zero, List.getElem?_cons_succ, Nat.zero_add, Bool.not_true, Bool.not_false, if_true, if_false, ite_true, ite_false, beq_iff_eq, bne_iff_ne, decide_eq_true_eq, ne_eq, Bool.false_eq_true, Bool.true_eq_false, reduceIte, Option.some.injEq, Int.toNat_natCast, beq_self_eq_true, bne_self_eq_false, Value.cells, splice, List.setIfInBounds_toArray, List.set_cons_zero, List.set_cons_succ, List.size_toArray, List.length_cons, List.length_nil, and_self, Nat.reduceLeDiff, Nat.reduceAdd, Nat.reduceMul, Int.reduceToNat, Int.reduceLT, Int.reduceLE, Int.reduceGT, Int.reduceGE, Int.reduceAdd, Int.reduceSub, Int.reduceMul, Int.reduceNeg, Int.reduceEq, Int.reduceNe, true_and, and_true, Int.cast_ofNat_Int, Nat.le_refl, ld3, ld5, ld23, ln23, ia23, ld25, fa25_1, fa25_2, ld28, ia28, bd28, ld31, fa31_0, bd31, bd31_0, bd31_0_1, ow2, ow3, ow4, ow5, ow6, ow8, ow11, ow20, ow23, cv5_3]
  refine al28 h fun x3 w h => ?_
  refine al31 h fun x4 w h => ?_
  refine soStoreA ty28 1 h (fun w h => ?_) rfl (by simp [hsz]) rfl hone
  simp only [List.set_cons_zero, List.set_cons_succ] at h
  refine soStoreA ty31 0 h (fun w h => ?_) rfl rfl rfl rfl
  simp only [List.set_cons_zero, List.set_cons_succ] at h
  have hf := h.facts
  simp only [Facts, Modl.c] at hf
  try simp (disch := omega) only [cnd_bool, on_some_eq, Dr_eq, xNil_ptr, xNil_func, xNil_yield, xPick_bool, unw_nil, xRes_ptr, xUn_not, xUn_neg, xEx_tuple, xBin_add, xBin_sub, xBin_mul, xBin_eql, xBin_neq, xBin_lss, xBin_leq, xBin_gtr, xBin_geq, xBin_eqls, xBin_neqs, wI64, oCell_some, List.getElem?_toArray, List.getElem?_cons_zero, List.getElem?_cons_succ, Nat.zero_add, Bool.not_true, Bool.not_false, if_true, if_false, ite_true, ite_false, beq_iff_eq, bne_iff_ne, decide_eq_true_eq, ne_eq, Bool.false_eq_true, Bool.true_eq_false, reduceIte, Option.some.injEq, Int.toNat_natCast, beq_self_eq_true, bne_self_eq_false, Value.cells, splice, List.setIfInBounds_toArray, List.set_cons_zero, List.set_cons_succ, List.size_toArray, List.length_cons, List.length_nil, and_self, Nat.reduceLeDiff, Nat.reduceAdd, Nat.reduceMul, Int.reduceToNat, Int.reduceLT, Int.reduceLE, Int.reduceGT, Int.reduceGE, Int.reduceAdd, Int.reduceSub, Int.reduceMul, Int.reduceNeg, Int.reduceEq, Int.reduceNe, true_and, and_true, Int.cast_ofNat_Int, Nat.le_refl, hf, ld3, ld5, ld23, ln23, ia23, ld25, fa25_1, fa25_2, ld28, ia28, bd28, ld31, fa31_0, bd31, bd31_0, bd31_0_1, ow2, ow3, ow4, ow5, ow6, ow8, ow11, ow20, ow23, cv5_3]
  refine Cx.mono (c_copyModule h m hi (by omega) hz) fun v w hv => ?_
  obtain ⟨iv, l', K, rfl, hlen, hsame, hi', h⟩ := hv
  have hSame : SameL m.insts l' := ⟨hlen, hsame⟩
  have hz' : ∀ i ∈ l', SizedI i := by
    intro i him
    obtain ⟨j, hj, rfl⟩ := List.getElem_of_mem him
    obtain ⟨av, he⟩ := hsame j _ _ (List.getElem?_eq_getElem (by omega : j < m.insts.length)) (List.getElem?_eq_getElem hj)
    rw [he]
    have hzj := hz m.insts[j] (List.getElem_mem (by omega : j < m.insts.length))
    exact hzj
  refine Cx.mono (c_parts (w0 := w) (L := []) (So.refl w) (Modl.mk m.gen m.bound iv l') hi' (by simp; omega) hz') fun v w2 hv => ?_
  obtain ⟨hp2, h2⟩ := hv
  have hve := hp1'.same hp2 hSame
  have h := So.base h h2
  subst hve
  unfold spotV
  try simp (disch := omega) only [cnd_bool, on_some_eq, Dr_eq, xNil_ptr, xNil_func, xNil_yield, xPick_bool, unw_nil, xRes_ptr, xUn_not, xUn_neg, xEx_tuple, xBin_add, xBin_sub, xBin_mul, xBin_eql, xBin_neq, xBin_lss, xBin_leq, xBin_gtr, xBin_geq, xBin_eqls, xBin_neqs, wI64, oCell_some, List.getElem?_toArray, List.getElem?_cons_zero, List.getElem?_cons_succ, Nat.zero_add, Bool.not_true, Bool.not_false, if_true, if_false, ite_true, ite_false, beq_iff_eq, bne_iff_ne, decide_eq_true_eq, ne_eq, Bool.false_eq_true, Bool.true_eq_false, reduceIte, Option.some.injEq, Int.toNat_natCast, beq_self_eq_true, bne_self_eq_false, Value.cells, splice, List.setIfInBounds_toArray, List.set_cons_zero, List.set_cons_succ, List.size_toArray, List.length_cons, List.length_nil, and_self, Nat.reduceLeDiff, Nat.reduceAdd, Nat.reduceMul, Int.reduceToNat, Int.reduceLT, Int.reduceLE, Int.reduceGT, Int.reduceGE, Int.reduceAdd, Int.reduceSub, Int.reduceMul, Int.reduceNeg, Int.reduceEq, Int.reduceNe, true_and, and_true, Int.cast_ofNat_Int, Nat.le_refl, ld3, ld5, ld23, ln23, ia23, ld25, fa25_1, fa25_2, ld28, ia28, bd28, ld31, fa31_0, bd31, bd31_0, bd31_0_1, ow2, ow3, ow4, ow5, ow6, ow8, ow11, ow20, ow23, cv5_3]
  have h := h.drops
  refine al28 h fun x5 w h => ?_
  refine al31 h fun x6 w h => ?_
  refine soStoreA ty28 1 h (fun w h => ?_) rfl (by simp [hsz]) rfl hone
  simp only [List.set_cons_zero, List.set_cons_succ] at h
  refine soStoreA ty31 0 h (fun w h => ?_) rfl rfl rfl rfl
  simp only [List.set_cons_zero, List.set_cons_succ] at h
  have hf := h.facts
  simp only [Facts, Modl.c] at hf
  have hall : oRow (some (cl sp.toArray 28)) 0 20 = some (.agg sp.toArray) := oRow_all (by simp [hsz]) _ _
  have heq := eqSpans false false hints
  try simp (disch := omega) only [cnd_bool, on_some_eq, Dr_eq, xNil_ptr, xNil_func, xNil_yield, xPick_bool, unw_nil, xRes_ptr, xUn_not, xUn_neg, xEx_tuple, xBin_add, xBin_sub, xBin_mul, xBin_eql, xBin_neq, xBin_lss, xBin_leq, xBin_gtr, xBin_geq, xBin_eqls, xBin_neqs, wI64, oCell_some, List.getElem?_toArray, List.getElem?_cons_zero, List.getElem?_cons_succ, Nat.zero_add, Bool.not_true, Bool.not_false, if_true, if_false, ite_true, ite_false, beq_iff_eq, bne_iff_ne, decide_eq_true_eq, ne_eq, Bool.false_eq_true, Bool.true_eq_false, reduceIte, Option.some.injEq, Int.toNat_natCast, beq_self_eq_true, bne_self_eq_false, Value.cells, splice, List.setIfInBounds_toArray, List.set_cons_zero, List.set_cons_succ, List.size_toArray, List.length_cons, List.length_nil, and_self, Nat.reduceLeDiff, Nat.reduceAdd, Nat.reduceMul, Int.reduceToNat, Int.reduceLT, Int.reduceLE, Int.reduceGT, Int.reduceGE, Int.reduceAdd, Int.reduceSub, Int.reduceMul, Int.reduceNeg, Int.reduceEq, Int.reduceNe, true_and, and_true, Int.cast_ofNat_Int, Nat.le_refl, hf, ld3, ld5, ld23, ln23, ia23, ld25, fa25_1, fa25_2, ld28, ia28, bd28, ld31, fa31_0, bd31, bd31_0, bd31_0_1, ow2, ow3, ow4, ow5, ow6, ow8, ow11, ow20, ow23, cv5_3, hall, heq, eqSpot]
  exact h.drop.drop.drop.drop.drop
end
end Go.Proofs.Ytlmcppbpobnfjaa

