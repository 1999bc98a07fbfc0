/-
  layout.read, layout.Parts.
-/
import Derived.Test.YtlmcppbpobnfjaaSa
import Derived.Test.YtlmcppbpobnfjaaLp
namespace Go.Proofs.Ytlmcppbpobnfjaa
open Go Go.Vc
set_option linter.unusedSimpArgs false
set_option linter.unusedVariables false
set_option maxRecDepth 20000

def zeroSp : List Value := List.replicate 20 (.int .i64 0)
/-- The places of the ten parts. -/
def spansL (l : List Inst) : List Value := (List.range 20).map fun i => .int .i64 (cntL l (((i + 1) / 2 : Nat) : Int) l.length : Int)
theorem SpI.spans {l : List Inst} {sp : List Value} (h : SpI l sp 10) (hG : GoodL l l.length) : sp = spansL l := by
  obtain ⟨h1, h2⟩ := h
  apply List.ext_getElem?
  intro i
  unfold spansL
  by_cases hi : i < 20
  · obtain ⟨a, b, h3, h4, h5, h6⟩ := h2 (i / 2) (by omega)
    have h5 := h5.cnt hG
    have h6 := h6.cnt hG
    rw [List.getElem?_map, List.getElem?_range hi]
    show _ = some (Value.int .i64 (cntL l (((i + 1) / 2 : Nat) : Int) l.length : Int))
    by_cases he : i % 2 = 0
    · rw [show 2 * (i / 2) = i by omega] at h3
      rw [h3, h5, show (i + 1) / 2 = i / 2 by omega]
    · rw [show 2 * (i / 2) + 1 = i by omega] at h4
      rw [h4, h6, show (i + 1) / 2 = i / 2 + 1 by omega]
  · rw [List.getElem?_eq_none (by omega), List.getElem?_eq_none (by simp; omega)]
theorem TopI.st {l : List Inst} {pos : Nat} (h : TopI l 8 pos) : StL l none pos := by
  obtain ⟨h1, h2, h3, h4, h5⟩ := h
  refine ⟨⟨h1, h2, by rw [h4]; decide⟩, .inl ?_, h5⟩
  have : pos = 0 ∨ pAt l (pos - 1) ≠ 8 := by
    by_cases h0 : pos = 0
    · exact .inl h0
    · have h6 := h3 (pos - 1) (by omega)
      right
      intro h7
      rw [h7] at h6
      exact absurd h6 (by decide)
  refine ⟨?_, this⟩
  unfold aheadL
  rw [if_neg]
  rintro ⟨h6, h7⟩
  rcases this with h | h
  · omega
  · exact h h7
/-- What the cutter leaves, by the document. -/
def CutD (l : List Inst) (ok : Bool) (e : Nat) (sp : List Value) : Prop :=
  e ≤ l.length ∧ (if ok = true then ChkR l 0 0 ∧ sp = spansL l else (e < l.length → ChkR l 50 e) ∧ (e = l.length → ChkR l 51 e))
theorem ResL.cutD {l : List Inst} {ok : Bool} {e : Nat} {sp : List Value} (h : ResL l ok e) (hs : SpI l sp 10) : CutD l ok e sp := by
  unfold ResL at h
  unfold CutD
  cases ok with
  | true =>
    rw [if_pos rfl] at h
    rw [if_pos rfl]
    exact ⟨by omega, .inr (.inr ⟨rfl, rfl, h.2⟩), hs.spans h.2.1⟩
  | false =>
    rw [if_neg (by decide)] at h
    rw [if_neg (by decide)]
    obtain ⟨h1, h2, h3, h4⟩ := h
    exact ⟨h1, fun hl => .inl ⟨rfl, hl, h2, h3 hl⟩, fun he => .inr (.inl ⟨rfl, he, he ▸ h2, h4 he⟩)⟩
theorem cutA_law {w0 w : World} {L : List (Nat × Obj)} {iv v : Value} {l : List Inst} {b : Nat} (h : CutA w0 L iv zeroSp l b v w) :
    ∃ ok e sp fv M, v = .bool ok ∧ sp.length = 20 ∧ CutD l ok e sp ∧ So w0 w ((b, cl (cutC iv e sp fv) 59) :: (M ++ L)) := by
  have ht := topP_law (l := l) 8 0 0 zeroSp rfl (TopI.zero l) ⟨rfl, fun q hq => by omega⟩
  have hlen := (topP_spans l 8 0 0 zeroSp (Nat.zero_le _)).1
  unfold CutA at h
  by_cases h1 : (topP l 8 0 0 zeroSp).1 = true
  · rw [if_pos h1] at h ht
    obtain ⟨ht1, ht2⟩ := ht
    obtain ⟨ok, e, fs, fv, css, Mf, Ms, hc, hv, he, hfl, hof, hfc, hso⟩ := h
    have hs10 : SpI l (spansP l zeroSp) 10 := by
      unfold spansP
      exact (ht2.set (p := 8) (by omega) ht1.posP (PosP.high (by omega))).set (p := 9) (by omega) (PosP.high (by omega)) (PosP.high (by omega))
    exact ⟨ok, e, _, fv, Mf ++ Ms, hv, hs10.1, (cut_law hc ht1.st).cutD hs10, by simpa using hso⟩
  · rw [if_neg h1] at h ht
    obtain ⟨hv, fv, hso⟩ := h
    obtain ⟨h2, h3, h4, h5⟩ := ht
    refine ⟨false, _, _, fv, [], hv, hlen.trans rfl, ⟨h2, ?_⟩, by simpa using hso⟩
    rw [if_neg (by decide)]
    exact ⟨fun hl => .inl ⟨rfl, hl, h3, h5 hl⟩, fun he => .inr (.inl ⟨rfl, he, he ▸ h3, .inl (he ▸ h4)⟩)⟩
/-- What Check says of a module. -/
def ChkM (bound : Int) (l : List Inst) (e k : Int) : Prop := if (shapeP bound l).1 ≠ 0 then (e, k) = shapeP bound l else ∃ n : Nat, k = (n : Int) ∧ ChkR l e n
theorem ChkM.unique {bound : Int} {l : List Inst} {e e' k k' : Int} (h : ChkM bound l e k) (h' : ChkM bound l e' k') : e = e' ∧ k = k' := by
  unfold ChkM at h h'
  by_cases hs : (shapeP bound l).1 ≠ 0
  · rw [if_pos hs] at h h'
    have := h.trans h'.symm
    simpa using this
  · rw [if_neg hs] at h h'
    obtain ⟨n, rfl, h⟩ := h
    obtain ⟨n', rfl, h'⟩ := h'
    obtain ⟨h1, h2⟩ := h.unique h'
    exact ⟨h1, by rw [h2]⟩
section
variable {w0 : World} {L : List (Nat × Obj)}
def ReadQ (w0 : World) (L : List (Nat × Obj)) (m : Modl) (v : Value) (w : World) : Prop :=
  ∃ e k, ChkM m.bound m.insts e k ∧ (if e = 0 then ∃ b pos fv M, v = .tuple #[.pointer (some ⟨b, 0, none⟩), spotV (e, k)] ∧ So w0 w ((b, cl (cutC m.iv pos (spansL m.insts) fv) 59) :: (M ++ L))
    else v = .tuple #[.pointer none, spotV (e, k)] ∧ So w0 w L)
theorem c_read {w : World} (h : So w0 w L) (m : Modl) (hi : InstsAt w0 m.iv m.insts) (hl : m.insts.length ≤ 1048576) (hz : ∀ i ∈ m.insts, SizedI i) :
    Cx P 19 #[m.v] w (ReadQ w0 L m) := by
  apply F19_ok
  unfold F19 Modl.v
  refine soBox h fun x1 w h => ?_
  have h : So w0 w ((x1, cl m.c 25) :: L) := h
  refine al31 h fun x3 w h => ?_
  have hf := h.facts
  simp only [Facts, Modl.c] at hf
  try simp (disch := omega) only [cnd_bool, on_some_eq, Dr_eq, xNil_ptr, xNil_func, xNil_yield, xPick_bool, unw_nil, xRes_ptr, xUn_not, xUn_neg, xEx_tuple, xBin_add, xBin_sub, xBin_mul, xBin_eql, xBin_neq, xBin_lss, xBin_leq, xBin_gtr, xBin_geq, xBin_eqls, xBin_neqs, wI64, oCell_some, List.getElem?_toArray, List.getElem?_cons_zero, List.getElem?_cons_succ, Nat.zero_add, Bool.not_true, Bool.not_false, if_true, if_false, ite_true, ite_false, beq_iff_eq, bne_iff_ne, decide_eq_true_eq, ne_eq, Bool.false_eq_true, Bool.true_eq_false, reduceIte, Option.some.injEq, Int.toNat_natCast, beq_self_eq_true, bne_self_eq_false, Value.cells, splice, List.setIfInBounds_toArray, List.set_cons_zero, List.set_cons_succ, List.size_toArray, List.length_cons, List.length_nil, and_self, Nat.reduceLeDiff, Nat.reduceAdd, Nat.reduceMul, Int.reduceToNat, Int.reduceLT, Int.reduceLE, Int.reduceGT, Int.reduceGE, Int.reduceAdd, Int.reduceSub, Int.reduceMul, Int.reduceNeg, Int.reduceEq, Int.reduceNe, true_and, and_true, Int.cast_ofNat_Int, Nat.le_refl, hf, ld3, ld23, ln23, ia23, ld25, fa25_1, fa25_2, ld28, ia28, bd28, ld29, ld31, fa31_0, bd31, bd31_0, bd31_0_1, ld59, fa59_0, fa59_1, fa59_2, fa59_3, bd59_0, eql54_n, eql54_s, ow2, ow3, ow4, ow5, ow6, ow8, ow11, ow20, ow23]
  refine Cx.mono (c_shape h m hi hl hz) fun v w hv => ?_
  obtain ⟨rfl, h⟩ := hv
  unfold spotV
  refine al31 h fun x4 w h => ?_
  try simp only [Facts, and_true, Value.cells, List.setIfInBounds_toArray, List.set_cons_zero, List.set_cons_succ, splice, Nat.zero_add, Nat.reduceAdd, List.cons_append, List.nil_append] at h
  have hf := h.facts
  simp only [Facts, and_true, Value.cells, List.setIfInBounds_toArray, List.set_cons_zero, List.set_cons_succ, splice, Nat.zero_add, Nat.reduceAdd, List.cons_append, List.nil_append] at hf
  refine soStoreA ty31 0 h (fun w h => ?_) rfl rfl rfl rfl
  simp only [List.set_cons_zero] at h
  have hf := h.facts
  simp only [Facts, Modl.c] at hf
  try simp (disch := omega) only [cnd_bool, on_some_eq, Dr_eq, xNil_ptr, xNil_func, xNil_yield, xPick_bool, unw_nil, xRes_ptr, xUn_not, xUn_neg, xEx_tuple, xBin_add, xBin_sub, xBin_mul, xBin_eql, xBin_neq, xBin_lss, xBin_leq, xBin_gtr, xBin_geq, xBin_eqls, xBin_neqs, wI64, oCell_some, List.getElem?_toArray, List.getElem?_cons_zero, List.getElem?_cons_succ, Nat.zero_add, Bool.not_true, Bool.not_false, if_true, if_false, ite_true, ite_false, beq_iff_eq, bne_iff_ne, decide_eq_true_eq, ne_eq, Bool.false_eq_true, Bool.true_eq_false, reduceIte, Option.some.injEq, Int.toNat_natCast, beq_self_eq_true, bne_self_eq_false, Value.cells, splice, List.setIfInBounds_toArray, List.set_cons_zero, List.set_cons_succ, List.size_toArray, List.length_cons, List.length_nil, and_self, Nat.reduceLeDiff, Nat.reduceAdd, Nat.reduceMul, Int.reduceToNat, Int.reduceLT, Int.reduceLE, Int.reduceGT, Int.reduceGE, Int.reduceAdd, Int.reduceSub, Int.reduceMul, Int.reduceNeg, Int.reduceEq, Int.reduceNe, true_and, and_true, Int.cast_ofNat_Int, Nat.le_refl, hf, ld3, ld23, ln23, ia23, ld25, fa25_1, fa25_2, ld28, ia28, bd28, ld29, ld31, fa31_0, bd31, bd31_0, bd31_0_1, ld59, fa59_0, fa59_1, fa59_2, fa59_3, bd59_0, eql54_n, eql54_s, ow2, ow3, ow4, ow5, ow6, ow8, ow11, ow20, ow23]
  by_cases hs : (shapeP m.bound m.insts).1 ≠ 0
  · rw [if_pos hs]
    have hf0 := h.facts
    have h := h.drew
    have hf := h.facts
    simp only [Facts, Modl.c] at hf hf0
    try simp (disch := omega) only [cnd_bool, on_some_eq, Dr_eq, xNil_ptr, xNil_func, xNil_yield, xPick_bool, unw_nil, xRes_ptr, xUn_not, xUn_neg, xEx_tuple, xBin_add, xBin_sub, xBin_mul, xBin_eql, xBin_neq, xBin_lss, xBin_leq, xBin_gtr, xBin_geq, xBin_eqls, xBin_neqs, wI64, oCell_some, List.getElem?_toArray, List.getElem?_cons_zero, List.getElem?_cons_succ, Nat.zero_add, Bool.not_true, Bool.not_false, if_true, if_false, ite_true, ite_false, beq_iff_eq, bne_iff_ne, decide_eq_true_eq, ne_eq, Bool.false_eq_true, Bool.true_eq_false, reduceIte, Option.some.injEq, Int.toNat_natCast, beq_self_eq_true, bne_self_eq_false, Value.cells, splice, List.setIfInBounds_toArray, List.set_cons_zero, List.set_cons_succ, List.size_toArray, List.length_cons, List.length_nil, and_self, Nat.reduceLeDiff, Nat.reduceAdd, Nat.reduceMul, Int.reduceToNat, Int.reduceLT, Int.reduceLE, Int.reduceGT, Int.reduceGE, Int.reduceAdd, Int.reduceSub, Int.reduceMul, Int.reduceNeg, Int.reduceEq, Int.reduceNe, true_and, and_true, Int.cast_ofNat_Int, Nat.le_refl, hf, ld3, ld23, ln23, ia23, ld25, fa25_1, fa25_2, ld28, ia28, bd28, ld29, ld31, fa31_0, bd31, bd31_0, bd31_0_1, ld59, fa59_0, fa59_1, fa59_2, fa59_3, bd59_0, eql54_n, eql54_s, ow2, ow3, ow4, ow5, ow6, ow8, ow11, ow20, ow23, hf0]
    refine soStoreA ty31 1 h (fun w h => ?_) rfl rfl rfl rfl
    simp only [List.set_cons_zero, List.set_cons_succ] at h
    have hf := h.facts
    simp only [Facts] at hf
    try simp (disch := omega) only [cnd_bool, on_some_eq, Dr_eq, xNil_ptr, xNil_func, xNil_yield, xPick_bool, unw_nil, xRes_ptr, xUn_not, xUn_neg, xEx_tuple, xBin_add, xBin_sub, xBin_mul, xBin_eql, xBin_neq, xBin_lss, xBin_leq, xBin_gtr, xBin_geq, xBin_eqls, xBin_neqs, wI64, oCell_some, List.getElem?_toArray, List.getElem?_cons_zero, List.getElem?_cons_succ, Nat.zero_add, Bool.not_true, Bool.not_false, if_true, if_false, ite_true, ite_false, beq_iff_eq, bne_iff_ne, decide_eq_true_eq, ne_eq, Bool.false_eq_true, Bool.true_eq_false, reduceIte, Option.some.injEq, Int.toNat_natCast, beq_self_eq_true, bne_self_eq_false, Value.cells, splice, List.setIfInBounds_toArray, List.set_cons_zero, List.set_cons_succ, List.size_toArray, List.length_cons, List.length_nil, and_self, Nat.reduceLeDiff, Nat.reduceAdd, Nat.reduceMul, Int.reduceToNat, Int.reduceLT, Int.reduceLE, Int.reduceGT, Int.reduceGE, Int.reduceAdd, Int.reduceSub, Int.reduceMul, Int.reduceNeg, Int.reduceEq, Int.reduceNe, true_and, and_true, Int.cast_ofNat_Int, Nat.le_refl, hf, ld3, ld23, ln23, ia23, ld25, fa25_1, fa25_2, ld28, ia28, bd28, ld29, ld31, fa31_0, bd31, bd31_0, bd31_0_1, ld59, fa59_0, fa59_1, fa59_2, fa59_3, bd59_0, eql54_n, eql54_s, ow2, ow3, ow4, ow5, ow6, ow8, ow11, ow20, ow23]
    refine ⟨(shapeP m.bound m.insts).1, (shapeP m.bound m.insts).2, ?_, ?_⟩
    · unfold ChkM; rw [if_pos hs]
    · rw [if_neg hs]
      exact ⟨rfl, h.drop.drop.drop⟩
  rw [if_neg hs]
  obtain ⟨ia, ic, hiv⟩ := hi.1.shape
  have hbd : xBuild P 59 #[(0, m.iv)] = some (.agg (cutC m.iv 0 zeroSp (.slice none 0 0))) := by
    rw [hiv]; exact bd59_0 _ _ _
  rw [hbd, on_some_eq]
  have hchk : ∀ e (n : Nat), ChkR m.insts e n → ChkM m.bound m.insts e n := fun e n hc => by unfold ChkM; rw [if_neg hs]; exact ⟨n, rfl, hc⟩
  refine soBox h fun x5 w h => ?_
  have h : So w0 w ((x5, cl (cutC m.iv 0 zeroSp (.slice none 0 0)) 59) :: (x4, cl #[.int .i64 (shapeP m.bound m.insts).1, .int .i64 (shapeP m.bound m.insts).2] 31) :: (x3, cl #[.int .i64 0, .int .i64 0] 31) :: (x1, cl m.c 25) :: L) := h
  try simp (disch := omega) only [cnd_bool, on_some_eq, Dr_eq, xNil_ptr, xNil_func, xNil_yield, xPick_bool, unw_nil, xRes_ptr, xUn_not, xUn_neg, xEx_tuple, xBin_add, xBin_sub, xBin_mul, xBin_eql, xBin_neq, xBin_lss, xBin_leq, xBin_gtr, xBin_geq, xBin_eqls, xBin_neqs, wI64, oCell_some, List.getElem?_toArray, List.getElem?_cons_zero, List.getElem?_cons_succ, Nat.zero_add, Bool.not_true, Bool.not_false, if_true, if_false, ite_true, ite_false, beq_iff_eq, bne_iff_ne, decide_eq_true_eq, ne_eq, Bool.false_eq_true, Bool.true_eq_false, reduceIte, Option.some.injEq, Int.toNat_natCast, beq_self_eq_true, bne_self_eq_false, Value.cells, splice, List.setIfInBounds_toArray, List.set_cons_zero, List.set_cons_succ, List.size_toArray, List.length_cons, List.length_nil, and_self, Nat.reduceLeDiff, Nat.reduceAdd, Nat.reduceMul, Int.reduceToNat, Int.reduceLT, Int.reduceLE, Int.reduceGT, Int.reduceGE, Int.reduceAdd, Int.reduceSub, Int.reduceMul, Int.reduceNeg, Int.reduceEq, Int.reduceNe, true_and, and_true, Int.cast_ofNat_Int, Nat.le_refl, ld3, ld23, ln23, ia23, ld25, fa25_1, fa25_2, ld28, ia28, bd28, ld29, ld31, fa31_0, bd31, bd31_0, bd31_0_1, ld59, fa59_0, fa59_1, fa59_2, fa59_3, bd59_0, eql54_n, eql54_s, ow2, ow3, ow4, ow5, ow6, ow8, ow11, ow20, ow23]
  refine Cx.mono (c_cut hi (by omega) rfl h) fun v w hv => ?_
  obtain ⟨ok, e, sp, fv, M, rfl, hsl, hd, h⟩ := cutA_law hv
  obtain ⟨hel, hd⟩ := hd
  have hf := h.facts
  simp only [Facts] at hf
  cases ok with
  | true =>
    simp only [if_true] at hd
    obtain ⟨hd, rfl⟩ := hd
    try simp (disch := omega) only [cnd_bool, on_some_eq, Dr_eq, xNil_ptr, xNil_func, xNil_yield, xPick_bool, unw_nil, xRes_ptr, xUn_not, xUn_neg, xEx_tuple, xBin_add, xBin_sub, xBin_mul, xBin_eql, xBin_neq, xBin_lss, xBin_leq, xBin_gtr, xBin_geq, xBin_eqls, xBin_neqs, wI64, oCell_some, List.getElem?_toArray, List.getElem?_cons_zero, List.getElem?_cons_succ, Nat.zero_add, Bool.not_true, Bool.not_false, if_true, if_false, ite_true, ite_false, beq_iff_eq, bne_iff_ne, decide_eq_true_eq, ne_eq, Bool.false_eq_true, Bool.true_eq_false, reduceIte, Option.some.injEq, Int.toNat_natCast, beq_self_eq_true, bne_self_eq_false, Value.cells, splice, List.setIfInBounds_toArray, List.set_cons_zero, List.set_cons_succ, List.size_toArray, List.length_cons, List.length_nil, and_self, Nat.reduceLeDiff, Nat.reduceAdd, Nat.reduceMul, Int.reduceToNat, Int.reduceLT, Int.reduceLE, Int.reduceGT, Int.reduceGE, Int.reduceAdd, Int.reduceSub, Int.reduceMul, Int.reduceNeg, Int.reduceEq, Int.reduceNe, true_and, and_true, Int.cast_ofNat_Int, Nat.le_refl, hf, ld3, ld23, ln23, ia23, ld25, fa25_1, fa25_2, ld28, ia28, bd28, ld29, ld31, fa31_0, bd31, bd31_0, bd31_0_1, ld59, fa59_0, fa59_1, fa59_2, fa59_3, bd59_0, eql54_n, eql54_s, ow2, ow3, ow4, ow5, ow6, ow8, ow11, ow20, ow23]
    have h := h.perm (M := (x3, cl #[.int .i64 0, .int .i64 0] 31) :: (x5, cl (cutC m.iv e (spansL m.insts) fv) 59) :: (M ++ ((x4, cl #[.int .i64 (shapeP m.bound m.insts).1, .int .i64 (shapeP m.bound m.insts).2] 31) :: (x1, cl m.c 25) :: L))) (perm_of fun c d ha hc h0 => by simp only [ha, hc, h0]; omega)
    refine soStoreA ty31 0 h (fun w h => ?_) rfl rfl rfl rfl
    simp only [List.set_cons_zero] at h
    have hf := h.facts
    simp only [Facts] at hf
    try simp (disch := omega) only [cnd_bool, on_some_eq, Dr_eq, xNil_ptr, xNil_func, xNil_yield, xPick_bool, unw_nil, xRes_ptr, xUn_not, xUn_neg, xEx_tuple, xBin_add, xBin_sub, xBin_mul, xBin_eql, xBin_neq, xBin_lss, xBin_leq, xBin_gtr, xBin_geq, xBin_eqls, xBin_neqs, wI64, oCell_some, List.getElem?_toArray, List.getElem?_cons_zero, List.getElem?_cons_succ, Nat.zero_add, Bool.not_true, Bool.not_false, if_true, if_false, ite_true, ite_false, beq_iff_eq, bne_iff_ne, decide_eq_true_eq, ne_eq, Bool.false_eq_true, Bool.true_eq_false, reduceIte, Option.some.injEq, Int.toNat_natCast, beq_self_eq_true, bne_self_eq_false, Value.cells, splice, List.setIfInBounds_toArray, List.set_cons_zero, List.set_cons_succ, List.size_toArray, List.length_cons, List.length_nil, and_self, Nat.reduceLeDiff, Nat.reduceAdd, Nat.reduceMul, Int.reduceToNat, Int.reduceLT, Int.reduceLE, Int.reduceGT, Int.reduceGE, Int.reduceAdd, Int.reduceSub, Int.reduceMul, Int.reduceNeg, Int.reduceEq, Int.reduceNe, true_and, and_true, Int.cast_ofNat_Int, Nat.le_refl, hf, ld3, ld23, ln23, ia23, ld25, fa25_1, fa25_2, ld28, ia28, bd28, ld29, ld31, fa31_0, bd31, bd31_0, bd31_0_1, ld59, fa59_0, fa59_1, fa59_2, fa59_3, bd59_0, eql54_n, eql54_s, ow2, ow3, ow4, ow5, ow6, ow8, ow11, ow20, ow23]
    refine ⟨0, 0, hchk 0 0 hd, ?_⟩
    rw [if_pos rfl]
    refine ⟨x5, e, fv, M, rfl, ?_⟩
    exact (h.drop.perm (M := (x4, cl #[.int .i64 (shapeP m.bound m.insts).1, .int .i64 (shapeP m.bound m.insts).2] 31) :: (x1, cl m.c 25) :: ((x5, cl (cutC m.iv e (spansL m.insts) fv) 59) :: (M ++ L))) (perm_of fun c d ha hc h0 => by simp only [ha, hc, h0]; omega)).drop.drop
  | false =>
    simp only [Bool.false_eq_true, if_false] at hd
    have h := h.perm (M := (x3, cl #[.int .i64 0, .int .i64 0] 31) :: (x1, cl m.c 25) :: (x5, cl (cutC m.iv e sp fv) 59) :: (M ++ ((x4, cl #[.int .i64 (shapeP m.bound m.insts).1, .int .i64 (shapeP m.bound m.insts).2] 31) :: L))) (perm_of fun c d ha hc h0 => by simp only [ha, hc, h0]; omega)
    have h := h.drew
    have hf0 := h.facts
    have h := h.drew
    have hf := h.facts
    simp only [Facts, Modl.c] at hf hf0
    try simp (disch := omega) only [cnd_bool, on_some_eq, Dr_eq, xNil_ptr, xNil_func, xNil_yield, xPick_bool, unw_nil, xRes_ptr, xUn_not, xUn_neg, xEx_tuple, xBin_add, xBin_sub, xBin_mul, xBin_eql, xBin_neq, xBin_lss, xBin_leq, xBin_gtr, xBin_geq, xBin_eqls, xBin_neqs, wI64, oCell_some, List.getElem?_toArray, List.getElem?_cons_zero, List.getElem?_cons_succ, Nat.zero_add, Bool.not_true, Bool.not_false, if_true, if_false, ite_true, ite_false, beq_iff_eq, bne_iff_ne, decide_eq_true_eq, ne_eq, Bool.false_eq_true, Bool.true_eq_false, reduceIte, Option.some.injEq, Int.toNat_natCast, beq_self_eq_true, bne_self_eq_false, Value.cells, splice, List.setIfInBounds_toArray, List.set_cons_zero, List.set_cons_succ, List.size_toArray, List.length_cons, List.length_nil, and_self, Nat.reduceLeDiff, Nat.reduceAdd, Nat.reduceMul, Int.reduceToNat, Int.reduceLT, Int.reduceLE, Int.reduceGT, Int.reduceGE, Int.reduceAdd, Int.reduceSub, Int.reduceMul, Int.reduceNeg, Int.reduceEq, Int.reduceNe, true_and, and_true, Int.cast_ofNat_Int, Nat.le_refl, hf, ld3, ld23, ln23, ia23, ld25, fa25_1, fa25_2, ld28, ia28, bd28, ld29, ld31, fa31_0, bd31, bd31_0, bd31_0_1, ld59, fa59_0, fa59_1, fa59_2, fa59_3, bd59_0, eql54_n, eql54_s, ow2, ow3, ow4, ow5, ow6, ow8, ow11, ow20, ow23, hf0, cutC_1, Sl.len sl23 hi.1, List.length_map]
    have hdrop : ∀ w (c3 : Array Value), So w0 w ((x3, cl c3 31) :: (x1, cl m.c 25) :: (x5, cl (cutC m.iv e sp fv) 59) :: (M ++ ((x4, cl #[.int .i64 (shapeP m.bound m.insts).1, .int .i64 (shapeP m.bound m.insts).2] 31) :: L))) → So w0 w L :=
      fun w c3 h => h.drop.drop.drop.drops.drop
    by_cases hlt : e < m.insts.length
    · rw [if_pos (by omega)]
      refine soStoreA ty31 0 h (fun w h => ?_) rfl rfl rfl rfl
      simp only [List.set_cons_zero] at h
      have hf := h.facts
      simp only [Facts] at hf
      try simp (disch := omega) only [cnd_bool, on_some_eq, Dr_eq, xNil_ptr, xNil_func, xNil_yield, xPick_bool, unw_nil, xRes_ptr, xUn_not, xUn_neg, xEx_tuple, xBin_add, xBin_sub, xBin_mul, xBin_eql, xBin_neq, xBin_lss, xBin_leq, xBin_gtr, xBin_geq, xBin_eqls, xBin_neqs, wI64, oCell_some, List.getElem?_toArray, List.getElem?_cons_zero, List.getElem?_cons_succ, Nat.zero_add, Bool.not_true, Bool.not_false, if_true, if_false, ite_true, ite_false, beq_iff_eq, bne_iff_ne, decide_eq_true_eq, ne_eq, Bool.false_eq_true, Bool.true_eq_false, reduceIte, Option.some.injEq, Int.toNat_natCast, beq_self_eq_true, bne_self_eq_false, Value.cells, splice, List.setIfInBounds_toArray, List.set_cons_zero, List.set_cons_succ, List.size_toArray, List.length_cons, List.length_nil, and_self, Nat.reduceLeDiff, Nat.reduceAdd, Nat.reduceMul, Int.reduceToNat, Int.reduceLT, Int.reduceLE, Int.reduceGT, Int.reduceGE, Int.reduceAdd, Int.reduceSub, Int.reduceMul, Int.reduceNeg, Int.reduceEq, Int.reduceNe, true_and, and_true, Int.cast_ofNat_Int, Nat.le_refl, hf, ld3, ld23, ln23, ia23, ld25, fa25_1, fa25_2, ld28, ia28, bd28, ld29, ld31, fa31_0, bd31, bd31_0, bd31_0_1, ld59, fa59_0, fa59_1, fa59_2, fa59_3, bd59_0, eql54_n, eql54_s, ow2, ow3, ow4, ow5, ow6, ow8, ow11, ow20, ow23]
      refine ⟨50, e, hchk _ _ (hd.1 hlt), ?_⟩
      rw [if_neg (by decide)]
      exact ⟨rfl, hdrop _ _ h⟩
    · rw [if_neg (by omega)]
      refine soStoreA ty31 0 h (fun w h => ?_) rfl rfl rfl rfl
      simp only [List.set_cons_zero] at h
      have hf := h.facts
      simp only [Facts] at hf
      try simp (disch := omega) only [cnd_bool, on_some_eq, Dr_eq, xNil_ptr, xNil_func, xNil_yield, xPick_bool, unw_nil, xRes_ptr, xUn_not, xUn_neg, xEx_tuple, xBin_add, xBin_sub, xBin_mul, xBin_eql, xBin_neq, xBin_lss, xBin_leq, xBin_gtr, xBin_geq, xBin_eqls, xBin_neqs, wI64, oCell_some, List.getElem?_toArray, List.getElem?_cons_zero, List.getElem?_cons_succ, Nat.zero_add, Bool.not_true, Bool.not_false, if_true, if_false, ite_true, ite_false, beq_iff_eq, bne_iff_ne, decide_eq_true_eq, ne_eq, Bool.false_eq_true, Bool.true_eq_false, reduceIte, Option.some.injEq, Int.toNat_natCast, beq_self_eq_true, bne_self_eq_false, Value.cells, splice, List.setIfInBounds_toArray, List.set_cons_zero, List.set_cons_succ, List.size_toArray, List.length_cons, List.length_nil, and_self, Nat.reduceLeDiff, Nat.reduceAdd, Nat.reduceMul, Int.reduceToNat, Int.reduceLT, Int.reduceLE, Int.reduceGT, Int.reduceGE, Int.reduceAdd, Int.reduceSub, Int.reduceMul, Int.reduceNeg, Int.reduceEq, Int.reduceNe, true_and, and_true, Int.cast_ofNat_Int, Nat.le_refl, hf, ld3, ld23, ln23, ia23, ld25, fa25_1, fa25_2, ld28, ia28, bd28, ld29, ld31, fa31_0, bd31, bd31_0, bd31_0_1, ld59, fa59_0, fa59_1, fa59_2, fa59_3, bd59_0, eql54_n, eql54_s, ow2, ow3, ow4, ow5, ow6, ow8, ow11, ow20, ow23]
      refine ⟨51, e, hchk _ _ (hd.2 (by omega)), ?_⟩
      rw [if_neg (by decide)]
      exact ⟨rfl, hdrop _ _ h⟩
theorem cutC_row (iv : Value) (pos : Nat) {sp : List Value} (hs : sp.length = 20) (fv : Value) (t : TypeId) : oRow (some (cl (cutC iv pos sp fv) t)) 2 20 = some (.agg sp.toArray) := by
  have h23 := cutC_size iv pos hs fv
  refine (oRow_some _ _ _ _ _ (by omega)).trans ?_
  congr 2
  unfold cutC
  simp [hs]
theorem spansL_length (l : List Inst) : (spansL l).length = 20 := by unfold spansL; simp
theorem spansL_one (l : List Inst) : (spansL l).all one1 = true := by
  rw [List.all_eq_true]
  intro x hx
  unfold spansL at hx
  obtain ⟨i, _, rfl⟩ := List.mem_map.1 hx
  rfl
/-- What Parts says of a module. -/
def PartsV (m : Modl) (v : Value) : Prop := ∃ e k, ChkM m.bound m.insts e k ∧ v = .tuple #[.agg (if e = 0 then spansL m.insts else zeroSp).toArray, spotV (e, k)]
theorem c_parts {w : World} (h : So w0 w L) (m : Modl) (hi : InstsAt w0 m.iv m.insts) (hl : m.insts.length ≤ 1048576) (hz : ∀ i ∈ m.insts, SizedI i) :
    Cx P 6 #[m.v] w fun v w => PartsV m v ∧ So w0 w L := by
  apply F6_ok
  unfold F6 Modl.v
  refine soBox h fun x1 w h => ?_
  have h : So w0 w ((x1, cl m.c 25) :: L) := h
  refine al28 h fun x2 w h => ?_
  refine al31 h fun x3 w h => ?_
  have h : So w0 w ((x3, cl #[.int .i64 0, .int .i64 0] 31) :: (x2, cl zeroSp.toArray 28) :: (x1, cl m.c 25) :: L) := h
  have hf := h.facts
  simp only [Facts, Modl.c] at hf
  try simp (disch := omega) only [cnd_bool, on_some_eq, Dr_eq, xNil_ptr, xNil_func, xNil_yield, xPick_bool, unw_nil, xRes_ptr, xUn_not, xUn_neg, xEx_tuple, xBin_add, xBin_sub, xBin_mul, xBin_eql, xBin_neq, xBin_lss, xBin_leq, xBin_gtr, xBin_geq, xBin_eqls, xBin_neqs, wI64, oCell_some, List.getElem?_toArray, List.getElem?_cons_zero, List.getElem?_cons_succ, Nat.zero_add, Bool.not_true, Bool.not_false, if_true, if_false, ite_true, ite_false, beq_iff_eq, bne_iff_ne, decide_eq_true_eq, ne_eq, Bool.false_eq_true, Bool.true_eq_false, reduceIte, Option.some.injEq, Int.toNat_natCast, beq_self_eq_true, bne_self_eq_false, Value.cells, splice, List.setIfInBounds_toArray, List.set_cons_zero, List.set_cons_succ, List.size_toArray, List.length_cons, List.length_nil, and_self, Nat.reduceLeDiff, Nat.reduceAdd, Nat.reduceMul, Int.reduceToNat, Int.reduceLT, Int.reduceLE, Int.reduceGT, Int.reduceGE, Int.reduceAdd, Int.reduceSub, Int.reduceMul, Int.reduceNeg, Int.reduceEq, Int.reduceNe, true_and, and_true, Int.cast_ofNat_Int, Nat.le_refl, hf, ld3, ld23, ln23, ia23, ld25, fa25_1, fa25_2, ld28, ia28, bd28, ld29, ld31, fa31_0, bd31, bd31_0, bd31_0_1, ld59, fa59_0, fa59_1, fa59_2, fa59_3, bd59_0, eql54_n, eql54_s, ow2, ow3, ow4, ow5, ow6, ow8, ow11, ow20, ow23]
  refine Cx.mono (c_read h m hi hl hz) fun v w hv => ?_
  obtain ⟨e, k, hc, hv⟩ := hv
  by_cases he : e = 0
  · rw [if_pos he] at hv
    obtain ⟨b, pos, fv, M, rfl, h⟩ := hv
    unfold spotV
    try simp (disch := omega) only [cnd_bool, on_some_eq, Dr_eq, xNil_ptr, xNil_func, xNil_yield, xPick_bool, unw_nil, xRes_ptr, xUn_not, xUn_neg, xEx_tuple, xBin_add, xBin_sub, xBin_mul, xBin_eql, xBin_neq, xBin_lss, xBin_leq, xBin_gtr, xBin_geq, xBin_eqls, xBin_neqs, wI64, oCell_some, List.getElem?_toArray, List.getElem?_cons_zero, List.getElem?_cons_succ, Nat.zero_add, Bool.not_true, Bool.not_false, if_true, if_false, ite_true, ite_false, beq_iff_eq, bne_iff_ne, decide_eq_true_eq, ne_eq, Bool.false_eq_true, Bool.true_eq_false, reduceIte, Option.some.injEq, Int.toNat_natCast, beq_self_eq_true, bne_self_eq_false, Value.cells, splice, List.setIfInBounds_toArray, List.set_cons_zero, List.set_cons_succ, List.size_toArray, List.length_cons, List.length_nil, and_self, Nat.reduceLeDiff, Nat.reduceAdd, Nat.reduceMul, Int.reduceToNat, Int.reduceLT, Int.reduceLE, Int.reduceGT, Int.reduceGE, Int.reduceAdd, Int.reduceSub, Int.reduceMul, Int.reduceNeg, Int.reduceEq, Int.reduceNe, true_and, and_true, Int.cast_ofNat_Int, Nat.le_refl, ld3, ld23, ln23, ia23, ld25, fa25_1, fa25_2, ld28, ia28, bd28, ld29, ld31, fa31_0, bd31, bd31_0, bd31_0_1, ld59, fa59_0, fa59_1, fa59_2, fa59_3, bd59_0, eql54_n, eql54_s, ow2, ow3, ow4, ow5, ow6, ow8, ow11, ow20, ow23]
    refine al31 h fun x5 w h => ?_
    try simp only [Facts, and_true, Value.cells, List.setIfInBounds_toArray, List.set_cons_zero, List.set_cons_succ, splice, Nat.zero_add, Nat.reduceAdd, List.cons_append, List.nil_append] at h
    have hf := h.facts
    simp only [Facts, and_true, Value.cells, List.setIfInBounds_toArray, List.set_cons_zero, List.set_cons_succ, splice, Nat.zero_add, Nat.reduceAdd, List.cons_append, List.nil_append] at hf
    refine soStoreA ty31 0 h (fun w h => ?_) rfl rfl rfl rfl
    simp only [List.set_cons_zero] at h
    have h := h.perm (M := (x2, cl zeroSp.toArray 28) :: (x5, cl #[.int .i64 e, .int .i64 k] 31) :: (x3, cl #[.int .i64 0, .int .i64 0] 31) :: (b, cl (cutC m.iv pos (spansL m.insts) fv) 59) :: (M ++ ((x1, cl m.c 25) :: L))) (perm_of fun c d ha hc h0 => by simp only [ha, hc, h0]; omega)
    have h := h.drew
    have hf := h.facts
    simp only [Facts] at hf
    have hrow := cutC_row m.iv pos (spansL_length m.insts) fv 59
    try simp (disch := omega) only [cnd_bool, on_some_eq, Dr_eq, xNil_ptr, xNil_func, xNil_yield, xPick_bool, unw_nil, xRes_ptr, xUn_not, xUn_neg, xEx_tuple, xBin_add, xBin_sub, xBin_mul, xBin_eql, xBin_neq, xBin_lss, xBin_leq, xBin_gtr, xBin_geq, xBin_eqls, xBin_neqs, wI64, oCell_some, List.getElem?_toArray, List.getElem?_cons_zero, List.getElem?_cons_succ, Nat.zero_add, Bool.not_true, Bool.not_false, if_true, if_false, ite_true, ite_false, beq_iff_eq, bne_iff_ne, decide_eq_true_eq, ne_eq, Bool.false_eq_true, Bool.true_eq_false, reduceIte, Option.some.injEq, Int.toNat_natCast, beq_self_eq_true, bne_self_eq_false, Value.cells, splice, List.setIfInBounds_toArray, List.set_cons_zero, List.set_cons_succ, List.size_toArray, List.length_cons, List.length_nil, and_self, Nat.reduceLeDiff, Nat.reduceAdd, Nat.reduceMul, Int.reduceToNat, Int.reduceLT, Int.reduceLE, Int.reduceGT, Int.reduceGE, Int.reduceAdd, Int.reduceSub, Int.reduceMul, Int.reduceNeg, Int.reduceEq, Int.reduceNe, true_and, and_true, Int.cast_ofNat_Int, Nat.le_refl, hf, ld3, ld23, ln23, ia23, ld25, fa25_1, fa25_2, ld28, ia28, bd28, ld29, ld31, fa31_0, bd31, bd31_0, bd31_0_1, ld59, fa59_0, fa59_1, fa59_2, fa59_3, bd59_0, eql54_n, eql54_s, ow2, ow3, ow4, ow5, ow6, ow8, ow11, ow20, ow23, hrow]
    refine soStoreA ty28 0 h (fun w h => ?_) rfl (by simp [spansL_length]) rfl (spansL_one _)
    simp only [List.set_cons_zero] at h
    have hf := h.facts
    simp only [Facts] at hf
    try simp (disch := omega) only [cnd_bool, on_some_eq, Dr_eq, xNil_ptr, xNil_func, xNil_yield, xPick_bool, unw_nil, xRes_ptr, xUn_not, xUn_neg, xEx_tuple, xBin_add, xBin_sub, xBin_mul, xBin_eql, xBin_neq, xBin_lss, xBin_leq, xBin_gtr, xBin_geq, xBin_eqls, xBin_neqs, wI64, oCell_some, List.getElem?_toArray, List.getElem?_cons_zero, List.getElem?_cons_succ, Nat.zero_add, Bool.not_true, Bool.not_false, if_true, if_false, ite_true, ite_false, beq_iff_eq, bne_iff_ne, decide_eq_true_eq, ne_eq, Bool.false_eq_true, Bool.true_eq_false, reduceIte, Option.some.injEq, Int.toNat_natCast, beq_self_eq_true, bne_self_eq_false, Value.cells, splice, List.setIfInBounds_toArray, List.set_cons_zero, List.set_cons_succ, List.size_toArray, List.length_cons, List.length_nil, and_self, Nat.reduceLeDiff, Nat.reduceAdd, Nat.reduceMul, Int.reduceToNat, Int.reduceLT, Int.reduceLE, Int.reduceGT, Int.reduceGE, Int.reduceAdd, Int.reduceSub, Int.reduceMul, Int.reduceNeg, Int.reduceEq, Int.reduceNe, true_and, and_true, Int.cast_ofNat_Int, Nat.le_refl, hf, ld3, ld23, ln23, ia23, ld25, fa25_1, fa25_2, ld28, ia28, bd28, ld29, ld31, fa31_0, bd31, bd31_0, bd31_0_1, ld59, fa59_0, fa59_1, fa59_2, fa59_3, bd59_0, eql54_n, eql54_s, ow2, ow3, ow4, ow5, ow6, ow8, ow11, ow20, ow23]
    refine soStoreA ty31 2 h (fun w h => ?_) rfl rfl rfl rfl
    simp only [List.set_cons_zero, List.set_cons_succ] at h
    have hf := h.facts
    simp only [Facts] at hf
    have hall : oRow (some (cl (spansL m.insts).toArray 28)) 0 20 = some (.agg (spansL m.insts).toArray) := oRow_all (by simp [spansL_length]) _ _
    try simp (disch := omega) only [cnd_bool, on_some_eq, Dr_eq, xNil_ptr, xNil_func, xNil_yield, xPick_bool, unw_nil, xRes_ptr, xUn_not, xUn_neg, xEx_tuple, xBin_add, xBin_sub, xBin_mul, xBin_eql, xBin_neq, xBin_lss, xBin_leq, xBin_gtr, xBin_geq, xBin_eqls, xBin_neqs, wI64, oCell_some, List.getElem?_toArray, List.getElem?_cons_zero, List.getElem?_cons_succ, Nat.zero_add, Bool.not_true, Bool.not_false, if_true, if_false, ite_true, ite_false, beq_iff_eq, bne_iff_ne, decide_eq_true_eq, ne_eq, Bool.false_eq_true, Bool.true_eq_false, reduceIte, Option.some.injEq, Int.toNat_natCast, beq_self_eq_true, bne_self_eq_false, Value.cells, splice, List.setIfInBounds_toArray, List.set_cons_zero, List.set_cons_succ, List.size_toArray, List.length_cons, List.length_nil, and_self, Nat.reduceLeDiff, Nat.reduceAdd, Nat.reduceMul, Int.reduceToNat, Int.reduceLT, Int.reduceLE, Int.reduceGT, Int.reduceGE, Int.reduceAdd, Int.reduceSub, Int.reduceMul, Int.reduceNeg, Int.reduceEq, Int.reduceNe, true_and, and_true, Int.cast_ofNat_Int, Nat.le_refl, hf, ld3, ld23, ln23, ia23, ld25, fa25_1, fa25_2, ld28, ia28, bd28, ld29, ld31, fa31_0, bd31, bd31_0, bd31_0_1, ld59, fa59_0, fa59_1, fa59_2, fa59_3, bd59_0, eql54_n, eql54_s, ow2, ow3, ow4, ow5, ow6, ow8, ow11, ow20, ow23, hall]
    refine ⟨⟨e, k, hc, ?_⟩, h.drop.drop.drop.drop.drops.drop⟩
    rw [if_pos he]; rfl
  · rw [if_neg he] at hv
    obtain ⟨rfl, h⟩ := hv
    unfold spotV
    try simp (disch := omega) only [cnd_bool, on_some_eq, Dr_eq, xNil_ptr, xNil_func, xNil_yield, xPick_bool, unw_nil, xRes_ptr, xUn_not, xUn_neg, xEx_tuple, xBin_add, xBin_sub, xBin_mul, xBin_eql, xBin_neq, xBin_lss, xBin_leq, xBin_gtr, xBin_geq, xBin_eqls, xBin_neqs, wI64, oCell_some, List.getElem?_toArray, List.getElem?_cons_zero, List.getElem?_cons_succ, Nat.zero_add, Bool.not_true, Bool.not_false, if_true, if_false, ite_true, ite_false, beq_iff_eq, bne_iff_ne, decide_eq_true_eq, ne_eq, Bool.false_eq_true, Bool.true_eq_false, reduceIte, Option.some.injEq, Int.toNat_natCast, beq_self_eq_true, bne_self_eq_false, Value.cells, splice, List.setIfInBounds_toArray, List.set_cons_zero, List.set_cons_succ, List.size_toArray, List.length_cons, List.length_nil, and_self, Nat.reduceLeDiff, Nat.reduceAdd, Nat.reduceMul, Int.reduceToNat, Int.reduceLT, Int.reduceLE, Int.reduceGT, Int.reduceGE, Int.reduceAdd, Int.reduceSub, Int.reduceMul, Int.reduceNeg, Int.reduceEq, Int.reduceNe, true_and, and_true, Int.cast_ofNat_Int, Nat.le_refl, ld3, ld23, ln23, ia23, ld25, fa25_1, fa25_2, ld28, ia28, bd28, ld29, ld31, fa31_0, bd31, bd31_0, bd31_0_1, ld59, fa59_0, fa59_1, fa59_2, fa59_3, bd59_0, eql54_n, eql54_s, ow2, ow3, ow4, ow5, ow6, ow8, ow11, ow20, ow23]
    refine al31 h fun x5 w h => ?_
    try simp only [Facts, and_true, Value.cells, List.setIfInBounds_toArray, List.set_cons_zero, List.set_cons_succ, splice, Nat.zero_add, Nat.reduceAdd, List.cons_append, List.nil_append] at h
    have hf := h.facts
    simp only [Facts, and_true, Value.cells, List.setIfInBounds_toArray, List.set_cons_zero, List.set_cons_succ, splice, Nat.zero_add, Nat.reduceAdd, List.cons_append, List.nil_append] at hf
    refine soStoreA ty31 0 h (fun w h => ?_) rfl rfl rfl rfl
    simp only [List.set_cons_zero] at h
    have h := h.drew
    have hf := h.facts
    simp only [Facts] at hf
    try simp (disch := omega) only [cnd_bool, on_some_eq, Dr_eq, xNil_ptr, xNil_func, xNil_yield, xPick_bool, unw_nil, xRes_ptr, xUn_not, xUn_neg, xEx_tuple, xBin_add, xBin_sub, xBin_mul, xBin_eql, xBin_neq, xBin_lss, xBin_leq, xBin_gtr, xBin_geq, xBin_eqls, xBin_neqs, wI64, oCell_some, List.getElem?_toArray, List.getElem?_cons_zero, List.getElem?_cons_succ, Nat.zero_add, Bool.not_true, Bool.not_false, if_true, if_false, ite_true, ite_false, beq_iff_eq, bne_iff_ne, decide_eq_true_eq, ne_eq, Bool.false_eq_true, Bool.true_eq_false, reduceIte, Option.some.injEq, Int.toNat_natCast, beq_self_eq_true, bne_self_eq_false, Value.cells, splice, List.setIfInBounds_toArray, List.set_cons_zero, List.set_cons_succ, List.size_toArray, List.length_cons, List.length_nil, and_self, Nat.reduceLeDiff, Nat.reduceAdd, Nat.reduceMul, Int.reduceToNat, Int.reduceLT, Int.reduceLE, Int.reduceGT, Int.reduceGE, Int.reduceAdd, Int.reduceSub, Int.reduceMul, Int.reduceNeg, Int.reduceEq, Int.reduceNe, true_and, and_true, Int.cast_ofNat_Int, Nat.le_refl, hf, ld3, ld23, ln23, ia23, ld25, fa25_1, fa25_2, ld28, ia28, bd28, ld29, ld31, fa31_0, bd31, bd31_0, bd31_0_1, ld59, fa59_0, fa59_1, fa59_2, fa59_3, bd59_0, eql54_n, eql54_s, ow2, ow3, ow4, ow5, ow6, ow8, ow11, ow20, ow23]
    refine soStoreA ty28 2 h (fun w h => ?_) rfl rfl rfl rfl
    simp only [List.set_cons_zero, List.set_cons_succ] at h
    have h : So w0 w ((x5, cl #[.int .i64 e, .int .i64 k] 31) :: (x3, cl #[.int .i64 0, .int .i64 0] 31) :: (x2, cl zeroSp.toArray 28) :: (x1, cl m.c 25) :: L) := h
    have hf := h.facts
    simp only [Facts] at hf
    try simp (disch := omega) only [cnd_bool, on_some_eq, Dr_eq, xNil_ptr, xNil_func, xNil_yield, xPick_bool, unw_nil, xRes_ptr, xUn_not, xUn_neg, xEx_tuple, xBin_add, xBin_sub, xBin_mul, xBin_eql, xBin_neq, xBin_lss, xBin_leq, xBin_gtr, xBin_geq, xBin_eqls, xBin_neqs, wI64, oCell_some, List.getElem?_toArray, List.getElem?_cons_zero, List.getElem?_cons_succ, Nat.zero_add, Bool.not_true, Bool.not_false, if_true, if_false, ite_true, ite_false, beq_iff_eq, bne_iff_ne, decide_eq_true_eq, ne_eq, Bool.false_eq_true, Bool.true_eq_false, reduceIte, Option.some.injEq, Int.toNat_natCast, beq_self_eq_true, bne_self_eq_false, Value.cells, splice, List.setIfInBounds_toArray, List.set_cons_zero, List.set_cons_succ, List.size_toArray, List.length_cons, List.length_nil, and_self, Nat.reduceLeDiff, Nat.reduceAdd, Nat.reduceMul, Int.reduceToNat, Int.reduceLT, Int.reduceLE, Int.reduceGT, Int.reduceGE, Int.reduceAdd, Int.reduceSub, Int.reduceMul, Int.reduceNeg, Int.reduceEq, Int.reduceNe, true_and, and_true, Int.cast_ofNat_Int, Nat.le_refl, hf, ld3, ld23, ln23, ia23, ld25, fa25_1, fa25_2, ld28, ia28, bd28, ld29, ld31, fa31_0, bd31, bd31_0, bd31_0_1, ld59, fa59_0, fa59_1, fa59_2, fa59_3, bd59_0, eql54_n, eql54_s, ow2, ow3, ow4, ow5, ow6, ow8, ow11, ow20, ow23]
    refine soStoreA ty31 1 h (fun w h => ?_) rfl rfl rfl rfl
    simp only [List.set_cons_zero, List.set_cons_succ] at h
    have hf := h.facts
    simp only [Facts] at hf
    have hall : oRow (some (cl zeroSp.toArray 28)) 0 20 = some (.agg zeroSp.toArray) := oRow_all rfl _ _
    try simp (disch := omega) only [cnd_bool, on_some_eq, Dr_eq, xNil_ptr, xNil_func, xNil_yield, xPick_bool, unw_nil, xRes_ptr, xUn_not, xUn_neg, xEx_tuple, xBin_add, xBin_sub, xBin_mul, xBin_eql, xBin_neq, xBin_lss, xBin_leq, xBin_gtr, xBin_geq, xBin_eqls, xBin_neqs, wI64, oCell_some, List.getElem?_toArray, List.getElem?_cons_zero, List.getElem?_cons_succ, Nat.zero_add, Bool.not_true, Bool.not_false, if_true, if_false, ite_true, ite_false, beq_iff_eq, bne_iff_ne, decide_eq_true_eq, ne_eq, Bool.false_eq_true, Bool.true_eq_false, reduceIte, Option.some.injEq, Int.toNat_natCast, beq_self_eq_true, bne_self_eq_false, Value.cells, splice, List.setIfInBounds_toArray, List.set_cons_zero, List.set_cons_succ, List.size_toArray, List.length_cons, List.length_nil, and_self, Nat.reduceLeDiff, Nat.reduceAdd, Nat.reduceMul, Int.reduceToNat, Int.reduceLT, Int.reduceLE, Int.reduceGT, Int.reduceGE, Int.reduceAdd, Int.reduceSub, Int.reduceMul, Int.reduceNeg, Int.reduceEq, Int.reduceNe, true_and, and_true, Int.cast_ofNat_Int, Nat.le_refl, hf, ld3, ld23, ln23, ia23, ld25, fa25_1, fa25_2, ld28, ia28, bd28, ld29, ld31, fa31_0, bd31, bd31_0, bd31_0_1, ld59, fa59_0, fa59_1, fa59_2, fa59_3, bd59_0, eql54_n, eql54_s, ow2, ow3, ow4, ow5, ow6, ow8, ow11, ow20, ow23, hall]
    refine ⟨⟨e, k, hc, ?_⟩, h.drop.drop.drop.drop⟩
    rw [if_neg he]; rfl
end
end Go.Proofs.Ytlmcppbpobnfjaa

