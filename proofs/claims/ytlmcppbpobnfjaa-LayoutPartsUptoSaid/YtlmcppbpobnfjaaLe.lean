/-
  Layout: the cutter goes through a block.
-/
import Derived.Test.YtlmcppbpobnfjaaLd
namespace Go.Proofs.Ytlmcppbpobnfjaa
open Go Go.Vc
set_option linter.unusedSimpArgs false
set_option linter.unusedVariables false
set_option maxRecDepth 20000

structure PBlk where
  label : Int
  fr : Nat
  to : Nat
def PBlk.c (k : PBlk) : List Value := [.int .u32 k.label, .int .i64 (k.fr : Int), .int .i64 (k.to : Int)]
def opAt (l : List Inst) (pos : Nat) : Int := match l[pos]? with
  | some i => i.op
  | none => 0
def resAt (l : List Inst) (pos : Nat) : Int := match l[pos]? with
  | some i => i.res
  | none => 0
/-- Where a block's merge or ender stands. -/
def bodyP (l : List Inst) (first : Bool) (pos : Nat) : Nat :=
  let p2 := pos + 1 + runP l (if first then 5 else 4) (pos + 1)
  p2 + runP l 0 p2
/-- A block: does all stand, where the cutter stands then. -/
def blockP (l : List Inst) (first : Bool) (pos : Nat) : Bool × Nat :=
  let p := bodyP l first pos
  if nextP l p = 6 then (if nextP l (p + 1) = 7 ∧ mayP (opAt l p) (opAt l (p + 1)) = true then (true, p + 2) else (false, p + 1)) else if nextP l p = 7 then (true, p + 1) else (false, p)

section
variable {w0 : World} {L : List (Nat × Obj)} {iv fv : Value} {l : List Inst} {b : Nat} {sp : List Value}
theorem c_rowD {pos : Nat} (hi : InstsAt w0 iv l) (hp : pos ≤ l.length) (hl : l.length ≤ 1099511627776) (k : Int) (hk : k ≠ -1) {w : World} (h : So w0 w ((b, cl (cutC iv pos sp fv) 59) :: L)) :
    Cx P 54 #[.pointer (some ⟨b, 0, none⟩), .int .i64 k] w fun _ w => So w0 w ((b, cl (cutC iv (pos + runP l k pos) sp fv) 59) :: L) :=
  Cx.mono (c_rowK hi hp hl k hk h) fun _ _ ⟨_, _, h⟩ => h.drops

/-- The end of a block. -/
theorem block_end (hi : InstsAt w0 iv l) (hl : l.length ≤ 1099511627776) {bf x5 n pos fr : Nat} {lab id fin ps : Value} {bl : List PBlk} {pv bv : Value} {Mb : List (Nat × Obj)} {w : World} (hp : pos < l.length) {label : Int}
    (ho : OwnS w0.heap.size 120 3 bv n (bl.map PBlk.c).flatten Mb) (hn : n ≤ pos) {t0 : Int}
    (h : So w0 w ((b, cl (cutC iv pos sp fv) 59) :: (x5, cl #[.int .u32 label, .int .i64 (fr : Int), .int .i64 t0] 120) :: (bf, cl #[id, ps, pv, bv, fin] 96) :: (Mb ++ L))) :
    F55.k5 (fun v w => v = .bool true ∧ ∃ bv' Mb', OwnS w0.heap.size 120 3 bv' (n + 1) ((bl ++ [PBlk.mk label fr (pos + 1)]).map PBlk.c).flatten Mb' ∧ So w0 w ((b, cl (cutC iv (pos + 1) sp fv) 59) :: (bf, cl #[id, ps, pv, bv', fin] 96) :: (Mb' ++ L)))
      (.pointer (some ⟨b, 0, none⟩)) (.pointer (some ⟨bf, 0, none⟩)) (.pointer (some ⟨x5, 0, none⟩)) w := by
  unfold F55.k5
  have hf := h.facts
  simp only [Facts] at hf
  try simp (disch := omega) only [cnd_bool, on_some_eq, Dr_eq, xNil_ptr, xNil_func, xNil_yield, xPick_bool, unw_nil, xRes_ptr, xUn_not, xUn_neg, xEx_tuple, xBin_add, xBin_sub, xBin_mul, xBin_eql, xBin_neq, xBin_lss, xBin_leq, xBin_gtr, xBin_geq, xBin_eqls, xBin_neqs, wI64, oCell_some, List.getElem?_toArray, List.getElem?_cons_zero, List.getElem?_cons_succ, Nat.zero_add, Bool.not_true, Bool.not_false, if_true, if_false, ite_true, ite_false, beq_iff_eq, bne_iff_ne, decide_eq_true_eq, ne_eq, Bool.false_eq_true, Bool.true_eq_false, reduceIte, Option.some.injEq, Int.toNat_natCast, beq_self_eq_true, bne_self_eq_false, Value.cells, splice, List.setIfInBounds_toArray, List.set_cons_zero, List.set_cons_succ, List.size_toArray, List.length_cons, List.length_nil, and_self, Nat.reduceLeDiff, Nat.reduceAdd, Nat.reduceMul, Int.reduceToNat, Int.reduceLT, Int.reduceLE, Int.reduceGT, Int.reduceGE, Int.reduceAdd, Int.reduceSub, Int.reduceMul, Int.reduceNeg, Int.reduceEq, Int.reduceNe, true_and, and_true, Int.cast_ofNat_Int, Nat.le_refl, hf, ld3, ld22, ld23, ln23, ia23, ld50, ld53, fa53_0, fa53_1, fa53_2, fa53_3, ld59, fa59_0, fa59_1, fa59_2, fa59_3, bd59_0, ld94, ln94, ia94, ld96, fa96_2, fa96_3, fa96_4, bd96_0_1, ld120, fa120_2, bd120_0_1, eql54_n, eql54_s, ow2, ow3, ow4, ow5, ow6, ow8, ow11, ow20, ow23, cutC_1]
  refine soStore1 ty3 0 h (fun w h => ?_) rfl (by simp [cutC]) rfl
  simp only [List.set_cons_zero] at h
  rw [cutC_set1 _ _ (pos + 1) _ _ _ (by omega)] at h
  have hf := h.facts
  simp only [Facts] at hf
  try simp (disch := omega) only [cnd_bool, on_some_eq, Dr_eq, xNil_ptr, xNil_func, xNil_yield, xPick_bool, unw_nil, xRes_ptr, xUn_not, xUn_neg, xEx_tuple, xBin_add, xBin_sub, xBin_mul, xBin_eql, xBin_neq, xBin_lss, xBin_leq, xBin_gtr, xBin_geq, xBin_eqls, xBin_neqs, wI64, oCell_some, List.getElem?_toArray, List.getElem?_cons_zero, List.getElem?_cons_succ, Nat.zero_add, Bool.not_true, Bool.not_false, if_true, if_false, ite_true, ite_false, beq_iff_eq, bne_iff_ne, decide_eq_true_eq, ne_eq, Bool.false_eq_true, Bool.true_eq_false, reduceIte, Option.some.injEq, Int.toNat_natCast, beq_self_eq_true, bne_self_eq_false, Value.cells, splice, List.setIfInBounds_toArray, List.set_cons_zero, List.set_cons_succ, List.size_toArray, List.length_cons, List.length_nil, and_self, Nat.reduceLeDiff, Nat.reduceAdd, Nat.reduceMul, Int.reduceToNat, Int.reduceLT, Int.reduceLE, Int.reduceGT, Int.reduceGE, Int.reduceAdd, Int.reduceSub, Int.reduceMul, Int.reduceNeg, Int.reduceEq, Int.reduceNe, true_and, and_true, Int.cast_ofNat_Int, Nat.le_refl, hf, ld3, ld22, ld23, ln23, ia23, ld50, ld53, fa53_0, fa53_1, fa53_2, fa53_3, ld59, fa59_0, fa59_1, fa59_2, fa59_3, bd59_0, ld94, ln94, ia94, ld96, fa96_2, fa96_3, fa96_4, bd96_0_1, ld120, fa120_2, bd120_0_1, eql54_n, eql54_s, ow2, ow3, ow4, ow5, ow6, ow8, ow11, ow20, ow23, cutC_1]
  refine soStore1 ty3 1 h (fun w h => ?_) rfl (by simp) rfl
  simp only [List.set_cons_zero, List.set_cons_succ, List.setIfInBounds_toArray] at h
  have h := h.drew
  have hf := h.facts
  simp only [Facts] at hf
  try simp (disch := omega) only [cnd_bool, on_some_eq, Dr_eq, xNil_ptr, xNil_func, xNil_yield, xPick_bool, unw_nil, xRes_ptr, xUn_not, xUn_neg, xEx_tuple, xBin_add, xBin_sub, xBin_mul, xBin_eql, xBin_neq, xBin_lss, xBin_leq, xBin_gtr, xBin_geq, xBin_eqls, xBin_neqs, wI64, oCell_some, List.getElem?_toArray, List.getElem?_cons_zero, List.getElem?_cons_succ, Nat.zero_add, Bool.not_true, Bool.not_false, if_true, if_false, ite_true, ite_false, beq_iff_eq, bne_iff_ne, decide_eq_true_eq, ne_eq, Bool.false_eq_true, Bool.true_eq_false, reduceIte, Option.some.injEq, Int.toNat_natCast, beq_self_eq_true, bne_self_eq_false, Value.cells, splice, List.setIfInBounds_toArray, List.set_cons_zero, List.set_cons_succ, List.size_toArray, List.length_cons, List.length_nil, and_self, Nat.reduceLeDiff, Nat.reduceAdd, Nat.reduceMul, Int.reduceToNat, Int.reduceLT, Int.reduceLE, Int.reduceGT, Int.reduceGE, Int.reduceAdd, Int.reduceSub, Int.reduceMul, Int.reduceNeg, Int.reduceEq, Int.reduceNe, true_and, and_true, Int.cast_ofNat_Int, Nat.le_refl, hf, ld3, ld22, ld23, ln23, ia23, ld50, ld53, fa53_0, fa53_1, fa53_2, fa53_3, ld59, fa59_0, fa59_1, fa59_2, fa59_3, bd59_0, ld94, ln94, ia94, ld96, fa96_2, fa96_3, fa96_4, bd96_0_1, ld120, fa120_2, bd120_0_1, eql54_n, eql54_s, ow2, ow3, ow4, ow5, ow6, ow8, ow11, ow20, ow23, cutC_1]
  refine bs94 h rfl fun y w h => ?_
  have hf := h.facts
  simp only [Facts] at hf
  try simp (disch := omega) only [cnd_bool, on_some_eq, Dr_eq, xNil_ptr, xNil_func, xNil_yield, xPick_bool, unw_nil, xRes_ptr, xUn_not, xUn_neg, xEx_tuple, xBin_add, xBin_sub, xBin_mul, xBin_eql, xBin_neq, xBin_lss, xBin_leq, xBin_gtr, xBin_geq, xBin_eqls, xBin_neqs, wI64, oCell_some, List.getElem?_toArray, List.getElem?_cons_zero, List.getElem?_cons_succ, Nat.zero_add, Bool.not_true, Bool.not_false, if_true, if_false, ite_true, ite_false, beq_iff_eq, bne_iff_ne, decide_eq_true_eq, ne_eq, Bool.false_eq_true, Bool.true_eq_false, reduceIte, Option.some.injEq, Int.toNat_natCast, beq_self_eq_true, bne_self_eq_false, Value.cells, splice, List.setIfInBounds_toArray, List.set_cons_zero, List.set_cons_succ, List.size_toArray, List.length_cons, List.length_nil, and_self, Nat.reduceLeDiff, Nat.reduceAdd, Nat.reduceMul, Int.reduceToNat, Int.reduceLT, Int.reduceLE, Int.reduceGT, Int.reduceGE, Int.reduceAdd, Int.reduceSub, Int.reduceMul, Int.reduceNeg, Int.reduceEq, Int.reduceNe, true_and, and_true, Int.cast_ofNat_Int, Nat.le_refl, hf, ld3, ld22, ld23, ln23, ia23, ld50, ld53, fa53_0, fa53_1, fa53_2, fa53_3, ld59, fa59_0, fa59_1, fa59_2, fa59_3, bd59_0, ld94, ln94, ia94, ld96, fa96_2, fa96_3, fa96_4, bd96_0_1, ld120, fa120_2, bd120_0_1, eql54_n, eql54_s, ow2, ow3, ow4, ow5, ow6, ow8, ow11, ow20, ow23]
  have hpm : ∀ (x y z u : Nat × Obj) (A B : List (Nat × Obj)), (u :: x :: y :: z :: (A ++ B)).Perm (u :: (A ++ (x :: y :: z :: B))) := by
    intro x y z u A B
    refine List.Perm.cons _ ?_
    have : x :: y :: z :: (A ++ B) = [x, y, z] ++ A ++ B := by simp
    rw [this]
    have : A ++ (x :: y :: z :: B) = A ++ [x, y, z] ++ B := by simp
    rw [this]
    exact List.Perm.append_right _ List.perm_append_comm
  refine ap94 (h.perm (hpm _ _ _ _ _ _)) ho rfl (by simp [one1, Value.cells]) (by omega) (by omega) fun v' M' w ho h => ?_
  have hpm2 : ∀ (x y z : Nat × Obj) (A B : List (Nat × Obj)), (A ++ (x :: y :: z :: B)).Perm (x :: y :: z :: (A ++ B)) := by
    intro x y z A B
    have : x :: y :: z :: (A ++ B) = [x, y, z] ++ A ++ B := by simp
    rw [this]
    have : A ++ (x :: y :: z :: B) = A ++ [x, y, z] ++ B := by simp
    rw [this]
    exact List.Perm.append_right _ List.perm_append_comm
  have h := h.perm (hpm2 _ _ _ _ _)
  have hf := h.facts
  simp only [Facts] at hf
  have hv1 : one1 v' = true := by
    rcases ho.2 with ⟨e, _⟩ | ⟨_, _, _, e, _⟩ <;> rw [e] <;> rfl
  try simp (disch := omega) only [cnd_bool, on_some_eq, Dr_eq, xNil_ptr, xNil_func, xNil_yield, xPick_bool, unw_nil, xRes_ptr, xUn_not, xUn_neg, xEx_tuple, xBin_add, xBin_sub, xBin_mul, xBin_eql, xBin_neq, xBin_lss, xBin_leq, xBin_gtr, xBin_geq, xBin_eqls, xBin_neqs, wI64, oCell_some, List.getElem?_toArray, List.getElem?_cons_zero, List.getElem?_cons_succ, Nat.zero_add, Bool.not_true, Bool.not_false, if_true, if_false, ite_true, ite_false, beq_iff_eq, bne_iff_ne, decide_eq_true_eq, ne_eq, Bool.false_eq_true, Bool.true_eq_false, reduceIte, Option.some.injEq, Int.toNat_natCast, beq_self_eq_true, bne_self_eq_false, Value.cells, splice, List.setIfInBounds_toArray, List.set_cons_zero, List.set_cons_succ, List.size_toArray, List.length_cons, List.length_nil, and_self, Nat.reduceLeDiff, Nat.reduceAdd, Nat.reduceMul, Int.reduceToNat, Int.reduceLT, Int.reduceLE, Int.reduceGT, Int.reduceGE, Int.reduceAdd, Int.reduceSub, Int.reduceMul, Int.reduceNeg, Int.reduceEq, Int.reduceNe, true_and, and_true, Int.cast_ofNat_Int, Nat.le_refl, hf, ld3, ld22, ld23, ln23, ia23, ld50, ld53, fa53_0, fa53_1, fa53_2, fa53_3, ld59, fa59_0, fa59_1, fa59_2, fa59_3, bd59_0, ld94, ln94, ia94, ld96, fa96_2, fa96_3, fa96_4, bd96_0_1, ld120, fa120_2, bd120_0_1, eql54_n, eql54_s, ow2, ow3, ow4, ow5, ow6, ow8, ow11, ow20, ow23]
  refine soStore1 ty94 2 h (fun w h => ?_) rfl (by simp) hv1
  simp only [List.set_cons_zero, List.set_cons_succ, List.setIfInBounds_toArray] at h
  refine ⟨v', M', ?_, h.swap.drop⟩
  simpa [PBlk.c, Value.cells] using ho

/-- What a block leaves. -/
def BlockQ (w0 : World) (L : List (Nat × Obj)) (iv fv : Value) (sp : List Value) (l : List Inst) (b bf pos n : Nat) (id ps pv fin : Value) (bl : List PBlk) (v : Value) (w : World) : Prop :=
  if (blockP l (n == 0) pos).1 = true then
    v = .bool true ∧ ∃ bv' Mb', OwnS w0.heap.size 120 3 bv' (n + 1) ((bl ++ [PBlk.mk (resAt l pos) pos (blockP l (n == 0) pos).2]).map PBlk.c).flatten Mb' ∧ So w0 w ((b, cl (cutC iv (blockP l (n == 0) pos).2 sp fv) 59) :: (bf, cl #[id, ps, pv, bv', fin] 96) :: (Mb' ++ L))
  else v = .bool false ∧ So w0 w ((b, cl (cutC iv (blockP l (n == 0) pos).2 sp fv) 59) :: L)
theorem So.dropMid {w : World} {x : Nat × Obj} {M : List (Nat × Obj)} (h : So w0 w (x :: (M ++ L))) : So w0 w (x :: L) := by
  have : (x :: (M ++ L)).Perm (M ++ (x :: L)) := List.perm_middle.symm
  exact (h.perm this).drops
theorem c_block (hi : InstsAt w0 iv l) (hl : l.length ≤ 1099511627776) {bf n pos : Nat} {id fin ps : Value} {bl : List PBlk} {pv bv : Value} {Mb : List (Nat × Obj)} {w : World} (hp : pos < l.length)
    (ho : OwnS w0.heap.size 120 3 bv n (bl.map PBlk.c).flatten Mb) (hn : n ≤ pos)
    (h : So w0 w ((b, cl (cutC iv pos sp fv) 59) :: (bf, cl #[id, ps, pv, bv, fin] 96) :: (Mb ++ L))) :
    Cx P 55 #[.pointer (some ⟨b, 0, none⟩), .pointer (some ⟨bf, 0, none⟩)] w (BlockQ w0 L iv fv sp l b bf pos n id ps pv fin bl) := by
  apply F55_ok
  unfold F55
  rw [Dr_eq]
  have h := h.drew
  have hf := h.facts
  simp only [Facts] at hf
  have hel : (l.map Inst.c)[pos]? = some (l[pos].c) := by simp [hp]
  obtain ⟨g, o, h1, h2, h3⟩ := (hi.1.go h).get sl23 (pos : Int) rfl hel
  have h4 : oCell w.drew.heap[g]? (o + 2) = some (.int .u32 (resAt l pos)) := by
    rw [h3 2 (by omega)]
    unfold resAt
    rw [List.getElem?_eq_getElem hp]; rfl
  have hsh : ∃ a c, bv = .slice a n c := by
    rcases ho.2 with ⟨e, e2, _⟩ | ⟨_, _, _, e, _⟩
    · exact ⟨_, _, by rw [e, e2]⟩
    · exact ⟨_, _, e⟩
  obtain ⟨ba, bc, rfl⟩ := hsh
  try simp (disch := omega) only [cnd_bool, on_some_eq, Dr_eq, xNil_ptr, xNil_func, xNil_yield, xPick_bool, unw_nil, xRes_ptr, xUn_not, xUn_neg, xEx_tuple, xBin_add, xBin_sub, xBin_mul, xBin_eql, xBin_neq, xBin_lss, xBin_leq, xBin_gtr, xBin_geq, xBin_eqls, xBin_neqs, wI64, oCell_some, List.getElem?_toArray, List.getElem?_cons_zero, List.getElem?_cons_succ, Nat.zero_add, Bool.not_true, Bool.not_false, if_true, if_false, ite_true, ite_false, beq_iff_eq, bne_iff_ne, decide_eq_true_eq, ne_eq, Bool.false_eq_true, Bool.true_eq_false, reduceIte, Option.some.injEq, Int.toNat_natCast, beq_self_eq_true, bne_self_eq_false, Value.cells, splice, List.setIfInBounds_toArray, List.set_cons_zero, List.set_cons_succ, List.size_toArray, List.length_cons, List.length_nil, and_self, Nat.reduceLeDiff, Nat.reduceAdd, Nat.reduceMul, Int.reduceToNat, Int.reduceLT, Int.reduceLE, Int.reduceGT, Int.reduceGE, Int.reduceAdd, Int.reduceSub, Int.reduceMul, Int.reduceNeg, Int.reduceEq, Int.reduceNe, true_and, and_true, Int.cast_ofNat_Int, Nat.le_refl, hf, ld3, ld22, ld23, ln23, ia23, ld50, ld53, fa53_0, fa53_1, fa53_2, fa53_3, ld59, fa59_0, fa59_1, fa59_2, fa59_3, bd59_0, ld94, ln94, ia94, ld96, fa96_2, fa96_3, fa96_4, bd96_0_1, ld120, fa120_2, bd120_0_1, eql54_n, eql54_s, ow2, ow3, ow4, ow5, ow6, ow8, ow11, ow20, ow23, cutC_0, cutC_1, h1, h4]
  refine al120 h fun x5 w h => ?_
  try simp only [Facts, and_true, Value.cells, List.setIfInBounds_toArray, List.set_cons_zero, List.set_cons_succ, splice, Nat.zero_add, Nat.reduceAdd, List.cons_append, List.nil_append] at h
  have hf := h.facts
  simp only [Facts, and_true, Value.cells, List.setIfInBounds_toArray, List.set_cons_zero, List.set_cons_succ, splice, Nat.zero_add, Nat.reduceAdd, List.cons_append, List.nil_append] at hf
  have h4' : oCell w.heap[g]? (o + 2) = some (.int .u32 (resAt l pos)) := by
    obtain ⟨g', o', h1', h2', h3'⟩ := (hi.1.go h).get sl23 (pos : Int) rfl hel
    have e := (h1 .i64).symm.trans (h1' .i64)
    simp only [Option.some.injEq, Value.pointer.injEq, Addr.mk.injEq, and_true] at e
    obtain ⟨rfl, rfl⟩ := e
    rw [h3' 2 (by omega)]
    unfold resAt
    rw [List.getElem?_eq_getElem hp]; rfl
  try simp (disch := omega) only [cnd_bool, on_some_eq, Dr_eq, xNil_ptr, xNil_func, xNil_yield, xPick_bool, unw_nil, xRes_ptr, xUn_not, xUn_neg, xEx_tuple, xBin_add, xBin_sub, xBin_mul, xBin_eql, xBin_neq, xBin_lss, xBin_leq, xBin_gtr, xBin_geq, xBin_eqls, xBin_neqs, wI64, oCell_some, List.getElem?_toArray, List.getElem?_cons_zero, List.getElem?_cons_succ, Nat.zero_add, Bool.not_true, Bool.not_false, if_true, if_false, ite_true, ite_false, beq_iff_eq, bne_iff_ne, decide_eq_true_eq, ne_eq, Bool.false_eq_true, Bool.true_eq_false, reduceIte, Option.some.injEq, Int.toNat_natCast, beq_self_eq_true, bne_self_eq_false, Value.cells, splice, List.setIfInBounds_toArray, List.set_cons_zero, List.set_cons_succ, List.size_toArray, List.length_cons, List.length_nil, and_self, Nat.reduceLeDiff, Nat.reduceAdd, Nat.reduceMul, Int.reduceToNat, Int.reduceLT, Int.reduceLE, Int.reduceGT, Int.reduceGE, Int.reduceAdd, Int.reduceSub, Int.reduceMul, Int.reduceNeg, Int.reduceEq, Int.reduceNe, true_and, and_true, Int.cast_ofNat_Int, Nat.le_refl, hf, ld3, ld22, ld23, ln23, ia23, ld50, ld53, fa53_0, fa53_1, fa53_2, fa53_3, ld59, fa59_0, fa59_1, fa59_2, fa59_3, bd59_0, ld94, ln94, ia94, ld96, fa96_2, fa96_3, fa96_4, bd96_0_1, ld120, fa120_2, bd120_0_1, eql54_n, eql54_s, ow2, ow3, ow4, ow5, ow6, ow8, ow11, ow20, ow23, cutC_0, cutC_1, h1, h4']
  refine soStoreA ty120 0 h (fun w h => ?_) rfl rfl rfl rfl
  simp only [List.set_cons_zero] at h
  have hf := h.facts
  simp only [Facts] at hf
  try simp (disch := omega) only [cnd_bool, on_some_eq, Dr_eq, xNil_ptr, xNil_func, xNil_yield, xPick_bool, unw_nil, xRes_ptr, xUn_not, xUn_neg, xEx_tuple, xBin_add, xBin_sub, xBin_mul, xBin_eql, xBin_neq, xBin_lss, xBin_leq, xBin_gtr, xBin_geq, xBin_eqls, xBin_neqs, wI64, oCell_some, List.getElem?_toArray, List.getElem?_cons_zero, List.getElem?_cons_succ, Nat.zero_add, Bool.not_true, Bool.not_false, if_true, if_false, ite_true, ite_false, beq_iff_eq, bne_iff_ne, decide_eq_true_eq, ne_eq, Bool.false_eq_true, Bool.true_eq_false, reduceIte, Option.some.injEq, Int.toNat_natCast, beq_self_eq_true, bne_self_eq_false, Value.cells, splice, List.setIfInBounds_toArray, List.set_cons_zero, List.set_cons_succ, List.size_toArray, List.length_cons, List.length_nil, and_self, Nat.reduceLeDiff, Nat.reduceAdd, Nat.reduceMul, Int.reduceToNat, Int.reduceLT, Int.reduceLE, Int.reduceGT, Int.reduceGE, Int.reduceAdd, Int.reduceSub, Int.reduceMul, Int.reduceNeg, Int.reduceEq, Int.reduceNe, true_and, and_true, Int.cast_ofNat_Int, Nat.le_refl, hf, ld3, ld22, ld23, ln23, ia23, ld50, ld53, fa53_0, fa53_1, fa53_2, fa53_3, ld59, fa59_0, fa59_1, fa59_2, fa59_3, bd59_0, ld94, ln94, ia94, ld96, fa96_2, fa96_3, fa96_4, bd96_0_1, ld120, fa120_2, bd120_0_1, eql54_n, eql54_s, ow2, ow3, ow4, ow5, ow6, ow8, ow11, ow20, ow23, cutC_1]
  refine soStore1 ty3 1 h (fun w h => ?_) rfl (by simp [cutC]) rfl
  simp only [List.set_cons_zero, List.set_cons_succ] at h
  rw [cutC_set1 _ _ (pos + 1) _ _ _ (by omega)] at h
  have h := h.swap
  have hf := h.facts
  simp only [Facts] at hf
  try simp (disch := omega) only [cnd_bool, on_some_eq, Dr_eq, xNil_ptr, xNil_func, xNil_yield, xPick_bool, unw_nil, xRes_ptr, xUn_not, xUn_neg, xEx_tuple, xBin_add, xBin_sub, xBin_mul, xBin_eql, xBin_neq, xBin_lss, xBin_leq, xBin_gtr, xBin_geq, xBin_eqls, xBin_neqs, wI64, oCell_some, List.getElem?_toArray, List.getElem?_cons_zero, List.getElem?_cons_succ, Nat.zero_add, Bool.not_true, Bool.not_false, if_true, if_false, ite_true, ite_false, beq_iff_eq, bne_iff_ne, decide_eq_true_eq, ne_eq, Bool.false_eq_true, Bool.true_eq_false, reduceIte, Option.some.injEq, Int.toNat_natCast, beq_self_eq_true, bne_self_eq_false, Value.cells, splice, List.setIfInBounds_toArray, List.set_cons_zero, List.set_cons_succ, List.size_toArray, List.length_cons, List.length_nil, and_self, Nat.reduceLeDiff, Nat.reduceAdd, Nat.reduceMul, Int.reduceToNat, Int.reduceLT, Int.reduceLE, Int.reduceGT, Int.reduceGE, Int.reduceAdd, Int.reduceSub, Int.reduceMul, Int.reduceNeg, Int.reduceEq, Int.reduceNe, true_and, and_true, Int.cast_ofNat_Int, Nat.le_refl, hf, ld3, ld22, ld23, ln23, ia23, ld50, ld53, fa53_0, fa53_1, fa53_2, fa53_3, ld59, fa59_0, fa59_1, fa59_2, fa59_3, bd59_0, ld94, ln94, ia94, ld96, fa96_2, fa96_3, fa96_4, bd96_0_1, ld120, fa120_2, bd120_0_1, eql54_n, eql54_s, ow2, ow3, ow4, ow5, ow6, ow8, ow11, ow20, ow23]
  have key : ∀ w, So w0 w ((b, cl (cutC iv (pos + 1 + runP l (if n = 0 then 5 else 4) (pos + 1)) sp fv) 59) :: (x5, cl #[.int .u32 (resAt l pos), .int .i64 (pos : Int), .int .i64 0] 120) :: (bf, cl #[id, ps, pv, .slice ba n bc, fin] 96) :: (Mb ++ L)) →
      F55.k1 (BlockQ w0 L iv fv sp l b bf pos n id ps pv fin bl) (.pointer (some ⟨b, 0, none⟩)) (.pointer (some ⟨bf, 0, none⟩)) (.pointer (some ⟨x5, 0, none⟩)) w := by
    intro w h
    unfold F55.k1
    have hle1 := runP_le (l := l) (pos := pos + 1) (if n = 0 then 5 else 4) (by omega)
    generalize hp2 : pos + 1 + runP l (if n = 0 then 5 else 4) (pos + 1) = p2 at h hle1
    have hle2 := runP_le (l := l) (pos := p2) 0 hle1
    refine Cx.mono (c_rowD hi hle1 hl 0 (by decide) h) fun v w h => ?_
    have hbody : bodyP l (n == 0) pos = p2 + runP l 0 p2 := by
      unfold bodyP
      simp only [beq_iff_eq]
      rw [hp2]
    have hge : p2 ≤ p2 + runP l 0 p2 := by omega
    generalize p2 + runP l 0 p2 = p3 at h hle2 hbody hge
    unfold F55.k2
    refine Cx.mono (c_next hi hle2 hl h) fun v w hv => ?_
    obtain ⟨rfl, h⟩ := hv
    unfold F55.k4
    have hf := h.facts
    simp only [Facts] at hf
    have hpp : pos + 1 ≤ p2 := by rw [← hp2]; omega
    try simp (disch := omega) only [cnd_bool, on_some_eq, Dr_eq, xNil_ptr, xNil_func, xNil_yield, xPick_bool, unw_nil, xRes_ptr, xUn_not, xUn_neg, xEx_tuple, xBin_add, xBin_sub, xBin_mul, xBin_eql, xBin_neq, xBin_lss, xBin_leq, xBin_gtr, xBin_geq, xBin_eqls, xBin_neqs, wI64, oCell_some, List.getElem?_toArray, List.getElem?_cons_zero, List.getElem?_cons_succ, Nat.zero_add, Bool.not_true, Bool.not_false, if_true, if_false, ite_true, ite_false, beq_iff_eq, bne_iff_ne, decide_eq_true_eq, ne_eq, Bool.false_eq_true, Bool.true_eq_false, reduceIte, Option.some.injEq, Int.toNat_natCast, beq_self_eq_true, bne_self_eq_false, Value.cells, splice, List.setIfInBounds_toArray, List.set_cons_zero, List.set_cons_succ, List.size_toArray, List.length_cons, List.length_nil, and_self, Nat.reduceLeDiff, Nat.reduceAdd, Nat.reduceMul, Int.reduceToNat, Int.reduceLT, Int.reduceLE, Int.reduceGT, Int.reduceGE, Int.reduceAdd, Int.reduceSub, Int.reduceMul, Int.reduceNeg, Int.reduceEq, Int.reduceNe, true_and, and_true, Int.cast_ofNat_Int, Nat.le_refl, hf, ld3, ld22, ld23, ln23, ia23, ld50, ld53, fa53_0, fa53_1, fa53_2, fa53_3, ld59, fa59_0, fa59_1, fa59_2, fa59_3, bd59_0, ld94, ln94, ia94, ld96, fa96_2, fa96_3, fa96_4, bd96_0_1, ld120, fa120_2, bd120_0_1, eql54_n, eql54_s, ow2, ow3, ow4, ow5, ow6, ow8, ow11, ow20, ow23, cutC_1]
    by_cases h6 : nextP l p3 = 6
    · rw [if_pos h6]
      have hlt := nextP_lt (l := l) (pos := p3) (by rw [h6]; decide)
      refine soStore1 ty3 0 h (fun w h => ?_) rfl (by simp [cutC]) rfl
      simp only [List.set_cons_zero] at h
      rw [cutC_set1 _ _ (p3 + 1) _ _ _ (by omega)] at h
      try rw [Dr_eq]
      refine Cx.mono (c_next hi (by omega) hl h.drew) fun v w hv => ?_
      obtain ⟨rfl, h⟩ := hv
      try simp (disch := omega) only [cnd_bool, on_some_eq, Dr_eq, xNil_ptr, xNil_func, xNil_yield, xPick_bool, unw_nil, xRes_ptr, xUn_not, xUn_neg, xEx_tuple, xBin_add, xBin_sub, xBin_mul, xBin_eql, xBin_neq, xBin_lss, xBin_leq, xBin_gtr, xBin_geq, xBin_eqls, xBin_neqs, wI64, oCell_some, List.getElem?_toArray, List.getElem?_cons_zero, List.getElem?_cons_succ, Nat.zero_add, Bool.not_true, Bool.not_false, if_true, if_false, ite_true, ite_false, beq_iff_eq, bne_iff_ne, decide_eq_true_eq, ne_eq, Bool.false_eq_true, Bool.true_eq_false, reduceIte, Option.some.injEq, Int.toNat_natCast, beq_self_eq_true, bne_self_eq_false, Value.cells, splice, List.setIfInBounds_toArray, List.set_cons_zero, List.set_cons_succ, List.size_toArray, List.length_cons, List.length_nil, and_self, Nat.reduceLeDiff, Nat.reduceAdd, Nat.reduceMul, Int.reduceToNat, Int.reduceLT, Int.reduceLE, Int.reduceGT, Int.reduceGE, Int.reduceAdd, Int.reduceSub, Int.reduceMul, Int.reduceNeg, Int.reduceEq, Int.reduceNe, true_and, and_true, Int.cast_ofNat_Int, Nat.le_refl, ld3, ld22, ld23, ln23, ia23, ld50, ld53, fa53_0, fa53_1, fa53_2, fa53_3, ld59, fa59_0, fa59_1, fa59_2, fa59_3, bd59_0, ld94, ln94, ia94, ld96, fa96_2, fa96_3, fa96_4, bd96_0_1, ld120, fa120_2, bd120_0_1, eql54_n, eql54_s, ow2, ow3, ow4, ow5, ow6, ow8, ow11, ow20, ow23]
      by_cases h7 : nextP l (p3 + 1) = 7
      · rw [if_neg (by omega)]
        have hlt1 := nextP_lt (l := l) (pos := p3 + 1) (by rw [h7]; decide)
        have hf := h.facts
        simp only [Facts] at hf
        obtain ⟨g, o, k1, k2, k3⟩ := (hi.1.go h).get sl23 (((p3 + 1 : Nat) : Int) - 1) (i := p3) (el := l[p3].c) (by omega) (by simp [hlt])
        obtain ⟨g', o', k1', k2', k3'⟩ := (hi.1.go h).get sl23 ((p3 + 1 : Nat) : Int) (i := p3 + 1) (el := l[p3 + 1].c) (by omega) (by simp [hlt1])
        have k4 : oCell w.heap[g]? o = some (.int .u16 (opAt l p3)) := by
          have := k3 0 (by omega)
          unfold opAt
          rw [List.getElem?_eq_getElem hlt]; simpa [Inst.c] using this
        have k4' : oCell w.heap[g']? o' = some (.int .u16 (opAt l (p3 + 1))) := by
          have := k3' 0 (by omega)
          unfold opAt
          rw [List.getElem?_eq_getElem hlt1]; simpa [Inst.c] using this
        try simp (disch := omega) only [cnd_bool, on_some_eq, Dr_eq, xNil_ptr, xNil_func, xNil_yield, xPick_bool, unw_nil, xRes_ptr, xUn_not, xUn_neg, xEx_tuple, xBin_add, xBin_sub, xBin_mul, xBin_eql, xBin_neq, xBin_lss, xBin_leq, xBin_gtr, xBin_geq, xBin_eqls, xBin_neqs, wI64, oCell_some, List.getElem?_toArray, List.getElem?_cons_zero, List.getElem?_cons_succ, Nat.zero_add, Bool.not_true, Bool.not_false, if_true, if_false, ite_true, ite_false, beq_iff_eq, bne_iff_ne, decide_eq_true_eq, ne_eq, Bool.false_eq_true, Bool.true_eq_false, reduceIte, Option.some.injEq, Int.toNat_natCast, beq_self_eq_true, bne_self_eq_false, Value.cells, splice, List.setIfInBounds_toArray, List.set_cons_zero, List.set_cons_succ, List.size_toArray, List.length_cons, List.length_nil, and_self, Nat.reduceLeDiff, Nat.reduceAdd, Nat.reduceMul, Int.reduceToNat, Int.reduceLT, Int.reduceLE, Int.reduceGT, Int.reduceGE, Int.reduceAdd, Int.reduceSub, Int.reduceMul, Int.reduceNeg, Int.reduceEq, Int.reduceNe, true_and, and_true, Int.cast_ofNat_Int, Nat.le_refl, hf, ld3, ld22, ld23, ln23, ia23, ld50, ld53, fa53_0, fa53_1, fa53_2, fa53_3, ld59, fa59_0, fa59_1, fa59_2, fa59_3, bd59_0, ld94, ln94, ia94, ld96, fa96_2, fa96_3, fa96_4, bd96_0_1, ld120, fa120_2, bd120_0_1, eql54_n, eql54_s, ow2, ow3, ow4, ow5, ow6, ow8, ow11, ow20, ow23, cutC_0, cutC_1, k1, k1', k4, k4']
        refine Cx.mono (c_may h _ _) fun v w hv => ?_
        obtain ⟨rfl, h⟩ := hv
        try simp (disch := omega) only [cnd_bool, on_some_eq, Dr_eq, xNil_ptr, xNil_func, xNil_yield, xPick_bool, unw_nil, xRes_ptr, xUn_not, xUn_neg, xEx_tuple, xBin_add, xBin_sub, xBin_mul, xBin_eql, xBin_neq, xBin_lss, xBin_leq, xBin_gtr, xBin_geq, xBin_eqls, xBin_neqs, wI64, oCell_some, List.getElem?_toArray, List.getElem?_cons_zero, List.getElem?_cons_succ, Nat.zero_add, Bool.not_true, Bool.not_false, if_true, if_false, ite_true, ite_false, beq_iff_eq, bne_iff_ne, decide_eq_true_eq, ne_eq, Bool.false_eq_true, Bool.true_eq_false, reduceIte, Option.some.injEq, Int.toNat_natCast, beq_self_eq_true, bne_self_eq_false, Value.cells, splice, List.setIfInBounds_toArray, List.set_cons_zero, List.set_cons_succ, List.size_toArray, List.length_cons, List.length_nil, and_self, Nat.reduceLeDiff, Nat.reduceAdd, Nat.reduceMul, Int.reduceToNat, Int.reduceLT, Int.reduceLE, Int.reduceGT, Int.reduceGE, Int.reduceAdd, Int.reduceSub, Int.reduceMul, Int.reduceNeg, Int.reduceEq, Int.reduceNe, true_and, and_true, Int.cast_ofNat_Int, Nat.le_refl, ld3, ld22, ld23, ln23, ia23, ld50, ld53, fa53_0, fa53_1, fa53_2, fa53_3, ld59, fa59_0, fa59_1, fa59_2, fa59_3, bd59_0, ld94, ln94, ia94, ld96, fa96_2, fa96_3, fa96_4, bd96_0_1, ld120, fa120_2, bd120_0_1, eql54_n, eql54_s, ow2, ow3, ow4, ow5, ow6, ow8, ow11, ow20, ow23]
        cases hm : mayP (opAt l p3) (opAt l (p3 + 1)) with
        | false =>
          simp only [Bool.not_false, if_true]
          unfold BlockQ blockP
          simp only [hbody, h6, h7, hm, if_true, and_false, Bool.false_eq_true, if_false]
          exact ⟨trivial, So.dropMid (M := [_, _] ++ Mb) (by simpa using h)⟩
        | true =>
          simp only [Bool.not_true, Bool.false_eq_true, if_false]
          have := block_end hi hl (by omega) ho (by omega) (lab := .nilFunc) h
          unfold BlockQ blockP
          simp only [hbody, h6, h7, hm, if_true, and_self]
          exact this
      · rw [if_pos h7]
        unfold BlockQ blockP
        simp only [hbody, h6, h7, if_true, false_and, Bool.false_eq_true, if_false]
        exact ⟨trivial, So.dropMid (M := [_, _] ++ Mb) (by simpa using h)⟩
    · rw [if_neg h6]
      by_cases h7 : nextP l p3 = 7
      · rw [if_pos h7]
        have hlt := nextP_lt (l := l) (pos := p3) (by rw [h7]; decide)
        have := block_end hi hl hlt ho (by omega) (lab := .nilFunc) h
        unfold BlockQ blockP
        simp only [hbody, h6, h7, if_true, if_false]
        exact this
      · rw [if_neg h7]
        unfold F55.k3 BlockQ blockP
        simp only [hbody, h6, h7, if_false, Bool.false_eq_true]
        exact ⟨trivial, So.dropMid (M := [_, _] ++ Mb) (by simpa using h)⟩
  by_cases h0 : n = 0
  · rw [if_pos (by omega)]
    refine Cx.mono (c_rowD hi (by omega) hl 5 (by decide) h) fun v w h => key w ?_
    rw [if_pos h0]; exact h
  · rw [if_neg (by omega)]
    refine Cx.mono (c_rowD hi (by omega) hl 4 (by decide) h) fun v w h => key w ?_
    rw [if_neg h0]; exact h
end
end Go.Proofs.Ytlmcppbpobnfjaa

