/-
  Layout: the cutter goes through the functions, and through the whole.
-/
import Derived.Test.YtlmcppbpobnfjaaLe
namespace Go.Proofs.Ytlmcppbpobnfjaa
open Go Go.Vc
set_option linter.unusedSimpArgs false
set_option linter.unusedVariables false
set_option maxRecDepth 20000

structure PFun where
  id : Int
  pos : Nat
  params : List Nat
  blocks : List PBlk
  fin : Nat
/-- How the cutter goes on: an open function or none, those behind it, its place; does all stand, where it stops, the functions. -/
inductive CutR (l : List Inst) : Option PFun → List PFun → Nat → Bool → Nat → List PFun → Prop
  | done {fs pos} : nextP l pos < 0 → CutR l none fs pos true pos fs
  | bad {fs pos} : 0 ≤ nextP l pos → nextP l pos ≠ 1 → CutR l none fs pos false pos fs
  | func {fs pos r e fs'} : nextP l pos = 1 → CutR l (some ⟨resAt l pos, pos, List.range' (pos + 1) (runP l 2 (pos + 1)), [], 0⟩) fs (pos + 1 + runP l 2 (pos + 1)) r e fs' → CutR l none fs pos r e fs'
  | blk {f fs pos r e fs'} : nextP l pos = 3 → (blockP l (f.blocks.length == 0) pos).1 = true → CutR l (some { f with blocks := f.blocks ++ [⟨resAt l pos, pos, (blockP l (f.blocks.length == 0) pos).2⟩] }) fs (blockP l (f.blocks.length == 0) pos).2 r e fs' → CutR l (some f) fs pos r e fs'
  | blkF {f fs pos} : nextP l pos = 3 → (blockP l (f.blocks.length == 0) pos).1 = false → CutR l (some f) fs pos false (blockP l (f.blocks.length == 0) pos).2 fs
  | noB {f fs pos} : nextP l pos ≠ 3 → f.blocks = [] → CutR l (some f) fs pos false pos fs
  | noE {f fs pos} : nextP l pos ≠ 3 → f.blocks ≠ [] → nextP l pos ≠ 8 → CutR l (some f) fs pos false pos fs
  | fin {f fs pos r e fs'} : nextP l pos ≠ 3 → f.blocks ≠ [] → nextP l pos = 8 → CutR l none (fs ++ [{ f with fin := pos }]) (pos + 1) r e fs' → CutR l (some f) fs pos r e fs'
theorem blockP_gt {l : List Inst} {first : Bool} {pos : Nat} (hp : pos < l.length) : pos < (blockP l first pos).2 ∧ (blockP l first pos).2 ≤ l.length := by
  have h1 := runP_le (l := l) (pos := pos + 1) (if first then 5 else 4) (by omega)
  have h2 := runP_le (l := l) (pos := pos + 1 + runP l (if first then 5 else 4) (pos + 1)) 0 h1
  have hb : pos < bodyP l first pos ∧ bodyP l first pos ≤ l.length := by
    unfold bodyP
    simp only
    omega
  unfold blockP
  simp only
  generalize bodyP l first pos = p at hb
  by_cases h6 : nextP l p = 6
  · have := nextP_lt (l := l) (pos := p) (by rw [h6]; decide)
    rw [if_pos h6]
    split
    · rename_i h7
      have := nextP_lt (l := l) (pos := p + 1) (by rw [h7.1]; decide)
      simp only; omega
    · simp only; omega
  · rw [if_neg h6]
    split
    · rename_i h7
      have := nextP_lt (l := l) (pos := p) (by rw [h7]; decide)
      simp only; omega
    · simp only; omega

/-- A function's cells, its slices in blocks of M. -/
def FunC (base : Nat) (f : PFun) (cs : List Value) (M : List (Nat × Obj)) : Prop :=
  ∃ pv bv Mp Mb, cs = [.int .u32 f.id, .int .i64 (f.pos : Int), pv, bv, .int .i64 (f.fin : Int)] ∧ OwnS base 3 1 pv f.params.length (ints f.params) Mp ∧ OwnS base 120 3 bv f.blocks.length (f.blocks.map PBlk.c).flatten Mb ∧ (∀ x ∈ Mp, x ∈ M) ∧ ∀ x ∈ Mb, x ∈ M
def FunsC (base : Nat) (fs : List PFun) (css : List (List Value)) (M : List (Nat × Obj)) : Prop :=
  fs.length = css.length ∧ (∀ cs ∈ css, cs.length = 5) ∧ ∀ (i : Nat) f cs, fs[i]? = some f → css[i]? = some cs → FunC base f cs M
theorem FunC.mono {base : Nat} {f : PFun} {cs : List Value} {M N : List (Nat × Obj)} (h : FunC base f cs M) (hs : ∀ x ∈ M, x ∈ N) : FunC base f cs N := by
  obtain ⟨pv, bv, Mp, Mb, h1, h2, h3, h4, h5⟩ := h
  exact ⟨pv, bv, Mp, Mb, h1, h2, h3, fun x hx => hs x (h4 x hx), fun x hx => hs x (h5 x hx)⟩
theorem FunsC.snoc {base : Nat} {fs : List PFun} {css : List (List Value)} {M N : List (Nat × Obj)} {f : PFun} {cs : List Value} (h : FunsC base fs css M) (hs : ∀ x ∈ M, x ∈ N) (hf : FunC base f cs N) (h5 : cs.length = 5) : FunsC base (fs ++ [f]) (css ++ [cs]) N := by
  obtain ⟨h1, h2, h3⟩ := h
  refine ⟨by simp [h1], ?_, ?_⟩
  · intro x hx
    rcases List.mem_append.1 hx with hx | hx
    · exact h2 x hx
    · simp at hx; subst hx; exact h5
  · intro i g c hg hc
    by_cases hlt : i < fs.length
    · rw [List.getElem?_append_left hlt] at hg
      rw [List.getElem?_append_left (by omega)] at hc
      exact (h3 i g c hg hc).mono hs
    · rw [List.getElem?_append_right (by omega)] at hg
      rw [List.getElem?_append_right (by omega)] at hc
      have : i - fs.length = 0 := by
        cases hq : i - fs.length with
        | zero => rfl
        | succ k => rw [hq] at hg; simp at hg
      rw [this] at hg
      rw [show i - css.length = 0 by omega] at hc
      simp at hg hc
      subst hg hc
      exact hf
/-- What the cutter leaves behind the functions. -/
def CutQ (w0 : World) (L : List (Nat × Obj)) (iv : Value) (sp : List Value) (l : List Inst) (b pos : Nat) (v : Value) (w : World) : Prop :=
  ∃ ok e fs fv css Mf Ms, CutR l none [] pos ok e fs ∧ v = .bool ok ∧ e ≤ l.length ∧ fs.length ≤ l.length ∧ OwnS w0.heap.size 96 5 fv fs.length css.flatten Mf ∧ FunsC w0.heap.size fs css Ms ∧ So w0 w ((b, cl (cutC iv e sp fv) 59) :: (Mf ++ (Ms ++ L)))

section
variable {w0 : World} {L : List (Nat × Obj)} {iv : Value} {l : List Inst} {b p0 : Nat} {sp : List Value}
theorem cut_blocks (hi : InstsAt w0 iv l) (hl : l.length ≤ 1099511627776) (hs : sp.length = 20) {G1 : Value → World → Prop} {pos1 : Nat}
    {fs : List PFun} {fv : Value} {css : List (List Value)} {Mf Ms : List (Nat × Obj)} (hof : OwnS w0.heap.size 96 5 fv fs.length css.flatten Mf) (hfc : FunsC w0.heap.size fs css Ms) (hfl : fs.length ≤ pos1)
    (hG : ∀ (pos : Nat) (f : PFun) (fv' : Value) (cs : List Value) (Mf' Ms' : List (Nat × Obj)) (w : World), pos1 < pos → pos ≤ l.length → (∀ r e fs', CutR l none (fs ++ [f]) pos r e fs' → CutR l none [] p0 r e fs') →
      OwnS w0.heap.size 96 5 fv' (fs.length + 1) (css ++ [cs]).flatten Mf' → FunsC w0.heap.size (fs ++ [f]) (css ++ [cs]) Ms' → So w0 w ((b, cl (cutC iv pos sp fv') 59) :: (Mf' ++ (Ms' ++ L))) → G1 (.pointer (some ⟨b, 0, none⟩)) w)
    {bf : Nat} {pv : Value} {Mp : List (Nat × Obj)} :
    ∀ (m pos : Nat) (f : PFun) (bv : Value) (Mb : List (Nat × Obj)) (w : World), l.length - pos < m → pos1 < pos → pos ≤ l.length → f.blocks.length ≤ pos → f.fin = 0 →
      (∀ r e fs', CutR l (some f) fs pos r e fs' → CutR l none [] p0 r e fs') →
      OwnS w0.heap.size 3 1 pv f.params.length (ints f.params) Mp → OwnS w0.heap.size 120 3 bv f.blocks.length (f.blocks.map PBlk.c).flatten Mb →
      So w0 w ((b, cl (cutC iv pos sp fv) 59) :: (bf, cl #[.int .u32 f.id, .int .i64 (f.pos : Int), pv, bv, .int .i64 (f.fin : Int)] 96) :: (Mb ++ (Mp ++ (Mf ++ (Ms ++ L))))) →
      F36.l1 (CutQ w0 L iv sp l b p0) G1 m (.pointer (some ⟨b, 0, none⟩)) (.pointer (some ⟨bf, 0, none⟩)) w := by
  intro m
  induction m with
  | zero => intro pos f bv Mb w h; omega
  | succ m ih =>
    intro pos f bv Mb w hm hp1 hp hnb hfin hr hop hob h
    have fail : ∀ (e : Nat) (w : World), CutR l (some f) fs pos false e fs → e ≤ l.length → So w0 w ((b, cl (cutC iv e sp fv) 59) :: (Mf ++ (Ms ++ L))) → CutQ w0 L iv sp l b p0 (.bool false) w :=
      fun e w hc he hso => ⟨false, e, fs, fv, css, Mf, Ms, hr _ _ _ hc, rfl, he, by omega, hof, hfc, hso⟩
    unfold F36.l1
    refine Cx.mono (c_next hi hp hl h) fun v w hv => ?_
    obtain ⟨rfl, h⟩ := hv
    try simp (disch := omega) only [cnd_bool, on_some_eq, Dr_eq, xNil_ptr, xNil_func, xNil_yield, xPick_bool, unw_nil, xRes_ptr, xUn_not, xUn_neg, xEx_tuple, xBin_add, xBin_sub, xBin_mul, xBin_eql, xBin_neq, xBin_lss, xBin_leq, xBin_gtr, xBin_geq, xBin_eqls, xBin_neqs, wI64, oCell_some, List.getElem?_toArray, List.getElem?_cons_zero, List.getElem?_cons_succ, Nat.zero_add, Bool.not_true, Bool.not_false, if_true, if_false, ite_true, ite_false, beq_iff_eq, bne_iff_ne, decide_eq_true_eq, ne_eq, Bool.false_eq_true, Bool.true_eq_false, reduceIte, Option.some.injEq, Int.toNat_natCast, beq_self_eq_true, bne_self_eq_false, Value.cells, splice, List.setIfInBounds_toArray, List.set_cons_zero, List.set_cons_succ, List.size_toArray, List.length_cons, List.length_nil, and_self, Nat.reduceLeDiff, Nat.reduceAdd, Nat.reduceMul, Int.reduceToNat, Int.reduceLT, Int.reduceLE, Int.reduceGT, Int.reduceGE, Int.reduceAdd, Int.reduceSub, Int.reduceMul, Int.reduceNeg, Int.reduceEq, Int.reduceNe, true_and, and_true, Int.cast_ofNat_Int, Nat.le_refl, ld3, ld22, ld23, ln23, ia23, ld27, bd27_0_1, ld28, ia28, bd28, ld40, ln40, ia40, ld53, fa53_0, fa53_1, fa53_2, fa53_3, ld57, ln57, ia57, ld59, fa59_0, fa59_1, fa59_2, fa59_3, bd59_0, ld94, ln94, ia94, ld96, fa96_2, fa96_3, fa96_4, bd96_0_1, eql54_n, eql54_s, ow2, ow3, ow4, ow5, ow6, ow8, ow11, ow20, ow23]
    by_cases h3 : nextP l pos = 3
    · rw [if_pos h3]
      have hlt := nextP_lt (l := l) (pos := pos) (by rw [h3]; decide)
      have hgt := blockP_gt (l := l) (first := f.blocks.length == 0) hlt
      refine Cx.mono (c_block hi hl hlt hob hnb h) fun v w hv => ?_
      unfold BlockQ at hv
      split at hv
      · rename_i hbt
        obtain ⟨rfl, bv', Mb', hob', h⟩ := hv
        try simp (disch := omega) only [cnd_bool, on_some_eq, Dr_eq, xNil_ptr, xNil_func, xNil_yield, xPick_bool, unw_nil, xRes_ptr, xUn_not, xUn_neg, xEx_tuple, xBin_add, xBin_sub, xBin_mul, xBin_eql, xBin_neq, xBin_lss, xBin_leq, xBin_gtr, xBin_geq, xBin_eqls, xBin_neqs, wI64, oCell_some, List.getElem?_toArray, List.getElem?_cons_zero, List.getElem?_cons_succ, Nat.zero_add, Bool.not_true, Bool.not_false, if_true, if_false, ite_true, ite_false, beq_iff_eq, bne_iff_ne, decide_eq_true_eq, ne_eq, Bool.false_eq_true, Bool.true_eq_false, reduceIte, Option.some.injEq, Int.toNat_natCast, beq_self_eq_true, bne_self_eq_false, Value.cells, splice, List.setIfInBounds_toArray, List.set_cons_zero, List.set_cons_succ, List.size_toArray, List.length_cons, List.length_nil, and_self, Nat.reduceLeDiff, Nat.reduceAdd, Nat.reduceMul, Int.reduceToNat, Int.reduceLT, Int.reduceLE, Int.reduceGT, Int.reduceGE, Int.reduceAdd, Int.reduceSub, Int.reduceMul, Int.reduceNeg, Int.reduceEq, Int.reduceNe, true_and, and_true, Int.cast_ofNat_Int, Nat.le_refl, ld3, ld22, ld23, ln23, ia23, ld27, bd27_0_1, ld28, ia28, bd28, ld40, ln40, ia40, ld53, fa53_0, fa53_1, fa53_2, fa53_3, ld57, ln57, ia57, ld59, fa59_0, fa59_1, fa59_2, fa59_3, bd59_0, ld94, ln94, ia94, ld96, fa96_2, fa96_3, fa96_4, bd96_0_1, eql54_n, eql54_s, ow2, ow3, ow4, ow5, ow6, ow8, ow11, ow20, ow23]
        refine ih _ { f with blocks := f.blocks ++ [⟨resAt l pos, pos, (blockP l (f.blocks.length == 0) pos).2⟩] } bv' Mb' w (by omega) (by omega) hgt.2 (by simp; omega) hfin (fun r e fs' hc => hr _ _ _ (.blk h3 hbt hc)) hop ?_ h
        simpa using hob'
      · rename_i hbt
        obtain ⟨rfl, h⟩ := hv
        try simp (disch := omega) only [cnd_bool, on_some_eq, Dr_eq, xNil_ptr, xNil_func, xNil_yield, xPick_bool, unw_nil, xRes_ptr, xUn_not, xUn_neg, xEx_tuple, xBin_add, xBin_sub, xBin_mul, xBin_eql, xBin_neq, xBin_lss, xBin_leq, xBin_gtr, xBin_geq, xBin_eqls, xBin_neqs, wI64, oCell_some, List.getElem?_toArray, List.getElem?_cons_zero, List.getElem?_cons_succ, Nat.zero_add, Bool.not_true, Bool.not_false, if_true, if_false, ite_true, ite_false, beq_iff_eq, bne_iff_ne, decide_eq_true_eq, ne_eq, Bool.false_eq_true, Bool.true_eq_false, reduceIte, Option.some.injEq, Int.toNat_natCast, beq_self_eq_true, bne_self_eq_false, Value.cells, splice, List.setIfInBounds_toArray, List.set_cons_zero, List.set_cons_succ, List.size_toArray, List.length_cons, List.length_nil, and_self, Nat.reduceLeDiff, Nat.reduceAdd, Nat.reduceMul, Int.reduceToNat, Int.reduceLT, Int.reduceLE, Int.reduceGT, Int.reduceGE, Int.reduceAdd, Int.reduceSub, Int.reduceMul, Int.reduceNeg, Int.reduceEq, Int.reduceNe, true_and, and_true, Int.cast_ofNat_Int, Nat.le_refl, ld3, ld22, ld23, ln23, ia23, ld27, bd27_0_1, ld28, ia28, bd28, ld40, ln40, ia40, ld53, fa53_0, fa53_1, fa53_2, fa53_3, ld57, ln57, ia57, ld59, fa59_0, fa59_1, fa59_2, fa59_3, bd59_0, ld94, ln94, ia94, ld96, fa96_2, fa96_3, fa96_4, bd96_0_1, eql54_n, eql54_s, ow2, ow3, ow4, ow5, ow6, ow8, ow11, ow20, ow23]
        exact fail _ w (.blkF h3 (by simpa using hbt)) hgt.2 (So.dropMid (M := Mp) h)
    · rw [if_neg h3]
      unfold F36.k4
      have hf := h.facts
      simp only [Facts] at hf
      have hsh : ∃ a c, bv = .slice a f.blocks.length c := by
        rcases hob.2 with ⟨e, e2, _⟩ | ⟨_, _, _, e, _⟩
        · exact ⟨_, _, by rw [e, e2]⟩
        · exact ⟨_, _, e⟩
      obtain ⟨ba, bc, rfl⟩ := hsh
      try simp (disch := omega) only [cnd_bool, on_some_eq, Dr_eq, xNil_ptr, xNil_func, xNil_yield, xPick_bool, unw_nil, xRes_ptr, xUn_not, xUn_neg, xEx_tuple, xBin_add, xBin_sub, xBin_mul, xBin_eql, xBin_neq, xBin_lss, xBin_leq, xBin_gtr, xBin_geq, xBin_eqls, xBin_neqs, wI64, oCell_some, List.getElem?_toArray, List.getElem?_cons_zero, List.getElem?_cons_succ, Nat.zero_add, Bool.not_true, Bool.not_false, if_true, if_false, ite_true, ite_false, beq_iff_eq, bne_iff_ne, decide_eq_true_eq, ne_eq, Bool.false_eq_true, Bool.true_eq_false, reduceIte, Option.some.injEq, Int.toNat_natCast, beq_self_eq_true, bne_self_eq_false, Value.cells, splice, List.setIfInBounds_toArray, List.set_cons_zero, List.set_cons_succ, List.size_toArray, List.length_cons, List.length_nil, and_self, Nat.reduceLeDiff, Nat.reduceAdd, Nat.reduceMul, Int.reduceToNat, Int.reduceLT, Int.reduceLE, Int.reduceGT, Int.reduceGE, Int.reduceAdd, Int.reduceSub, Int.reduceMul, Int.reduceNeg, Int.reduceEq, Int.reduceNe, true_and, and_true, Int.cast_ofNat_Int, Nat.le_refl, hf, ld3, ld22, ld23, ln23, ia23, ld27, bd27_0_1, ld28, ia28, bd28, ld40, ln40, ia40, ld53, fa53_0, fa53_1, fa53_2, fa53_3, ld57, ln57, ia57, ld59, fa59_0, fa59_1, fa59_2, fa59_3, bd59_0, ld94, ln94, ia94, ld96, fa96_2, fa96_3, fa96_4, bd96_0_1, eql54_n, eql54_s, ow2, ow3, ow4, ow5, ow6, ow8, ow11, ow20, ow23]
      by_cases hb0 : f.blocks.length = 0
      · rw [if_pos (by omega)]
        exact fail pos w (.noB h3 (List.length_eq_zero_iff.1 hb0)) hp (So.dropMid (M := [_] ++ (Mb ++ Mp)) (by simpa using h))
      · rw [if_neg (by omega)]
        have hbne : f.blocks ≠ [] := fun he => hb0 (by rw [he]; rfl)
        refine Cx.mono (c_next hi hp hl h) fun v w hv => ?_
        obtain ⟨rfl, h⟩ := hv
        try simp (disch := omega) only [cnd_bool, on_some_eq, Dr_eq, xNil_ptr, xNil_func, xNil_yield, xPick_bool, unw_nil, xRes_ptr, xUn_not, xUn_neg, xEx_tuple, xBin_add, xBin_sub, xBin_mul, xBin_eql, xBin_neq, xBin_lss, xBin_leq, xBin_gtr, xBin_geq, xBin_eqls, xBin_neqs, wI64, oCell_some, List.getElem?_toArray, List.getElem?_cons_zero, List.getElem?_cons_succ, Nat.zero_add, Bool.not_true, Bool.not_false, if_true, if_false, ite_true, ite_false, beq_iff_eq, bne_iff_ne, decide_eq_true_eq, ne_eq, Bool.false_eq_true, Bool.true_eq_false, reduceIte, Option.some.injEq, Int.toNat_natCast, beq_self_eq_true, bne_self_eq_false, Value.cells, splice, List.setIfInBounds_toArray, List.set_cons_zero, List.set_cons_succ, List.size_toArray, List.length_cons, List.length_nil, and_self, Nat.reduceLeDiff, Nat.reduceAdd, Nat.reduceMul, Int.reduceToNat, Int.reduceLT, Int.reduceLE, Int.reduceGT, Int.reduceGE, Int.reduceAdd, Int.reduceSub, Int.reduceMul, Int.reduceNeg, Int.reduceEq, Int.reduceNe, true_and, and_true, Int.cast_ofNat_Int, Nat.le_refl, ld3, ld22, ld23, ln23, ia23, ld27, bd27_0_1, ld28, ia28, bd28, ld40, ln40, ia40, ld53, fa53_0, fa53_1, fa53_2, fa53_3, ld57, ln57, ia57, ld59, fa59_0, fa59_1, fa59_2, fa59_3, bd59_0, ld94, ln94, ia94, ld96, fa96_2, fa96_3, fa96_4, bd96_0_1, eql54_n, eql54_s, ow2, ow3, ow4, ow5, ow6, ow8, ow11, ow20, ow23]
        by_cases h8 : nextP l pos = 8
        · rw [if_neg (by omega)]
          have hlt := nextP_lt (l := l) (pos := pos) (by rw [h8]; decide)
          unfold F36.k5
          have hf := h.facts
          simp only [Facts] at hf
          try simp (disch := omega) only [cnd_bool, on_some_eq, Dr_eq, xNil_ptr, xNil_func, xNil_yield, xPick_bool, unw_nil, xRes_ptr, xUn_not, xUn_neg, xEx_tuple, xBin_add, xBin_sub, xBin_mul, xBin_eql, xBin_neq, xBin_lss, xBin_leq, xBin_gtr, xBin_geq, xBin_eqls, xBin_neqs, wI64, oCell_some, List.getElem?_toArray, List.getElem?_cons_zero, List.getElem?_cons_succ, Nat.zero_add, Bool.not_true, Bool.not_false, if_true, if_false, ite_true, ite_false, beq_iff_eq, bne_iff_ne, decide_eq_true_eq, ne_eq, Bool.false_eq_true, Bool.true_eq_false, reduceIte, Option.some.injEq, Int.toNat_natCast, beq_self_eq_true, bne_self_eq_false, Value.cells, splice, List.setIfInBounds_toArray, List.set_cons_zero, List.set_cons_succ, List.size_toArray, List.length_cons, List.length_nil, and_self, Nat.reduceLeDiff, Nat.reduceAdd, Nat.reduceMul, Int.reduceToNat, Int.reduceLT, Int.reduceLE, Int.reduceGT, Int.reduceGE, Int.reduceAdd, Int.reduceSub, Int.reduceMul, Int.reduceNeg, Int.reduceEq, Int.reduceNe, true_and, and_true, Int.cast_ofNat_Int, Nat.le_refl, hf, ld3, ld22, ld23, ln23, ia23, ld27, bd27_0_1, ld28, ia28, bd28, ld40, ln40, ia40, ld53, fa53_0, fa53_1, fa53_2, fa53_3, ld57, ln57, ia57, ld59, fa59_0, fa59_1, fa59_2, fa59_3, bd59_0, ld94, ln94, ia94, ld96, fa96_2, fa96_3, fa96_4, bd96_0_1, eql54_n, eql54_s, ow2, ow3, ow4, ow5, ow6, ow8, ow11, ow20, ow23, cutC_1]
          refine soStore1 ty3 1 h (fun w h => ?_) rfl (by simp) rfl
          simp only [List.set_cons_zero, List.set_cons_succ, List.setIfInBounds_toArray] at h
          have hf := h.facts
          simp only [Facts] at hf
          try simp (disch := omega) only [cnd_bool, on_some_eq, Dr_eq, xNil_ptr, xNil_func, xNil_yield, xPick_bool, unw_nil, xRes_ptr, xUn_not, xUn_neg, xEx_tuple, xBin_add, xBin_sub, xBin_mul, xBin_eql, xBin_neq, xBin_lss, xBin_leq, xBin_gtr, xBin_geq, xBin_eqls, xBin_neqs, wI64, oCell_some, List.getElem?_toArray, List.getElem?_cons_zero, List.getElem?_cons_succ, Nat.zero_add, Bool.not_true, Bool.not_false, if_true, if_false, ite_true, ite_false, beq_iff_eq, bne_iff_ne, decide_eq_true_eq, ne_eq, Bool.false_eq_true, Bool.true_eq_false, reduceIte, Option.some.injEq, Int.toNat_natCast, beq_self_eq_true, bne_self_eq_false, Value.cells, splice, List.setIfInBounds_toArray, List.set_cons_zero, List.set_cons_succ, List.size_toArray, List.length_cons, List.length_nil, and_self, Nat.reduceLeDiff, Nat.reduceAdd, Nat.reduceMul, Int.reduceToNat, Int.reduceLT, Int.reduceLE, Int.reduceGT, Int.reduceGE, Int.reduceAdd, Int.reduceSub, Int.reduceMul, Int.reduceNeg, Int.reduceEq, Int.reduceNe, true_and, and_true, Int.cast_ofNat_Int, Nat.le_refl, hf, ld3, ld22, ld23, ln23, ia23, ld27, bd27_0_1, ld28, ia28, bd28, ld40, ln40, ia40, ld53, fa53_0, fa53_1, fa53_2, fa53_3, ld57, ln57, ia57, ld59, fa59_0, fa59_1, fa59_2, fa59_3, bd59_0, ld94, ln94, ia94, ld96, fa96_2, fa96_3, fa96_4, bd96_0_1, eql54_n, eql54_s, ow2, ow3, ow4, ow5, ow6, ow8, ow11, ow20, ow23, cutC_1]
          refine soStore1 ty3 0 h (fun w h => ?_) rfl (by simp [cutC]) rfl
          simp only [List.set_cons_zero] at h
          rw [cutC_set1 _ _ (pos + 1) _ _ _ (by omega)] at h
          have h := h.drew
          have hf := h.facts
          simp only [Facts] at hf
          try rw [Dr_eq]
          try simp (disch := omega) only [cnd_bool, on_some_eq, Dr_eq, xNil_ptr, xNil_func, xNil_yield, xPick_bool, unw_nil, xRes_ptr, xUn_not, xUn_neg, xEx_tuple, xBin_add, xBin_sub, xBin_mul, xBin_eql, xBin_neq, xBin_lss, xBin_leq, xBin_gtr, xBin_geq, xBin_eqls, xBin_neqs, wI64, oCell_some, List.getElem?_toArray, List.getElem?_cons_zero, List.getElem?_cons_succ, Nat.zero_add, Bool.not_true, Bool.not_false, if_true, if_false, ite_true, ite_false, beq_iff_eq, bne_iff_ne, decide_eq_true_eq, ne_eq, Bool.false_eq_true, Bool.true_eq_false, reduceIte, Option.some.injEq, Int.toNat_natCast, beq_self_eq_true, bne_self_eq_false, Value.cells, splice, List.setIfInBounds_toArray, List.set_cons_zero, List.set_cons_succ, List.size_toArray, List.length_cons, List.length_nil, and_self, Nat.reduceLeDiff, Nat.reduceAdd, Nat.reduceMul, Int.reduceToNat, Int.reduceLT, Int.reduceLE, Int.reduceGT, Int.reduceGE, Int.reduceAdd, Int.reduceSub, Int.reduceMul, Int.reduceNeg, Int.reduceEq, Int.reduceNe, true_and, and_true, Int.cast_ofNat_Int, Nat.le_refl, hf, ld3, ld22, ld23, ln23, ia23, ld27, bd27_0_1, ld28, ia28, bd28, ld40, ln40, ia40, ld53, fa53_0, fa53_1, fa53_2, fa53_3, ld57, ln57, ia57, ld59, fa59_0, fa59_1, fa59_2, fa59_3, bd59_0, ld94, ln94, ia94, ld96, fa96_2, fa96_3, fa96_4, bd96_0_1, eql54_n, eql54_s, ow2, ow3, ow4, ow5, ow6, ow8, ow11, ow20, ow23, cutC_22 _ _ hs]
          refine bs57 h rfl fun y w h => ?_
          have hf := h.facts
          simp only [Facts] at hf
          try simp (disch := omega) only [cnd_bool, on_some_eq, Dr_eq, xNil_ptr, xNil_func, xNil_yield, xPick_bool, unw_nil, xRes_ptr, xUn_not, xUn_neg, xEx_tuple, xBin_add, xBin_sub, xBin_mul, xBin_eql, xBin_neq, xBin_lss, xBin_leq, xBin_gtr, xBin_geq, xBin_eqls, xBin_neqs, wI64, oCell_some, List.getElem?_toArray, List.getElem?_cons_zero, List.getElem?_cons_succ, Nat.zero_add, Bool.not_true, Bool.not_false, if_true, if_false, ite_true, ite_false, beq_iff_eq, bne_iff_ne, decide_eq_true_eq, ne_eq, Bool.false_eq_true, Bool.true_eq_false, reduceIte, Option.some.injEq, Int.toNat_natCast, beq_self_eq_true, bne_self_eq_false, Value.cells, splice, List.setIfInBounds_toArray, List.set_cons_zero, List.set_cons_succ, List.size_toArray, List.length_cons, List.length_nil, and_self, Nat.reduceLeDiff, Nat.reduceAdd, Nat.reduceMul, Int.reduceToNat, Int.reduceLT, Int.reduceLE, Int.reduceGT, Int.reduceGE, Int.reduceAdd, Int.reduceSub, Int.reduceMul, Int.reduceNeg, Int.reduceEq, Int.reduceNe, true_and, and_true, Int.cast_ofNat_Int, Nat.le_refl, hf, ld3, ld22, ld23, ln23, ia23, ld27, bd27_0_1, ld28, ia28, bd28, ld40, ln40, ia40, ld53, fa53_0, fa53_1, fa53_2, fa53_3, ld57, ln57, ia57, ld59, fa59_0, fa59_1, fa59_2, fa59_3, bd59_0, ld94, ln94, ia94, ld96, fa96_2, fa96_3, fa96_4, bd96_0_1, eql54_n, eql54_s, ow2, ow3, ow4, ow5, ow6, ow8, ow11, ow20, ow23, cutC_22 _ _ hs]
          have hpm : ∀ (u x y : Nat × Obj) (A B C D : List (Nat × Obj)), (u :: x :: y :: (A ++ (B ++ (C ++ D)))).Perm (u :: (C ++ (x :: y :: (A ++ (B ++ D))))) := by
            intro u x y A B C D
            refine List.Perm.cons _ ?_
            have e1 : x :: y :: (A ++ (B ++ (C ++ D))) = ([x, y] ++ (A ++ B)) ++ C ++ D := by simp
            have e2 : C ++ (x :: y :: (A ++ (B ++ D))) = C ++ ([x, y] ++ (A ++ B)) ++ D := by simp
            rw [e1, e2]
            exact List.Perm.append_right _ List.perm_append_comm
          have hpv1 : one1 pv = true := by
            rcases hop.2 with ⟨e, _⟩ | ⟨_, _, _, e, _⟩ <;> rw [e] <;> rfl
          refine ap57 (h.perm (hpm _ _ _ _ _ _ _)) hof rfl (by simp [one1, Value.cells]; simpa [one1] using hpv1) (by omega) (by omega) fun v' M' w hof' h => ?_
          have h := h.perm (M := (b, cl (cutC iv (pos + 1) sp fv) 59) :: (M' ++ ((Mb ++ (Mp ++ Ms)) ++ ((bf, cl #[.int .u32 f.id, .int .i64 (f.pos : Int), pv, .slice ba f.blocks.length bc, .int .i64 (pos : Int)] 96) :: L)))) (perm_of fun c d ha hc h0 => by simp only [ha, hc, h0]; omega)
          have hf := h.facts
          simp only [Facts] at hf
          try simp (disch := omega) only [cnd_bool, on_some_eq, Dr_eq, xNil_ptr, xNil_func, xNil_yield, xPick_bool, unw_nil, xRes_ptr, xUn_not, xUn_neg, xEx_tuple, xBin_add, xBin_sub, xBin_mul, xBin_eql, xBin_neq, xBin_lss, xBin_leq, xBin_gtr, xBin_geq, xBin_eqls, xBin_neqs, wI64, oCell_some, List.getElem?_toArray, List.getElem?_cons_zero, List.getElem?_cons_succ, Nat.zero_add, Bool.not_true, Bool.not_false, if_true, if_false, ite_true, ite_false, beq_iff_eq, bne_iff_ne, decide_eq_true_eq, ne_eq, Bool.false_eq_true, Bool.true_eq_false, reduceIte, Option.some.injEq, Int.toNat_natCast, beq_self_eq_true, bne_self_eq_false, Value.cells, splice, List.setIfInBounds_toArray, List.set_cons_zero, List.set_cons_succ, List.size_toArray, List.length_cons, List.length_nil, and_self, Nat.reduceLeDiff, Nat.reduceAdd, Nat.reduceMul, Int.reduceToNat, Int.reduceLT, Int.reduceLE, Int.reduceGT, Int.reduceGE, Int.reduceAdd, Int.reduceSub, Int.reduceMul, Int.reduceNeg, Int.reduceEq, Int.reduceNe, true_and, and_true, Int.cast_ofNat_Int, Nat.le_refl, hf, ld3, ld22, ld23, ln23, ia23, ld27, bd27_0_1, ld28, ia28, bd28, ld40, ln40, ia40, ld53, fa53_0, fa53_1, fa53_2, fa53_3, ld57, ln57, ia57, ld59, fa59_0, fa59_1, fa59_2, fa59_3, bd59_0, ld94, ln94, ia94, ld96, fa96_2, fa96_3, fa96_4, bd96_0_1, eql54_n, eql54_s, ow2, ow3, ow4, ow5, ow6, ow8, ow11, ow20, ow23]
          have hv1 : one1 v' = true := by
            rcases hof'.2 with ⟨e, _⟩ | ⟨_, _, _, e, _⟩ <;> rw [e] <;> rfl
          refine soStore1 ty57 0 h (fun w h => ?_) rfl (by rw [cutC_size _ _ hs]; omega) hv1
          simp only [List.set_cons_zero] at h
          rw [cutC_set22 _ _ hs] at h
          refine hG (pos + 1) { f with fin := pos } v' [.int .u32 f.id, .int .i64 (f.pos : Int), pv, .slice ba f.blocks.length bc, .int .i64 (pos : Int)] M' (Mb ++ (Mp ++ Ms)) w (by omega) (by omega) (fun r e fs' hc => hr _ _ _ (.fin h3 hbne h8 hc)) ?_ ?_ ?_
          · simpa [Value.cells] using hof'
          · refine hfc.snoc (fun x hx => by simp [hx]) ⟨pv, _, Mp, Mb, rfl, hop, hob, fun x hx => by simp [hx], fun x hx => by simp [hx]⟩ rfl
          · exact (h.perm (M := (bf, cl #[.int .u32 f.id, .int .i64 (f.pos : Int), pv, .slice ba f.blocks.length bc, .int .i64 (pos : Int)] 96) :: ((b, cl (cutC iv (pos + 1) sp v') 59) :: (M' ++ ((Mb ++ (Mp ++ Ms)) ++ L)))) (perm_of fun c d ha hc h0 => by simp only [ha, hc, h0]; omega)).drop
        · rw [if_pos (by omega)]
          exact fail pos w (.noE h3 hbne h8) hp (So.dropMid (M := [_] ++ (Mb ++ Mp)) (by simpa using h))
end
end Go.Proofs.Ytlmcppbpobnfjaa

