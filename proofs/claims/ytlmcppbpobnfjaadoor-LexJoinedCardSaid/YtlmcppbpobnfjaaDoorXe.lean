/-
  lex: plain numbers of one digit, a number behind a -.
-/
import Derived.Test.YtlmcppbpobnfjaaDoorXd
import Derived.Lib.SmallJoins
namespace Go.Proofs.YtlmcppbpobnfjaaDoor
open Go Go.Vc
set_option linter.unusedSimpArgs false
set_option linter.unusedVariables false
set_option maxRecDepth 20000

theorem wrap_u32 (n : Int) (h0 : 0 ≤ n) (h1 : n ≤ 4294967295) : IntKind.wrap .u32 n = n := by
  simp [IntKind.wrap, IntKind.signed, IntKind.bits]; omega
theorem So.below {w0 w w' : World} {L : List (Nat × Obj)} (h : So w0 w L) (hb : Go.RowKit.Below w.heap.size w w') : So w0 w' L := by
  have := h.calls (M := []) ⟨St.of_below hb, by simp⟩
  simpa using this
/-- What strconv.ErrSyntax holds: an error, or none. -/
def ErrS (w0 : World) : Prop := ∃ ev, renP.g 0 < w0.heap.size ∧ w0.cell? ⟨renP.g 0, 0, none⟩ = some ev ∧ (ev = .nilIface ∨ ∃ te pe, ev = .iface te pe)
section
variable {w0 : World} {L : List (Nat × Obj)}
theorem ErrS.go {w : World} (hE : ErrS w0) (h : So w0 w L) : ∃ ev, w.cell? ⟨renP.g 0, 0, none⟩ = some ev ∧ (ev = .nilIface ∨ ∃ te pe, ev = .iface te pe) := by
  obtain ⟨ev, h1, h2, h3⟩ := hE
  refine ⟨ev, ?_, h3⟩
  cases hob : w0.heap[renP.g 0]? with
  | none => rw [Array.getElem?_eq_none_iff] at hob; omega
  | some ob =>
    have := h.old hob
    unfold World.cell? at h2 ⊢
    rw [hob] at h2
    rw [this]
    exact h2
theorem c_parse_ok {w : World} (h : So w0 w L) (l : List UInt8) (hl : l.length ≤ 1099511627776) (u : Nat) (hp : Lib.parseUintB 32 l = .ok u) : Cx P 25 #[.string (bs l), .int .i64 10, .int .i64 32] w fun v w => v = .tuple #[.int .u64 u, .nilIface] ∧ So w0 w L := by
  refine Cx.of (Any.strconv_ParseUint_10_at32_ok lays_renP (bs l) (by rw [bs_size]; omega) u hp w) fun e w' ⟨h1, h2⟩ => ⟨_, h1, rfl, ?_⟩
  rcases h2 with rfl | rfl
  · exact h
  · exact So.below h (Go.Joins.below_bytesWorld _ _ _ _ (Nat.le_refl _))
theorem c_parse_bad {w : World} (hE : ErrS w0) (h : So w0 w L) (l : List UInt8) (hl : l.length ≤ 1099511627776) (hp : Lib.parseUintB 32 l = Lib.parseUintB 32 []) : Cx P 25 #[.string (bs l), .int .i64 10, .int .i64 32] w fun v w => (∃ N, v = .tuple #[.int .u64 0, .iface 86 (.pointer (some ⟨N, 0, none⟩))]) ∧ So w0 w L := by
  obtain ⟨ev, h1, h2⟩ := hE.go h
  refine Cx.of (Any.strconv_ParseUint_10_at32_syntax lays_renP (bs l) (by rw [bs_size]; omega) (hp.trans (if_pos rfl)) ev w h1 h2) fun e w' ⟨N, h1, _, _, h2⟩ => ⟨_, h1, ⟨N, rfl⟩, So.below h h2⟩
def digits36 : List UInt8 := [48, 49, 50, 51, 52, 53, 54, 55, 56, 57, 97, 98, 99, 100, 101, 102, 103, 104, 105, 106, 107, 108, 109, 110, 111, 112, 113, 114, 115, 116, 117, 118, 119, 120, 121, 122]
theorem digits36_at (n : Nat) (hn : n < 10) : (digits36.drop (n : Int).toNat).take (((n : Int) + 1).toNat - (n : Int).toNat) = [UInt8.ofNat (48 + n)] := by
  have : n = 0 ∨ n = 1 ∨ n = 2 ∨ n = 3 ∨ n = 4 ∨ n = 5 ∨ n = 6 ∨ n = 7 ∨ n = 8 ∨ n = 9 := by omega
  rcases this with rfl | rfl | rfl | rfl | rfl | rfl | rfl | rfl | rfl | rfl <;> rfl
theorem c_format1 {w : World} (h : So w0 w L) (n : Nat) (hn : n < 10) : Cx P 26 #[.int .u64 n, .int .i64 10] w fun v w => v = .string (bs [UInt8.ofNat (48 + n)]) ∧ So w0 w L := by
  apply F26_ok
  unfold F26
  apply F37_ok
  unfold F37
  try simp (disch := omega) only [cnd_bool, on_some_eq, Dr_eq, xNil_ptr, xNil_func, xNil_yield, xPick_bool, unw_nil, xRes_ptr, xUn_not, xUn_neg, xEx_tuple, xBin_add, xBin_sub, xBin_mul, xBin_eql, xBin_neq, xBin_lss, xBin_leq, xBin_gtr, xBin_geq, xBin_eqls, xBin_neqs, wI64, oCell_some, List.getElem?_toArray, List.getElem?_cons_zero, List.getElem?_cons_succ, Nat.zero_add, Bool.not_true, Bool.not_false, if_true, if_false, ite_true, ite_false, beq_iff_eq, bne_iff_ne, decide_eq_true_eq, ne_eq, Bool.false_eq_true, Bool.true_eq_false, reduceIte, Option.some.injEq, Int.toNat_natCast, beq_self_eq_true, bne_self_eq_false, Value.cells, splice, List.setIfInBounds_toArray, List.set_cons_zero, List.set_cons_succ, List.size_toArray, List.length_cons, List.length_nil, and_self, Nat.reduceLeDiff, Nat.reduceAdd, Nat.reduceMul, Int.reduceToNat, Int.reduceLT, Int.reduceLE, Int.reduceGT, Int.reduceGE, Int.reduceAdd, Int.reduceSub, Int.reduceMul, Int.reduceNeg, Int.reduceEq, Int.reduceNe, true_and, and_true, Int.cast_ofNat_Int, Nat.le_refl, ld3, ld9, ln9, ix9, ld27, ln27, ia27, ld28, ld51, ld57, ln57, ia57, ld69, ld90, ia90, ow2, ow3, ow24, cv69_3, cv69_51]
  rw [if_pos (by omega)]
  apply F49_ok
  unfold F49
  try simp (disch := omega) only [cnd_bool, on_some_eq, Dr_eq, xNil_ptr, xNil_func, xNil_yield, xPick_bool, unw_nil, xRes_ptr, xUn_not, xUn_neg, xEx_tuple, xBin_add, xBin_sub, xBin_mul, xBin_eql, xBin_neq, xBin_lss, xBin_leq, xBin_gtr, xBin_geq, xBin_eqls, xBin_neqs, wI64, oCell_some, List.getElem?_toArray, List.getElem?_cons_zero, List.getElem?_cons_succ, Nat.zero_add, Bool.not_true, Bool.not_false, if_true, if_false, ite_true, ite_false, beq_iff_eq, bne_iff_ne, decide_eq_true_eq, ne_eq, Bool.false_eq_true, Bool.true_eq_false, reduceIte, Option.some.injEq, Int.toNat_natCast, beq_self_eq_true, bne_self_eq_false, Value.cells, splice, List.setIfInBounds_toArray, List.set_cons_zero, List.set_cons_succ, List.size_toArray, List.length_cons, List.length_nil, and_self, Nat.reduceLeDiff, Nat.reduceAdd, Nat.reduceMul, Int.reduceToNat, Int.reduceLT, Int.reduceLE, Int.reduceGT, Int.reduceGE, Int.reduceAdd, Int.reduceSub, Int.reduceMul, Int.reduceNeg, Int.reduceEq, Int.reduceNe, true_and, and_true, Int.cast_ofNat_Int, Nat.le_refl, ld3, ld9, ln9, ix9, ld27, ln27, ia27, ld28, ld51, ld57, ln57, ia57, ld69, ld90, ia90, ow2, ow3, ow24, cv69_3, cv69_51]
  rw [if_pos (by omega)]
  show on (xSl P 9 (.string (bs digits36)) (some (.int .i64 (n : Int))) (some (.int .i64 ((n : Int) + 1))) none) fun x8 => x8 = Value.string (bs [UInt8.ofNat (48 + n)]) ∧ So w0 w L
  rw [xSl_strLH un9 digits36 .i64 .i64 n (n + 1) (by omega) (by omega) (by simp [digits36]; omega), digits36_at n hn]
  try simp (disch := omega) only [cnd_bool, on_some_eq, Dr_eq, xNil_ptr, xNil_func, xNil_yield, xPick_bool, unw_nil, xRes_ptr, xUn_not, xUn_neg, xEx_tuple, xBin_add, xBin_sub, xBin_mul, xBin_eql, xBin_neq, xBin_lss, xBin_leq, xBin_gtr, xBin_geq, xBin_eqls, xBin_neqs, wI64, oCell_some, List.getElem?_toArray, List.getElem?_cons_zero, List.getElem?_cons_succ, Nat.zero_add, Bool.not_true, Bool.not_false, if_true, if_false, ite_true, ite_false, beq_iff_eq, bne_iff_ne, decide_eq_true_eq, ne_eq, Bool.false_eq_true, Bool.true_eq_false, reduceIte, Option.some.injEq, Int.toNat_natCast, beq_self_eq_true, bne_self_eq_false, Value.cells, splice, List.setIfInBounds_toArray, List.set_cons_zero, List.set_cons_succ, List.size_toArray, List.length_cons, List.length_nil, and_self, Nat.reduceLeDiff, Nat.reduceAdd, Nat.reduceMul, Int.reduceToNat, Int.reduceLT, Int.reduceLE, Int.reduceGT, Int.reduceGE, Int.reduceAdd, Int.reduceSub, Int.reduceMul, Int.reduceNeg, Int.reduceEq, Int.reduceNe, true_and, and_true, Int.cast_ofNat_Int, Nat.le_refl, ld3, ld9, ln9, ix9, ld27, ln27, ia27, ld28, ld51, ld57, ln57, ia57, ld69, ld90, ia90, ow2, ow3, ow24, cv69_3, cv69_51]
  exact h
/-- A digit is a plain number. -/
theorem c_plain1 {w : World} (h : So w0 w L) (n : Nat) (hn : n < 10) : Cx P 17 #[.string (bs [UInt8.ofNat (48 + n)])] w fun v w => v = .tuple #[.int .u32 n, .bool true] ∧ So w0 w L := by
  apply F17_ok
  unfold F17
  have hp : Lib.parseUintB 32 [UInt8.ofNat (48 + n)] = .ok n := by
    have : n = 0 ∨ n = 1 ∨ n = 2 ∨ n = 3 ∨ n = 4 ∨ n = 5 ∨ n = 6 ∨ n = 7 ∨ n = 8 ∨ n = 9 := by omega
    rcases this with rfl | rfl | rfl | rfl | rfl | rfl | rfl | rfl | rfl | rfl <;> decide
  refine Cx.mono (c_parse_ok h [UInt8.ofNat (48 + n)] (by simp) n hp) fun v w hv => ?_
  obtain ⟨rfl, h⟩ := hv
  have he : xBin P .eql 62 false true .nilIface .nilIface = some (.bool true) := by kernel_rfl
  try simp (disch := omega) only [cnd_bool, on_some_eq, Dr_eq, xNil_ptr, xNil_func, xNil_yield, xPick_bool, unw_nil, xRes_ptr, xUn_not, xUn_neg, xEx_tuple, xBin_add, xBin_sub, xBin_mul, xBin_eql, xBin_neq, xBin_lss, xBin_leq, xBin_gtr, xBin_geq, xBin_eqls, xBin_neqs, wI64, oCell_some, List.getElem?_toArray, List.getElem?_cons_zero, List.getElem?_cons_succ, Nat.zero_add, Bool.not_true, Bool.not_false, if_true, if_false, ite_true, ite_false, beq_iff_eq, bne_iff_ne, decide_eq_true_eq, ne_eq, Bool.false_eq_true, Bool.true_eq_false, reduceIte, Option.some.injEq, Int.toNat_natCast, beq_self_eq_true, bne_self_eq_false, Value.cells, splice, List.setIfInBounds_toArray, List.set_cons_zero, List.set_cons_succ, List.size_toArray, List.length_cons, List.length_nil, and_self, Nat.reduceLeDiff, Nat.reduceAdd, Nat.reduceMul, Int.reduceToNat, Int.reduceLT, Int.reduceLE, Int.reduceGT, Int.reduceGE, Int.reduceAdd, Int.reduceSub, Int.reduceMul, Int.reduceNeg, Int.reduceEq, Int.reduceNe, true_and, and_true, Int.cast_ofNat_Int, Nat.le_refl, ld3, ld9, ln9, ix9, ld27, ln27, ia27, ld28, ld51, ld57, ln57, ia57, ld69, ld90, ia90, ow2, ow3, ow24, cv69_3, cv69_51, he]
  refine Cx.mono (c_format1 h n hn) fun v w hv => ?_
  obtain ⟨rfl, h⟩ := hv
  try simp (disch := omega) only [cnd_bool, on_some_eq, Dr_eq, xNil_ptr, xNil_func, xNil_yield, xPick_bool, unw_nil, xRes_ptr, xUn_not, xUn_neg, xEx_tuple, xBin_add, xBin_sub, xBin_mul, xBin_eql, xBin_neq, xBin_lss, xBin_leq, xBin_gtr, xBin_geq, xBin_eqls, xBin_neqs, wI64, oCell_some, List.getElem?_toArray, List.getElem?_cons_zero, List.getElem?_cons_succ, Nat.zero_add, Bool.not_true, Bool.not_false, if_true, if_false, ite_true, ite_false, beq_iff_eq, bne_iff_ne, decide_eq_true_eq, ne_eq, Bool.false_eq_true, Bool.true_eq_false, reduceIte, Option.some.injEq, Int.toNat_natCast, beq_self_eq_true, bne_self_eq_false, Value.cells, splice, List.setIfInBounds_toArray, List.set_cons_zero, List.set_cons_succ, List.size_toArray, List.length_cons, List.length_nil, and_self, Nat.reduceLeDiff, Nat.reduceAdd, Nat.reduceMul, Int.reduceToNat, Int.reduceLT, Int.reduceLE, Int.reduceGT, Int.reduceGE, Int.reduceAdd, Int.reduceSub, Int.reduceMul, Int.reduceNeg, Int.reduceEq, Int.reduceNe, true_and, and_true, Int.cast_ofNat_Int, Nat.le_refl, ld3, ld9, ln9, ix9, ld27, ln27, ia27, ld28, ld51, ld57, ln57, ia57, ld69, ld90, ia90, ow2, ow3, ow24, cv69_3, cv69_51, bs_toList]
  rw [wrap_u32 _ (by omega) (by omega)]
  first | exact h | exact ⟨rfl, h⟩
theorem c_plain_bad {w : World} (hE : ErrS w0) (h : So w0 w L) (l : List UInt8) (hl : l.length ≤ 1099511627776) (hp : Lib.parseUintB 32 l = Lib.parseUintB 32 []) : Cx P 17 #[.string (bs l)] w fun v w => v = .tuple #[.int .u32 0, .bool false] ∧ So w0 w L := by
  apply F17_ok
  unfold F17
  refine Cx.mono (c_parse_bad hE h l hl hp) fun v w hv => ?_
  obtain ⟨⟨N, rfl⟩, h⟩ := hv
  have he : xBin P .eql 62 false true (.iface 86 (.pointer (some ⟨N, 0, none⟩))) .nilIface = some (.bool false) := by kernel_rfl
  try simp (disch := omega) only [cnd_bool, on_some_eq, Dr_eq, xNil_ptr, xNil_func, xNil_yield, xPick_bool, unw_nil, xRes_ptr, xUn_not, xUn_neg, xEx_tuple, xBin_add, xBin_sub, xBin_mul, xBin_eql, xBin_neq, xBin_lss, xBin_leq, xBin_gtr, xBin_geq, xBin_eqls, xBin_neqs, wI64, oCell_some, List.getElem?_toArray, List.getElem?_cons_zero, List.getElem?_cons_succ, Nat.zero_add, Bool.not_true, Bool.not_false, if_true, if_false, ite_true, ite_false, beq_iff_eq, bne_iff_ne, decide_eq_true_eq, ne_eq, Bool.false_eq_true, Bool.true_eq_false, reduceIte, Option.some.injEq, Int.toNat_natCast, beq_self_eq_true, bne_self_eq_false, Value.cells, splice, List.setIfInBounds_toArray, List.set_cons_zero, List.set_cons_succ, List.size_toArray, List.length_cons, List.length_nil, and_self, Nat.reduceLeDiff, Nat.reduceAdd, Nat.reduceMul, Int.reduceToNat, Int.reduceLT, Int.reduceLE, Int.reduceGT, Int.reduceGE, Int.reduceAdd, Int.reduceSub, Int.reduceMul, Int.reduceNeg, Int.reduceEq, Int.reduceNe, true_and, and_true, Int.cast_ofNat_Int, Nat.le_refl, ld3, ld9, ln9, ix9, ld27, ln27, ia27, ld28, ld51, ld57, ln57, ia57, ld69, ld90, ia90, ow2, ow3, ow24, cv69_3, cv69_51, he]
  rw [wrap_u32 _ (by omega) (by omega)]
  first | exact h | exact ⟨rfl, h⟩
/-- - and a digit, not 0, is a number. -/
theorem c_number1 {w : World} (hE : ErrS w0) (h : So w0 w L) (n : Nat) (h0 : 0 < n) (hn : n < 10) : Cx P 18 #[.string (bs [45, UInt8.ofNat (48 + n)])] w fun v w => v = .tuple #[.int .u32 (4294967296 - n), .int .i64 0] ∧ So w0 w L := by
  apply F18_ok
  unfold F18
  have hcase : n = 1 ∨ n = 2 ∨ n = 3 ∨ n = 4 ∨ n = 5 ∨ n = 6 ∨ n = 7 ∨ n = 8 ∨ n = 9 := by omega
  have hp : Lib.parseUintB 32 [45, UInt8.ofNat (48 + n)] = Lib.parseUintB 32 [] := by
    rcases hcase with rfl | rfl | rfl | rfl | rfl | rfl | rfl | rfl | rfl <;> decide
  refine Cx.mono (c_plain_bad hE h _ (by simp) hp) fun v w hv => ?_
  obtain ⟨rfl, h⟩ := hv
  try simp (disch := omega) only [cnd_bool, on_some_eq, Dr_eq, xNil_ptr, xNil_func, xNil_yield, xPick_bool, unw_nil, xRes_ptr, xUn_not, xUn_neg, xEx_tuple, xBin_add, xBin_sub, xBin_mul, xBin_eql, xBin_neq, xBin_lss, xBin_leq, xBin_gtr, xBin_geq, xBin_eqls, xBin_neqs, wI64, oCell_some, List.getElem?_toArray, List.getElem?_cons_zero, List.getElem?_cons_succ, Nat.zero_add, Bool.not_true, Bool.not_false, if_true, if_false, ite_true, ite_false, beq_iff_eq, bne_iff_ne, decide_eq_true_eq, ne_eq, Bool.false_eq_true, Bool.true_eq_false, reduceIte, Option.some.injEq, Int.toNat_natCast, beq_self_eq_true, bne_self_eq_false, Value.cells, splice, List.setIfInBounds_toArray, List.set_cons_zero, List.set_cons_succ, List.size_toArray, List.length_cons, List.length_nil, and_self, Nat.reduceLeDiff, Nat.reduceAdd, Nat.reduceMul, Int.reduceToNat, Int.reduceLT, Int.reduceLE, Int.reduceGT, Int.reduceGE, Int.reduceAdd, Int.reduceSub, Int.reduceMul, Int.reduceNeg, Int.reduceEq, Int.reduceNe, true_and, and_true, Int.cast_ofNat_Int, Nat.le_refl, ld3, ld9, ln9, ix9, ld27, ln27, ia27, ld28, ld51, ld57, ln57, ia57, ld69, ld90, ia90, ow2, ow3, ow24, cv69_3, cv69_51]
  unfold F18.k1
  have hcp := Any.strings_CutPrefix lays_renC (bs [45, UInt8.ofNat (48 + n)]) (bs [45]) w
  refine Cx.of hcp fun e w' ⟨h1, h2⟩ => ⟨_, h1, ?_⟩
  subst h2
  have hpre : Lib.hasPrefix (bs [45, UInt8.ofNat (48 + n)]).data.toList (bs [45]).data.toList = true := by
    rcases hcase with rfl | rfl | rfl | rfl | rfl | rfl | rfl | rfl | rfl <;> rfl
  have htr : (Lib.trimPrefix (bs [45, UInt8.ofNat (48 + n)]).data.toList (bs [45]).data.toList) = [UInt8.ofNat (48 + n)] := by
    rcases hcase with rfl | rfl | rfl | rfl | rfl | rfl | rfl | rfl | rfl <;> rfl
  rw [hpre, htr, bs_mk]
  try simp (disch := omega) only [cnd_bool, on_some_eq, Dr_eq, xNil_ptr, xNil_func, xNil_yield, xPick_bool, unw_nil, xRes_ptr, xUn_not, xUn_neg, xEx_tuple, xBin_add, xBin_sub, xBin_mul, xBin_eql, xBin_neq, xBin_lss, xBin_leq, xBin_gtr, xBin_geq, xBin_eqls, xBin_neqs, wI64, oCell_some, List.getElem?_toArray, List.getElem?_cons_zero, List.getElem?_cons_succ, Nat.zero_add, Bool.not_true, Bool.not_false, if_true, if_false, ite_true, ite_false, beq_iff_eq, bne_iff_ne, decide_eq_true_eq, ne_eq, Bool.false_eq_true, Bool.true_eq_false, reduceIte, Option.some.injEq, Int.toNat_natCast, beq_self_eq_true, bne_self_eq_false, Value.cells, splice, List.setIfInBounds_toArray, List.set_cons_zero, List.set_cons_succ, List.size_toArray, List.length_cons, List.length_nil, and_self, Nat.reduceLeDiff, Nat.reduceAdd, Nat.reduceMul, Int.reduceToNat, Int.reduceLT, Int.reduceLE, Int.reduceGT, Int.reduceGE, Int.reduceAdd, Int.reduceSub, Int.reduceMul, Int.reduceNeg, Int.reduceEq, Int.reduceNe, true_and, and_true, Int.cast_ofNat_Int, Nat.le_refl, ld3, ld9, ln9, ix9, ld27, ln27, ia27, ld28, ld51, ld57, ln57, ia57, ld69, ld90, ia90, ow2, ow3, ow24, cv69_3, cv69_51]
  unfold F18.k8 F18.k9
  try simp (disch := omega) only [cnd_bool, on_some_eq, Dr_eq, xNil_ptr, xNil_func, xNil_yield, xPick_bool, unw_nil, xRes_ptr, xUn_not, xUn_neg, xEx_tuple, xBin_add, xBin_sub, xBin_mul, xBin_eql, xBin_neq, xBin_lss, xBin_leq, xBin_gtr, xBin_geq, xBin_eqls, xBin_neqs, wI64, oCell_some, List.getElem?_toArray, List.getElem?_cons_zero, List.getElem?_cons_succ, Nat.zero_add, Bool.not_true, Bool.not_false, if_true, if_false, ite_true, ite_false, beq_iff_eq, bne_iff_ne, decide_eq_true_eq, ne_eq, Bool.false_eq_true, Bool.true_eq_false, reduceIte, Option.some.injEq, Int.toNat_natCast, beq_self_eq_true, bne_self_eq_false, Value.cells, splice, List.setIfInBounds_toArray, List.set_cons_zero, List.set_cons_succ, List.size_toArray, List.length_cons, List.length_nil, and_self, Nat.reduceLeDiff, Nat.reduceAdd, Nat.reduceMul, Int.reduceToNat, Int.reduceLT, Int.reduceLE, Int.reduceGT, Int.reduceGE, Int.reduceAdd, Int.reduceSub, Int.reduceMul, Int.reduceNeg, Int.reduceEq, Int.reduceNe, true_and, and_true, Int.cast_ofNat_Int, Nat.le_refl, ld3, ld9, ln9, ix9, ld27, ln27, ia27, ld28, ld51, ld57, ln57, ia57, ld69, ld90, ia90, ow2, ow3, ow24, cv69_3, cv69_51]
  refine Cx.mono (c_plain1 h n hn) fun v w hv => ?_
  obtain ⟨rfl, h⟩ := hv
  try simp (disch := omega) only [cnd_bool, on_some_eq, Dr_eq, xNil_ptr, xNil_func, xNil_yield, xPick_bool, unw_nil, xRes_ptr, xUn_not, xUn_neg, xEx_tuple, xBin_add, xBin_sub, xBin_mul, xBin_eql, xBin_neq, xBin_lss, xBin_leq, xBin_gtr, xBin_geq, xBin_eqls, xBin_neqs, wI64, oCell_some, List.getElem?_toArray, List.getElem?_cons_zero, List.getElem?_cons_succ, Nat.zero_add, Bool.not_true, Bool.not_false, if_true, if_false, ite_true, ite_false, beq_iff_eq, bne_iff_ne, decide_eq_true_eq, ne_eq, Bool.false_eq_true, Bool.true_eq_false, reduceIte, Option.some.injEq, Int.toNat_natCast, beq_self_eq_true, bne_self_eq_false, Value.cells, splice, List.setIfInBounds_toArray, List.set_cons_zero, List.set_cons_succ, List.size_toArray, List.length_cons, List.length_nil, and_self, Nat.reduceLeDiff, Nat.reduceAdd, Nat.reduceMul, Int.reduceToNat, Int.reduceLT, Int.reduceLE, Int.reduceGT, Int.reduceGE, Int.reduceAdd, Int.reduceSub, Int.reduceMul, Int.reduceNeg, Int.reduceEq, Int.reduceNe, true_and, and_true, Int.cast_ofNat_Int, Nat.le_refl, ld3, ld9, ln9, ix9, ld27, ln27, ia27, ld28, ld51, ld57, ln57, ia57, ld69, ld90, ia90, ow2, ow3, ow24, cv69_3, cv69_51]
  rw [if_pos (by omega)]
  unfold F18.k10
  have : decide ((n : Int) ≤ 2147483648) = true := by simp; omega
  rw [this]
  try simp (disch := omega) only [cnd_bool, on_some_eq, Dr_eq, xNil_ptr, xNil_func, xNil_yield, xPick_bool, unw_nil, xRes_ptr, xUn_not, xUn_neg, xEx_tuple, xBin_add, xBin_sub, xBin_mul, xBin_eql, xBin_neq, xBin_lss, xBin_leq, xBin_gtr, xBin_geq, xBin_eqls, xBin_neqs, wI64, oCell_some, List.getElem?_toArray, List.getElem?_cons_zero, List.getElem?_cons_succ, Nat.zero_add, Bool.not_true, Bool.not_false, if_true, if_false, ite_true, ite_false, beq_iff_eq, bne_iff_ne, decide_eq_true_eq, ne_eq, Bool.false_eq_true, Bool.true_eq_false, reduceIte, Option.some.injEq, Int.toNat_natCast, beq_self_eq_true, bne_self_eq_false, Value.cells, splice, List.setIfInBounds_toArray, List.set_cons_zero, List.set_cons_succ, List.size_toArray, List.length_cons, List.length_nil, and_self, Nat.reduceLeDiff, Nat.reduceAdd, Nat.reduceMul, Int.reduceToNat, Int.reduceLT, Int.reduceLE, Int.reduceGT, Int.reduceGE, Int.reduceAdd, Int.reduceSub, Int.reduceMul, Int.reduceNeg, Int.reduceEq, Int.reduceNe, true_and, and_true, Int.cast_ofNat_Int, Nat.le_refl, ld3, ld9, ln9, ix9, ld27, ln27, ia27, ld28, ld51, ld57, ln57, ia57, ld69, ld90, ia90, ow2, ow3, ow24, cv69_3, cv69_51]
  refine ⟨?_, h⟩
  congr 3
  simp [IntKind.wrap, IntKind.signed, IntKind.bits]; omega
end
end Go.Proofs.YtlmcppbpobnfjaaDoor

