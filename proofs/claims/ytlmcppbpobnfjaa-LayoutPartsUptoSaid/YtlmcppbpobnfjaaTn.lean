/-
  The letters' enumerants as plain data: texts and rows; printed by this session's tabgen2.py.
-/
import Derived.Test.YtlmcppbpobnfjaaGl
namespace Go.Proofs.Ytlmcppbpobnfjaa
open Go Go.Vc
set_option linter.unusedSimpArgs false
set_option linter.unusedVariables false
set_option maxRecDepth 20000

def nameTexts : List (Int × List UInt8) := (107, [48, 32, 77, 97, 116, 114, 105, 120, 32, 49, 32, 83, 104, 97, 100, 101, 114, 32]) ::
  (97, [48, 32, 76, 111, 103, 105, 99, 97, 108, 32]) ::
  (109, [48, 32, 83, 105, 109, 112, 108, 101, 32, 49, 32, 71, 76, 83, 76, 52, 53, 48, 32]) ::
  (101, [48, 32, 86, 101, 114, 116, 101, 120, 32, 52, 32, 70, 114, 97, 103, 109, 101, 110, 116, 32]) ::
  (120, [55, 32, 79, 114, 105, 103, 105, 110, 85, 112, 112, 101, 114, 76, 101, 102, 116, 32]) ::
  (108, [48, 32, 85, 110, 107, 110, 111, 119, 110, 32, 49, 32, 69, 83, 83, 76, 32, 50, 32, 71, 76, 83, 76, 32]) ::
  (99, [49, 32, 73, 110, 112, 117, 116, 32, 51, 32, 79, 117, 116, 112, 117, 116, 32, 54, 32, 80, 114, 105, 118, 97, 116, 101, 32, 55, 32, 70, 117, 110, 99, 116, 105, 111, 110, 32]) ::
  (100, [48, 32, 82, 101, 108, 97, 120, 101, 100, 80, 114, 101, 99, 105, 115, 105, 111, 110, 32, 49, 49, 32, 66, 117, 105, 108, 116, 73, 110, 32, 49, 52, 32, 70, 108, 97, 116, 32, 51, 48, 32, 76, 111, 99, 97, 116, 105, 111, 110, 32]) ::
  (102, [48, 32, 78, 111, 110, 101, 32, 49, 32, 73, 110, 108, 105, 110, 101, 32, 50, 32, 68, 111, 110, 116, 73, 110, 108, 105, 110, 101, 32, 52, 32, 80, 117, 114, 101, 32, 56, 32, 67, 111, 110, 115, 116, 32]) ::
  (104, [48, 32, 78, 111, 110, 101, 32, 49, 32, 70, 108, 97, 116, 116, 101, 110, 32, 50, 32, 68, 111, 110, 116, 70, 108, 97, 116, 116, 101, 110, 32]) ::
  (103, [48, 32, 78, 111, 110, 101, 32, 49, 32, 85, 110, 114, 111, 108, 108, 32, 50, 32, 68, 111, 110, 116, 85, 110, 114, 111, 108, 108, 32]) :: []
def nameRows : List (Int × Int × List UInt8) := (107, 0, [77, 97, 116, 114, 105, 120]) ::
  (107, 1, [83, 104, 97, 100, 101, 114]) ::
  (97, 0, [76, 111, 103, 105, 99, 97, 108]) ::
  (109, 0, [83, 105, 109, 112, 108, 101]) ::
  (109, 1, [71, 76, 83, 76, 52, 53, 48]) ::
  (101, 0, [86, 101, 114, 116, 101, 120]) ::
  (101, 4, [70, 114, 97, 103, 109, 101, 110, 116]) ::
  (120, 7, [79, 114, 105, 103, 105, 110, 85, 112, 112, 101, 114, 76, 101, 102, 116]) ::
  (108, 0, [85, 110, 107, 110, 111, 119, 110]) ::
  (108, 1, [69, 83, 83, 76]) ::
  (108, 2, [71, 76, 83, 76]) ::
  (99, 1, [73, 110, 112, 117, 116]) ::
  (99, 3, [79, 117, 116, 112, 117, 116]) ::
  (99, 6, [80, 114, 105, 118, 97, 116, 101]) ::
  (99, 7, [70, 117, 110, 99, 116, 105, 111, 110]) ::
  (100, 0, [82, 101, 108, 97, 120, 101, 100, 80, 114, 101, 99, 105, 115, 105, 111, 110]) ::
  (100, 11, [66, 117, 105, 108, 116, 73, 110]) ::
  (100, 14, [70, 108, 97, 116]) ::
  (100, 30, [76, 111, 99, 97, 116, 105, 111, 110]) ::
  (102, 0, [78, 111, 110, 101]) ::
  (102, 1, [73, 110, 108, 105, 110, 101]) ::
  (102, 2, [68, 111, 110, 116, 73, 110, 108, 105, 110, 101]) ::
  (102, 4, [80, 117, 114, 101]) ::
  (102, 8, [67, 111, 110, 115, 116]) ::
  (104, 0, [78, 111, 110, 101]) ::
  (104, 1, [70, 108, 97, 116, 116, 101, 110]) ::
  (104, 2, [68, 111, 110, 116, 70, 108, 97, 116, 116, 101, 110]) ::
  (103, 0, [78, 111, 110, 101]) ::
  (103, 1, [85, 110, 114, 111, 108, 108]) ::
  (103, 2, [68, 111, 110, 116, 85, 110, 114, 111, 108, 108]) :: []
def namesOf (letter : Int) : List UInt8 := look [] nameTexts letter
theorem c_names {w0 w : World} {L : List (Nat × Obj)} (h : So w0 w L) (c : Int) : Cx P 116 #[.int .u8 c] w fun v w => v = .string (bs (namesOf c)) ∧ So w0 w L := by
  apply F116_ok
  unfold F116 namesOf nameTexts
  refine case_int (fun e => ⟨by rw [look_pos e], h⟩) fun e => ?_
  rw [look_neg e]
  clear e
  refine case_int (fun e => ⟨by rw [look_pos e], h⟩) fun e => ?_
  rw [look_neg e]
  clear e
  refine case_int (fun e => ⟨by rw [look_pos e], h⟩) fun e => ?_
  rw [look_neg e]
  clear e
  refine case_int (fun e => ⟨by rw [look_pos e], h⟩) fun e => ?_
  rw [look_neg e]
  clear e
  refine case_int (fun e => ⟨by rw [look_pos e], h⟩) fun e => ?_
  rw [look_neg e]
  clear e
  refine case_int (fun e => ⟨by rw [look_pos e], h⟩) fun e => ?_
  rw [look_neg e]
  clear e
  refine case_int (fun e => ⟨by rw [look_pos e], h⟩) fun e => ?_
  rw [look_neg e]
  clear e
  refine case_int (fun e => ⟨by rw [look_pos e], h⟩) fun e => ?_
  rw [look_neg e]
  clear e
  refine case_int (fun e => ⟨by rw [look_pos e], h⟩) fun e => ?_
  rw [look_neg e]
  clear e
  refine case_int (fun e => ⟨by rw [look_pos e], h⟩) fun e => ?_
  rw [look_neg e]
  clear e
  refine case_int (fun e => ⟨by rw [look_pos e], h⟩) fun e => ?_
  rw [look_neg e]
  clear e
  exact ⟨rfl, h⟩
def RowN (x : Int × Int × List UInt8) : List Value := [.int .u8 x.1, .int .u32 x.2.1, .string (bs x.2.2)]
theorem push_name {w0 w : World} {L M : List (Nat × Obj)} {v : Value} {done : List (Int × Int × List UInt8)} (hd : done.length ≤ 1000) (ho : OwnS w0.heap.size 160 3 v done.length (done.map RowN).flatten M) (h : So w0 w (M ++ L)) (a n : Int) (s : List UInt8) {K : Value → World → Prop}
    (k : ∀ v' M' w', OwnS w0.heap.size 160 3 v' (done ++ [(a, n, s)]).length ((done ++ [(a, n, s)]).map RowN).flatten M' → So w0 w' (M' ++ L) → K v' w') :
    on (xBuild P 160 #[(0, .int .u8 a), (1, .int .u32 n), (2, .string (bs s))]) fun x => eBS P 157 1 #[(0, x)] w fun y w => eApp P #[157, 157] #[v, y] w K := by
  try simp (disch := omega) only [cnd_bool, on_some_eq, Dr_eq, xNil_ptr, xNil_func, xNil_yield, xPick_bool, unw_nil, xRes_ptr, xUn_not, xUn_neg, xEx_tuple, xBin_add, xBin_sub, xBin_mul, xBin_eql, xBin_neq, xBin_lss, xBin_leq, xBin_gtr, xBin_geq, xBin_eqls, xBin_neqs, wI64, oCell_some, List.getElem?_toArray, List.getElem?_cons_zero, List.getElem?_cons_succ, Nat.zero_add, Bool.not_true, Bool.not_false, if_true, if_false, ite_true, ite_false, beq_iff_eq, bne_iff_ne, decide_eq_true_eq, ne_eq, Bool.false_eq_true, Bool.true_eq_false, reduceIte, Option.some.injEq, Int.toNat_natCast, beq_self_eq_true, bne_self_eq_false, Value.cells, splice, List.setIfInBounds_toArray, List.set_cons_zero, List.set_cons_succ, List.size_toArray, List.length_cons, List.length_nil, and_self, Nat.reduceLeDiff, Nat.reduceAdd, Nat.reduceMul, Int.reduceToNat, Int.reduceLT, Int.reduceLE, Int.reduceGT, Int.reduceGE, Int.reduceAdd, Int.reduceSub, Int.reduceMul, Int.reduceNeg, Int.reduceEq, Int.reduceNe, true_and, and_true, Int.cast_ofNat_Int, Nat.le_refl, ld5, ld157, ln157, ia157, ld160, fa160_0, fa160_1, fa160_2, bd160_0_1_2, ow2, ow3, ow4, ow5, ow6, ow8, ow11, ow20, ow23]
  refine pu157 h ho rfl (by simp [one1, Value.cells]) (by omega) (by omega) fun v' M' w' ho' h' => k v' M' w' ?_ h'
  simpa [RowN, Value.cells] using ho'
theorem c_refNames {w0 w : World} {L : List (Nat × Obj)} (h : So w0 w L) : Cx P 101 #[] w fun v w => ∃ M, OwnS w0.heap.size 160 3 v nameRows.length (nameRows.map RowN).flatten M ∧ So w0 w (M ++ L) := by
  apply F101_ok
  unfold F101
  have ho : OwnS w0.heap.size 160 3 (.slice none 0 0) ([] : List (Int × Int × List UInt8)).length (([] : List (Int × Int × List UInt8)).map RowN).flatten [] := OwnS.nil _ _ _
  have h : So w0 w ([] ++ L) := h
  refine push_name (by simp) ho h 107 0 [77, 97, 116, 114, 105, 120] fun v M w ho h => ?_
  refine push_name (by simp) ho h 107 1 [83, 104, 97, 100, 101, 114] fun v M w ho h => ?_
  refine push_name (by simp) ho h 97 0 [76, 111, 103, 105, 99, 97, 108] fun v M w ho h => ?_
  refine push_name (by simp) ho h 109 0 [83, 105, 109, 112, 108, 101] fun v M w ho h => ?_
  refine push_name (by simp) ho h 109 1 [71, 76, 83, 76, 52, 53, 48] fun v M w ho h => ?_
  refine push_name (by simp) ho h 101 0 [86, 101, 114, 116, 101, 120] fun v M w ho h => ?_
  refine push_name (by simp) ho h 101 4 [70, 114, 97, 103, 109, 101, 110, 116] fun v M w ho h => ?_
  refine push_name (by simp) ho h 120 7 [79, 114, 105, 103, 105, 110, 85, 112, 112, 101, 114, 76, 101, 102, 116] fun v M w ho h => ?_
  refine push_name (by simp) ho h 108 0 [85, 110, 107, 110, 111, 119, 110] fun v M w ho h => ?_
  refine push_name (by simp) ho h 108 1 [69, 83, 83, 76] fun v M w ho h => ?_
  refine push_name (by simp) ho h 108 2 [71, 76, 83, 76] fun v M w ho h => ?_
  refine push_name (by simp) ho h 99 1 [73, 110, 112, 117, 116] fun v M w ho h => ?_
  refine push_name (by simp) ho h 99 3 [79, 117, 116, 112, 117, 116] fun v M w ho h => ?_
  refine push_name (by simp) ho h 99 6 [80, 114, 105, 118, 97, 116, 101] fun v M w ho h => ?_
  refine push_name (by simp) ho h 99 7 [70, 117, 110, 99, 116, 105, 111, 110] fun v M w ho h => ?_
  refine push_name (by simp) ho h 100 0 [82, 101, 108, 97, 120, 101, 100, 80, 114, 101, 99, 105, 115, 105, 111, 110] fun v M w ho h => ?_
  refine push_name (by simp) ho h 100 11 [66, 117, 105, 108, 116, 73, 110] fun v M w ho h => ?_
  refine push_name (by simp) ho h 100 14 [70, 108, 97, 116] fun v M w ho h => ?_
  refine push_name (by simp) ho h 100 30 [76, 111, 99, 97, 116, 105, 111, 110] fun v M w ho h => ?_
  refine push_name (by simp) ho h 102 0 [78, 111, 110, 101] fun v M w ho h => ?_
  refine push_name (by simp) ho h 102 1 [73, 110, 108, 105, 110, 101] fun v M w ho h => ?_
  refine push_name (by simp) ho h 102 2 [68, 111, 110, 116, 73, 110, 108, 105, 110, 101] fun v M w ho h => ?_
  refine push_name (by simp) ho h 102 4 [80, 117, 114, 101] fun v M w ho h => ?_
  refine push_name (by simp) ho h 102 8 [67, 111, 110, 115, 116] fun v M w ho h => ?_
  refine push_name (by simp) ho h 104 0 [78, 111, 110, 101] fun v M w ho h => ?_
  refine push_name (by simp) ho h 104 1 [70, 108, 97, 116, 116, 101, 110] fun v M w ho h => ?_
  refine push_name (by simp) ho h 104 2 [68, 111, 110, 116, 70, 108, 97, 116, 116, 101, 110] fun v M w ho h => ?_
  refine push_name (by simp) ho h 103 0 [78, 111, 110, 101] fun v M w ho h => ?_
  refine push_name (by simp) ho h 103 1 [85, 110, 114, 111, 108, 108] fun v M w ho h => ?_
  refine push_name (by simp) ho h 103 2 [68, 111, 110, 116, 85, 110, 114, 111, 108, 108] fun v M w ho h => ?_
  exact ⟨M, ho, h⟩
end Go.Proofs.Ytlmcppbpobnfjaa

