/-
  code.whole, code.Raw.
-/
import Derived.Test.YtlmcppbpobnfjaaRd
import Derived.Test.YtlmcppbpobnfjaaLa
namespace Go.Proofs.Ytlmcppbpobnfjaa
open Go Go.Vc
set_option linter.unusedSimpArgs false
set_option linter.unusedVariables false
set_option maxRecDepth 20000

section
variable {w0 : World} {L : List (Nat × Obj)}
def wholeE (op : Int) (args : List Arg) : Int := if ((formOf op).isSome && fitsK (formD op) (args.map (·.kind))) = true then 0 else 42
theorem whole_loop {b : Nat} {op : Int} {f : Form} {av : Value} {args : List Arg} (hl : args.length ≤ 1048576) (ha : Sl w0 3 av (args.map Arg.c)) :
    ∀ (m i : Nat) (v : Value) (M : List (Nat × Obj)) (w : World), i + m = args.length → OwnS w0.heap.size 5 1 v i (kindsC ((args.take i).map (·.kind))).flatten M →
      So w0 w (M ++ ((b, cl #[.int .u16 op, .string (bs f.name), .bool f.ty, .bool f.res, .string (bs f.fixed), .string (bs f.rest), .int .i64 f.most, .int .u8 f.part] 77) :: L)) →
      F92.l1 (fun v w => v = .int .i64 (wholeE op args) ∧ So w0 w L) (m + 1) (.pointer (some ⟨b, 0, none⟩)) v av (.int .i64 (args.length : Int)) (.int .i64 (i : Int)) w := by
  intro m
  induction m with
  | zero =>
    intro i v M w hi ho h
    have hi' : i = args.length := by omega
    unfold F92.l1
    try simp (disch := omega) only [cnd_bool, on_some_eq, Dr_eq, xNil_ptr, xNil_func, xNil_yield, xPick_bool, unw_nil, xRes_ptr, xUn_not, xUn_neg, xEx_tuple, xBin_add, xBin_sub, xBin_mul, xBin_eql, xBin_neq, xBin_lss, xBin_leq, xBin_gtr, xBin_geq, xBin_eqls, xBin_neqs, wI64, oCell_some, List.getElem?_toArray, List.getElem?_cons_zero, List.getElem?_cons_succ, Nat.zero_add, Bool.not_true, Bool.not_false, if_true, if_false, ite_true, ite_false, beq_iff_eq, bne_iff_ne, decide_eq_true_eq, ne_eq, Bool.false_eq_true, Bool.true_eq_false, reduceIte, Option.some.injEq, Int.toNat_natCast, beq_self_eq_true, bne_self_eq_false, Value.cells, splice, List.setIfInBounds_toArray, List.set_cons_zero, List.set_cons_succ, List.size_toArray, List.length_cons, List.length_nil, and_self, Nat.reduceLeDiff, Nat.reduceAdd, Nat.reduceMul, Int.reduceToNat, Int.reduceLT, Int.reduceLE, Int.reduceGT, Int.reduceGE, Int.reduceAdd, Int.reduceSub, Int.reduceMul, Int.reduceNeg, Int.reduceEq, Int.reduceNe, true_and, and_true, Int.cast_ofNat_Int, Nat.le_refl, ld3, ld5, ld50, ld51, ln51, ia51, ld75, fa75_0, fa75_1, fa75_2, ld77, fa77_0, fa77_2, fa77_3, fa77_4, fa77_5, fa77_6, fa77_7, bd77, bd77_0_1_2_3_4_5_6_7, bd77_0_1_4_5_7, ld168, ln168, ia168, ow2, ow3, ow4, ow5, ow6, ow8, ow11, ow20, ow23, cv5_3]
    rw [if_neg (by omega)]
    unfold F92.k2
    have hf := (h.perm (M := (b, cl #[.int .u16 op, .string (bs f.name), .bool f.ty, .bool f.res, .string (bs f.fixed), .string (bs f.rest), .int .i64 f.most, .int .u8 f.part] 77) :: (M ++ L)) (perm_of fun c d ha hc h0 => by simp only [ha, hc, h0]; omega)).facts
    simp only [Facts] at hf
    try simp (disch := omega) only [cnd_bool, on_some_eq, Dr_eq, xNil_ptr, xNil_func, xNil_yield, xPick_bool, unw_nil, xRes_ptr, xUn_not, xUn_neg, xEx_tuple, xBin_add, xBin_sub, xBin_mul, xBin_eql, xBin_neq, xBin_lss, xBin_leq, xBin_gtr, xBin_geq, xBin_eqls, xBin_neqs, wI64, oCell_some, List.getElem?_toArray, List.getElem?_cons_zero, List.getElem?_cons_succ, Nat.zero_add, Bool.not_true, Bool.not_false, if_true, if_false, ite_true, ite_false, beq_iff_eq, bne_iff_ne, decide_eq_true_eq, ne_eq, Bool.false_eq_true, Bool.true_eq_false, reduceIte, Option.some.injEq, Int.toNat_natCast, beq_self_eq_true, bne_self_eq_false, Value.cells, splice, List.setIfInBounds_toArray, List.set_cons_zero, List.set_cons_succ, List.size_toArray, List.length_cons, List.length_nil, and_self, Nat.reduceLeDiff, Nat.reduceAdd, Nat.reduceMul, Int.reduceToNat, Int.reduceLT, Int.reduceLE, Int.reduceGT, Int.reduceGE, Int.reduceAdd, Int.reduceSub, Int.reduceMul, Int.reduceNeg, Int.reduceEq, Int.reduceNe, true_and, and_true, Int.cast_ofNat_Int, Nat.le_refl, hf, ld3, ld5, ld50, ld51, ln51, ia51, ld75, fa75_0, fa75_1, fa75_2, ld77, fa77_0, fa77_2, fa77_3, fa77_4, fa77_5, fa77_6, fa77_7, bd77, bd77_0_1_2_3_4_5_6_7, bd77_0_1_4_5_7, ld168, ln168, ia168, ow2, ow3, ow4, ow5, ow6, ow8, ow11, ow20, ow23, cv5_3]
    rw [hi', List.take_length] at ho
    refine Cx.mono (c_fits (L := M ++ ((b, cl #[.int .u16 op, .string (bs f.name), .bool f.ty, .bool f.res, .string (bs f.fixed), .string (bs f.rest), .int .i64 f.most, .int .u8 f.part] 77) :: L)) (ks := args.map (·.kind)) (by simp; omega) ?_ h op) fun v w hv => ?_
    · intro w h
      refine ho.sl h ?_ (by simp [kindsC])
      intro x hx
      obtain ⟨k, _, rfl⟩ := List.mem_map.1 hx
      rfl
    · obtain ⟨⟨n, rfl⟩, h⟩ := hv
      try simp (disch := omega) only [cnd_bool, on_some_eq, Dr_eq, xNil_ptr, xNil_func, xNil_yield, xPick_bool, unw_nil, xRes_ptr, xUn_not, xUn_neg, xEx_tuple, xBin_add, xBin_sub, xBin_mul, xBin_eql, xBin_neq, xBin_lss, xBin_leq, xBin_gtr, xBin_geq, xBin_eqls, xBin_neqs, wI64, oCell_some, List.getElem?_toArray, List.getElem?_cons_zero, List.getElem?_cons_succ, Nat.zero_add, Bool.not_true, Bool.not_false, if_true, if_false, ite_true, ite_false, beq_iff_eq, bne_iff_ne, decide_eq_true_eq, ne_eq, Bool.false_eq_true, Bool.true_eq_false, reduceIte, Option.some.injEq, Int.toNat_natCast, beq_self_eq_true, bne_self_eq_false, Value.cells, splice, List.setIfInBounds_toArray, List.set_cons_zero, List.set_cons_succ, List.size_toArray, List.length_cons, List.length_nil, and_self, Nat.reduceLeDiff, Nat.reduceAdd, Nat.reduceMul, Int.reduceToNat, Int.reduceLT, Int.reduceLE, Int.reduceGT, Int.reduceGE, Int.reduceAdd, Int.reduceSub, Int.reduceMul, Int.reduceNeg, Int.reduceEq, Int.reduceNe, true_and, and_true, Int.cast_ofNat_Int, Nat.le_refl, ld3, ld5, ld50, ld51, ln51, ia51, ld75, fa75_0, fa75_1, fa75_2, ld77, fa77_0, fa77_2, fa77_3, fa77_4, fa77_5, fa77_6, fa77_7, bd77, bd77_0_1_2_3_4_5_6_7, bd77_0_1_4_5_7, ld168, ln168, ia168, ow2, ow3, ow4, ow5, ow6, ow8, ow11, ow20, ow23, cv5_3]
      unfold wholeE
      cases hb : ((formOf op).isSome && fitsK (formD op) (args.map (·.kind))) with
      | true =>
        simp only [Bool.not_true, Bool.false_eq_true, if_false, if_true]
        exact ⟨trivial, h.drops.drop⟩
      | false =>
        simp only [Bool.not_false, Bool.false_eq_true, if_false, if_true]
        exact ⟨trivial, h.drops.drop⟩
  | succ m ih =>
    intro i v M w hi ho h
    have hlt : i < args.length := by omega
    obtain ⟨g, o, k1, k2, k3⟩ := (ha.go h).get sl51 (i : Int) (i := i) (el := args[i].c) rfl (by simp [hlt])
    rw [agg_ac] at k2
    unfold F92.l1
    try simp (disch := omega) only [cnd_bool, on_some_eq, Dr_eq, xNil_ptr, xNil_func, xNil_yield, xPick_bool, unw_nil, xRes_ptr, xUn_not, xUn_neg, xEx_tuple, xBin_add, xBin_sub, xBin_mul, xBin_eql, xBin_neq, xBin_lss, xBin_leq, xBin_gtr, xBin_geq, xBin_eqls, xBin_neqs, wI64, oCell_some, List.getElem?_toArray, List.getElem?_cons_zero, List.getElem?_cons_succ, Nat.zero_add, Bool.not_true, Bool.not_false, if_true, if_false, ite_true, ite_false, beq_iff_eq, bne_iff_ne, decide_eq_true_eq, ne_eq, Bool.false_eq_true, Bool.true_eq_false, reduceIte, Option.some.injEq, Int.toNat_natCast, beq_self_eq_true, bne_self_eq_false, Value.cells, splice, List.setIfInBounds_toArray, List.set_cons_zero, List.set_cons_succ, List.size_toArray, List.length_cons, List.length_nil, and_self, Nat.reduceLeDiff, Nat.reduceAdd, Nat.reduceMul, Int.reduceToNat, Int.reduceLT, Int.reduceLE, Int.reduceGT, Int.reduceGE, Int.reduceAdd, Int.reduceSub, Int.reduceMul, Int.reduceNeg, Int.reduceEq, Int.reduceNe, true_and, and_true, Int.cast_ofNat_Int, Nat.le_refl, ld3, ld5, ld50, ld51, ln51, ia51, ld75, fa75_0, fa75_1, fa75_2, ld77, fa77_0, fa77_2, fa77_3, fa77_4, fa77_5, fa77_6, fa77_7, bd77, bd77_0_1_2_3_4_5_6_7, bd77_0_1_4_5_7, ld168, ln168, ia168, ow2, ow3, ow4, ow5, ow6, ow8, ow11, ow20, ow23, cv5_3, k1, k2]
    rw [if_pos (by omega)]
    unfold Arg.v
    refine al75 h fun x7 w h => ?_
    try simp only [Facts, and_true, Value.cells, List.setIfInBounds_toArray, List.set_cons_zero, List.set_cons_succ, splice, Nat.zero_add, Nat.reduceAdd, List.cons_append, List.nil_append] at h
    have hf := h.facts
    simp only [Facts, and_true, Value.cells, List.setIfInBounds_toArray, List.set_cons_zero, List.set_cons_succ, splice, Nat.zero_add, Nat.reduceAdd, List.cons_append, List.nil_append] at hf
    refine soStoreA ty75 0 h (fun w h => ?_) rfl rfl rfl rfl
    simp only [List.set_cons_zero] at h
    have hf := h.facts
    simp only [Facts] at hf
    try simp (disch := omega) only [cnd_bool, on_some_eq, Dr_eq, xNil_ptr, xNil_func, xNil_yield, xPick_bool, unw_nil, xRes_ptr, xUn_not, xUn_neg, xEx_tuple, xBin_add, xBin_sub, xBin_mul, xBin_eql, xBin_neq, xBin_lss, xBin_leq, xBin_gtr, xBin_geq, xBin_eqls, xBin_neqs, wI64, oCell_some, List.getElem?_toArray, List.getElem?_cons_zero, List.getElem?_cons_succ, Nat.zero_add, Bool.not_true, Bool.not_false, if_true, if_false, ite_true, ite_false, beq_iff_eq, bne_iff_ne, decide_eq_true_eq, ne_eq, Bool.false_eq_true, Bool.true_eq_false, reduceIte, Option.some.injEq, Int.toNat_natCast, beq_self_eq_true, bne_self_eq_false, Value.cells, splice, List.setIfInBounds_toArray, List.set_cons_zero, List.set_cons_succ, List.size_toArray, List.length_cons, List.length_nil, and_self, Nat.reduceLeDiff, Nat.reduceAdd, Nat.reduceMul, Int.reduceToNat, Int.reduceLT, Int.reduceLE, Int.reduceGT, Int.reduceGE, Int.reduceAdd, Int.reduceSub, Int.reduceMul, Int.reduceNeg, Int.reduceEq, Int.reduceNe, true_and, and_true, Int.cast_ofNat_Int, Nat.le_refl, hf, ld3, ld5, ld50, ld51, ln51, ia51, ld75, fa75_0, fa75_1, fa75_2, ld77, fa77_0, fa77_2, fa77_3, fa77_4, fa77_5, fa77_6, fa77_7, bd77, bd77_0_1_2_3_4_5_6_7, bd77_0_1_4_5_7, ld168, ln168, ia168, ow2, ow3, ow4, ow5, ow6, ow8, ow11, ow20, ow23, cv5_3]
    refine pu168 (h.drop) ho rfl (by simp [one1, Value.cells]) (by omega) (by omega) fun v' M' w ho h => ?_
    try simp (disch := omega) only [cnd_bool, on_some_eq, Dr_eq, xNil_ptr, xNil_func, xNil_yield, xPick_bool, unw_nil, xRes_ptr, xUn_not, xUn_neg, xEx_tuple, xBin_add, xBin_sub, xBin_mul, xBin_eql, xBin_neq, xBin_lss, xBin_leq, xBin_gtr, xBin_geq, xBin_eqls, xBin_neqs, wI64, oCell_some, List.getElem?_toArray, List.getElem?_cons_zero, List.getElem?_cons_succ, Nat.zero_add, Bool.not_true, Bool.not_false, if_true, if_false, ite_true, ite_false, beq_iff_eq, bne_iff_ne, decide_eq_true_eq, ne_eq, Bool.false_eq_true, Bool.true_eq_false, reduceIte, Option.some.injEq, Int.toNat_natCast, beq_self_eq_true, bne_self_eq_false, Value.cells, splice, List.setIfInBounds_toArray, List.set_cons_zero, List.set_cons_succ, List.size_toArray, List.length_cons, List.length_nil, and_self, Nat.reduceLeDiff, Nat.reduceAdd, Nat.reduceMul, Int.reduceToNat, Int.reduceLT, Int.reduceLE, Int.reduceGT, Int.reduceGE, Int.reduceAdd, Int.reduceSub, Int.reduceMul, Int.reduceNeg, Int.reduceEq, Int.reduceNe, true_and, and_true, Int.cast_ofNat_Int, Nat.le_refl, ld3, ld5, ld50, ld51, ln51, ia51, ld75, fa75_0, fa75_1, fa75_2, ld77, fa77_0, fa77_2, fa77_3, fa77_4, fa77_5, fa77_6, fa77_7, bd77, bd77_0_1_2_3_4_5_6_7, bd77_0_1_4_5_7, ld168, ln168, ia168, ow2, ow3, ow4, ow5, ow6, ow8, ow11, ow20, ow23, cv5_3]
    have := ih (i + 1) v' M' w (by omega) ?_ h
    · rw [show ((i + 1 : Nat) : Int) = (i : Int) + 1 by omega] at this
      exact this
    · have e : (kindsC ((args.take (i + 1)).map (·.kind))).flatten = (kindsC ((args.take i).map (·.kind))).flatten ++ [.int .u8 args[i].kind] := by
        rw [List.take_succ_eq_append_getElem hlt, List.map_append, kindsC, List.map_append, List.flatten_append]
        rfl
      rw [e]
      exact ho
theorem c_whole {op : Int} {f : Form} {av : Value} {args : List Arg} (hl : args.length ≤ 1048576) (ha : Sl w0 3 av (args.map Arg.c)) {w : World} (h : So w0 w L) :
    Cx P 92 #[f.v op, av] w fun v w => v = .int .i64 (wholeE op args) ∧ So w0 w L := by
  apply F92_ok
  unfold F92
  rw [Form.v_size]
  refine soBox h fun b w h => ?_
  try simp only [Facts, and_true, Value.cells, List.setIfInBounds_toArray, List.set_cons_zero, List.set_cons_succ, splice, Nat.zero_add, Nat.reduceAdd, List.cons_append, List.nil_append] at h
  have hf := h.facts
  simp only [Facts, and_true, Value.cells, List.setIfInBounds_toArray, List.set_cons_zero, List.set_cons_succ, splice, Nat.zero_add, Nat.reduceAdd, List.cons_append, List.nil_append] at hf
  unfold F92.k1
  try simp (disch := omega) only [cnd_bool, on_some_eq, Dr_eq, xNil_ptr, xNil_func, xNil_yield, xPick_bool, unw_nil, xRes_ptr, xUn_not, xUn_neg, xEx_tuple, xBin_add, xBin_sub, xBin_mul, xBin_eql, xBin_neq, xBin_lss, xBin_leq, xBin_gtr, xBin_geq, xBin_eqls, xBin_neqs, wI64, oCell_some, List.getElem?_toArray, List.getElem?_cons_zero, List.getElem?_cons_succ, Nat.zero_add, Bool.not_true, Bool.not_false, if_true, if_false, ite_true, ite_false, beq_iff_eq, bne_iff_ne, decide_eq_true_eq, ne_eq, Bool.false_eq_true, Bool.true_eq_false, reduceIte, Option.some.injEq, Int.toNat_natCast, beq_self_eq_true, bne_self_eq_false, Value.cells, splice, List.setIfInBounds_toArray, List.set_cons_zero, List.set_cons_succ, List.size_toArray, List.length_cons, List.length_nil, and_self, Nat.reduceLeDiff, Nat.reduceAdd, Nat.reduceMul, Int.reduceToNat, Int.reduceLT, Int.reduceLE, Int.reduceGT, Int.reduceGE, Int.reduceAdd, Int.reduceSub, Int.reduceMul, Int.reduceNeg, Int.reduceEq, Int.reduceNe, true_and, and_true, Int.cast_ofNat_Int, Nat.le_refl, hf, ld3, ld5, ld50, ld51, ln51, ia51, ld75, fa75_0, fa75_1, fa75_2, ld77, fa77_0, fa77_2, fa77_3, fa77_4, fa77_5, fa77_6, fa77_7, bd77, bd77_0_1_2_3_4_5_6_7, bd77_0_1_4_5_7, ld168, ln168, ia168, ow2, ow3, ow4, ow5, ow6, ow8, ow11, ow20, ow23, cv5_3, Sl.len sl51 ha, List.length_map]
  unfold F92.k3
  exact ⟨_, whole_loop hl ha args.length 0 (.slice none 0 0) [] w (by omega) (OwnS.nil _ _ _) h⟩

/-- How many words the arguments take. -/
def roomAs (args : List Arg) : Nat := (args.map roomA).foldl (· + ·) 0
/-- What is wrong with the arguments, the first thing. -/
def argsE (op bound : Int) : Nat → List Arg → Int
  | _, [] => 0
  | k, a :: l => if argE (letterOf op k) a bound = 0 then argsE op bound (k + 1) l else argE (letterOf op k) a bound

theorem roomAs_cons (a : Arg) (l : List Arg) : roomAs (a :: l) = roomA a + roomAs l := by
  have : ∀ (l : List Nat) (x : Nat), l.foldl (· + ·) x = x + l.foldl (· + ·) 0 := by
    intro l
    induction l with
    | nil => intro x; rfl
    | cons y l ih => intro x; rw [List.foldl_cons, ih, List.foldl_cons, ih (0 + y)]; omega
  unfold roomAs
  rw [List.map_cons, List.foldl_cons, this]
  omega
/-- What Raw says is wrong. -/
def rawE (i : Inst) (bound : Int) : Int :=
  if (formOf i.op).isSome = false then 30
  else if headE (formD i.op).ty i.ty bound 40 ≠ 0 then headE (formD i.op).ty i.ty bound 40
  else if headE (formD i.op).res i.res bound 41 ≠ 0 then headE (formD i.op).res i.res bound 41
  else if argsE i.op bound 0 i.args ≠ 0 then argsE i.op bound 0 i.args
  else if wholeE i.op i.args ≠ 0 then wholeE i.op i.args
  else if 65535 ≤ roomI i then 25 else 0
where
  /-- The words behind the first. -/
  roomI (i : Inst) : Nat := (if (formD i.op).ty = true then 1 else 0) + (if (formD i.op).res = true then 1 else 0) + roomAs i.args
/-- An instruction is of a size that the walks speak of. -/
def SizedI (i : Inst) : Prop := i.args.length ≤ 1048576 ∧ ∀ a ∈ i.args, a.s.size ≤ 1048576
end
end Go.Proofs.Ytlmcppbpobnfjaa

