/-
  grammar.Of answers what ref03.Of answers: the forms out of the rows.
-/
import Derived.Test.YtlmcppbpobnfjaaGo1
namespace Go.Proofs.Ytlmcppbpobnfjaa
open Go Go.Vc
set_option linter.unusedSimpArgs false
set_option linter.unusedVariables false
set_option maxRecDepth 20000

def mostOf : List UInt8 → Int
  | [] => 0
  | c :: _ => (c.toNat : Int) - 48
/-- A row as a form. -/
def parseR (r : List UInt8) : Option Form := match splitB [] r with
  | [n, tr, fx, rs, m, p :: _] => some ⟨n, tr.contains 84, tr.contains 82, fx, rs, (mostOf m), (p.toNat : Int) - 48⟩
  | _ => none
def okRow (r : List UInt8) : Bool := r.all (fun c => decide (c.toNat < 128)) && decide (r.length ≤ 1000) && match splitB [] r with
  | [_, _, _, _, m, p :: _] => decide (48 ≤ p.toNat) && (match m with | [] => true | c :: _ => decide (48 ≤ c.toNat))
  | _ => false
theorem rows_ok : (rows1 ++ rows2 ++ rows3).all (fun x => okRow x.2) = true := by decide +kernel
theorem rows_parse : (rows1 ++ rows2 ++ rows3).map (fun x => (x.1, parseR x.2)) = forms := by kernel_rfl
theorem rows_keys : rows1.all (fun x => decide (x.1 ≤ 71)) && rows2.all (fun x => decide (71 < x.1 ∧ x.1 ≤ 171)) && rows3.all (fun x => decide (171 < x.1)) = true := by decide +kernel
theorem look_app {α : Type} (d : α) (a b : List (Int × α)) (x : Int) : look d (a ++ b) x = look (look d b x) a x := by
  induction a with
  | nil => rfl
  | cons p a ih => obtain ⟨k, v⟩ := p; simp only [List.cons_append, look, ih]
theorem look_not {α : Type} (d : α) (a : List (Int × α)) (x : Int) (h : ∀ p ∈ a, p.1 ≠ x) : look d a x = d := by
  induction a with
  | nil => rfl
  | cons p a ih =>
    obtain ⟨k, v⟩ := p
    rw [look, if_neg (fun e => h _ (List.mem_cons_self ..) e.symm), ih fun q hq => h q (List.mem_cons_of_mem _ hq)]
theorem look_mapv {α β : Type} (f : α → β) (d : α) (a : List (Int × α)) (x : Int) : look (f d) (a.map fun p => (p.1, f p.2)) x = f (look d a x) := by
  induction a with
  | nil => rfl
  | cons p a ih => obtain ⟨k, v⟩ := p; simp only [List.map_cons, look, ih]; split <;> rfl
theorem look_mem {α : Type} (d : α) (a : List (Int × α)) (x : Int) : look d a x = d ∨ ∃ p ∈ a, p.2 = look d a x := by
  induction a with
  | nil => exact .inl rfl
  | cons p a ih =>
    obtain ⟨k, v⟩ := p
    simp only [look]
    split
    · exact .inr ⟨_, List.mem_cons_self .., rfl⟩
    · rcases ih with h | ⟨q, hq, h⟩
      · exact .inl h
      · exact .inr ⟨q, List.mem_cons_of_mem _ hq, h⟩
theorem rowOf_eq (op : Int) : rowOf op = look [] (rows1 ++ rows2 ++ rows3) op := by
  have hk := rows_keys
  simp only [Bool.and_eq_true, List.all_eq_true, decide_eq_true_eq] at hk
  obtain ⟨⟨k1, k2⟩, k3⟩ := hk
  rw [look_app, look_app]
  unfold rowOf
  split
  · rw [look_not [] rows3 op fun p hp => by have := k3 p hp; omega, look_not [] rows2 op fun p hp => by have := k2 p hp; omega]
  · split
    · rw [look_not [] rows3 op fun p hp => by have := k3 p hp; omega, look_not _ rows1 op fun p hp => by have := k1 p hp; omega]
    · rw [look_not _ rows1 op fun p hp => by have := k1 p hp; omega, look_not _ rows2 op fun p hp => by have := k2 p hp; omega]
theorem formOf_eq (op : Int) : formOf op = parseR (rowOf op) := by
  rw [rowOf_eq, formOf, ← rows_parse]
  exact look_mapv parseR [] _ op
theorem rowOf_ok (op : Int) : rowOf op = [] ∨ okRow (rowOf op) = true := by
  rw [rowOf_eq]
  rcases look_mem [] (rows1 ++ rows2 ++ rows3) op with h | ⟨p, hp, h⟩
  · exact .inl h
  · rw [← h]; exact .inr (List.all_eq_true.1 rows_ok p hp)

theorem beq_byte (c d : UInt8) (n : Int) (h : n = (d.toNat : Int)) : ((c.toNat : Int) == n) = (d == c) := by
  subst h
  rw [Bool.eq_iff_iff, beq_iff_eq, beq_iff_eq]
  constructor
  · intro he; exact (UInt8.toNat_inj.1 (Int.ofNat.inj he)).symm
  · intro he; rw [he]
theorem of_end {w0 w : World} {L : List (Nat × Obj)} {b2 b5 b6 : Nat} {c2 : Array Value} (hc2 : c2.size = 8) {n tr fx rs m p : List UInt8} (hm : ∀ c r, m = c :: r → 48 ≤ c.toNat) {T R : Bool} (op q : Int) {y0 : Value}
    (hq : y0 = .tuple #[Form.v op ⟨n, T, R, fx, rs, (mostOf m), q⟩, .bool true])
    (h : So w0 w ((b6, cl #[.int .u16 op, .string (bs n), .bool T, .bool R, .string (bs fx), .string (bs rs), .int .i64 0, .int .u8 q] 77) :: (b5, cl #[.string (bs n), .string (bs tr), .string (bs fx), .string (bs rs), .string (bs m), .string (bs p)] 162) :: (b2, cl c2 77) :: L)) :
    F89.k2 (fun v w => v = y0 ∧ So w0 w L) (.pointer (some ⟨b2, 0, none⟩)) (.pointer (some ⟨b5, 0, none⟩)) (.pointer (some ⟨b6, 0, none⟩)) w := by
  have hf := h.facts
  simp only [Facts] at hf
  unfold F89.k2
  try simp (disch := omega) only [cnd_bool, on_some_eq, Dr_eq, xNil_ptr, xNil_func, xNil_yield, xPick_bool, unw_nil, xRes_ptr, xUn_not, xUn_neg, xEx_tuple, xBin_add, xBin_sub, xBin_mul, xBin_eql, xBin_neq, xBin_lss, xBin_leq, xBin_gtr, xBin_geq, xBin_eqls, xBin_neqs, wI64, oCell_some, List.getElem?_toArray, List.getElem?_cons_zero, List.getElem?_cons_succ, Nat.zero_add, Bool.not_true, Bool.not_false, if_true, if_false, ite_true, ite_false, beq_iff_eq, bne_iff_ne, decide_eq_true_eq, ne_eq, Bool.false_eq_true, Bool.true_eq_false, reduceIte, Option.some.injEq, Int.toNat_natCast, beq_self_eq_true, bne_self_eq_false, Value.cells, splice, List.setIfInBounds_toArray, List.set_cons_zero, List.set_cons_succ, List.size_toArray, List.length_cons, List.length_nil, and_self, Nat.reduceLeDiff, Nat.reduceAdd, Nat.reduceMul, Int.reduceToNat, Int.reduceLT, Int.reduceLE, Int.reduceGT, Int.reduceGE, Int.reduceAdd, Int.reduceSub, Int.reduceMul, Int.reduceNeg, Int.reduceEq, Int.reduceNe, true_and, and_true, Int.cast_ofNat_Int, Nat.le_refl, hf, ld3, ld4, ld5, ld9, ln9, ix9, ld21, ld77, fa77_0, fa77_2, fa77_3, fa77_4, fa77_5, fa77_6, fa77_7, bd77, bd77_0_1_2_3_4_5_6_7, bd77_0_1_4_5_7, ld162, ia162, neq4, ow2, ow3, ow4, ow5, ow6, ow8, ow11, ow20, ow23, cv5_3, bs_toList, Nat.mul_one]
  subst hq
  cases m with
  | nil =>
    rw [if_neg (by simp)]
    refine soStoreA ty77 2 h (fun w h => ?_) rfl rfl hc2 rfl
    simp only [List.set_cons_zero, List.set_cons_succ] at h
    have hf := h.facts
    simp only [Facts] at hf
    try simp (disch := omega) only [cnd_bool, on_some_eq, Dr_eq, xNil_ptr, xNil_func, xNil_yield, xPick_bool, unw_nil, xRes_ptr, xUn_not, xUn_neg, xEx_tuple, xBin_add, xBin_sub, xBin_mul, xBin_eql, xBin_neq, xBin_lss, xBin_leq, xBin_gtr, xBin_geq, xBin_eqls, xBin_neqs, wI64, oCell_some, List.getElem?_toArray, List.getElem?_cons_zero, List.getElem?_cons_succ, Nat.zero_add, Bool.not_true, Bool.not_false, if_true, if_false, ite_true, ite_false, beq_iff_eq, bne_iff_ne, decide_eq_true_eq, ne_eq, Bool.false_eq_true, Bool.true_eq_false, reduceIte, Option.some.injEq, Int.toNat_natCast, beq_self_eq_true, bne_self_eq_false, Value.cells, splice, List.setIfInBounds_toArray, List.set_cons_zero, List.set_cons_succ, List.size_toArray, List.length_cons, List.length_nil, and_self, Nat.reduceLeDiff, Nat.reduceAdd, Nat.reduceMul, Int.reduceToNat, Int.reduceLT, Int.reduceLE, Int.reduceGT, Int.reduceGE, Int.reduceAdd, Int.reduceSub, Int.reduceMul, Int.reduceNeg, Int.reduceEq, Int.reduceNe, true_and, and_true, Int.cast_ofNat_Int, Nat.le_refl, hf, ld3, ld4, ld5, ld9, ln9, ix9, ld21, ld77, fa77_0, fa77_2, fa77_3, fa77_4, fa77_5, fa77_6, fa77_7, bd77, bd77_0_1_2_3_4_5_6_7, bd77_0_1_4_5_7, ld162, ia162, neq4, ow2, ow3, ow4, ow5, ow6, ow8, ow11, ow20, ow23, cv5_3, oRow_all]
    exact ⟨rfl, h.drop.drop.drop⟩
  | cons c r =>
    have h48 := hm c r rfl
    have hlt : c.toNat < 256 := c.toNat_lt
    rw [if_pos (by simp)]
    have hg : ∀ h, (bs (c :: r))[0]'h = c := by
      intro h; rw [bs_get]; rfl
    have hs : Int.toNat 0 < (bs (c :: r)).size := by rw [bs_size]; simp
    try simp (disch := omega) only [cnd_bool, on_some_eq, Dr_eq, xNil_ptr, xNil_func, xNil_yield, xPick_bool, unw_nil, xRes_ptr, xUn_not, xUn_neg, xEx_tuple, xBin_add, xBin_sub, xBin_mul, xBin_eql, xBin_neq, xBin_lss, xBin_leq, xBin_gtr, xBin_geq, xBin_eqls, xBin_neqs, wI64, oCell_some, List.getElem?_toArray, List.getElem?_cons_zero, List.getElem?_cons_succ, Nat.zero_add, Bool.not_true, Bool.not_false, if_true, if_false, ite_true, ite_false, beq_iff_eq, bne_iff_ne, decide_eq_true_eq, ne_eq, Bool.false_eq_true, Bool.true_eq_false, reduceIte, Option.some.injEq, Int.toNat_natCast, beq_self_eq_true, bne_self_eq_false, Value.cells, splice, List.setIfInBounds_toArray, List.set_cons_zero, List.set_cons_succ, List.size_toArray, List.length_cons, List.length_nil, and_self, Nat.reduceLeDiff, Nat.reduceAdd, Nat.reduceMul, Int.reduceToNat, Int.reduceLT, Int.reduceLE, Int.reduceGT, Int.reduceGE, Int.reduceAdd, Int.reduceSub, Int.reduceMul, Int.reduceNeg, Int.reduceEq, Int.reduceNe, true_and, and_true, Int.cast_ofNat_Int, Nat.le_refl, hf, ld3, ld4, ld5, ld9, ln9, ix9, ld21, ld77, fa77_0, fa77_2, fa77_3, fa77_4, fa77_5, fa77_6, fa77_7, bd77, bd77_0_1_2_3_4_5_6_7, bd77_0_1_4_5_7, ld162, ia162, neq4, ow2, ow3, ow4, ow5, ow6, ow8, ow11, ow20, ow23, cv5_3, ix9 _ _ _ (Int.le_refl 0) hs, hg, wU8]
    refine soStore1 ty3 0 h (fun w h => ?_) rfl (by simp) rfl
    simp only [List.set_cons_zero, List.set_cons_succ, List.setIfInBounds_toArray] at h
    have hf := h.facts
    simp only [Facts] at hf
    try simp (disch := omega) only [cnd_bool, on_some_eq, Dr_eq, xNil_ptr, xNil_func, xNil_yield, xPick_bool, unw_nil, xRes_ptr, xUn_not, xUn_neg, xEx_tuple, xBin_add, xBin_sub, xBin_mul, xBin_eql, xBin_neq, xBin_lss, xBin_leq, xBin_gtr, xBin_geq, xBin_eqls, xBin_neqs, wI64, oCell_some, List.getElem?_toArray, List.getElem?_cons_zero, List.getElem?_cons_succ, Nat.zero_add, Bool.not_true, Bool.not_false, if_true, if_false, ite_true, ite_false, beq_iff_eq, bne_iff_ne, decide_eq_true_eq, ne_eq, Bool.false_eq_true, Bool.true_eq_false, reduceIte, Option.some.injEq, Int.toNat_natCast, beq_self_eq_true, bne_self_eq_false, Value.cells, splice, List.setIfInBounds_toArray, List.set_cons_zero, List.set_cons_succ, List.size_toArray, List.length_cons, List.length_nil, and_self, Nat.reduceLeDiff, Nat.reduceAdd, Nat.reduceMul, Int.reduceToNat, Int.reduceLT, Int.reduceLE, Int.reduceGT, Int.reduceGE, Int.reduceAdd, Int.reduceSub, Int.reduceMul, Int.reduceNeg, Int.reduceEq, Int.reduceNe, true_and, and_true, Int.cast_ofNat_Int, Nat.le_refl, hf, ld3, ld4, ld5, ld9, ln9, ix9, ld21, ld77, fa77_0, fa77_2, fa77_3, fa77_4, fa77_5, fa77_6, fa77_7, bd77, bd77_0_1_2_3_4_5_6_7, bd77_0_1_4_5_7, ld162, ia162, neq4, ow2, ow3, ow4, ow5, ow6, ow8, ow11, ow20, ow23, cv5_3, oRow_all]
    refine soStoreA ty77 2 h (fun w h => ?_) rfl rfl hc2 rfl
    simp only [List.set_cons_zero, List.set_cons_succ] at h
    have hf := h.facts
    simp only [Facts] at hf
    try simp (disch := omega) only [cnd_bool, on_some_eq, Dr_eq, xNil_ptr, xNil_func, xNil_yield, xPick_bool, unw_nil, xRes_ptr, xUn_not, xUn_neg, xEx_tuple, xBin_add, xBin_sub, xBin_mul, xBin_eql, xBin_neq, xBin_lss, xBin_leq, xBin_gtr, xBin_geq, xBin_eqls, xBin_neqs, wI64, oCell_some, List.getElem?_toArray, List.getElem?_cons_zero, List.getElem?_cons_succ, Nat.zero_add, Bool.not_true, Bool.not_false, if_true, if_false, ite_true, ite_false, beq_iff_eq, bne_iff_ne, decide_eq_true_eq, ne_eq, Bool.false_eq_true, Bool.true_eq_false, reduceIte, Option.some.injEq, Int.toNat_natCast, beq_self_eq_true, bne_self_eq_false, Value.cells, splice, List.setIfInBounds_toArray, List.set_cons_zero, List.set_cons_succ, List.size_toArray, List.length_cons, List.length_nil, and_self, Nat.reduceLeDiff, Nat.reduceAdd, Nat.reduceMul, Int.reduceToNat, Int.reduceLT, Int.reduceLE, Int.reduceGT, Int.reduceGE, Int.reduceAdd, Int.reduceSub, Int.reduceMul, Int.reduceNeg, Int.reduceEq, Int.reduceNe, true_and, and_true, Int.cast_ofNat_Int, Nat.le_refl, hf, ld3, ld4, ld5, ld9, ln9, ix9, ld21, ld77, fa77_0, fa77_2, fa77_3, fa77_4, fa77_5, fa77_6, fa77_7, bd77, bd77_0_1_2_3_4_5_6_7, bd77_0_1_4_5_7, ld162, ia162, neq4, ow2, ow3, ow4, ow5, ow6, ow8, ow11, ow20, ow23, cv5_3, oRow_all]
    exact ⟨rfl, h.drop.drop.drop⟩

theorem of_loop {w0 : World} {L : List (Nat × Obj)} {b2 b5 b6 it : Nat} {c2 : Array Value} (hc2 : c2.size = 8) {n tr fx rs m p : List UInt8} (htr : ∀ c ∈ tr, c.toNat < 128) (hm : ∀ c r, m = c :: r → 48 ≤ c.toNat) (op q : Int) {y0 : Value} :
    ∀ (rest : List UInt8) (pos : Nat) (T R : Bool) (w : World), tr.drop pos = rest → y0 = .tuple #[Form.v op ⟨n, T || rest.contains 84, R || rest.contains 82, fx, rs, (mostOf m), q⟩, .bool true] →
    So w0 w ((it, .stringIter (bs tr) pos) :: (b6, cl #[.int .u16 op, .string (bs n), .bool T, .bool R, .string (bs fx), .string (bs rs), .int .i64 0, .int .u8 q] 77) :: (b5, cl #[.string (bs n), .string (bs tr), .string (bs fx), .string (bs rs), .string (bs m), .string (bs p)] 162) :: (b2, cl c2 77) :: L) →
    F89.l1 (fun v w => v = y0 ∧ So w0 w L) (rest.length + 1) (.pointer (some ⟨b2, 0, none⟩)) (.pointer (some ⟨b5, 0, none⟩)) (.pointer (some ⟨b6, 0, none⟩)) (.pointer (some ⟨it, 0, none⟩)) w := by
  intro rest
  induction rest with
  | nil =>
    intro pos T R w hd hq h
    unfold F89.l1 F89.l1.b
    have hp : ¬ pos < (bs tr).size := by
      rw [bs_size]; intro hp
      have := congrArg List.length hd
      simp at this; omega
    refine soNextE 0 h rfl hp ?_
    try simp (disch := omega) only [cnd_bool, on_some_eq, Dr_eq, xNil_ptr, xNil_func, xNil_yield, xPick_bool, unw_nil, xRes_ptr, xUn_not, xUn_neg, xEx_tuple, xBin_add, xBin_sub, xBin_mul, xBin_eql, xBin_neq, xBin_lss, xBin_leq, xBin_gtr, xBin_geq, xBin_eqls, xBin_neqs, wI64, oCell_some, List.getElem?_toArray, List.getElem?_cons_zero, List.getElem?_cons_succ, Nat.zero_add, Bool.not_true, Bool.not_false, if_true, if_false, ite_true, ite_false, beq_iff_eq, bne_iff_ne, decide_eq_true_eq, ne_eq, Bool.false_eq_true, Bool.true_eq_false, reduceIte, Option.some.injEq, Int.toNat_natCast, beq_self_eq_true, bne_self_eq_false, Value.cells, splice, List.setIfInBounds_toArray, List.set_cons_zero, List.set_cons_succ, List.size_toArray, List.length_cons, List.length_nil, and_self, Nat.reduceLeDiff, Nat.reduceAdd, Nat.reduceMul, Int.reduceToNat, Int.reduceLT, Int.reduceLE, Int.reduceGT, Int.reduceGE, Int.reduceAdd, Int.reduceSub, Int.reduceMul, Int.reduceNeg, Int.reduceEq, Int.reduceNe, true_and, and_true, Int.cast_ofNat_Int, Nat.le_refl, ld3, ld4, ld5, ld9, ln9, ix9, ld21, ld77, fa77_0, fa77_2, fa77_3, fa77_4, fa77_5, fa77_6, fa77_7, bd77, bd77_0_1_2_3_4_5_6_7, bd77_0_1_4_5_7, ld162, ia162, neq4, ow2, ow3, ow4, ow5, ow6, ow8, ow11, ow20, ow23, cv5_3]
    exact of_end hc2 hm op q (by simpa using hq) h.drop
  | cons c r ih =>
    intro pos T R w hd hq h
    have hp' : pos < tr.length := by
      have := congrArg List.length hd
      simp at this; omega
    have hp : pos < (bs tr).size := by rw [bs_size]; exact hp'
    have hcc : tr[pos] = c := by
      rw [List.drop_eq_getElem_cons hp'] at hd
      exact (List.cons.inj hd).1
    have hc : (bs tr)[pos]'hp = c := by rw [bs_get]; exact hcc
    have hd' : tr.drop (pos + 1) = r := by
      rw [List.drop_eq_getElem_cons hp'] at hd
      exact (List.cons.inj hd).2
    have ha : c.toNat < 128 := htr c (List.mem_of_mem_drop (hd ▸ List.mem_cons_self ..))
    unfold F89.l1 F89.l1.b
    refine soNextS 0 h rfl hp (by rw [hc]; exact ha) fun w h => ?_
    rw [hc]
    simp only [List.set_cons_zero] at h
    have hf := h.facts
    simp only [Facts] at hf
    unfold F89.k4
    have key : ∀ (T' : Bool) (w : World), So w0 w ((it, .stringIter (bs tr) (pos + 1)) :: (b6, cl #[.int .u16 op, .string (bs n), .bool T', .bool R, .string (bs fx), .string (bs rs), .int .i64 0, .int .u8 q] 77) :: (b5, cl #[.string (bs n), .string (bs tr), .string (bs fx), .string (bs rs), .string (bs m), .string (bs p)] 162) :: (b2, cl c2 77) :: L) → T' = (T || c == 84) → F89.k5 (fun v w => v = y0 ∧ So w0 w L) (F89.l1 (fun v w => v = y0 ∧ So w0 w L) (r.length + 1)) (.pointer (some ⟨b2, 0, none⟩)) (.pointer (some ⟨b5, 0, none⟩)) (.pointer (some ⟨b6, 0, none⟩)) (.int .i32 (c.toNat : Int)) (.pointer (some ⟨it, 0, none⟩)) w := by
      intro T' w h hT
      have hf := h.facts
      simp only [Facts] at hf
      unfold F89.k5
      have e82 : ((c.toNat : Int) = 82) = (c = 82) := by
        apply propext
        constructor
        · intro he; apply UInt8.toNat_inj.1; simpa using Int.ofNat.inj he
        · intro he; subst he; rfl
      try simp (disch := omega) only [cnd_bool, on_some_eq, Dr_eq, xNil_ptr, xNil_func, xNil_yield, xPick_bool, unw_nil, xRes_ptr, xUn_not, xUn_neg, xEx_tuple, xBin_add, xBin_sub, xBin_mul, xBin_eql, xBin_neq, xBin_lss, xBin_leq, xBin_gtr, xBin_geq, xBin_eqls, xBin_neqs, wI64, oCell_some, List.getElem?_toArray, List.getElem?_cons_zero, List.getElem?_cons_succ, Nat.zero_add, Bool.not_true, Bool.not_false, if_true, if_false, ite_true, ite_false, beq_iff_eq, bne_iff_ne, decide_eq_true_eq, ne_eq, Bool.false_eq_true, Bool.true_eq_false, reduceIte, Option.some.injEq, Int.toNat_natCast, beq_self_eq_true, bne_self_eq_false, Value.cells, splice, List.setIfInBounds_toArray, List.set_cons_zero, List.set_cons_succ, List.size_toArray, List.length_cons, List.length_nil, and_self, Nat.reduceLeDiff, Nat.reduceAdd, Nat.reduceMul, Int.reduceToNat, Int.reduceLT, Int.reduceLE, Int.reduceGT, Int.reduceGE, Int.reduceAdd, Int.reduceSub, Int.reduceMul, Int.reduceNeg, Int.reduceEq, Int.reduceNe, true_and, and_true, Int.cast_ofNat_Int, Nat.le_refl, hf, ld3, ld4, ld5, ld9, ln9, ix9, ld21, ld77, fa77_0, fa77_2, fa77_3, fa77_4, fa77_5, fa77_6, fa77_7, bd77, bd77_0_1_2_3_4_5_6_7, bd77_0_1_4_5_7, ld162, ia162, neq4, ow2, ow3, ow4, ow5, ow6, ow8, ow11, ow20, ow23, cv5_3, e82]
      cases R with
      | true =>
        try simp (disch := omega) only [cnd_bool, on_some_eq, Dr_eq, xNil_ptr, xNil_func, xNil_yield, xPick_bool, unw_nil, xRes_ptr, xUn_not, xUn_neg, xEx_tuple, xBin_add, xBin_sub, xBin_mul, xBin_eql, xBin_neq, xBin_lss, xBin_leq, xBin_gtr, xBin_geq, xBin_eqls, xBin_neqs, wI64, oCell_some, List.getElem?_toArray, List.getElem?_cons_zero, List.getElem?_cons_succ, Nat.zero_add, Bool.not_true, Bool.not_false, if_true, if_false, ite_true, ite_false, beq_iff_eq, bne_iff_ne, decide_eq_true_eq, ne_eq, Bool.false_eq_true, Bool.true_eq_false, reduceIte, Option.some.injEq, Int.toNat_natCast, beq_self_eq_true, bne_self_eq_false, Value.cells, splice, List.setIfInBounds_toArray, List.set_cons_zero, List.set_cons_succ, List.size_toArray, List.length_cons, List.length_nil, and_self, Nat.reduceLeDiff, Nat.reduceAdd, Nat.reduceMul, Int.reduceToNat, Int.reduceLT, Int.reduceLE, Int.reduceGT, Int.reduceGE, Int.reduceAdd, Int.reduceSub, Int.reduceMul, Int.reduceNeg, Int.reduceEq, Int.reduceNe, true_and, and_true, Int.cast_ofNat_Int, Nat.le_refl, hf, ld3, ld4, ld5, ld9, ln9, ix9, ld21, ld77, fa77_0, fa77_2, fa77_3, fa77_4, fa77_5, fa77_6, fa77_7, bd77, bd77_0_1_2_3_4_5_6_7, bd77_0_1_4_5_7, ld162, ia162, neq4, ow2, ow3, ow4, ow5, ow6, ow8, ow11, ow20, ow23, cv5_3]
        refine soStore1 ty4 1 h (fun w h => ?_) rfl (by simp) rfl
        simp only [List.set_cons_zero, List.set_cons_succ, List.setIfInBounds_toArray] at h
        refine ih (pos + 1) T' true w hd' ?_ h
        rw [hq, hT, List.contains_cons, List.contains_cons, Bool.or_assoc, BEq.comm (a := c)]; rfl
      | false =>
        try simp (disch := omega) only [cnd_bool, on_some_eq, Dr_eq, xNil_ptr, xNil_func, xNil_yield, xPick_bool, unw_nil, xRes_ptr, xUn_not, xUn_neg, xEx_tuple, xBin_add, xBin_sub, xBin_mul, xBin_eql, xBin_neq, xBin_lss, xBin_leq, xBin_gtr, xBin_geq, xBin_eqls, xBin_neqs, wI64, oCell_some, List.getElem?_toArray, List.getElem?_cons_zero, List.getElem?_cons_succ, Nat.zero_add, Bool.not_true, Bool.not_false, if_true, if_false, ite_true, ite_false, beq_iff_eq, bne_iff_ne, decide_eq_true_eq, ne_eq, Bool.false_eq_true, Bool.true_eq_false, reduceIte, Option.some.injEq, Int.toNat_natCast, beq_self_eq_true, bne_self_eq_false, Value.cells, splice, List.setIfInBounds_toArray, List.set_cons_zero, List.set_cons_succ, List.size_toArray, List.length_cons, List.length_nil, and_self, Nat.reduceLeDiff, Nat.reduceAdd, Nat.reduceMul, Int.reduceToNat, Int.reduceLT, Int.reduceLE, Int.reduceGT, Int.reduceGE, Int.reduceAdd, Int.reduceSub, Int.reduceMul, Int.reduceNeg, Int.reduceEq, Int.reduceNe, true_and, and_true, Int.cast_ofNat_Int, Nat.le_refl, hf, ld3, ld4, ld5, ld9, ln9, ix9, ld21, ld77, fa77_0, fa77_2, fa77_3, fa77_4, fa77_5, fa77_6, fa77_7, bd77, bd77_0_1_2_3_4_5_6_7, bd77_0_1_4_5_7, ld162, ia162, neq4, ow2, ow3, ow4, ow5, ow6, ow8, ow11, ow20, ow23, cv5_3, e82]
        refine soStore1 ty4 1 h (fun w h => ?_) rfl (by simp) rfl
        simp only [List.set_cons_zero, List.set_cons_succ, List.setIfInBounds_toArray] at h
        refine ih (pos + 1) T' _ w hd' ?_ h
        rw [hq, hT, List.contains_cons, List.contains_cons, Bool.or_assoc, BEq.comm (a := c), Bool.false_or, beq_byte c 82 82 rfl]
    have e84 : ((c.toNat : Int) = 84) = (c = 84) := by
      apply propext
      constructor
      · intro he; apply UInt8.toNat_inj.1; simpa using Int.ofNat.inj he
      · intro he; subst he; rfl
    try simp (disch := omega) only [cnd_bool, on_some_eq, Dr_eq, xNil_ptr, xNil_func, xNil_yield, xPick_bool, unw_nil, xRes_ptr, xUn_not, xUn_neg, xEx_tuple, xBin_add, xBin_sub, xBin_mul, xBin_eql, xBin_neq, xBin_lss, xBin_leq, xBin_gtr, xBin_geq, xBin_eqls, xBin_neqs, wI64, oCell_some, List.getElem?_toArray, List.getElem?_cons_zero, List.getElem?_cons_succ, Nat.zero_add, Bool.not_true, Bool.not_false, if_true, if_false, ite_true, ite_false, beq_iff_eq, bne_iff_ne, decide_eq_true_eq, ne_eq, Bool.false_eq_true, Bool.true_eq_false, reduceIte, Option.some.injEq, Int.toNat_natCast, beq_self_eq_true, bne_self_eq_false, Value.cells, splice, List.setIfInBounds_toArray, List.set_cons_zero, List.set_cons_succ, List.size_toArray, List.length_cons, List.length_nil, and_self, Nat.reduceLeDiff, Nat.reduceAdd, Nat.reduceMul, Int.reduceToNat, Int.reduceLT, Int.reduceLE, Int.reduceGT, Int.reduceGE, Int.reduceAdd, Int.reduceSub, Int.reduceMul, Int.reduceNeg, Int.reduceEq, Int.reduceNe, true_and, and_true, Int.cast_ofNat_Int, Nat.le_refl, hf, ld3, ld4, ld5, ld9, ln9, ix9, ld21, ld77, fa77_0, fa77_2, fa77_3, fa77_4, fa77_5, fa77_6, fa77_7, bd77, bd77_0_1_2_3_4_5_6_7, bd77_0_1_4_5_7, ld162, ia162, neq4, ow2, ow3, ow4, ow5, ow6, ow8, ow11, ow20, ow23, cv5_3, e84]
    cases T with
    | true =>
      try simp (disch := omega) only [cnd_bool, on_some_eq, Dr_eq, xNil_ptr, xNil_func, xNil_yield, xPick_bool, unw_nil, xRes_ptr, xUn_not, xUn_neg, xEx_tuple, xBin_add, xBin_sub, xBin_mul, xBin_eql, xBin_neq, xBin_lss, xBin_leq, xBin_gtr, xBin_geq, xBin_eqls, xBin_neqs, wI64, oCell_some, List.getElem?_toArray, List.getElem?_cons_zero, List.getElem?_cons_succ, Nat.zero_add, Bool.not_true, Bool.not_false, if_true, if_false, ite_true, ite_false, beq_iff_eq, bne_iff_ne, decide_eq_true_eq, ne_eq, Bool.false_eq_true, Bool.true_eq_false, reduceIte, Option.some.injEq, Int.toNat_natCast, beq_self_eq_true, bne_self_eq_false, Value.cells, splice, List.setIfInBounds_toArray, List.set_cons_zero, List.set_cons_succ, List.size_toArray, List.length_cons, List.length_nil, and_self, Nat.reduceLeDiff, Nat.reduceAdd, Nat.reduceMul, Int.reduceToNat, Int.reduceLT, Int.reduceLE, Int.reduceGT, Int.reduceGE, Int.reduceAdd, Int.reduceSub, Int.reduceMul, Int.reduceNeg, Int.reduceEq, Int.reduceNe, true_and, and_true, Int.cast_ofNat_Int, Nat.le_refl, hf, ld3, ld4, ld5, ld9, ln9, ix9, ld21, ld77, fa77_0, fa77_2, fa77_3, fa77_4, fa77_5, fa77_6, fa77_7, bd77, bd77_0_1_2_3_4_5_6_7, bd77_0_1_4_5_7, ld162, ia162, neq4, ow2, ow3, ow4, ow5, ow6, ow8, ow11, ow20, ow23, cv5_3]
      refine soStore1 ty4 1 h (fun w h => ?_) rfl (by simp) rfl
      simp only [List.set_cons_zero, List.set_cons_succ, List.setIfInBounds_toArray] at h
      exact key true w h (by simp)
    | false =>
      try simp (disch := omega) only [cnd_bool, on_some_eq, Dr_eq, xNil_ptr, xNil_func, xNil_yield, xPick_bool, unw_nil, xRes_ptr, xUn_not, xUn_neg, xEx_tuple, xBin_add, xBin_sub, xBin_mul, xBin_eql, xBin_neq, xBin_lss, xBin_leq, xBin_gtr, xBin_geq, xBin_eqls, xBin_neqs, wI64, oCell_some, List.getElem?_toArray, List.getElem?_cons_zero, List.getElem?_cons_succ, Nat.zero_add, Bool.not_true, Bool.not_false, if_true, if_false, ite_true, ite_false, beq_iff_eq, bne_iff_ne, decide_eq_true_eq, ne_eq, Bool.false_eq_true, Bool.true_eq_false, reduceIte, Option.some.injEq, Int.toNat_natCast, beq_self_eq_true, bne_self_eq_false, Value.cells, splice, List.setIfInBounds_toArray, List.set_cons_zero, List.set_cons_succ, List.size_toArray, List.length_cons, List.length_nil, and_self, Nat.reduceLeDiff, Nat.reduceAdd, Nat.reduceMul, Int.reduceToNat, Int.reduceLT, Int.reduceLE, Int.reduceGT, Int.reduceGE, Int.reduceAdd, Int.reduceSub, Int.reduceMul, Int.reduceNeg, Int.reduceEq, Int.reduceNe, true_and, and_true, Int.cast_ofNat_Int, Nat.le_refl, hf, ld3, ld4, ld5, ld9, ln9, ix9, ld21, ld77, fa77_0, fa77_2, fa77_3, fa77_4, fa77_5, fa77_6, fa77_7, bd77, bd77_0_1_2_3_4_5_6_7, bd77_0_1_4_5_7, ld162, ia162, neq4, ow2, ow3, ow4, ow5, ow6, ow8, ow11, ow20, ow23, cv5_3, e84]
      refine soStore1 ty4 1 h (fun w h => ?_) rfl (by simp) rfl
      simp only [List.set_cons_zero, List.set_cons_succ, List.setIfInBounds_toArray] at h
      exact key _ w h (by rw [beq_byte c 84 84 rfl, Bool.false_or, BEq.comm])

theorem c_of {w0 w : World} {L : List (Nat × Obj)} (h : So w0 w L) (op : Int) : Cx P 89 #[.int .u16 op] w fun v w => v = ofV op ∧ So w0 w L := by
  apply F89_ok
  unfold F89
  refine al77 h fun b2 w h => ?_
  try simp only [Facts, and_true, Value.cells, List.setIfInBounds_toArray, List.set_cons_zero, List.set_cons_succ, splice, Nat.zero_add, Nat.reduceAdd, List.cons_append, List.nil_append] at h
  have hf := h.facts
  simp only [Facts, and_true, Value.cells, List.setIfInBounds_toArray, List.set_cons_zero, List.set_cons_succ, splice, Nat.zero_add, Nat.reduceAdd, List.cons_append, List.nil_append] at hf
  refine Cx.mono (c_row h op) fun v w hv => ?_
  obtain ⟨rfl, h⟩ := hv
  have hf := h.facts
  simp only [Facts] at hf
  rcases rowOf_ok op with h0 | h1
  · try simp (disch := omega) only [cnd_bool, on_some_eq, Dr_eq, xNil_ptr, xNil_func, xNil_yield, xPick_bool, unw_nil, xRes_ptr, xUn_not, xUn_neg, xEx_tuple, xBin_add, xBin_sub, xBin_mul, xBin_eql, xBin_neq, xBin_lss, xBin_leq, xBin_gtr, xBin_geq, xBin_eqls, xBin_neqs, wI64, oCell_some, List.getElem?_toArray, List.getElem?_cons_zero, List.getElem?_cons_succ, Nat.zero_add, Bool.not_true, Bool.not_false, if_true, if_false, ite_true, ite_false, beq_iff_eq, bne_iff_ne, decide_eq_true_eq, ne_eq, Bool.false_eq_true, Bool.true_eq_false, reduceIte, Option.some.injEq, Int.toNat_natCast, beq_self_eq_true, bne_self_eq_false, Value.cells, splice, List.setIfInBounds_toArray, List.set_cons_zero, List.set_cons_succ, List.size_toArray, List.length_cons, List.length_nil, and_self, Nat.reduceLeDiff, Nat.reduceAdd, Nat.reduceMul, Int.reduceToNat, Int.reduceLT, Int.reduceLE, Int.reduceGT, Int.reduceGE, Int.reduceAdd, Int.reduceSub, Int.reduceMul, Int.reduceNeg, Int.reduceEq, Int.reduceNe, true_and, and_true, Int.cast_ofNat_Int, Nat.le_refl, hf, ld3, ld4, ld5, ld9, ln9, ix9, ld21, ld77, fa77_0, fa77_2, fa77_3, fa77_4, fa77_5, fa77_6, fa77_7, bd77, bd77_0_1_2_3_4_5_6_7, bd77_0_1_4_5_7, ld162, ia162, neq4, ow2, ow3, ow4, ow5, ow6, ow8, ow11, ow20, ow23, cv5_3, h0, bs_toList]
    refine soStoreA ty77 0 h (fun w h => ?_) rfl rfl rfl rfl
    simp only [List.set_cons_zero] at h
    have hf := h.facts
    simp only [Facts] at hf
    try simp (disch := omega) only [cnd_bool, on_some_eq, Dr_eq, xNil_ptr, xNil_func, xNil_yield, xPick_bool, unw_nil, xRes_ptr, xUn_not, xUn_neg, xEx_tuple, xBin_add, xBin_sub, xBin_mul, xBin_eql, xBin_neq, xBin_lss, xBin_leq, xBin_gtr, xBin_geq, xBin_eqls, xBin_neqs, wI64, oCell_some, List.getElem?_toArray, List.getElem?_cons_zero, List.getElem?_cons_succ, Nat.zero_add, Bool.not_true, Bool.not_false, if_true, if_false, ite_true, ite_false, beq_iff_eq, bne_iff_ne, decide_eq_true_eq, ne_eq, Bool.false_eq_true, Bool.true_eq_false, reduceIte, Option.some.injEq, Int.toNat_natCast, beq_self_eq_true, bne_self_eq_false, Value.cells, splice, List.setIfInBounds_toArray, List.set_cons_zero, List.set_cons_succ, List.size_toArray, List.length_cons, List.length_nil, and_self, Nat.reduceLeDiff, Nat.reduceAdd, Nat.reduceMul, Int.reduceToNat, Int.reduceLT, Int.reduceLE, Int.reduceGT, Int.reduceGE, Int.reduceAdd, Int.reduceSub, Int.reduceMul, Int.reduceNeg, Int.reduceEq, Int.reduceNe, true_and, and_true, Int.cast_ofNat_Int, Nat.le_refl, hf, ld3, ld4, ld5, ld9, ln9, ix9, ld21, ld77, fa77_0, fa77_2, fa77_3, fa77_4, fa77_5, fa77_6, fa77_7, bd77, bd77_0_1_2_3_4_5_6_7, bd77_0_1_4_5_7, ld162, ia162, neq4, ow2, ow3, ow4, ow5, ow6, ow8, ow11, ow20, ow23, cv5_3]
    refine ⟨?_, h.drop⟩
    unfold ofV
    rw [formOf_eq, h0]
    rfl
  · unfold okRow at h1
    simp only [Bool.and_eq_true, List.all_eq_true, decide_eq_true_eq] at h1
    obtain ⟨⟨h2, h3⟩, h4⟩ := h1
    have hne : rowOf op ≠ [] := by
      intro he; rw [he] at h4; simp [splitB] at h4
    split at h4
    · rename_i n tr fx rs m p ps heq
      simp only [Bool.and_eq_true, decide_eq_true_eq] at h4
      obtain ⟨h5, h6⟩ := h4
      try simp (disch := omega) only [cnd_bool, on_some_eq, Dr_eq, xNil_ptr, xNil_func, xNil_yield, xPick_bool, unw_nil, xRes_ptr, xUn_not, xUn_neg, xEx_tuple, xBin_add, xBin_sub, xBin_mul, xBin_eql, xBin_neq, xBin_lss, xBin_leq, xBin_gtr, xBin_geq, xBin_eqls, xBin_neqs, wI64, oCell_some, List.getElem?_toArray, List.getElem?_cons_zero, List.getElem?_cons_succ, Nat.zero_add, Bool.not_true, Bool.not_false, if_true, if_false, ite_true, ite_false, beq_iff_eq, bne_iff_ne, decide_eq_true_eq, ne_eq, Bool.false_eq_true, Bool.true_eq_false, reduceIte, Option.some.injEq, Int.toNat_natCast, beq_self_eq_true, bne_self_eq_false, Value.cells, splice, List.setIfInBounds_toArray, List.set_cons_zero, List.set_cons_succ, List.size_toArray, List.length_cons, List.length_nil, and_self, Nat.reduceLeDiff, Nat.reduceAdd, Nat.reduceMul, Int.reduceToNat, Int.reduceLT, Int.reduceLE, Int.reduceGT, Int.reduceGE, Int.reduceAdd, Int.reduceSub, Int.reduceMul, Int.reduceNeg, Int.reduceEq, Int.reduceNe, true_and, and_true, Int.cast_ofNat_Int, Nat.le_refl, hf, ld3, ld4, ld5, ld9, ln9, ix9, ld21, ld77, fa77_0, fa77_2, fa77_3, fa77_4, fa77_5, fa77_6, fa77_7, bd77, bd77_0_1_2_3_4_5_6_7, bd77_0_1_4_5_7, ld162, ia162, neq4, ow2, ow3, ow4, ow5, ow6, ow8, ow11, ow20, ow23, cv5_3, bs_toList]
      rw [if_neg (by simpa using hne)]
      have hsub : ∀ x ∈ splitB [] (rowOf op), ∀ c ∈ x, c.toNat < 128 := by
        have gen : ∀ (r cur : List UInt8), (∀ c ∈ cur, c.toNat < 128) → (∀ c ∈ r, c.toNat < 128) → ∀ x ∈ splitB cur r, ∀ c ∈ x, c.toNat < 128 := by
          intro r
          induction r with
          | nil => intro cur hc _ x hx; simp [splitB] at hx; subst hx; exact hc
          | cons a r ih =>
            intro cur hc hr x hx
            unfold splitB at hx
            split at hx
            · rcases List.mem_cons.1 hx with rfl | hx
              · exact hc
              · exact ih [] (by simp) (fun c hc' => hr c (List.mem_cons_of_mem _ hc')) x hx
            · exact ih _ (by intro c hc'; rcases List.mem_append.1 hc' with h | h; exact hc c h; simp at h; subst h; exact hr _ (List.mem_cons_self ..)) (fun c hc' => hr c (List.mem_cons_of_mem _ hc')) x hx
        exact gen _ _ (by simp) h2
      refine Cx.mono (c_fields h _ h2 (by rw [heq]; rfl) h3) fun v w hv => ?_
      obtain ⟨rfl, h⟩ := hv
      rw [heq]
      simp only [strs, List.map_cons, List.map_nil]
      refine al162 h fun b5 w h => ?_
      try simp only [Facts, and_true, Value.cells, List.setIfInBounds_toArray, List.set_cons_zero, List.set_cons_succ, splice, Nat.zero_add, Nat.reduceAdd, List.cons_append, List.nil_append] at h
      have hf := h.facts
      simp only [Facts, and_true, Value.cells, List.setIfInBounds_toArray, List.set_cons_zero, List.set_cons_succ, splice, Nat.zero_add, Nat.reduceAdd, List.cons_append, List.nil_append] at hf
      refine soStoreA ty162 0 h (fun w h => ?_) rfl rfl rfl rfl
      simp only [List.set_cons_zero] at h
      have h := h.drew
      have hf := h.facts
      simp only [Facts] at hf
      have hg : ∀ h, (bs (p :: ps))[0]'h = p := by
        intro h; rw [bs_get]; rfl
      have hs : Int.toNat 0 < (bs (p :: ps)).size := by rw [bs_size]; simp
      have hlt : p.toNat < 256 := p.toNat_lt
      try simp (disch := omega) only [cnd_bool, on_some_eq, Dr_eq, xNil_ptr, xNil_func, xNil_yield, xPick_bool, unw_nil, xRes_ptr, xUn_not, xUn_neg, xEx_tuple, xBin_add, xBin_sub, xBin_mul, xBin_eql, xBin_neq, xBin_lss, xBin_leq, xBin_gtr, xBin_geq, xBin_eqls, xBin_neqs, wI64, oCell_some, List.getElem?_toArray, List.getElem?_cons_zero, List.getElem?_cons_succ, Nat.zero_add, Bool.not_true, Bool.not_false, if_true, if_false, ite_true, ite_false, beq_iff_eq, bne_iff_ne, decide_eq_true_eq, ne_eq, Bool.false_eq_true, Bool.true_eq_false, reduceIte, Option.some.injEq, Int.toNat_natCast, beq_self_eq_true, bne_self_eq_false, Value.cells, splice, List.setIfInBounds_toArray, List.set_cons_zero, List.set_cons_succ, List.size_toArray, List.length_cons, List.length_nil, and_self, Nat.reduceLeDiff, Nat.reduceAdd, Nat.reduceMul, Int.reduceToNat, Int.reduceLT, Int.reduceLE, Int.reduceGT, Int.reduceGE, Int.reduceAdd, Int.reduceSub, Int.reduceMul, Int.reduceNeg, Int.reduceEq, Int.reduceNe, true_and, and_true, Int.cast_ofNat_Int, Nat.le_refl, hf, ld3, ld4, ld5, ld9, ln9, ix9, ld21, ld77, fa77_0, fa77_2, fa77_3, fa77_4, fa77_5, fa77_6, fa77_7, bd77, bd77_0_1_2_3_4_5_6_7, bd77_0_1_4_5_7, ld162, ia162, neq4, ow2, ow3, ow4, ow5, ow6, ow8, ow11, ow20, ow23, cv5_3, ix9 _ _ _ (Int.le_refl 0) hs, hg, wU8]
      refine al77 h fun b6 w h => ?_
      try simp only [Facts, and_true, Value.cells, List.setIfInBounds_toArray, List.set_cons_zero, List.set_cons_succ, splice, Nat.zero_add, Nat.reduceAdd, List.cons_append, List.nil_append] at h
      have hf := h.facts
      simp only [Facts, and_true, Value.cells, List.setIfInBounds_toArray, List.set_cons_zero, List.set_cons_succ, splice, Nat.zero_add, Nat.reduceAdd, List.cons_append, List.nil_append] at hf
      try simp (disch := omega) only [cnd_bool, on_some_eq, Dr_eq, xNil_ptr, xNil_func, xNil_yield, xPick_bool, unw_nil, xRes_ptr, xUn_not, xUn_neg, xEx_tuple, xBin_add, xBin_sub, xBin_mul, xBin_eql, xBin_neq, xBin_lss, xBin_leq, xBin_gtr, xBin_geq, xBin_eqls, xBin_neqs, wI64, oCell_some, List.getElem?_toArray, List.getElem?_cons_zero, List.getElem?_cons_succ, Nat.zero_add, Bool.not_true, Bool.not_false, if_true, if_false, ite_true, ite_false, beq_iff_eq, bne_iff_ne, decide_eq_true_eq, ne_eq, Bool.false_eq_true, Bool.true_eq_false, reduceIte, Option.some.injEq, Int.toNat_natCast, beq_self_eq_true, bne_self_eq_false, Value.cells, splice, List.setIfInBounds_toArray, List.set_cons_zero, List.set_cons_succ, List.size_toArray, List.length_cons, List.length_nil, and_self, Nat.reduceLeDiff, Nat.reduceAdd, Nat.reduceMul, Int.reduceToNat, Int.reduceLT, Int.reduceLE, Int.reduceGT, Int.reduceGE, Int.reduceAdd, Int.reduceSub, Int.reduceMul, Int.reduceNeg, Int.reduceEq, Int.reduceNe, true_and, and_true, Int.cast_ofNat_Int, Nat.le_refl, hf, ld3, ld4, ld5, ld9, ln9, ix9, ld21, ld77, fa77_0, fa77_2, fa77_3, fa77_4, fa77_5, fa77_6, fa77_7, bd77, bd77_0_1_2_3_4_5_6_7, bd77_0_1_4_5_7, ld162, ia162, neq4, ow2, ow3, ow4, ow5, ow6, ow8, ow11, ow20, ow23, cv5_3]
      refine soStoreA ty77 0 h (fun w h => ?_) rfl rfl rfl rfl
      simp only [List.set_cons_zero] at h
      have hf := h.facts
      simp only [Facts] at hf
      unfold F89.k1
      try simp (disch := omega) only [cnd_bool, on_some_eq, Dr_eq, xNil_ptr, xNil_func, xNil_yield, xPick_bool, unw_nil, xRes_ptr, xUn_not, xUn_neg, xEx_tuple, xBin_add, xBin_sub, xBin_mul, xBin_eql, xBin_neq, xBin_lss, xBin_leq, xBin_gtr, xBin_geq, xBin_eqls, xBin_neqs, wI64, oCell_some, List.getElem?_toArray, List.getElem?_cons_zero, List.getElem?_cons_succ, Nat.zero_add, Bool.not_true, Bool.not_false, if_true, if_false, ite_true, ite_false, beq_iff_eq, bne_iff_ne, decide_eq_true_eq, ne_eq, Bool.false_eq_true, Bool.true_eq_false, reduceIte, Option.some.injEq, Int.toNat_natCast, beq_self_eq_true, bne_self_eq_false, Value.cells, splice, List.setIfInBounds_toArray, List.set_cons_zero, List.set_cons_succ, List.size_toArray, List.length_cons, List.length_nil, and_self, Nat.reduceLeDiff, Nat.reduceAdd, Nat.reduceMul, Int.reduceToNat, Int.reduceLT, Int.reduceLE, Int.reduceGT, Int.reduceGE, Int.reduceAdd, Int.reduceSub, Int.reduceMul, Int.reduceNeg, Int.reduceEq, Int.reduceNe, true_and, and_true, Int.cast_ofNat_Int, Nat.le_refl, hf, ld3, ld4, ld5, ld9, ln9, ix9, ld21, ld77, fa77_0, fa77_2, fa77_3, fa77_4, fa77_5, fa77_6, fa77_7, bd77, bd77_0_1_2_3_4_5_6_7, bd77_0_1_4_5_7, ld162, ia162, neq4, ow2, ow3, ow4, ow5, ow6, ow8, ow11, ow20, ow23, cv5_3]
      refine soRangeS un9 h fun it w h => ?_
      refine ⟨_, of_loop rfl (hsub tr (by rw [heq]; simp)) ?_ op ((p.toNat : Int) - 48) tr 0 false false w rfl ?_ h⟩
      · intro c r hm
        subst hm
        simpa using h6
      · unfold ofV
        rw [formOf_eq]
        unfold parseR
        rw [heq]
        simp only [Bool.false_or]
    · cases h4
end Go.Proofs.Ytlmcppbpobnfjaa

