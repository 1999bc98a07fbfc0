/-
  Enumerants: grammar.Enum answers what ref03.Enum answers.
-/
import Derived.Test.YtlmcppbpobnfjaaGe
import Derived.Test.YtlmcppbpobnfjaaVr
namespace Go.Proofs.Ytlmcppbpobnfjaa
open Go Go.Vc
set_option linter.unusedSimpArgs false
set_option linter.unusedVariables false
set_option maxRecDepth 20000

/-! ## number -/
def numB : Int → List UInt8 → Int
  | a, [] => a
  | a, c :: r => numB (10 * a + ((c.toNat : Int) - 48)) r
theorem number_loop {w0 : World} {L : List (Nat × Obj)} {s : List UInt8} {it : Nat} (hs : ∀ c ∈ s, 48 ≤ c.toNat ∧ c.toNat ≤ 57) :
    ∀ (rest : List UInt8) (pos : Nat) (a : Int) (w : World), s.drop pos = rest → 0 ≤ a → (a + 1) * 10 ^ rest.length ≤ 1000000000 → So w0 w ((it, .stringIter (bs s) pos) :: L) →
      F127.l1 (fun v w => v = .int .u32 (numB a rest) ∧ So w0 w L) (rest.length + 1) (.int .u32 a) (.pointer (some ⟨it, 0, none⟩)) w := by
  intro rest
  induction rest with
  | nil =>
    intro pos a w hd _ _ h
    have hp : ¬ pos < (bs s).size := by
      rw [bs_size]; intro hp
      have := congrArg List.length hd
      simp at this; omega
    unfold F127.l1
    refine soNextE 0 h rfl hp ?_
    try simp (disch := omega) only [cnd_bool, on_some_eq, Dr_eq, xNil_ptr, xNil_func, xNil_yield, xPick_bool, unw_nil, xRes_ptr, xUn_not, xUn_neg, xEx_tuple, xBin_add, xBin_sub, xBin_mul, xBin_eql, xBin_neq, xBin_lss, xBin_leq, xBin_gtr, xBin_geq, xBin_eqls, xBin_neqs, wI64, oCell_some, List.getElem?_toArray, List.getElem?_cons_zero, List.getElem?_cons_succ, Nat.zero_add, Bool.not_true, Bool.not_false, if_true, if_false, ite_true, ite_false, beq_iff_eq, bne_iff_ne, decide_eq_true_eq, ne_eq, Bool.false_eq_true, Bool.true_eq_false, reduceIte, Option.some.injEq, Int.toNat_natCast, beq_self_eq_true, bne_self_eq_false, Value.cells, splice, List.setIfInBounds_toArray, List.set_cons_zero, List.set_cons_succ, List.size_toArray, List.length_cons, List.length_nil, and_self, Nat.reduceLeDiff, Nat.reduceAdd, Nat.reduceMul, Int.reduceToNat, Int.reduceLT, Int.reduceLE, Int.reduceGT, Int.reduceGE, Int.reduceAdd, Int.reduceSub, Int.reduceMul, Int.reduceNeg, Int.reduceEq, Int.reduceNe, true_and, and_true, Int.cast_ofNat_Int, Nat.le_refl, ld4, ld5, ld9, ln9, ix9, ld21, ld22, ld120, fa120_2, bd120_0_1, neq4, ow2, ow3, ow4, ow5, ow6, ow8, ow11, ow20, ow23, cv21_22, cv5_22]
    unfold F127.k2
    exact ⟨rfl, h.drop⟩
  | cons c r ih =>
    intro pos a w hd h0 hb h
    have hp' : pos < s.length := by
      have := congrArg List.length hd
      simp at this; omega
    have hp : pos < (bs s).size := by rw [bs_size]; exact hp'
    have hc : (bs s)[pos]'hp = c := by
      rw [bs_get]
      rw [List.drop_eq_getElem_cons hp'] at hd
      exact (List.cons.inj hd).1
    have hd' : s.drop (pos + 1) = r := by
      rw [List.drop_eq_getElem_cons hp'] at hd
      exact (List.cons.inj hd).2
    have hcr := hs c (List.mem_of_mem_drop (hd ▸ List.mem_cons_self ..))
    unfold F127.l1
    refine soNextS 0 h rfl hp (by rw [hc]; omega) fun w h => ?_
    rw [hc]
    simp only [List.set_cons_zero] at h
    have hpow : (1 : Int) ≤ 10 ^ r.length := by exact_mod_cast Nat.one_le_pow _ _ (by omega)
    have hb' : (a + 1) * 10 * 10 ^ r.length ≤ 1000000000 := by
      rw [List.length_cons, Int.pow_succ, Int.mul_comm (10 ^ r.length) 10, ← Int.mul_assoc] at hb; exact hb
    have ha : (a + 1) * 10 ≤ 1000000000 := by
      have := Int.mul_le_mul_of_nonneg_left hpow (show 0 ≤ (a + 1) * 10 by omega)
      omega
    try simp (disch := omega) only [cnd_bool, on_some_eq, Dr_eq, xNil_ptr, xNil_func, xNil_yield, xPick_bool, unw_nil, xRes_ptr, xUn_not, xUn_neg, xEx_tuple, xBin_add, xBin_sub, xBin_mul, xBin_eql, xBin_neq, xBin_lss, xBin_leq, xBin_gtr, xBin_geq, xBin_eqls, xBin_neqs, wI64, oCell_some, List.getElem?_toArray, List.getElem?_cons_zero, List.getElem?_cons_succ, Nat.zero_add, Bool.not_true, Bool.not_false, if_true, if_false, ite_true, ite_false, beq_iff_eq, bne_iff_ne, decide_eq_true_eq, ne_eq, Bool.false_eq_true, Bool.true_eq_false, reduceIte, Option.some.injEq, Int.toNat_natCast, beq_self_eq_true, bne_self_eq_false, Value.cells, splice, List.setIfInBounds_toArray, List.set_cons_zero, List.set_cons_succ, List.size_toArray, List.length_cons, List.length_nil, and_self, Nat.reduceLeDiff, Nat.reduceAdd, Nat.reduceMul, Int.reduceToNat, Int.reduceLT, Int.reduceLE, Int.reduceGT, Int.reduceGE, Int.reduceAdd, Int.reduceSub, Int.reduceMul, Int.reduceNeg, Int.reduceEq, Int.reduceNe, true_and, and_true, Int.cast_ofNat_Int, Nat.le_refl, ld4, ld5, ld9, ln9, ix9, ld21, ld22, ld120, fa120_2, bd120_0_1, neq4, ow2, ow3, ow4, ow5, ow6, ow8, ow11, ow20, ow23, cv21_22, cv5_22, wI32, wU32]
    refine ih (pos + 1) _ w hd' (by omega) ?_ h
    have : (10 * a + ((c.toNat : Int) - 48) + 1) * 10 ^ r.length ≤ (a + 1) * 10 * 10 ^ r.length := Int.mul_le_mul_of_nonneg_right (by omega) (by omega)
    omega
theorem c_number {w0 w : World} {L : List (Nat × Obj)} (h : So w0 w L) (s : List UInt8) (hs : ∀ c ∈ s, 48 ≤ c.toNat ∧ c.toNat ≤ 57) (hl : s.length ≤ 9) : Cx P 127 #[.string (bs s)] w fun v w => v = .int .u32 (numB 0 s) ∧ So w0 w L := by
  apply F127_ok
  unfold F127 F127.k1
  refine soRangeS un9 h fun it w h => ?_
  refine ⟨_, number_loop hs s 0 0 w (by simp) (by omega) ?_ h⟩
  have : (10 : Int) ^ s.length ≤ 10 ^ 9 := by exact_mod_cast Nat.pow_le_pow_right (by omega) hl
  omega

/-! ## Enums -/
def pairsP (n : Int) (word : List UInt8) (nd : Bool) : List UInt8 → List (Int × List UInt8)
  | [] => []
  | c :: r => if c = 32 then (if nd = true then (n, word) :: pairsP n [] false r else pairsP (numB 0 word) [] true r) else pairsP n (word ++ [c]) nd r
/-- Texts of names: a number's digits, a blank, a name, a blank, again. -/
def okNames (word : List UInt8) (nd : Bool) : List UInt8 → Bool
  | [] => true
  | c :: r => decide (c.toNat < 128) && (if c = 32 then (if nd = true then okNames [] false r else word.all (fun c => decide (48 ≤ c.toNat ∧ c.toNat ≤ 57)) && decide (word.length ≤ 9) && okNames [] true r) else decide (word.length ≤ 100) && okNames (word ++ [c]) nd r)
theorem names_ok : nameTexts.all (fun x => okNames [] false x.2) = true := by decide +kernel
theorem namesOf_ok (c : Int) : okNames [] false (namesOf c) = true := by
  rcases look_mem [] nameTexts c with h | ⟨p, hp, h⟩
  · have : namesOf c = [] := h
    rw [this]; rfl
  · have : namesOf c = p.2 := h.symm
    rw [this]; exact List.all_eq_true.1 names_ok p hp
def enumOf (c n : Int) : Option (List UInt8) := (nameRows.find? fun y => y.1 == c && y.2.1 == n).map (·.2.2)
theorem texts_rows : nameTexts.all (fun x => decide (pairsP 0 [] false x.2 = (nameRows.filter fun y => y.1 == x.1).map (·.2))) = true := by decide +kernel
theorem pairs_rows (c : Int) : pairsP 0 [] false (namesOf c) = (nameRows.filter fun y => y.1 == c).map (·.2) := by
  by_cases hn : namesOf c = []
  · rw [hn]
    rw [namesOf_rows] at hn
    rw [List.filter_eq_nil_iff.2 (by intro y hy; simpa using hn y hy)]
    rfl
  · have : ∀ (l : List (Int × List UInt8)), look [] l c ≠ [] → ∃ x ∈ l, x.1 = c ∧ x.2 = look [] l c := by
      intro l
      induction l with
      | nil => intro h; exact absurd rfl h
      | cons p l ih =>
        obtain ⟨k, v⟩ := p
        intro h
        by_cases hk : c = k
        · exact ⟨_, List.mem_cons_self .., hk.symm, by rw [look_pos hk]⟩
        · rw [look_neg hk] at h ⊢
          obtain ⟨x, hx, h1, h2⟩ := ih h
          exact ⟨x, List.mem_cons_of_mem _ hx, h1, h2⟩
    obtain ⟨x, hx, h1, h2⟩ := this nameTexts hn
    have h3 := List.all_eq_true.1 texts_rows x hx
    simp only [decide_eq_true_eq] at h3
    have h4 : namesOf c = x.2 := h2.symm
    rw [h4, h3, h1]
theorem enumOf_pairs (c n : Int) : enumOf c n = ((pairsP 0 [] false (namesOf c)).find? fun y => y.1 == n).map (·.2) := by
  rw [pairs_rows, enumOf, List.find?_map, List.find?_filter]
  simp only [Option.map_map]
  have : (fun y : Int × Int × List UInt8 => y.1 == c && y.2.1 == n) = fun a => decide ((a.1 == c) = true ∧ ((fun y : Int × List UInt8 => y.1 == n) ∘ fun x : Int × Int × List UInt8 => x.2) a = true) := by
    funext a
    rw [Bool.eq_iff_iff]
    simp
  rw [this]
  rfl

/-! ## The range over Enums in Enum -/
abbrev LOe := LO 16 #[10, 11] (cL (cL (cN 1 (cL (cN 1 (cB Try.f120)))))) (cR (cL (cN 1 (cL (cN 1 (cB Try.f120))))))
theorem enums_loop {w0 : World} {L : List (Nat × Obj)} {s : List UInt8} {n : Int} {it d l x1 x3 x4 x5 : Nat} {ob1 : Obj} {Qc : Value → World → Prop} :
    ∀ (rest : List UInt8) (pos : Nat) (nn : Int) (word : List UInt8) (nd : Bool) (w : World) (o : Obj), s.drop pos = rest → okNames word nd rest = true → word.length + rest.length ≤ 1000 →
      (∀ w o, LOe [(3, .pointer (some ⟨x3, 0, none⟩)), (4, .pointer (some ⟨x4, 0, none⟩)), (5, .pointer (some ⟨x5, 0, none⟩))] .ready none o → (pairsP nn word nd rest).find? (fun y => y.1 == n) = none →
        So w0 w ((d, .deferred (some [])) :: (l, o) :: (x1, ob1) :: (x5, cl #[.bool false] 4) :: (x4, cl #[.string (bs [])] 9) :: (x3, cl #[.int .u32 n] 22) :: L) → Qc (.tuple #[]) w) →
      (∀ w o y, LOe [(3, .pointer (some ⟨x3, 0, none⟩)), (4, .pointer (some ⟨x4, 0, none⟩)), (5, .pointer (some ⟨x5, 0, none⟩))] .done (some .ret) o → (pairsP nn word nd rest).find? (fun y => y.1 == n) = some y →
        So w0 w ((d, .deferred (some [])) :: (l, o) :: (x1, ob1) :: (x5, cl #[.bool true] 4) :: (x4, cl #[.string (bs y.2)] 9) :: (x3, cl #[.int .u32 n] 22) :: L) → Qc (.tuple #[]) w) →
      LOe [(3, .pointer (some ⟨x3, 0, none⟩)), (4, .pointer (some ⟨x4, 0, none⟩)), (5, .pointer (some ⟨x5, 0, none⟩))] .ready none o →
      So w0 w ((it, .stringIter (bs s) pos) :: (d, .deferred (some [])) :: (l, o) :: (x1, ob1) :: (x5, cl #[.bool false] 4) :: (x4, cl #[.string (bs [])] 9) :: (x3, cl #[.int .u32 n] 22) :: L) →
      F126.l1 Qc (rest.length + 1) (.func (.yield l) #[] #[]) (.int .u32 nn) (.string (bs word)) (.bool nd) (.pointer (some ⟨it, 0, none⟩)) w := by
  intro rest
  induction rest with
  | nil =>
    intro pos nn word nd w o hd hok hlen hA hB ho h
    have hp : ¬ pos < (bs s).size := by
      rw [bs_size]; intro hp
      have := congrArg List.length hd
      simp at this; omega
    unfold F126.l1
    refine soNextE 0 h rfl hp ?_
    try simp (disch := omega) only [cnd_bool, on_some_eq, Dr_eq, xNil_ptr, xNil_func, xNil_yield, xPick_bool, unw_nil, xRes_ptr, xUn_not, xUn_neg, xEx_tuple, xBin_add, xBin_sub, xBin_mul, xBin_eql, xBin_neq, xBin_lss, xBin_leq, xBin_gtr, xBin_geq, xBin_eqls, xBin_neqs, wI64, oCell_some, List.getElem?_toArray, List.getElem?_cons_zero, List.getElem?_cons_succ, Nat.zero_add, Bool.not_true, Bool.not_false, if_true, if_false, ite_true, ite_false, beq_iff_eq, bne_iff_ne, decide_eq_true_eq, ne_eq, Bool.false_eq_true, Bool.true_eq_false, reduceIte, Option.some.injEq, Int.toNat_natCast, beq_self_eq_true, bne_self_eq_false, Value.cells, splice, List.setIfInBounds_toArray, List.set_cons_zero, List.set_cons_succ, List.size_toArray, List.length_cons, List.length_nil, and_self, Nat.reduceLeDiff, Nat.reduceAdd, Nat.reduceMul, Int.reduceToNat, Int.reduceLT, Int.reduceLE, Int.reduceGT, Int.reduceGE, Int.reduceAdd, Int.reduceSub, Int.reduceMul, Int.reduceNeg, Int.reduceEq, Int.reduceNe, true_and, and_true, Int.cast_ofNat_Int, Nat.le_refl, ld4, ld5, ld9, ln9, ix9, ld21, ld22, ld120, fa120_2, bd120_0_1, neq4, ow2, ow3, ow4, ow5, ow6, ow8, ow11, ow20, ow23, cv21_22, cv5_22]
    exact hA w o ho rfl h.drop
  | cons c r ih =>
    intro pos nn word nd w o hd hok hlen hA hB ho h
    have hp' : pos < s.length := by
      have := congrArg List.length hd
      simp at this; omega
    have hp : pos < (bs s).size := by rw [bs_size]; exact hp'
    have hc : (bs s)[pos]'hp = c := by
      rw [bs_get]
      rw [List.drop_eq_getElem_cons hp'] at hd
      exact (List.cons.inj hd).1
    have hd' : s.drop (pos + 1) = r := by
      rw [List.drop_eq_getElem_cons hp'] at hd
      exact (List.cons.inj hd).2
    unfold okNames at hok
    simp only [Bool.and_eq_true, decide_eq_true_eq] at hok
    obtain ⟨hca, hok⟩ := hok
    unfold F126.l1
    refine soNextS 0 h rfl hp (by rw [hc]; exact hca) fun w h => ?_
    rw [hc]
    simp only [List.set_cons_zero] at h
    try simp (disch := omega) only [cnd_bool, on_some_eq, Dr_eq, xNil_ptr, xNil_func, xNil_yield, xPick_bool, unw_nil, xRes_ptr, xUn_not, xUn_neg, xEx_tuple, xBin_add, xBin_sub, xBin_mul, xBin_eql, xBin_neq, xBin_lss, xBin_leq, xBin_gtr, xBin_geq, xBin_eqls, xBin_neqs, wI64, oCell_some, List.getElem?_toArray, List.getElem?_cons_zero, List.getElem?_cons_succ, Nat.zero_add, Bool.not_true, Bool.not_false, if_true, if_false, ite_true, ite_false, beq_iff_eq, bne_iff_ne, decide_eq_true_eq, ne_eq, Bool.false_eq_true, Bool.true_eq_false, reduceIte, Option.some.injEq, Int.toNat_natCast, beq_self_eq_true, bne_self_eq_false, Value.cells, splice, List.setIfInBounds_toArray, List.set_cons_zero, List.set_cons_succ, List.size_toArray, List.length_cons, List.length_nil, and_self, Nat.reduceLeDiff, Nat.reduceAdd, Nat.reduceMul, Int.reduceToNat, Int.reduceLT, Int.reduceLE, Int.reduceGT, Int.reduceGE, Int.reduceAdd, Int.reduceSub, Int.reduceMul, Int.reduceNeg, Int.reduceEq, Int.reduceNe, true_and, and_true, Int.cast_ofNat_Int, Nat.le_refl, ld4, ld5, ld9, ln9, ix9, ld21, ld22, ld120, fa120_2, bd120_0_1, neq4, ow2, ow3, ow4, ow5, ow6, ow8, ow11, ow20, ow23, cv21_22, cv5_22]
    by_cases h32 : c = 32
    · subst h32
      rw [if_neg (by decide)]
      simp only [if_true] at hok
      cases nd with
      | false =>
        simp only [Bool.false_eq_true, if_false, Bool.and_eq_true, List.all_eq_true, decide_eq_true_eq] at hok
        obtain ⟨⟨k1, k2⟩, k3⟩ := hok
        simp only [Bool.not_false, if_true]
        refine Cx.mono (c_number h word k1 k2) fun v w hv => ?_
        obtain ⟨rfl, h⟩ := hv
        have e : pairsP nn word false (32 :: r) = pairsP (numB 0 word) [] true r := by simp [pairsP]
        rw [e] at hA hB
        try simp (disch := omega) only [cnd_bool, on_some_eq, Dr_eq, xNil_ptr, xNil_func, xNil_yield, xPick_bool, unw_nil, xRes_ptr, xUn_not, xUn_neg, xEx_tuple, xBin_add, xBin_sub, xBin_mul, xBin_eql, xBin_neq, xBin_lss, xBin_leq, xBin_gtr, xBin_geq, xBin_eqls, xBin_neqs, wI64, oCell_some, List.getElem?_toArray, List.getElem?_cons_zero, List.getElem?_cons_succ, Nat.zero_add, Bool.not_true, Bool.not_false, if_true, if_false, ite_true, ite_false, beq_iff_eq, bne_iff_ne, decide_eq_true_eq, ne_eq, Bool.false_eq_true, Bool.true_eq_false, reduceIte, Option.some.injEq, Int.toNat_natCast, beq_self_eq_true, bne_self_eq_false, Value.cells, splice, List.setIfInBounds_toArray, List.set_cons_zero, List.set_cons_succ, List.size_toArray, List.length_cons, List.length_nil, and_self, Nat.reduceLeDiff, Nat.reduceAdd, Nat.reduceMul, Int.reduceToNat, Int.reduceLT, Int.reduceLE, Int.reduceGT, Int.reduceGE, Int.reduceAdd, Int.reduceSub, Int.reduceMul, Int.reduceNeg, Int.reduceEq, Int.reduceNe, true_and, and_true, Int.cast_ofNat_Int, Nat.le_refl, ld4, ld5, ld9, ln9, ix9, ld21, ld22, ld120, fa120_2, bd120_0_1, neq4, ow2, ow3, ow4, ow5, ow6, ow8, ow11, ow20, ow23, cv21_22, cv5_22]
        exact ih (pos + 1) (numB 0 word) [] true w o hd' k3 (by simp at hlen ⊢; omega) hA hB ho h
      | true =>
        simp only [if_true] at hok
        simp only [Bool.not_true, Bool.false_eq_true, if_false]
        have e : pairsP nn word true (32 :: r) = (nn, word) :: pairsP nn [] false r := by simp [pairsP]
        rw [e] at hA hB
        refine F120.r1_ok (st := .ready) _ l _ _ (ho.rec' (h.st.blk (l, o) (by simp))) ?_
        unfold F120.r1
        refine soBeg 2 h rfl ho fun w o ho h => ?_
        simp only [List.set_cons_zero, List.set_cons_succ] at h
        unfold F120.k4
        have hf := h.facts
        simp only [Facts] at hf
        try simp (disch := omega) only [cnd_bool, on_some_eq, Dr_eq, xNil_ptr, xNil_func, xNil_yield, xPick_bool, unw_nil, xRes_ptr, xUn_not, xUn_neg, xEx_tuple, xBin_add, xBin_sub, xBin_mul, xBin_eql, xBin_neq, xBin_lss, xBin_leq, xBin_gtr, xBin_geq, xBin_eqls, xBin_neqs, wI64, oCell_some, List.getElem?_toArray, List.getElem?_cons_zero, List.getElem?_cons_succ, Nat.zero_add, Bool.not_true, Bool.not_false, if_true, if_false, ite_true, ite_false, beq_iff_eq, bne_iff_ne, decide_eq_true_eq, ne_eq, Bool.false_eq_true, Bool.true_eq_false, reduceIte, Option.some.injEq, Int.toNat_natCast, beq_self_eq_true, bne_self_eq_false, Value.cells, splice, List.setIfInBounds_toArray, List.set_cons_zero, List.set_cons_succ, List.size_toArray, List.length_cons, List.length_nil, and_self, Nat.reduceLeDiff, Nat.reduceAdd, Nat.reduceMul, Int.reduceToNat, Int.reduceLT, Int.reduceLE, Int.reduceGT, Int.reduceGE, Int.reduceAdd, Int.reduceSub, Int.reduceMul, Int.reduceNeg, Int.reduceEq, Int.reduceNe, true_and, and_true, Int.cast_ofNat_Int, Nat.le_refl, hf, ld4, ld5, ld9, ln9, ix9, ld21, ld22, ld120, fa120_2, bd120_0_1, neq4, ow2, ow3, ow4, ow5, ow6, ow8, ow11, ow20, ow23, cv21_22, cv5_22]
        by_cases hn : nn = n
        · rw [if_pos hn]
          have hfind : ((nn, word) :: pairsP nn [] false r).find? (fun y => y.1 == n) = some (nn, word) := by simp [hn]
          refine soStore1 ty9 5 h (fun w h => ?_) rfl (by simp) rfl
          simp only [List.set_cons_zero, List.set_cons_succ, List.setIfInBounds_toArray] at h
          refine soStore1 ty4 4 h (fun w h => ?_) rfl (by simp) rfl
          simp only [List.set_cons_zero, List.set_cons_succ, List.setIfInBounds_toArray] at h
          refine soEnd 2 h rfl ho fun w o ho h => ?_
          simp only [List.set_cons_zero, List.set_cons_succ] at h
          try simp (disch := omega) only [cnd_bool, on_some_eq, Dr_eq, xNil_ptr, xNil_func, xNil_yield, xPick_bool, unw_nil, xRes_ptr, xUn_not, xUn_neg, xEx_tuple, xBin_add, xBin_sub, xBin_mul, xBin_eql, xBin_neq, xBin_lss, xBin_leq, xBin_gtr, xBin_geq, xBin_eqls, xBin_neqs, wI64, oCell_some, List.getElem?_toArray, List.getElem?_cons_zero, List.getElem?_cons_succ, Nat.zero_add, Bool.not_true, Bool.not_false, if_true, if_false, ite_true, ite_false, beq_iff_eq, bne_iff_ne, decide_eq_true_eq, ne_eq, Bool.false_eq_true, Bool.true_eq_false, reduceIte, Option.some.injEq, Int.toNat_natCast, beq_self_eq_true, bne_self_eq_false, Value.cells, splice, List.setIfInBounds_toArray, List.set_cons_zero, List.set_cons_succ, List.size_toArray, List.length_cons, List.length_nil, and_self, Nat.reduceLeDiff, Nat.reduceAdd, Nat.reduceMul, Int.reduceToNat, Int.reduceLT, Int.reduceLE, Int.reduceGT, Int.reduceGE, Int.reduceAdd, Int.reduceSub, Int.reduceMul, Int.reduceNeg, Int.reduceEq, Int.reduceNe, true_and, and_true, Int.cast_ofNat_Int, Nat.le_refl, ld4, ld5, ld9, ln9, ix9, ld21, ld22, ld120, fa120_2, bd120_0_1, neq4, ow2, ow3, ow4, ow5, ow6, ow8, ow11, ow20, ow23, cv21_22, cv5_22]
          exact hB w o _ ho hfind h.drop
        · rw [if_neg hn]
          refine soEnd 2 h rfl ho fun w o ho h => ?_
          simp only [List.set_cons_zero, List.set_cons_succ] at h
          try simp (disch := omega) only [cnd_bool, on_some_eq, Dr_eq, xNil_ptr, xNil_func, xNil_yield, xPick_bool, unw_nil, xRes_ptr, xUn_not, xUn_neg, xEx_tuple, xBin_add, xBin_sub, xBin_mul, xBin_eql, xBin_neq, xBin_lss, xBin_leq, xBin_gtr, xBin_geq, xBin_eqls, xBin_neqs, wI64, oCell_some, List.getElem?_toArray, List.getElem?_cons_zero, List.getElem?_cons_succ, Nat.zero_add, Bool.not_true, Bool.not_false, if_true, if_false, ite_true, ite_false, beq_iff_eq, bne_iff_ne, decide_eq_true_eq, ne_eq, Bool.false_eq_true, Bool.true_eq_false, reduceIte, Option.some.injEq, Int.toNat_natCast, beq_self_eq_true, bne_self_eq_false, Value.cells, splice, List.setIfInBounds_toArray, List.set_cons_zero, List.set_cons_succ, List.size_toArray, List.length_cons, List.length_nil, and_self, Nat.reduceLeDiff, Nat.reduceAdd, Nat.reduceMul, Int.reduceToNat, Int.reduceLT, Int.reduceLE, Int.reduceGT, Int.reduceGE, Int.reduceAdd, Int.reduceSub, Int.reduceMul, Int.reduceNeg, Int.reduceEq, Int.reduceNe, true_and, and_true, Int.cast_ofNat_Int, Nat.le_refl, ld4, ld5, ld9, ln9, ix9, ld21, ld22, ld120, fa120_2, bd120_0_1, neq4, ow2, ow3, ow4, ow5, ow6, ow8, ow11, ow20, ow23, cv21_22, cv5_22]
          have hfind : ((nn, word) :: pairsP nn [] false r).find? (fun y => y.1 == n) = (pairsP nn [] false r).find? (fun y => y.1 == n) := by simp [hn]
          rw [hfind] at hA hB
          exact ih (pos + 1) nn [] false w o hd' hok (by simp at hlen ⊢; omega) hA hB ho h
    · rw [if_pos (by intro he; apply h32; apply UInt8.toNat_inj.1; simpa using Int.ofNat.inj he)]
      simp only [if_neg h32, Bool.and_eq_true, decide_eq_true_eq] at hok
      refine @eConv_rune P w 21 9 .i32 un21 un9 .i32 c hca _ ?_
      rw [xBin_adds _ _ _ _ _ (by simp only [bs_size, List.length_cons, List.length_nil] at hlen ⊢; omega), bs_append]
      try simp (disch := omega) only [cnd_bool, on_some_eq, Dr_eq, xNil_ptr, xNil_func, xNil_yield, xPick_bool, unw_nil, xRes_ptr, xUn_not, xUn_neg, xEx_tuple, xBin_add, xBin_sub, xBin_mul, xBin_eql, xBin_neq, xBin_lss, xBin_leq, xBin_gtr, xBin_geq, xBin_eqls, xBin_neqs, wI64, oCell_some, List.getElem?_toArray, List.getElem?_cons_zero, List.getElem?_cons_succ, Nat.zero_add, Bool.not_true, Bool.not_false, if_true, if_false, ite_true, ite_false, beq_iff_eq, bne_iff_ne, decide_eq_true_eq, ne_eq, Bool.false_eq_true, Bool.true_eq_false, reduceIte, Option.some.injEq, Int.toNat_natCast, beq_self_eq_true, bne_self_eq_false, Value.cells, splice, List.setIfInBounds_toArray, List.set_cons_zero, List.set_cons_succ, List.size_toArray, List.length_cons, List.length_nil, and_self, Nat.reduceLeDiff, Nat.reduceAdd, Nat.reduceMul, Int.reduceToNat, Int.reduceLT, Int.reduceLE, Int.reduceGT, Int.reduceGE, Int.reduceAdd, Int.reduceSub, Int.reduceMul, Int.reduceNeg, Int.reduceEq, Int.reduceNe, true_and, and_true, Int.cast_ofNat_Int, Nat.le_refl, ld4, ld5, ld9, ln9, ix9, ld21, ld22, ld120, fa120_2, bd120_0_1, neq4, ow2, ow3, ow4, ow5, ow6, ow8, ow11, ow20, ow23, cv21_22, cv5_22]
      have e : pairsP nn word nd (c :: r) = pairsP nn (word ++ [c]) nd r := by simp [pairsP, h32]
      rw [e] at hA hB
      exact ih (pos + 1) nn (word ++ [c]) nd w o hd' hok.2 (by simp at hlen ⊢; omega) hA hB ho h
end Go.Proofs.Ytlmcppbpobnfjaa

