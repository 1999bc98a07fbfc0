/-
  Whole rows: what code.whole says is what ref04.Whole says, where the arguments fit their letters.
-/
import Derived.Test.YtlmcppbpobnfjaaTc
namespace Go.Proofs.Ytlmcppbpobnfjaa
open Go Go.Vc
set_option linter.unusedSimpArgs false
set_option linter.unusedVariables false
set_option maxRecDepth 20000

theorem letters_known : forms.all (fun x => match x.2 with | some f => (f.fixed ++ f.rest).all (fun c => decide (kindL (c.toNat : Int) ≠ 0)) | none => true) = true := by decide +kernel
theorem formD_letters (op : Int) : ∀ c ∈ (formD op).fixed ++ (formD op).rest, kindL (c.toNat : Int) ≠ 0 := by
  unfold formD
  rcases look_mem none forms op with h | ⟨p, hp, h⟩
  · have : formOf op = none := h
    rw [this]; simp
  · have h2 := List.all_eq_true.1 letters_known p hp
    have : formOf op = p.2 := h.symm
    rw [this]
    cases hq : p.2 with
    | none => simp
    | some f =>
      rw [hq] at h2
      intro c hc
      have := List.all_eq_true.1 h2 c hc
      simpa using this
theorem kind_letter {op : Int} {k : Nat} (h : letterOf op k ≠ 0) : kindL (letterOf op k) ≠ 0 := by
  have hk := formD_letters op
  unfold letterOf at *
  generalize formD op = f at *
  unfold letterF at *
  split at h
  · rename_i hlt
    have : f.fixed[k]? = some f.fixed[k] := List.getElem?_eq_getElem hlt
    rw [if_pos hlt, this]
    exact hk _ (List.mem_append_left _ (List.getElem_mem hlt))
  · rename_i hlt
    rw [if_neg hlt]
    unfold restL at *
    split at h
    · exact absurd rfl h
    · rename_i hr
      rw [if_neg hr]
      split at h
      · exact absurd rfl h
      · rename_i hm
        rw [if_neg hm]
        have hpos : 0 < f.rest.length := List.length_pos_iff.2 hr
        have hlt2 := Nat.mod_lt (k - f.fixed.length) hpos
        rw [List.getElem?_eq_getElem hlt2]
        exact hk _ (List.mem_append_right _ (List.getElem_mem hlt2))
theorem argsE_zero {op bound : Int} : ∀ (l : List Arg) (k : Nat), argsE op bound k l = 0 → ∀ (j : Nat) (hj : j < l.length), badA (letterOf op (k + j)) l[j] = false
  | [], _, _, j, hj => absurd hj (by simp)
  | a :: l, k, h, j, hj => by
    unfold argsE at h
    have h0 : argE (letterOf op k) a bound = 0 := by
      by_cases h1 : argE (letterOf op k) a bound = 0
      · exact h1
      · rw [if_neg h1] at h; exact absurd h h1
    cases j with
    | zero =>
      simp only [Nat.add_zero, List.getElem_cons_zero]
      cases hb : badA (letterOf op k) a with
      | false => rfl
      | true => unfold argE at h0; rw [hb] at h0; simp at h0
    | succ j =>
      rw [if_pos h0] at h
      have := argsE_zero l (k + 1) h j (by simpa using hj)
      rw [show k + (j + 1) = k + 1 + j by omega]
      simpa using this
theorem badA_parts {c : Int} {a : Arg} (h : badA c a = false) : c ≠ 0 ∧ a.kind = kindL c := by
  unfold badA at h
  simp only [Bool.or_eq_false_iff] at h
  obtain ⟨⟨h1, h2⟩, _⟩ := h
  exact ⟨by simpa using h1, by simpa using h2⟩
theorem wholeE_eq {op bound : Int} {args : List Arg} (hs : (formOf op).isSome = true) (h : argsE op bound 0 args = 0) : wholeE op args = if wholeR (formD op) args.length = true then 0 else 42 := by
  have hb := argsE_zero args 0 h
  have hall : ((args.map (·.kind)).zipIdx.all fun x => x.1 != 0 && kindL (letterF (formD op) x.2) == x.1) = true := by
    rw [List.all_eq_true]
    intro x hx
    obtain ⟨j, hj, he⟩ := List.getElem_of_mem hx
    simp only [List.getElem_zipIdx, List.getElem_map, Nat.zero_add] at he
    have hj' : j < args.length := by simpa using hj
    have hp := badA_parts (hb j hj')
    rw [Nat.zero_add] at hp
    have hk := kind_letter hp.1
    subst he
    simp only [Bool.and_eq_true, bne_iff_ne, beq_iff_eq]
    rw [hp.2]
    exact ⟨hk, rfl⟩
  have hw : wholeN (formD op) args.length = wholeR (formD op) args.length := by
    unfold wholeN wholeR
    by_cases hlt : args.length < (formD op).fixed.length
    · rw [if_pos hlt]
      simp; omega
    · rw [if_neg hlt]
      by_cases hr : (formD op).rest = []
      · rw [if_pos hr]
        have : args.length = (formD op).fixed.length := by
          by_cases hgt : (formD op).fixed.length < args.length
          · have hp := (badA_parts (hb _ hgt)).1
            rw [Nat.zero_add] at hp
            exfalso
            apply hp
            unfold letterOf letterF
            rw [if_neg (by omega)]
            unfold restL
            rw [if_pos hr]
          · omega
        simp [hr, this]
      · rw [if_neg hr]
        have : (formD op).fixed.length ≤ args.length := by omega
        simp [hr, this]
  unfold wholeE fitsK
  rw [hs, hall, List.length_map, hw]
  simp
/-- What ref04.Fault says. -/
def faultE (i : Inst) (bound : Int) : Int :=
  if (formOf i.op).isSome = false then 30
  else if headE (formD i.op).ty i.ty bound 40 ≠ 0 then headE (formD i.op).ty i.ty bound 40
  else if headE (formD i.op).res i.res bound 41 ≠ 0 then headE (formD i.op).res i.res bound 41
  else if argsE i.op bound 0 i.args ≠ 0 then argsE i.op bound 0 i.args
  else if wholeR (formD i.op) i.args.length = false then 42
  else if 65535 < 1 + rawE.roomI i then 25 else 0
theorem fault_raw (i : Inst) (bound : Int) : faultE i bound = rawE i bound := by
  unfold faultE rawE
  by_cases h0 : (formOf i.op).isSome = false
  · rw [if_pos h0, if_pos h0]
  · rw [if_neg h0, if_neg h0]
    by_cases h1 : headE (formD i.op).ty i.ty bound 40 ≠ 0
    · rw [if_pos h1, if_pos h1]
    · rw [if_neg h1, if_neg h1]
      by_cases h2 : headE (formD i.op).res i.res bound 41 ≠ 0
      · rw [if_pos h2, if_pos h2]
      · rw [if_neg h2, if_neg h2]
        by_cases h3 : argsE i.op bound 0 i.args ≠ 0
        · rw [if_pos h3, if_pos h3]
        · rw [if_neg h3, if_neg h3, wholeE_eq (by rwa [Bool.not_eq_false] at h0) (by simpa using h3)]
          cases hw : wholeR (formD i.op) i.args.length with
          | false => rfl
          | true =>
            simp only [Bool.true_eq_false, if_false, if_true, ne_eq, not_true_eq_false]
            by_cases hb : 65535 ≤ rawE.roomI i
            · rw [if_pos (by omega), if_pos hb]
            · rw [if_neg (by omega), if_neg hb]
end Go.Proofs.Ytlmcppbpobnfjaa

