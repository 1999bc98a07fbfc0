/-
  A structure or an array of integers is equal to itself. No project text.
-/
import Derived.Test.YtlmcppbpobnfjaaTf
namespace Go.Proofs.Ytlmcppbpobnfjaa
open Go Go.Vc
set_option linter.unusedSimpArgs false
set_option linter.unusedVariables false
set_option maxRecDepth 20000

section
variable {P : Program}
theorem pr_isAgg {t : TypeId} {d : TypeDesc} (h : P.underlying t = some d) : pr P (isAgg t) = some (match d with | .struct _ | .array _ _ => true | _ => false) := by
  unfold isAgg
  refine (pr_bind (pr_underlying h)).trans ?_
  cases d <;> rfl
theorem pr_part1 {t : TypeId} {k : IntKind} (h : P.underlying t = some (.int k)) {cs : Array Value} {o : Nat} {v : Value} (hv : cs[o]? = some v) : pr P (part t cs o) = some v := by
  unfold part
  refine (pr_bind (pr_isAgg h)).trans ?_
  simp only [hv]
  rfl
theorem pr_eqInt {d : Nat} {t : TypeId} {k' : IntKind} (h : P.underlying t = some (.int k')) (k : IntKind) (a : Int) : pr P (Op.equalIn (d + 1) t (.int k a) (.int k a)) = some true := by
  unfold Op.equalIn
  refine (pr_bind (pr_underlying h)).trans ?_
  simp [pr]
  rfl
theorem pr_forIn {α β : Type} {init : β} {f : α → β → Sem (ForInStep β)} : ∀ (l : List α), (∀ x ∈ l, pr P (f x init) = some (.yield init)) → pr P (forIn l init f) = some init
  | [], _ => rfl
  | x :: l, h => by
    rw [List.forIn_cons]
    refine (pr_bind (h x (List.mem_cons_self ..))).trans ?_
    exact pr_forIn l fun y hy => h y (List.mem_cons_of_mem _ hy)
theorem pr_eqStruct {d : Nat} {t : TypeId} {fs : Array Field} {xs : Array Value} (ht : P.underlying t = some (.struct fs)) (hp : P.stoodInHeld t = false) (hf : ∀ f ∈ fs.toList, ∃ a, pr P (part f.type xs f.offset) = some a ∧ pr P (Op.equalIn d f.type a a) = some true) :
    pr P (Op.equalIn (d + 1) t (.agg xs) (.agg xs)) = some true := by
  unfold Op.equalIn
  refine (pr_bind (pr_underlying ht)).trans ?_
  refine (pr_bind (s := program) (a := P) rfl).trans ?_
  rw [hp]
  simp only [Bool.false_eq_true, if_false]
  rw [← Array.forIn_toList]
  refine (pr_bind (s := forIn fs.toList _ _) (pr_forIn _ ?_)).trans ?_
  · intro f hfm
    obtain ⟨a, h1, h2⟩ := hf f hfm
    split
    · refine (pr_bind h1).trans ?_
      refine (pr_bind h1).trans ?_
      refine (pr_bind h2).trans ?_
      rfl
    · rfl
  · rfl
theorem pr_eqArray {d n c : Nat} {t e : TypeId} {xs : Array Value} (ht : P.underlying t = some (.array n e)) (hs : (P.info? e).map (·.size) = some c) (hf : ∀ i, i < n → ∃ a, pr P (part e xs (i * c)) = some a ∧ pr P (Op.equalIn d e a a) = some true) :
    pr P (Op.equalIn (d + 1) t (.agg xs) (.agg xs)) = some true := by
  unfold Op.equalIn
  refine (pr_bind (pr_underlying ht)).trans ?_
  refine (pr_bind (pr_sizeOf hs)).trans ?_
  simp only [Std.Legacy.Range.forIn_eq_forIn_range', Std.Legacy.Range.size, Nat.sub_zero, Nat.add_one_sub_one, Nat.div_one, ← List.range_eq_range']
  refine (pr_bind (s := forIn (List.range n) _ _) (pr_forIn _ ?_)).trans ?_
  · intro i hi
    obtain ⟨a, h1, h2⟩ := hf i (List.mem_range.1 hi)
    refine (pr_bind h1).trans ?_
    refine (pr_bind h1).trans ?_
    refine (pr_bind h2).trans ?_
    rfl
  · rfl
end
end Go.Proofs.Ytlmcppbpobnfjaa

