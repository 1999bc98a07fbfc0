/-
  Layout, the plain law: where the cutter stops, and the places of the parts, by the document's definition.
-/
import Derived.Test.YtlmcppbpobnfjaaLg
namespace Go.Proofs.Ytlmcppbpobnfjaa
open Go Go.Vc
set_option linter.unusedSimpArgs false
set_option linter.unusedVariables false
set_option maxRecDepth 20000

/-- The part of the instruction at a place; 9: there is none. -/
def pAt (l : List Inst) (k : Nat) : Int := match l[k]? with
  | some i => partP i
  | none => 9
theorem pAt_lt {l : List Inst} {k : Nat} (h : pAt l k < 9) : k < l.length := by
  unfold pAt at h
  cases hg : l[k]? with
  | none => rw [hg] at h; exact absurd h (by decide)
  | some i => exact (List.getElem?_eq_some_iff.1 hg).1
theorem pAt_range {l : List Inst} {k : Nat} (h : k < l.length) : 0 ≤ pAt l k ∧ pAt l k ≤ 8 := by
  unfold pAt
  rw [List.getElem?_eq_getElem h]
  exact partP_range _
def funcMay (op a : Int) (f : Bool) : Bool :=
  if op = 54 then decide (a = 0 ∨ a = 56)
  else if op = 55 then decide (a = 54 ∨ a = 55)
  else if op = 248 then decide (a = 54 ∨ a = 55 ∨ endsP a = true)
  else if op = 56 then endsP a
  else if a = 0 ∨ a = 54 ∨ a = 55 ∨ a = 56 ∨ endsP a = true then false
  else if op = 245 then decide ((a = 248 ∨ a = 245) ∧ f = false)
  else if op = 59 then decide ((a = 248 ∨ a = 59) ∧ f = true)
  else if a = 246 then decide (op = 249 ∨ op = 250)
  else if a = 247 then decide (op = 250 ∨ op = 251)
  else true
theorem funcMay_t {op a : Int} {f : Bool} {n : Nat} (hn : f.toNat = n) : funcMay op a f = true ↔ (op = 54 ∧ (a = 0 ∨ a = 56)) ∨ (op = 55 ∧ (a = 54 ∨ a = 55)) ∨ (op = 248 ∧ (a = 54 ∨ a = 55 ∨ (249 ≤ a ∧ a ≤ 255))) ∨ (op = 56 ∧ 249 ≤ a ∧ a ≤ 255) ∨
    (op ≠ 54 ∧ op ≠ 55 ∧ op ≠ 248 ∧ op ≠ 56 ∧ a ≠ 0 ∧ a ≠ 54 ∧ a ≠ 55 ∧ a ≠ 56 ∧ ¬ (249 ≤ a ∧ a ≤ 255) ∧ ((op = 245 ∧ (a = 248 ∨ a = 245) ∧ n = 0) ∨ (op = 59 ∧ (a = 248 ∨ a = 59) ∧ n = 1) ∨ (op ≠ 245 ∧ op ≠ 59 ∧ ((a = 246 ∧ (op = 249 ∨ op = 250)) ∨ (a = 247 ∧ (op = 250 ∨ op = 251)) ∨ (a ≠ 246 ∧ a ≠ 247))))) := by
  subst hn
  by_cases h1 : op = 54
  · subst h1; simp [funcMay]
  by_cases h2 : op = 55
  · subst h2; simp [funcMay]
  by_cases h3 : op = 248
  · subst h3; simp [funcMay, endsP]
  by_cases h4 : op = 56
  · subst h4; simp [funcMay, endsP]
  unfold funcMay
  simp only [h1, h2, h3, h4, if_false, false_and, false_or, ne_eq, not_false_eq_true, true_and]
  by_cases g : a = 0 ∨ a = 54 ∨ a = 55 ∨ a = 56 ∨ endsP a = true
  · rw [if_pos g]
    unfold endsP at g
    simp only [decide_eq_true_eq] at g
    constructor
    · intro h; cases h
    · rintro ⟨g1, g2, g3, g4, g5, -⟩
      omega
  rw [if_neg g]
  unfold endsP at g
  simp only [decide_eq_true_eq, not_or] at g
  simp only [g.1, g.2.1, g.2.2.1, g.2.2.2.1, g.2.2.2.2, not_false_eq_true, true_and]
  by_cases h5 : op = 245
  · subst h5; cases f <;> simp
  by_cases h6 : op = 59
  · subst h6; cases f <;> simp
  simp only [h5, h6, if_false, false_and, false_or, not_false_eq_true, true_and]
  by_cases h7 : a = 246
  · subst h7; simp
  by_cases h8 : a = 247
  · subst h8; simp
  simp [h7, h8]
/-- The operation right ahead, in functions. -/
def aheadL (l : List Inst) (k : Nat) : Int := if 0 < k ∧ pAt l (k - 1) = 8 then opAt l (k - 1) else 0
def firstL (l : List Inst) : Nat → Bool
  | 0 => false
  | k + 1 => if opAt l (k + 1) = 248 then decide (opAt l k = 54 ∨ opAt l k = 55) else firstL l k
def modelsL (l : List Inst) : Nat → Nat
  | 0 => 0
  | k + 1 => modelsL l k + if pAt l k = 1 then 1 else 0
def leL (l : List Inst) (p : Int) : Nat → Bool
  | 0 => true
  | k + 1 => leL l p k && decide (pAt l k ≤ p)
theorem leL_iff {l : List Inst} {p : Int} : ∀ {n : Nat}, leL l p n = true ↔ ∀ k, k < n → pAt l k ≤ p
  | 0 => by simp [leL]
  | n + 1 => by
    simp only [leL, Bool.and_eq_true, decide_eq_true_eq, leL_iff (n := n)]
    constructor
    · intro h k hk
      by_cases hn : k = n
      · subst hn; exact h.2
      · exact h.1 k (by omega)
    · intro h
      exact ⟨fun k hk => h k (by omega), h n (by omega)⟩
theorem models_mono {l : List Inst} : ∀ {n m : Nat}, n ≤ m → modelsL l n ≤ modelsL l m := by
  intro n m h
  induction m with
  | zero => rw [Nat.le_zero.1 h]; exact Nat.le_refl _
  | succ m ih =>
    by_cases he : n = m + 1
    · rw [he]; exact Nat.le_refl _
    · have := ih (by omega)
      simp only [modelsL]; omega
def mayL (l : List Inst) (k : Nat) : Bool := leL l (pAt l k) k &&
  (if pAt l k = 1 then decide (modelsL l k = 0) else if 1 < pAt l k ∧ modelsL l k = 0 then false else if pAt l k < 8 then true else funcMay (opAt l k) (aheadL l k) (firstL l (k - 1)))
def GoodL (l : List Inst) (n : Nat) : Prop := ∀ k, k < n → mayL l k = true
theorem GoodL.step {l : List Inst} {n : Nat} (h : GoodL l n) (hm : mayL l n = true) : GoodL l (n + 1) := by
  intro k hk
  by_cases he : k = n
  · subst he; exact hm
  · exact h k (by omega)
/-- Is a module of good instructions open? -/
def openL (l : List Inst) : Prop := modelsL l l.length = 0 ∨ (pAt l (l.length - 1) = 8 ∧ opAt l (l.length - 1) ≠ 56)
/-- What Check says of a module of good shape. -/
def ChkR (l : List Inst) (e : Int) (k : Nat) : Prop := (e = 50 ∧ k < l.length ∧ GoodL l k ∧ mayL l k = false) ∨ (e = 51 ∧ k = l.length ∧ GoodL l l.length ∧ openL l) ∨ (e = 0 ∧ k = 0 ∧ GoodL l l.length ∧ ¬ openL l)
theorem ChkR.unique {l : List Inst} {e e' : Int} {k k' : Nat} (h : ChkR l e k) (h' : ChkR l e' k') : e = e' ∧ k = k' := by
  rcases h with ⟨rfl, h1, h2, h3⟩ | ⟨rfl, rfl, h2, h3⟩ | ⟨rfl, rfl, h2, h3⟩ <;> rcases h' with ⟨rfl, h1', h2', h3'⟩ | ⟨rfl, rfl, h2', h3'⟩ | ⟨rfl, rfl, h2', h3'⟩
  · refine ⟨rfl, ?_⟩
    by_cases hlt : k < k'
    · have := h2' k hlt; rw [h3] at this; cases this
    · by_cases hgt : k' < k
      · have := h2 k' hgt; rw [h3'] at this; cases this
      · omega
  · have := h2' k h1; rw [h3] at this; cases this
  · have := h2' k h1; rw [h3] at this; cases this
  · have := h2 k' h1'; rw [h3'] at this; cases this
  · exact ⟨rfl, rfl⟩
  · exact absurd h3 h3'
  · have := h2 k' h1'; rw [h3'] at this; cases this
  · exact absurd h3' h3
  · exact ⟨rfl, rfl⟩

/-- The kind by part and operation. -/
def kindO (p op : Int) : Int :=
  if ¬ p = 8 then 9 else if op = 54 then 1 else if op = 55 then 2 else if op = 56 then 8 else if op = 248 then 3 else if op = 245 then 4 else if op = 59 then 5 else if op = 246 then 6 else if op = 247 then 6 else if endsP op = true then 7 else 0
theorem kindO_inv (p op : Int) : (kindO p op = 9 ∧ p ≠ 8) ∨ (p = 8 ∧ ((kindO p op = 1 ∧ op = 54) ∨ (kindO p op = 2 ∧ op = 55) ∨ (kindO p op = 8 ∧ op = 56) ∨ (kindO p op = 3 ∧ op = 248) ∨ (kindO p op = 4 ∧ op = 245) ∨ (kindO p op = 5 ∧ op = 59) ∨ (kindO p op = 6 ∧ (op = 246 ∨ op = 247)) ∨ (kindO p op = 7 ∧ 249 ≤ op ∧ op ≤ 255) ∨
    (kindO p op = 0 ∧ op ≠ 54 ∧ op ≠ 55 ∧ op ≠ 56 ∧ op ≠ 248 ∧ op ≠ 245 ∧ op ≠ 59 ∧ op ≠ 246 ∧ op ≠ 247 ∧ ¬ (249 ≤ op ∧ op ≤ 255)))) := by
  by_cases h8 : p = 8
  · subst h8
    refine .inr ⟨rfl, ?_⟩
    unfold kindO
    rw [if_neg (by simp)]
    by_cases h1 : op = 54
    · rw [if_pos h1]; exact .inl ⟨rfl, h1⟩
    rw [if_neg h1]
    by_cases h2 : op = 55
    · rw [if_pos h2]; exact .inr (.inl ⟨rfl, h2⟩)
    rw [if_neg h2]
    by_cases h3 : op = 56
    · rw [if_pos h3]; exact .inr (.inr (.inl ⟨rfl, h3⟩))
    rw [if_neg h3]
    by_cases h4 : op = 248
    · rw [if_pos h4]; exact .inr (.inr (.inr (.inl ⟨rfl, h4⟩)))
    rw [if_neg h4]
    by_cases h5 : op = 245
    · rw [if_pos h5]; exact .inr (.inr (.inr (.inr (.inl ⟨rfl, h5⟩))))
    rw [if_neg h5]
    by_cases h6 : op = 59
    · rw [if_pos h6]; exact .inr (.inr (.inr (.inr (.inr (.inl ⟨rfl, h6⟩)))))
    rw [if_neg h6]
    by_cases h7 : op = 246
    · rw [if_pos h7]; exact .inr (.inr (.inr (.inr (.inr (.inr (.inl ⟨rfl, .inl h7⟩))))))
    rw [if_neg h7]
    by_cases h9 : op = 247
    · rw [if_pos h9]; exact .inr (.inr (.inr (.inr (.inr (.inr (.inl ⟨rfl, .inr h9⟩))))))
    rw [if_neg h9]
    by_cases h10 : endsP op = true
    · rw [if_pos h10]
      unfold endsP at h10
      rw [decide_eq_true_eq] at h10
      exact .inr (.inr (.inr (.inr (.inr (.inr (.inr (.inl ⟨rfl, h10⟩)))))))
    · rw [if_neg h10]
      unfold endsP at h10
      rw [decide_eq_true_eq] at h10
      exact .inr (.inr (.inr (.inr (.inr (.inr (.inr (.inr ⟨rfl, h1, h2, h3, h4, h5, h6, h7, h9, h10⟩)))))))
  · refine .inl ⟨?_, h8⟩
    unfold kindO
    rw [if_pos h8]
theorem kO {p op k : Int} (h : kindO p op = k) (h9 : k ≠ 9) : p = 8 ∧ (k = 1 → op = 54) ∧ (k = 2 → op = 55) ∧ (k = 8 → op = 56) ∧ (k = 3 → op = 248) ∧ (k = 4 → op = 245) ∧ (k = 5 → op = 59) ∧ (k = 6 → op = 246 ∨ op = 247) ∧ (k = 7 → 249 ≤ op ∧ op ≤ 255) ∧
    (k = 0 → op ≠ 54 ∧ op ≠ 55 ∧ op ≠ 56 ∧ op ≠ 248 ∧ op ≠ 245 ∧ op ≠ 59 ∧ op ≠ 246 ∧ op ≠ 247 ∧ ¬ (249 ≤ op ∧ op ≤ 255)) := by
  subst h
  rcases kindO_inv p op with ⟨h, h1⟩ | ⟨h1, ⟨h, h2⟩ | ⟨h, h2⟩ | ⟨h, h2⟩ | ⟨h, h2⟩ | ⟨h, h2⟩ | ⟨h, h2⟩ | ⟨h, h2⟩ | ⟨h, h2⟩ | ⟨h, h2⟩⟩
  · exact absurd h h9
  all_goals
    rw [h]
    refine ⟨h1, fun h => ?_, fun h => ?_, fun h => ?_, fun h => ?_, fun h => ?_, fun h => ?_, fun h => ?_, fun h => ?_, fun h => ?_⟩
    all_goals first | exact h2 | (exfalso; revert h; decide)
theorem next_inv {l : List Inst} {k : Nat} : (nextP l k = -1 ∧ k ≥ l.length ∧ pAt l k = 9) ∨ (k < l.length ∧ nextP l k = kindO (pAt l k) (opAt l k)) := by
  unfold nextP pAt opAt
  by_cases h : k < l.length
  · rw [List.getElem?_eq_getElem h]; exact .inr ⟨h, rfl⟩
  · rw [List.getElem?_eq_none (by omega)]; exact .inl ⟨rfl, by omega, rfl⟩
theorem nk {l : List Inst} {pos : Nat} {k : Int} (h : nextP l pos = k) (h1 : k ≠ -1) : pos < l.length ∧ kindO (pAt l pos) (opAt l pos) = k := by
  rcases next_inv (l := l) (k := pos) with h2 | h2
  · exact absurd (h.symm.trans h2.1) h1
  · exact ⟨h2.1, h2.2.symm.trans h⟩
theorem nk8 {l : List Inst} {pos : Nat} (h : pAt l pos = 8) : nextP l pos = kindO 8 (opAt l pos) := by
  rcases next_inv (l := l) (k := pos) with h2 | h2
  · rw [h2.2.2] at h; exact absurd h (by decide)
  · rw [h2.2, h]
theorem partOf_0 : partOf 0 ≠ 8 := by decide +kernel
theorem op_ne_0 {l : List Inst} {k : Nat} (h : pAt l k = 8) : opAt l k ≠ 0 := by
  have hlt := pAt_lt (l := l) (k := k) (by omega)
  unfold pAt at h
  unfold opAt
  rw [List.getElem?_eq_getElem hlt] at h ⊢
  simp only at h ⊢
  intro h0
  unfold partP at h
  by_cases hv : isVar l[k] = true
  · unfold isVar at hv
    split at hv
    · rw [h0] at hv; simp at hv
    · cases hv
  · rw [if_neg hv, h0] at h
    exact partOf_0 h

/-- What holds ahead of the p-th part. -/
def TopI (l : List Inst) (p pos : Nat) : Prop := pos ≤ l.length ∧ GoodL l pos ∧ (∀ k, k < pos → pAt l k < (p : Int)) ∧ (modelsL l pos = if p ≤ 1 then 0 else 1) ∧ (pos < l.length → pAt l pos < (p : Int) → mayL l pos = false)
theorem partRun_spec {l : List Inst} {p : Nat} : ∀ (n pos : Nat), l.length - pos ≤ n → (∀ k, pos ≤ k → k < pos + partRun l p pos → pAt l k = (p : Int)) ∧ (pos + partRun l p pos < l.length → pAt l (pos + partRun l p pos) ≠ (p : Int)) := by
  intro n
  induction n with
  | zero =>
    intro pos hn
    have hf : isPart l p pos = false := by
      cases hc : isPart l p pos with
      | false => rfl
      | true => have := isPart_lt hc; omega
    rw [partRun_stop hf]
    exact ⟨fun k h1 h2 => by omega, fun h => by omega⟩
  | succ n ih =>
    intro pos hn
    cases hc : isPart l p pos with
    | false =>
      rw [partRun_stop hc]
      refine ⟨fun k h1 h2 => by omega, fun h => ?_⟩
      simp only [Nat.add_zero] at h ⊢
      unfold isPart at hc
      unfold pAt
      rw [List.getElem?_eq_getElem h] at hc ⊢
      simpa using hc
    | true =>
      have hlt := isPart_lt hc
      rw [partRun_step hc]
      obtain ⟨h1, h2⟩ := ih (pos + 1) (by omega)
      refine ⟨fun k hk hk2 => ?_, fun h => ?_⟩
      · by_cases he : k = pos
        · subst he
          unfold isPart at hc
          unfold pAt
          rw [List.getElem?_eq_getElem hlt] at hc ⊢
          simpa using hc
        · exact h1 k (by omega) (by omega)
      · rw [show pos + (partRun l p (pos + 1) + 1) = pos + 1 + partRun l p (pos + 1) by omega] at h ⊢
        exact h2 h
theorem top_run {l : List Inst} {p pos : Nat} (hp8 : p < 8) (hp1 : p ≠ 1) (hG : GoodL l pos) (hlt : ∀ k, k < pos → pAt l k < (p : Int)) (hm : modelsL l pos = if p ≤ 1 then 0 else 1) :
    ∀ n, (∀ k, pos ≤ k → k < pos + n → pAt l k = (p : Int)) → GoodL l (pos + n) ∧ modelsL l (pos + n) = modelsL l pos
  | 0, _ => ⟨hG, rfl⟩
  | n + 1, hr => by
    obtain ⟨h1, h2⟩ := top_run hp8 hp1 hG hlt hm n fun k hk hk2 => hr k hk (by omega)
    have hp := hr (pos + n) (by omega) (by omega)
    refine ⟨h1.step ?_, ?_⟩
    · unfold mayL
      rw [hp, Bool.and_eq_true, leL_iff]
      refine ⟨fun k hk => ?_, ?_⟩
      · by_cases hc : k < pos
        · have := hlt k hc; omega
        · rw [hr k (by omega) (by omega)]; omega
      · rw [if_neg (by omega), if_neg, if_pos (by omega)]
        rw [h2, hm]
        split <;> omega
    · show modelsL l (pos + n + 1) = _
      simp only [modelsL]
      rw [hp, if_neg (by omega), h2]; rfl
theorem isPart_pAt {l : List Inst} {p pos : Nat} (hp : p < 9) : isPart l p pos = decide (pAt l pos = (p : Int)) := by
  unfold isPart pAt
  cases l[pos]? with
  | none => simp; omega
  | some i => simp [BEq.beq, instBEqOfDecidableEq]
theorem may_dup {l : List Inst} {p pos : Nat} (h0 : 0 < pos) (h : pAt l pos < pAt l (pos - 1)) : mayL l pos = false := by
  unfold mayL
  have : leL l (pAt l pos) pos = false := by
    cases hc : leL l (pAt l pos) pos with
    | false => rfl
    | true => have := leL_iff.1 hc (pos - 1) (by omega); omega
  rw [this]; rfl
theorem top_step {l : List Inst} {p pos : Nat} (hp : p < 8) (h : TopI l p pos) (h1 : ¬ (p = 1 ∧ advP l p pos = 0)) : TopI l (p + 1) (pos + advP l p pos) := by
  obtain ⟨hle, hG, hlt, hm, hs⟩ := h
  have hle' := advP_le (p := p) hle
  by_cases hp1 : p = 1
  · subst hp1
    have ha : advP l 1 pos = 1 := by
      unfold advP at h1 ⊢
      simp only [if_true] at h1 ⊢
      split
      · rfl
      · rename_i hc; rw [if_neg hc] at h1; exact absurd ⟨trivial, rfl⟩ h1
    have hip : isPart l 1 pos = true := by
      unfold advP at ha
      simp only [if_true] at ha
      split at ha
      · assumption
      · cases ha
    rw [isPart_pAt (by omega), decide_eq_true_eq] at hip
    have hip : pAt l pos = 1 := hip
    rw [ha] at hle' ⊢
    simp only [Nat.le_refl, if_true] at hm
    refine ⟨hle', hG.step ?_, fun k hk => ?_, ?_, fun hl hq => ?_⟩
    · unfold mayL
      rw [hip, Bool.and_eq_true, leL_iff]
      exact ⟨fun k hk => by have := hlt k hk; omega, by simp [hm]⟩
    · by_cases hc : k = pos
      · subst hc; omega
      · have := hlt k (by omega); omega
    · simp [modelsL, hip, hm]
    · by_cases hq1 : pAt l (pos + 1) = 1
      · unfold mayL
        rw [hq1]
        have : modelsL l (pos + 1) = 1 := by simp [modelsL, hip, hm]
        simp [this]
      · exact may_dup (p := 1) (by omega) (by rw [Nat.add_sub_cancel, hip]; omega)
  · have ha : advP l p pos = partRun l p pos := by unfold advP; rw [if_neg hp1]
    rw [ha] at hle' ⊢
    obtain ⟨hr1, hr2⟩ := partRun_spec (l := l) (p := p) _ pos (Nat.le_refl _)
    obtain ⟨h3, h4⟩ := top_run hp hp1 hG hlt hm _ hr1
    refine ⟨hle', h3, fun k hk => ?_, ?_, fun hl hq => ?_⟩
    · by_cases hc : k < pos
      · have := hlt k hc; omega
      · rw [hr1 k (by omega) hk]; omega
    · rw [h4, hm]
      by_cases h0 : p = 0
      · subst h0; rfl
      · rw [if_neg (by omega), if_neg (by omega)]
    · have hne := hr2 hl
      by_cases hz : partRun l p pos = 0
      · rw [hz] at hl hq hne ⊢
        exact hs hl (by simp only [Nat.add_zero] at hq hne ⊢; omega)
      · refine may_dup (p := p) (by omega) ?_
        rw [hr1 (pos + partRun l p pos - 1) (by omega) (by omega)]
        omega
/-- A place between the parts below p and the others. -/
def PosP (l : List Inst) (p a : Nat) : Prop := a ≤ l.length ∧ (∀ k, k < a → pAt l k < (p : Int)) ∧ (a < l.length → pAt l a < (p : Int) → mayL l a = false)
theorem TopI.posP {l : List Inst} {p pos : Nat} (h : TopI l p pos) : PosP l p pos := ⟨h.1, h.2.2.1, h.2.2.2.2⟩
def SpI (l : List Inst) (sp : List Value) (p : Nat) : Prop := sp.length = 20 ∧ ∀ q, q < p → ∃ a b : Nat, sp[2 * q]? = some (.int .i64 (a : Int)) ∧ sp[2 * q + 1]? = some (.int .i64 (b : Int)) ∧ PosP l q a ∧ PosP l (q + 1) b
theorem SpI.set {l : List Inst} {sp : List Value} {p a b : Nat} (hp : p < 10) (h : SpI l sp p) (ha : PosP l p a) (hb : PosP l (p + 1) b) : SpI l (setSp sp p a b) (p + 1) := by
  obtain ⟨h1, h2⟩ := h
  refine ⟨by rw [setSp_length]; exact h1, fun q hq => ?_⟩
  by_cases he : q = p
  · subst he
    refine ⟨a, b, ?_, ?_, ha, hb⟩
    · unfold setSp
      rw [List.getElem?_set_ne (by omega), List.getElem?_set_self (by omega)]
    · unfold setSp
      rw [List.getElem?_set_self (by simp; omega)]
  · obtain ⟨a', b', h3, h4, h5⟩ := h2 q (by omega)
    refine ⟨a', b', ?_, ?_, h5⟩
    · unfold setSp
      rw [List.getElem?_set_ne (by omega), List.getElem?_set_ne (by omega)]; exact h3
    · unfold setSp
      rw [List.getElem?_set_ne (by omega), List.getElem?_set_ne (by omega)]; exact h4
theorem topP_law {l : List Inst} : ∀ (k p pos : Nat) (sp : List Value), k + p = 8 → TopI l p pos → SpI l sp p →
    if (topP l k p pos sp).1 = true then TopI l 8 (topP l k p pos sp).2.1 ∧ SpI l (topP l k p pos sp).2.2 8
    else (topP l k p pos sp).2.1 ≤ l.length ∧ GoodL l (topP l k p pos sp).2.1 ∧ modelsL l (topP l k p pos sp).2.1 = 0 ∧ ((topP l k p pos sp).2.1 < l.length → mayL l (topP l k p pos sp).2.1 = false)
  | 0, p, pos, sp, hk, ht, hs => by
    have : p = 8 := by omega
    subst this
    simp only [topP, if_true]
    exact ⟨ht, hs⟩
  | k + 1, p, pos, sp, hk, ht, hs => by
    unfold topP
    by_cases h1 : p = 1 ∧ advP l p pos = 0
    · rw [if_pos h1]
      simp only [Bool.false_eq_true, if_false]
      obtain ⟨rfl, ha⟩ := h1
      obtain ⟨h1, h2, h3, h4, h5⟩ := ht
      refine ⟨h1, h2, h4, fun hl => ?_⟩
      have hip : isPart l 1 pos = false := by
        unfold advP at ha
        simp only [if_true] at ha
        split at ha
        · cases ha
        · rename_i hc; exact Bool.eq_false_iff.2 hc
      rw [isPart_pAt (by omega), decide_eq_false_iff_not] at hip
      have hip : ¬ pAt l pos = 1 := hip
      have hr := pAt_range hl
      by_cases h0 : pAt l pos < 1
      · exact h5 hl h0
      · unfold mayL
        rw [if_neg hip, if_pos ⟨by omega, h4⟩]
        simp
    · rw [if_neg h1]
      have hn := top_step (by omega) ht h1
      exact topP_law k (p + 1) _ _ (by omega) hn (hs.set (by omega) ht.posP hn.posP)
theorem TopI.zero (l : List Inst) : TopI l 0 0 := ⟨Nat.zero_le _, fun k hk => by omega, fun k hk => by omega, rfl, fun h hq => by have := pAt_range h; omega⟩

/-- What holds within the functions. -/
def FunI (l : List Inst) (pos : Nat) : Prop := pos ≤ l.length ∧ GoodL l pos ∧ modelsL l pos ≠ 0
theorem FunI.step {l : List Inst} {pos : Nat} (h : FunI l pos) (hl : pos < l.length) (hm : mayL l pos = true) : FunI l (pos + 1) := by
  refine ⟨hl, h.2.1.step hm, ?_⟩
  have h1 : modelsL l pos ≤ modelsL l (pos + 1) := models_mono (Nat.le_succ pos)
  have := h.2.2
  omega
theorem may8 {l : List Inst} {k : Nat} (h8 : pAt l k = 8) (hm : modelsL l k ≠ 0) : mayL l k = funcMay (opAt l k) (aheadL l k) (firstL l (k - 1)) := by
  have hlt := pAt_lt (l := l) (k := k) (by omega)
  unfold mayL
  have : leL l (pAt l k) k = true := leL_iff.2 fun j hj => by have := pAt_range (l := l) (k := j) (by omega); omega
  rw [this, h8, if_neg (by omega), if_neg (by omega), if_neg (by omega)]
  rfl
theorem may_low {l : List Inst} {k : Nat} (h0 : 0 < k) (h8 : pAt l (k - 1) = 8) (h : pAt l k < 8) : mayL l k = false := may_dup (p := 0) h0 (by omega)
theorem ahead_in {l : List Inst} {k : Nat} (h0 : 0 < k) (h8 : pAt l (k - 1) = 8) : aheadL l k = opAt l (k - 1) := by
  unfold aheadL; rw [if_pos ⟨h0, h8⟩]
/-- What must be shown at the end. -/
def ResL (l : List Inst) (r : Bool) (e : Nat) : Prop :=
  if r = true then e = l.length ∧ GoodL l l.length ∧ ¬ openL l
  else e ≤ l.length ∧ GoodL l e ∧ (e < l.length → mayL l e = false) ∧ (e = l.length → openL l)
theorem ResL.stop {l : List Inst} {pos : Nat} (h : FunI l pos) (h0 : 0 < pos) (h8 : pAt l (pos - 1) = 8) (h56 : opAt l (pos - 1) ≠ 56) (hf : pos < l.length → pAt l pos = 8 → funcMay (opAt l pos) (opAt l (pos - 1)) (firstL l (pos - 1)) = false) : ResL l false pos := by
  unfold ResL
  rw [if_neg (by decide)]
  refine ⟨h.1, h.2.1, fun hl => ?_, fun he => ?_⟩
  · by_cases hp : pAt l pos = 8
    · rw [may8 hp h.2.2, ahead_in h0 h8]; exact hf hl hp
    · have := pAt_range hl
      exact may_low h0 h8 (by omega)
  · subst he; exact .inr ⟨h8, h56⟩
/-- What holds within a block. -/
def InB (l : List Inst) (s : Nat) (f : Bool) (pos : Nat) : Prop :=
  FunI l pos ∧ s < pos ∧ opAt l s = 248 ∧ firstL l s = f ∧ (∀ j, s < j → j < pos → opAt l j ≠ 248) ∧ pAt l (pos - 1) = 8
theorem first_back {l : List Inst} {s : Nat} : ∀ m, s ≤ m → (∀ j, s < j → j ≤ m → opAt l j ≠ 248) → firstL l m = firstL l s
  | 0, h, _ => by rw [Nat.le_zero.1 h]
  | m + 1, h, hj => by
    by_cases he : s = m + 1
    · rw [he]
    · rw [← first_back m (by omega) fun j h1 h2 => hj j h1 (by omega)]
      show firstL l (m + 1) = _
      simp only [firstL]
      rw [if_neg (hj (m + 1) (by omega) (Nat.le_refl _))]
theorem InB.first {l : List Inst} {s pos : Nat} {f : Bool} (h : InB l s f pos) : firstL l (pos - 1) = f := by
  obtain ⟨_, h1, _, h3, h4, _⟩ := h
  rw [first_back (s := s) (pos - 1) (by omega) fun j h5 h6 => h4 j h5 (by omega), h3]
theorem InB.step {l : List Inst} {s pos : Nat} {f : Bool} (h : InB l s f pos) (h8 : pAt l pos = 8) (h248 : opAt l pos ≠ 248) (hf : funcMay (opAt l pos) (opAt l (pos - 1)) f = true) : InB l s f (pos + 1) := by
  have hfi := h.first
  obtain ⟨h1, h2, h3, h4, h5, h6⟩ := h
  have hlt := pAt_lt (l := l) (k := pos) (by omega)
  refine ⟨h1.step hlt ?_, by omega, h3, h4, fun j h7 h9 => ?_, by rw [Nat.add_sub_cancel]; exact h8⟩
  · rw [may8 h8 h1.2.2, ahead_in (by omega) h6, hfi]; exact hf
  · by_cases he : j = pos
    · subst he; exact h248
    · exact h5 j h7 (by omega)
theorem runP_spec {l : List Inst} {k : Int} (hk : k ≠ -1) : ∀ (n pos : Nat), l.length - pos ≤ n → (∀ j, pos ≤ j → j < pos + runP l k pos → nextP l j = k) ∧ nextP l (pos + runP l k pos) ≠ k := by
  intro n
  induction n with
  | zero =>
    intro pos hn
    have hne : nextP l pos ≠ k := by
      intro hc
      have := nextP_lt (l := l) (pos := pos) (by rw [hc]; exact hk)
      omega
    rw [runP_stop k hne]
    exact ⟨fun j h1 h2 => by omega, hne⟩
  | succ n ih =>
    intro pos hn
    by_cases hc : nextP l pos = k
    · rw [runP_step k hc hk]
      obtain ⟨h1, h2⟩ := ih (pos + 1) (by omega)
      refine ⟨fun j h3 h4 => ?_, ?_⟩
      · by_cases he : j = pos
        · subst he; exact hc
        · exact h1 j (by omega) (by omega)
      · rw [show pos + (runP l k (pos + 1) + 1) = pos + 1 + runP l k (pos + 1) by omega]; exact h2
    · rw [runP_stop k hc]
      exact ⟨fun j h1 h2 => by omega, hc⟩
/-- What may stand ahead within a block. -/
def innerL (a : Int) : Prop := a ≠ 0 ∧ a ≠ 54 ∧ a ≠ 55 ∧ a ≠ 56 ∧ ¬ (249 ≤ a ∧ a ≤ 255)
theorem may_inner {op a : Int} {f : Bool} (ha : innerL a) (h6 : a ≠ 246) (h7 : a ≠ 247) (ho : op ≠ 54 ∧ op ≠ 55 ∧ op ≠ 248 ∧ op ≠ 56 ∧ op ≠ 245 ∧ op ≠ 59) : funcMay op a f = true := by
  obtain ⟨a1, a2, a3, a4, a5⟩ := ha
  obtain ⟨o1, o2, o3, o4, o5, o6⟩ := ho
  rw [funcMay_t rfl]
  exact .inr (.inr (.inr (.inr ⟨o1, o2, o3, o4, a1, a2, a3, a4, a5, .inr (.inr ⟨o5, o6, .inr (.inr ⟨h6, h7⟩)⟩)⟩)))
theorem inner_may {op a : Int} {f : Bool} (ha : innerL a) (h : funcMay op a f = true) : (op = 245 ∧ (a = 248 ∨ a = 245) ∧ f.toNat = 0) ∨ (op = 59 ∧ (a = 248 ∨ a = 59) ∧ f.toNat = 1) ∨ (op ≠ 54 ∧ op ≠ 55 ∧ op ≠ 248 ∧ op ≠ 56 ∧ op ≠ 245 ∧ op ≠ 59 ∧ ((a = 246 ∧ (op = 249 ∨ op = 250)) ∨ (a = 247 ∧ (op = 250 ∨ op = 251)) ∨ (a ≠ 246 ∧ a ≠ 247))) := by
  obtain ⟨a1, a2, a3, a4, a5⟩ := ha
  rw [funcMay_t rfl] at h
  rcases h with ⟨_, h⟩ | ⟨_, h⟩ | ⟨_, h⟩ | ⟨_, h⟩ | ⟨o1, o2, o3, o4, _, _, _, _, _, h⟩
  · omega
  · omega
  · omega
  · omega
  · rcases h with h | h | ⟨o5, o6, h⟩
    · exact .inl h
    · exact .inr (.inl h)
    · exact .inr (.inr ⟨o1, o2, o3, o4, o5, o6, h⟩)
/-- The rows at a block's head. -/
theorem head_run {l : List Inst} {s : Nat} {f : Bool} {k op : Int} (hk : (f = true ∧ k = 5 ∧ op = 59) ∨ (f = false ∧ k = 4 ∧ op = 245)) {pos : Nat} (h : InB l s f pos) (ho : opAt l (pos - 1) = 248) :
    ∀ n, (∀ j, pos ≤ j → j < pos + n → nextP l j = k) → InB l s f (pos + n) ∧ (opAt l (pos + n - 1) = 248 ∨ opAt l (pos + n - 1) = op)
  | 0, _ => ⟨h, .inl ho⟩
  | n + 1, hr => by
    obtain ⟨h1, h2⟩ := head_run hk h ho n fun j a b => hr j a (by omega)
    have hj := hr (pos + n) (by omega) (by omega)
    have hop : pAt l (pos + n) = 8 ∧ opAt l (pos + n) = op := by
      rcases hk with ⟨_, rfl, rfl⟩ | ⟨_, rfl, rfl⟩
      · have := kO (nk hj (by decide)).2 (by decide)
        exact ⟨this.1, this.2.2.2.2.2.2.1 rfl⟩
      · have := kO (nk hj (by decide)).2 (by decide)
        exact ⟨this.1, this.2.2.2.2.2.1 rfl⟩
    refine ⟨h1.step hop.1 ?_ ?_, .inr (by rw [show pos + (n + 1) - 1 = pos + n by omega]; exact hop.2)⟩
    · rcases hk with ⟨_, _, rfl⟩ | ⟨_, _, rfl⟩ <;> omega
    · rw [hop.2]
      rcases hk with ⟨rfl, _, rfl⟩ | ⟨rfl, _, rfl⟩
      · rw [funcMay_t (n := 1) rfl]
        rcases h2 with h2 | h2 <;> rw [h2] <;> decide
      · rw [funcMay_t (n := 0) rfl]
        rcases h2 with h2 | h2 <;> rw [h2] <;> decide
/-- The rows of a block's body. -/
theorem plain_run {l : List Inst} {s : Nat} {f : Bool} {pos : Nat} (h : InB l s f pos) (ho : opAt l (pos - 1) = 248 ∨ opAt l (pos - 1) = 59 ∨ opAt l (pos - 1) = 245) :
    ∀ n, (∀ j, pos ≤ j → j < pos + n → nextP l j = 0) → InB l s f (pos + n) ∧ (0 < n → kindO 8 (opAt l (pos + n - 1)) = 0)
  | 0, _ => ⟨h, fun h => by omega⟩
  | n + 1, hr => by
    obtain ⟨h1, h2⟩ := plain_run h ho n fun j a b => hr j a (by omega)
    have hj := hr (pos + n) (by omega) (by omega)
    have hk := (nk hj (by decide)).2
    obtain ⟨h8, _, _, _, _, _, _, _, _, h9⟩ := kO hk (by decide)
    have h9 := h9 rfl
    refine ⟨h1.step h8 h9.2.2.2.1 ?_, fun _ => ?_⟩
    · have hin : innerL (opAt l (pos + n - 1)) ∧ opAt l (pos + n - 1) ≠ 246 ∧ opAt l (pos + n - 1) ≠ 247 := by
        unfold innerL
        by_cases hn : n = 0
        · subst hn
          rw [Nat.add_zero]
          omega
        · have hk := (kO (h2 (by omega)) (by decide)).2.2.2.2.2.2.2.2.2 rfl
          have h00 := op_ne_0 h1.2.2.2.2.2
          omega
      exact may_inner hin.1 hin.2.1 hin.2.2 ⟨h9.1, h9.2.1, h9.2.2.2.1, h9.2.2.1, h9.2.2.2.2.1, h9.2.2.2.2.2.1⟩
    · rw [show pos + (n + 1) - 1 = pos + n by omega, ← h8]; exact hk
theorem ends_iff (o : Int) : endsP o = true ↔ (249 ≤ o ∧ o ≤ 255) := by unfold endsP; rw [decide_eq_true_eq]
/-- A block up to its merge or ender. -/
theorem body_law {l : List Inst} {pos : Nat} (h : FunI l pos) (h3 : nextP l pos = 3) (h0 : 0 < pos) (h8 : pAt l (pos - 1) = 8) (first : Bool) (hf : if first = true then opAt l (pos - 1) = 54 ∨ opAt l (pos - 1) = 55 else endsP (opAt l (pos - 1)) = true) :
    InB l pos first (bodyP l first pos) ∧ nextP l (bodyP l first pos) ≠ 0 ∧ innerL (opAt l (bodyP l first pos - 1)) ∧ opAt l (bodyP l first pos - 1) ≠ 246 ∧ opAt l (bodyP l first pos - 1) ≠ 247 ∧
      (pAt l (bodyP l first pos) = 8 → nextP l (bodyP l first pos) ≠ 6 → nextP l (bodyP l first pos) ≠ 7 → funcMay (opAt l (bodyP l first pos)) (opAt l (bodyP l first pos - 1)) first = false) := by
  have hp8 := kO (nk h3 (by decide)).2 (by decide)
  have hop := hp8.2.2.2.2.1 rfl
  have hp8 := hp8.1
  have hlt := (nk h3 (by decide)).1
  have hfirst : firstL l pos = first := by
    obtain ⟨q, rfl⟩ : ∃ q, pos = q + 1 := ⟨pos - 1, by omega⟩
    simp only [firstL]
    rw [if_pos hop]
    rw [Nat.add_sub_cancel] at hf
    cases first with
    | true => rw [if_pos rfl] at hf; rw [decide_eq_true_eq]; exact hf
    | false =>
      rw [if_neg (by decide), ends_iff] at hf
      rw [decide_eq_false_iff_not]; omega
  have hB : InB l pos first (pos + 1) := by
    refine ⟨h.step hlt ?_, by omega, hop, hfirst, fun j a b => by omega, by rw [Nat.add_sub_cancel]; exact hp8⟩
    rw [may8 hp8 h.2.2, ahead_in h0 h8, hop, funcMay_t rfl]
    cases first with
    | true => rw [if_pos rfl] at hf; omega
    | false => rw [if_neg (by decide), ends_iff] at hf; omega
  obtain ⟨k, op, hk, hkd⟩ : ∃ k op : Int, ((first = true ∧ k = 5 ∧ op = 59) ∨ (first = false ∧ k = 4 ∧ op = 245)) ∧ (if first then (5 : Int) else 4) = k := by
    cases first
    · exact ⟨4, 245, .inr ⟨rfl, rfl, rfl⟩, rfl⟩
    · exact ⟨5, 59, .inl ⟨rfl, rfl, rfl⟩, rfl⟩
  have hbody : bodyP l first pos = pos + 1 + runP l k (pos + 1) + runP l 0 (pos + 1 + runP l k (pos + 1)) := by rw [← hkd]; rfl
  have hk1 : k ≠ -1 := by omega
  have hs1 := runP_spec (l := l) (k := k) hk1 _ (pos + 1) (Nat.le_refl _)
  obtain ⟨hB1, ho1⟩ := head_run hk hB (by rw [Nat.add_sub_cancel]; exact hop) _ hs1.1
  have hs1 := hs1.2
  rw [hbody]
  generalize pos + 1 + runP l k (pos + 1) = p1 at *
  have hs2 := runP_spec (l := l) (k := 0) (by decide) _ p1 (Nat.le_refl _)
  obtain ⟨hB2, ho2⟩ := plain_run hB1 (by rcases hk with ⟨_, _, rfl⟩ | ⟨_, _, rfl⟩ <;> omega) _ hs2.1
  have hs2 := hs2.2
  have hq := op_ne_0 hB2.2.2.2.2.2
  have hx : nextP l (p1 + runP l 0 p1) = k → opAt l (p1 + runP l 0 p1 - 1) ≠ 248 ∧ opAt l (p1 + runP l 0 p1 - 1) ≠ 245 ∧ opAt l (p1 + runP l 0 p1 - 1) ≠ 59 := by
    by_cases hz : runP l 0 p1 = 0
    · rw [hz, Nat.add_zero]; intro hc; exact absurd hc hs1
    · have := (kO (ho2 (by omega)) (by decide)).2.2.2.2.2.2.2.2.2 rfl
      intro _; omega
  have hin : innerL (opAt l (p1 + runP l 0 p1 - 1)) ∧ opAt l (p1 + runP l 0 p1 - 1) ≠ 246 ∧ opAt l (p1 + runP l 0 p1 - 1) ≠ 247 := by
    unfold innerL
    by_cases hz : runP l 0 p1 = 0
    · rw [hz, Nat.add_zero]
      rcases hk with ⟨_, _, rfl⟩ | ⟨_, _, rfl⟩ <;> omega
    · have := (kO (ho2 (by omega)) (by decide)).2.2.2.2.2.2.2.2.2 rfl
      omega
  refine ⟨hB2, hs2, hin.1, hin.2.1, hin.2.2, fun hp h6 h7 => ?_⟩
  rw [nk8 hp] at hs2 hx h6 h7
  generalize p1 + runP l 0 p1 = p at *
  cases hc : funcMay (opAt l p) (opAt l (p - 1)) first with
  | false => rfl
  | true =>
    exfalso
    have hm := inner_may hin.1 hc
    rcases kindO_inv 8 (opAt l p) with ⟨_, h1⟩ | ⟨_, ⟨h, h2⟩ | ⟨h, h2⟩ | ⟨h, h2⟩ | ⟨h, h2⟩ | ⟨h, h2⟩ | ⟨h, h2⟩ | ⟨h, h2⟩ | ⟨h, h2⟩ | ⟨h, h2⟩⟩
    · exact h1 rfl
    · omega
    · omega
    · omega
    · omega
    · rcases hk with ⟨rfl, rfl, rfl⟩ | ⟨rfl, rfl, rfl⟩
      · have : true.toNat = 1 := rfl
        omega
      · have := hx h; omega
    · rcases hk with ⟨rfl, rfl, rfl⟩ | ⟨rfl, rfl, rfl⟩
      · have := hx h; omega
      · have : false.toNat = 0 := rfl
        omega
    · exact h6 h
    · exact h7 h
    · exact hs2 h
theorem block_law {l : List Inst} {pos : Nat} (h : FunI l pos) (h3 : nextP l pos = 3) (h0 : 0 < pos) (h8 : pAt l (pos - 1) = 8) (first : Bool) (hf : if first = true then opAt l (pos - 1) = 54 ∨ opAt l (pos - 1) = 55 else endsP (opAt l (pos - 1)) = true) :
    if (blockP l first pos).1 = true then FunI l (blockP l first pos).2 ∧ 0 < (blockP l first pos).2 ∧ pAt l ((blockP l first pos).2 - 1) = 8 ∧ endsP (opAt l ((blockP l first pos).2 - 1)) = true
    else ResL l false (blockP l first pos).2 := by
  obtain ⟨hB2, hn0, hin, ha6, ha7, hstop⟩ := body_law h h3 h0 h8 first hf
  unfold blockP
  simp only
  generalize bodyP l first pos = p at *
  have hBf := hB2.first
  by_cases h6 : nextP l p = 6
  · rw [if_pos h6]
    obtain ⟨k8, _, _, _, _, _, _, k6, _, _⟩ := kO (nk h6 (by decide)).2 (by decide)
    have k6 := k6 rfl
    have hB3 : InB l pos first (p + 1) := hB2.step k8 (by omega) (may_inner hin ha6 ha7 (by omega))
    by_cases h7 : nextP l (p + 1) = 7 ∧ mayP (opAt l p) (opAt l (p + 1)) = true
    · rw [if_pos h7]
      simp only [if_true]
      obtain ⟨j8, _, _, _, _, _, _, _, j7, _⟩ := kO (nk h7.1 (by decide)).2 (by decide)
      have j7 := j7 rfl
      have hm : (opAt l (p + 1) = 251 ∧ opAt l p = 247) ∨ (opAt l (p + 1) = 249 ∧ opAt l p = 246) ∨ opAt l (p + 1) = 250 := by
        have := h7.2
        unfold mayP at this
        split at this
        · simp at this; omega
        · split at this
          · simp at this; omega
          · simp at this; omega
      have hB4 : InB l pos first (p + 1 + 1) := hB3.step j8 (by omega) (by
        rw [funcMay_t rfl, Nat.add_sub_cancel]
        refine .inr (.inr (.inr (.inr ⟨by omega, by omega, by omega, by omega, by omega, by omega, by omega, by omega, by omega, .inr (.inr ⟨by omega, by omega, ?_⟩)⟩)))
        omega)
      refine ⟨hB4.1, by omega, hB4.2.2.2.2.2, ?_⟩
      show endsP (opAt l (p + 2 - 1)) = true
      rw [ends_iff, show p + 2 - 1 = p + 1 by omega]
      exact j7
    · rw [if_neg h7]
      simp only [Bool.false_eq_true, if_false]
      refine ResL.stop hB3.1 (by omega) hB3.2.2.2.2.2 (by rw [Nat.add_sub_cancel]; omega) fun hl hp8 => ?_
      rw [Nat.add_sub_cancel]
      cases hc : funcMay (opAt l (p + 1)) (opAt l p) (firstL l p) with
      | false => rfl
      | true =>
        exfalso
        apply h7
        have hm := inner_may (by unfold innerL; omega) hc
        have hm : (opAt l p = 246 ∧ (opAt l (p + 1) = 249 ∨ opAt l (p + 1) = 250)) ∨ (opAt l p = 247 ∧ (opAt l (p + 1) = 250 ∨ opAt l (p + 1) = 251)) := by
          rcases hm with hm | hm | hm
          · omega
          · omega
          · obtain ⟨_, _, _, _, _, _, hm⟩ := hm; omega
        refine ⟨?_, ?_⟩
        · rw [nk8 hp8]
          rcases hm with ⟨_, hm | hm⟩ | ⟨_, hm | hm⟩ <;> rw [hm] <;> rfl
        · unfold mayP
          rcases hm with ⟨h1, hm | hm⟩ | ⟨h1, hm | hm⟩ <;> rw [hm, h1] <;> rfl
  · rw [if_neg h6]
    by_cases h7 : nextP l p = 7
    · rw [if_pos h7]
      simp only [if_true]
      obtain ⟨j8, _, _, _, _, _, _, _, j7, _⟩ := kO (nk h7 (by decide)).2 (by decide)
      have j7 := j7 rfl
      have hB3 : InB l pos first (p + 1) := hB2.step j8 (by omega) (may_inner hin ha6 ha7 (by omega))
      refine ⟨hB3.1, by omega, hB3.2.2.2.2.2, ?_⟩
      rw [ends_iff, Nat.add_sub_cancel]
      exact j7
    · rw [if_neg h7]
      simp only [Bool.false_eq_true, if_false]
      refine ResL.stop hB2.1 (by have := hB2.2.1; omega) hB2.2.2.2.2.2 hin.2.2.2.1 fun hl hp8 => ?_
      rw [hBf]
      exact hstop hp8 h6 h7
/-- How it stands between two steps of the cutter. -/
def StL (l : List Inst) (o : Option PFun) (pos : Nat) : Prop := FunI l pos ∧ match o with
  | none => ((aheadL l pos = 0 ∧ (pos = 0 ∨ pAt l (pos - 1) ≠ 8)) ∨ (aheadL l pos = 56 ∧ 0 < pos ∧ pAt l (pos - 1) = 8)) ∧ (pos < l.length → pAt l pos < 8 → mayL l pos = false)
  | some f => 0 < pos ∧ pAt l (pos - 1) = 8 ∧ (f.blocks = [] → (opAt l (pos - 1) = 54 ∨ opAt l (pos - 1) = 55) ∧ nextP l pos ≠ 2) ∧ (f.blocks ≠ [] → endsP (opAt l (pos - 1)) = true)
theorem bad_may {op a : Int} {f : Bool} (ha : a = 0 ∨ a = 56) (ho : op ≠ 54) : funcMay op a f = false := by
  cases hc : funcMay op a f with
  | false => rfl
  | true =>
    rw [funcMay_t rfl] at hc
    rcases hc with ⟨h1, h2⟩ | ⟨h1, h2⟩ | ⟨h1, h2⟩ | ⟨h1, h2⟩ | ⟨o1, o2, o3, o4, o5, o6, o7, o8, h⟩ <;> omega
theorem noB_may {op a : Int} {f : Bool} (ha : a = 54 ∨ a = 55) (h1 : op ≠ 55) (h2 : op ≠ 248) : funcMay op a f = false := by
  cases hc : funcMay op a f with
  | false => rfl
  | true =>
    rw [funcMay_t rfl] at hc
    rcases hc with ⟨h1, h2⟩ | ⟨h1, h2⟩ | ⟨h1, h2⟩ | ⟨h1, h2⟩ | ⟨o1, o2, o3, o4, o5, o6, o7, o8, h⟩ <;> omega
theorem noE_may {op a : Int} {f : Bool} (ha : 249 ≤ a ∧ a ≤ 255) (h1 : op ≠ 56) (h2 : op ≠ 248) : funcMay op a f = false := by
  cases hc : funcMay op a f with
  | false => rfl
  | true =>
    rw [funcMay_t rfl] at hc
    rcases hc with ⟨h1, h2⟩ | ⟨h1, h2⟩ | ⟨h1, h2⟩ | ⟨h1, h2⟩ | ⟨o1, o2, o3, o4, o5, o6, o7, o8, o9, h⟩
    · omega
    · omega
    · omega
    · omega
    · exact absurd ha o9
theorem k_op {op : Int} : (kindO 8 op ≠ 1 → op ≠ 54) ∧ (kindO 8 op ≠ 2 → op ≠ 55) ∧ (kindO 8 op ≠ 3 → op ≠ 248) ∧ (kindO 8 op ≠ 8 → op ≠ 56) := by
  refine ⟨fun h h1 => ?_, fun h h1 => ?_, fun h h1 => ?_, fun h h1 => ?_⟩ <;> (rw [h1] at h; exact h rfl)
theorem st_done {l : List Inst} {pos : Nat} (hn : nextP l pos < 0) (hs : StL l none pos) : ResL l true pos := by
  obtain ⟨⟨h1, h2, h3⟩, h4, h5⟩ := hs
  have he : pos = l.length := by
    rcases next_inv (l := l) (k := pos) with h | h
    · omega
    · rcases kindO_inv (pAt l pos) (opAt l pos) with hk | ⟨_, hk⟩ <;> omega
  unfold ResL
  rw [if_pos rfl]
  subst he
  refine ⟨rfl, h2, ?_⟩
  rintro (ho | ⟨ho1, ho2⟩)
  · exact h3 ho
  · rcases h4 with ⟨_, h4 | h4⟩ | ⟨h4, h6, h7⟩
    · rw [h4] at h3; exact h3 rfl
    · exact h4 ho1
    · rw [ahead_in h6 h7] at h4; exact ho2 h4
theorem st_bad {l : List Inst} {pos : Nat} (hn : 0 ≤ nextP l pos) (h1 : nextP l pos ≠ 1) (hs : StL l none pos) : ResL l false pos := by
  obtain ⟨hfi, h4, h5⟩ := hs
  have hlt : pos < l.length := (nk (l := l) (pos := pos) rfl (by omega)).1
  have hr := pAt_range hlt
  unfold ResL
  rw [if_neg (by decide)]
  refine ⟨hfi.1, hfi.2.1, fun hl => ?_, fun he => by omega⟩
  by_cases h8 : pAt l pos = 8
  · rw [may8 h8 hfi.2.2]
    rw [nk8 h8] at h1
    refine bad_may ?_ (k_op.1 h1)
    rcases h4 with h4 | h4
    · exact .inl h4.1
    · exact .inr h4.1
  · exact h5 hl (by omega)
theorem st_func {l : List Inst} {pos : Nat} (h1 : nextP l pos = 1) (hs : StL l none pos) (f : PFun) (hb : f.blocks = []) : StL l (some f) (pos + 1 + runP l 2 (pos + 1)) := by
  obtain ⟨hfi, h4, h5⟩ := hs
  have hk := kO (nk h1 (by decide)).2 (by decide)
  have h8 : pAt l pos = 8 ∧ opAt l pos = 54 := ⟨hk.1, hk.2.1 rfl⟩
  have hlt := (nk h1 (by decide)).1
  have ha : aheadL l pos = 0 ∨ aheadL l pos = 56 := by
    rcases h4 with h4 | h4
    · exact .inl h4.1
    · exact .inr h4.1
  have hF : FunI l (pos + 1) := hfi.step hlt (by rw [may8 h8.1 hfi.2.2, h8.2, funcMay_t rfl]; exact .inl ⟨rfl, ha⟩)
  have hs2 := runP_spec (l := l) (k := 2) (by decide) _ (pos + 1) (Nat.le_refl _)
  have hrun : ∀ n, (∀ j, pos + 1 ≤ j → j < pos + 1 + n → nextP l j = 2) → FunI l (pos + 1 + n) ∧ pAt l (pos + 1 + n - 1) = 8 ∧ (opAt l (pos + 1 + n - 1) = 54 ∨ opAt l (pos + 1 + n - 1) = 55) := by
    intro n
    induction n with
    | zero => intro _; exact ⟨hF, by simpa using h8.1, by simp [h8.2]⟩
    | succ n ih =>
      intro hr
      obtain ⟨h6, h7, h9⟩ := ih fun j a b => hr j a (by omega)
      have hj := hr (pos + 1 + n) (by omega) (by omega)
      have hk := kO (nk hj (by decide)).2 (by decide)
      have h10 : pAt l (pos + 1 + n) = 8 ∧ opAt l (pos + 1 + n) = 55 := ⟨hk.1, hk.2.2.1 rfl⟩
      rw [show pos + 1 + (n + 1) - 1 = pos + 1 + n by omega]
      refine ⟨h6.step (nk hj (by decide)).1 ?_, h10.1, .inr h10.2⟩
      rw [may8 h10.1 h6.2.2, ahead_in (by omega) h7, h10.2, funcMay_t rfl]
      exact .inr (.inl ⟨rfl, h9⟩)
  obtain ⟨h6, h7, h9⟩ := hrun _ hs2.1
  exact ⟨h6, by omega, h7, fun _ => ⟨h9, hs2.2⟩, fun hx => absurd hb hx⟩
theorem st_noB {l : List Inst} {pos : Nat} {f : PFun} (h3 : nextP l pos ≠ 3) (hb : f.blocks = []) (hs : StL l (some f) pos) : ResL l false pos := by
  obtain ⟨hfi, h0, h8, h4, h5⟩ := hs
  obtain ⟨h6, h7⟩ := h4 hb
  refine ResL.stop hfi h0 h8 (by omega) fun hl hp => ?_
  rw [nk8 hp] at h3 h7
  exact noB_may h6 (k_op.2.1 h7) (k_op.2.2.1 h3)
theorem st_noE {l : List Inst} {pos : Nat} {f : PFun} (h3 : nextP l pos ≠ 3) (hb : f.blocks ≠ []) (h9 : nextP l pos ≠ 8) (hs : StL l (some f) pos) : ResL l false pos := by
  obtain ⟨hfi, h0, h8, h4, h5⟩ := hs
  have h6 := (ends_iff _).1 (h5 hb)
  refine ResL.stop hfi h0 h8 (by omega) fun hl hp => ?_
  rw [nk8 hp] at h3 h9
  exact noE_may h6 (k_op.2.2.2 h9) (k_op.2.2.1 h3)
theorem st_fin {l : List Inst} {pos : Nat} {f : PFun} (hb : f.blocks ≠ []) (h9 : nextP l pos = 8) (hs : StL l (some f) pos) : StL l none (pos + 1) := by
  obtain ⟨hfi, h0, h8, h4, h5⟩ := hs
  have hk := kO (nk h9 (by decide)).2 (by decide)
  have h10 : pAt l pos = 8 ∧ opAt l pos = 56 := ⟨hk.1, hk.2.2.2.1 rfl⟩
  have hF : FunI l (pos + 1) := hfi.step (nk h9 (by decide)).1 (by
    rw [may8 h10.1 hfi.2.2, ahead_in h0 h8, h10.2, funcMay_t rfl]
    exact .inr (.inr (.inr (.inl ⟨rfl, (ends_iff _).1 (h5 hb)⟩))))
  exact ⟨hF, .inr ⟨by rw [ahead_in (by omega) (by rw [Nat.add_sub_cancel]; exact h10.1), Nat.add_sub_cancel]; exact h10.2, by omega, by rw [Nat.add_sub_cancel]; exact h10.1⟩,
    fun hl hq => may_low (by omega) (by rw [Nat.add_sub_cancel]; exact h10.1) hq⟩
theorem st_blk {l : List Inst} {pos : Nat} {f : PFun} (h3 : nextP l pos = 3) (hs : StL l (some f) pos) :
    if (blockP l (f.blocks.length == 0) pos).1 = true then FunI l (blockP l (f.blocks.length == 0) pos).2 ∧ 0 < (blockP l (f.blocks.length == 0) pos).2 ∧ pAt l ((blockP l (f.blocks.length == 0) pos).2 - 1) = 8 ∧ endsP (opAt l ((blockP l (f.blocks.length == 0) pos).2 - 1)) = true
    else ResL l false (blockP l (f.blocks.length == 0) pos).2 := by
  obtain ⟨hfi, h0, h8, h4, h5⟩ := hs
  refine block_law hfi h3 h0 h8 (f.blocks.length == 0) ?_
  cases hbs : f.blocks with
  | nil => exact (h4 hbs).1
  | cons a b => exact h5 (by rw [hbs]; exact fun h => by cases h)
theorem cut_law {l : List Inst} {o : Option PFun} {fs : List PFun} {pos : Nat} {r : Bool} {e : Nat} {fs' : List PFun} (hc : CutR l o fs pos r e fs') : StL l o pos → ResL l r e := by
  induction hc with
  | done hn => exact st_done hn
  | bad hn h1 => exact st_bad hn h1
  | func h1 _ ih => exact fun hs => ih (st_func h1 hs _ rfl)
  | blk h3 hb _ ih =>
    intro hs
    have hbl := st_blk h3 hs
    rw [if_pos hb] at hbl
    exact ih ⟨hbl.1, hbl.2.1, hbl.2.2.1, fun hx => by simp at hx, fun _ => hbl.2.2.2⟩
  | blkF h3 hb =>
    intro hs
    have hbl := st_blk h3 hs
    rw [if_neg (by rw [hb]; decide)] at hbl
    exact hbl
  | noB h3 hb => exact st_noB h3 hb
  | noE h3 hb h9 => exact st_noE h3 hb h9
  | fin h3 hb h9 _ ih => exact fun hs => ih (st_fin hb h9 hs)
/-- The count of the instructions of the parts below p. -/
def cntL (l : List Inst) (p : Int) : Nat → Nat
  | 0 => 0
  | k + 1 => cntL l p k + if pAt l k < p then 1 else 0
def ownL (l : List Inst) (p : Int) : Nat → Nat
  | 0 => 0
  | k + 1 => ownL l p k + if pAt l k = p then 1 else 0
theorem cnt_own (l : List Inst) (p : Int) : ∀ n, cntL l p n + ownL l p n = cntL l (p + 1) n
  | 0 => rfl
  | n + 1 => by
    have := cnt_own l p n
    simp only [cntL, ownL]
    by_cases h1 : pAt l n < p
    · rw [if_pos h1, if_neg (by omega), if_pos (by omega)]; omega
    · by_cases h2 : pAt l n = p
      · rw [if_neg h1, if_pos h2, if_pos (by omega)]; omega
      · rw [if_neg h1, if_neg h2, if_neg (by omega)]; omega
theorem PosP.cnt {l : List Inst} {p a : Nat} (h : PosP l p a) (hG : GoodL l l.length) : a = cntL l p l.length := by
  obtain ⟨h1, h2, h3⟩ := h
  have hge : ∀ k, a ≤ k → k < l.length → (p : Int) ≤ pAt l k := by
    intro k hk hl
    have ha : (p : Int) ≤ pAt l a := by
      by_cases hlt : pAt l a < (p : Int)
      · have := h3 (by omega) hlt
        rw [hG a (by omega)] at this; cases this
      · omega
    by_cases he : k = a
    · subst he; exact ha
    · have := hG k hl
      unfold mayL at this
      rw [Bool.and_eq_true, leL_iff] at this
      have := this.1 a (by omega)
      omega
  have : ∀ n, n ≤ l.length → cntL l p n = if n ≤ a then n else a := by
    intro n
    induction n with
    | zero => intro _; simp [cntL]
    | succ n ih =>
      intro hn
      simp only [cntL]
      rw [ih (by omega)]
      by_cases hna : n < a
      · rw [if_pos (by omega), if_pos (h2 n hna), if_pos (by omega)]
      · have := hge n (by omega) (by omega)
        rw [if_neg (by omega : ¬ pAt l n < (p : Int))]
        by_cases he : n ≤ a
        · rw [if_pos he, if_neg (by omega)]; omega
        · rw [if_neg he, if_neg (by omega)]; omega
  rw [this _ (Nat.le_refl _)]
  split <;> omega
theorem PosP.high {l : List Inst} {p : Nat} (h : 9 ≤ p) : PosP l p l.length := ⟨Nat.le_refl _, fun k hk => by have := pAt_range hk; omega, fun h => by omega⟩
end Go.Proofs.Ytlmcppbpobnfjaa

