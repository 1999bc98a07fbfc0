/-
  What is proved: intaglio/intagliolaw05.LayoutParts returns true, whatever module it is given, and what it was given reads as it did.
  Condition: what it reads is of bulk at most 1048576.
-/
import Derived.Test.YtlmcppbpobnfjaaRows
import Derived.Test.YtlmcppbpobnfjaaSg
import Derived.Test.YtlmcppbpobnfjaaVw
namespace Go.Proofs.Ytlmcppbpobnfjaa
open Go Go.Vc Go.ChangeShapes Go.WideShapes Go.RowKit

namespace bulks
theorem one_le {H : Type} (d : DataW H) : 1 ≤ Rows.uptoBulk d := by
  cases d with
  | lit l => cases l <;> simp [Rows.uptoBulk]
  | nil => simp [Rows.uptoBulk]
  | ptr d => simp [Rows.uptoBulk]
  | slice elems spare => simp [Rows.uptoBulk]
  | agg parts => simp [Rows.uptoBulk]
  | iface t d => simp [Rows.uptoBulk]
  | map entries => simp [Rows.uptoBulk]
  | held h => simp [Rows.uptoBulk]
theorem part_le {H : Type} {d : DataW H} {l : List (DataW H)} (h : d ∈ l) : Rows.uptoBulk d ≤ Rows.uptoBulkAll l := by
  induction l with
  | nil => cases h
  | cons x r ih =>
    simp only [Rows.uptoBulkAll]
    cases List.mem_cons.1 h with
    | inl e => subst e; omega
    | inr e => have := ih e; omega
theorem length_le {H : Type} (l : List (DataW H)) : l.length ≤ Rows.uptoBulkAll l := by
  induction l with
  | nil => simp [Rows.uptoBulkAll]
  | cons x r ih => have := one_le x; simp only [Rows.uptoBulkAll, List.length_cons]; omega
end bulks

theorem bulk_agg {H : Type} {parts : List (DataW H)} {d : DataW H} (h : d ∈ parts) : Rows.uptoBulk d ≤ Rows.uptoBulk (.agg parts) := by
  have := bulks.part_le h
  simp only [Rows.uptoBulk]; omega
section
variable {H : Type} {enc : TypeId × Value → H} {W : World}
/-- An argument read. -/
theorem read_arg {k : Nat} {el : List Value} {y : DataW H × List MemPlace} (h : DataW.trod enc P W 0 (fun _ => true) true k 75 el = some y) : ∃ a : Arg, el = a.c ∧ a.s.size ≤ Rows.uptoBulk y.1 := by
  obtain ⟨ys, n, hy, hl, hyl, hf⟩ := open_cells (ts := [5, 22, 9]) (by kernel_rfl) (by kernel_rfl) (by kernel_rfl) h
  match el, hl, ys, hyl with
  | [c0, c1, c2], _, [y0, y1, y2], _ =>
    obtain ⟨_, e0, h0⟩ := hf 0 _ _ rfl rfl
    obtain ⟨_, e1, h1⟩ := hf 1 _ _ rfl rfl
    obtain ⟨_, e2, h2⟩ := hf 2 _ _ rfl rfl
    simp only [List.getElem?_cons_zero, List.getElem?_cons_succ, Option.some.injEq] at e0 e1 e2
    subst e0 e1 e2
    obtain ⟨n0, g0, _⟩ := DataW.trod_int (k := .u8) (by kernel_rfl) h0
    obtain ⟨n1, g1, _⟩ := DataW.trod_int (k := .u32) (by kernel_rfl) h1
    obtain ⟨s, g2, d2, _⟩ := DataW.trod_string (by kernel_rfl) h2
    simp only [List.cons.injEq, and_true] at g0 g1 g2
    subst g0 g1 g2
    refine ⟨⟨n0, n1, s⟩, rfl, ?_⟩
    have hb : Rows.uptoBulk y2.1 ≤ Rows.uptoBulk y.1 := by rw [hy]; exact bulk_agg (by simp)
    have hd : Rows.uptoBulk y2.1 = s.data.toList.length + 1 := by rw [d2]; simp [Rows.uptoBulk]
    have : s.data.toList.length = s.size := rfl
    show s.size ≤ _
    omega
/-- An instruction read. -/
theorem read_inst {k : Nat} {el : List Value} {y : DataW H × List MemPlace} (h : DataW.trod enc P W 0 (fun _ => true) true k 53 el = some y) : ∃ i : Inst, el = i.c ∧ ArgsAt W i ∧ i.args.length ≤ Rows.uptoBulk y.1 ∧ ∀ a ∈ i.args, a.s.size ≤ Rows.uptoBulk y.1 := by
  obtain ⟨ys, n, hy, hl, hyl, hf⟩ := open_cells (ts := [50, 22, 22, 51]) (by kernel_rfl) (by kernel_rfl) (by kernel_rfl) h
  match el, hl, ys, hyl with
  | [c0, c1, c2, c3], _, [y0, y1, y2, y3], _ =>
    obtain ⟨_, e0, h0⟩ := hf 0 _ _ rfl rfl
    obtain ⟨_, e1, h1⟩ := hf 1 _ _ rfl rfl
    obtain ⟨_, e2, h2⟩ := hf 2 _ _ rfl rfl
    obtain ⟨_, e3, h3⟩ := hf 3 _ _ rfl rfl
    simp only [List.getElem?_cons_zero, List.getElem?_cons_succ, Option.some.injEq] at e0 e1 e2 e3
    subst e0 e1 e2 e3
    obtain ⟨n0, g0, _⟩ := DataW.trod_int (k := .u16) (by kernel_rfl) h0
    obtain ⟨n1, g1, _⟩ := DataW.trod_int (k := .u32) (by kernel_rfl) h1
    obtain ⟨n2, g2, _⟩ := DataW.trod_int (k := .u32) (by kernel_rfl) h2
    obtain ⟨v, els, g3, hsl, hel⟩ := open_sl (e := 75) (n := 3) (by kernel_rfl) (by kernel_rfl) (by omega) h3
    simp only [List.cons.injEq, and_true] at g0 g1 g2 g3
    subst g0 g1 g2 g3
    have hb : Rows.uptoBulk y3.1 ≤ Rows.uptoBulk y.1 := by rw [hy]; exact bulk_agg (by simp)
    rcases hel with ⟨rfl, _⟩ | ⟨ds, rest, hd, hdl, hel⟩
    · exact ⟨⟨n0, n1, n2, _, []⟩, rfl, hsl, by simp, by simp⟩
    · rw [hd] at hb
      simp only [Rows.uptoBulk] at hb
      obtain ⟨al, rfl, has⟩ := all_of (f := Arg.c) (p := fun a => a.s.size ≤ Rows.uptoBulk y.1) els (fun i el hi => by
        obtain ⟨k, y', hk, hm⟩ := hel i el hi
        obtain ⟨a, rfl, ha⟩ := read_arg hk
        have := bulks.part_le hm
        exact ⟨a, rfl, by omega⟩)
      have := bulks.length_le ds
      exact ⟨⟨n0, n1, n2, _, al⟩, rfl, hsl, by simp at hdl ⊢; omega, has⟩
/-- A module read. -/
theorem read_mod {v : Value} {d : DataW H} {ps : List MemPlace} (hv : ∃ cs, v = .agg cs) (h : DataW.Trod enc P W 0 (fun _ => true) true 25 v d ps) (hb : Rows.uptoBulk d ≤ 1048576) : ∃ m : Modl, v = m.v ∧ InstsAt W m.iv m.insts ∧ m.insts.length ≤ 1048576 ∧ ∀ i ∈ m.insts, SizedI i := by
  obtain ⟨cs, rfl⟩ := hv
  obtain ⟨k, h⟩ := h
  obtain ⟨ys, n, hy, hl, hyl, hf⟩ := open_cells (ts := [22, 22, 23]) (by kernel_rfl) (by kernel_rfl) (by kernel_rfl) h
  obtain ⟨el⟩ := cs
  have hl : el.length = 3 := hl
  have hf : ∀ (i : Nat) t c, [22, 22, 23][i]? = some t → el[i]? = some c → ∃ y, ys[i]? = some y ∧ DataW.trod enc P W 0 (fun _ => true) true n t [c] = some y := hf
  match el, hl, ys, hyl with
  | [c0, c1, c2], _, [y0, y1, y2], _ =>
    obtain ⟨_, e0, h0⟩ := hf 0 _ _ rfl rfl
    obtain ⟨_, e1, h1⟩ := hf 1 _ _ rfl rfl
    obtain ⟨_, e2, h2⟩ := hf 2 _ _ rfl rfl
    simp only [List.getElem?_cons_zero, List.getElem?_cons_succ, Option.some.injEq] at e0 e1 e2
    subst e0 e1 e2
    obtain ⟨n0, g0, _⟩ := DataW.trod_int (k := .u32) (by kernel_rfl) h0
    obtain ⟨n1, g1, _⟩ := DataW.trod_int (k := .u32) (by kernel_rfl) h1
    obtain ⟨v, els, g2, hsl, hel⟩ := open_sl (e := 53) (n := 4) (by kernel_rfl) (by kernel_rfl) (by omega) h2
    simp only [List.cons.injEq, and_true] at g0 g1 g2
    subst g0 g1 g2
    simp only at hy
    have hb2 : Rows.uptoBulk y2.1 ≤ 1048576 := Nat.le_trans (by rw [hy]; exact bulk_agg (by simp)) hb
    rcases hel with ⟨rfl, _⟩ | ⟨ds, rest, hd, hdl, hel⟩
    · exact ⟨⟨n0, n1, _, []⟩, rfl, ⟨hsl, by simp⟩, by simp, by simp⟩
    · rw [hd] at hb2
      simp only [Rows.uptoBulk] at hb2
      obtain ⟨is, rfl, his⟩ := all_of (f := Inst.c) (p := fun i => ArgsAt W i ∧ SizedI i) els (fun i el hi => by
        obtain ⟨k, y', hk, hm⟩ := hel i el hi
        obtain ⟨a, rfl, h1, h2, h3⟩ := read_inst hk
        have := bulks.part_le hm
        exact ⟨a, rfl, h1, by omega, fun x hx => by have := h3 x hx; omega⟩)
      have := bulks.length_le ds
      exact ⟨⟨n0, n1, _, is⟩, rfl, ⟨hsl, fun i hi => (his i hi).1⟩, by simp at hdl ⊢; omega, fun i hi => (his i hi).2⟩
end
namespace layoutParts
theorem own : ownKnob P.godebug = none := by kernel_rfl
theorem laidOut : laidOutB P = true := by kernel_rfl
set_option maxRecDepth 100000 in
theorem contract (H : Type) (enc : TypeId × Value → H) (W : World) (base : Nat) (args : Array Value) (ds gs : List (DataW H)) (before : List MemPlace)
    (hval : ∀ (j : Nat) t v, Try.f3.params[j]? = some t → args[j]? = some v → Value.okWide Try.prog W .any base t v)
    (hW : DataW.Whole enc Try.prog Try.f3.params.toList Rows.layoutPartsSpec.vars false W args.toList ds gs before) (hk : Rows.uptoSmall H (ds ++ gs) = true) :
    Calls Try.prog 3 args W fun e W' => ∃ v, e = .returned v ∧ Rows.layoutPartsSpec.post enc Try.prog Try.f3 false true false false W args v W' := by
  have hk := of_decide_eq_true hk
  have hW' := hW
  obtain ⟨p, q, hA, hV, rfl, hfz, hnd⟩ := hW
  have hp : Try.f3.params = #[25] := by kernel_rfl
  rw [hp] at hA hval
  obtain ⟨v0, vs0, d0, ds0, p0, q0, hargs, rfl, rfl, h0, r0⟩ := trodAll_cons hA
  obtain ⟨rfl, rfl, rfl⟩ := trodAll_nil r0
  obtain rfl : args = #[v0] := by cases args; simp_all
  obtain ⟨rfl, rfl⟩ := trodVars_none hV
  obtain ⟨cs, hcs, _⟩ := okWide_struct (fs := P.fieldsOf 25) (by kernel_rfl) (hval 0 25 v0 rfl rfl)
  obtain ⟨m, rfl, hi, hl, hz⟩ := read_mod ⟨cs, hcs⟩ h0 (by simp only [List.append_nil, Rows.uptoBulkAll] at hk; omega)
  refine Cx.mono (c_law (So.refl W) m hi hz (by omega)) fun v W' ⟨hv, hso⟩ => ?_
  subst hv
  refine law_post laidOut rfl ?_ (tb := 4) (by kernel_rfl) (by kernel_rfl) rfl (fun h => rfl) rfl hW' hso.st.below
  rw [hp]
  intro t ht
  simp at ht
  subst ht
  exact ⟨by kernel_rfl, of_decide_eq_true (by kernel_rfl)⟩
set_option maxRecDepth 100000 in
theorem lifted (os : Os) (started : os.Started) (H : Type) (enc : TypeId × Value → H) (F : Stop.Interp) :
    ReturnsInHanded {} Try.checked os 3 .any ((Rows.OpenSpec.upto Rows.layoutPartsSpec).pre6 enc Try.prog Try.f3 Rows.layoutPartsUptoRow.domain false) (((Rows.OpenSpec.upto Rows.layoutPartsSpec).at F).post enc Try.prog Try.f3 false true false false) := by
  refine returnsInHanded_of_cond (C := Try.checked) (s := Rows.OpenSpec.upto Rows.layoutPartsSpec) (k := Rows.uptoSmall) rfl own started (by kernel_rfl) Try.func3
    (OpenSpec.witness (enc := enc) (C := Try.checked) (s := Rows.OpenSpec.upto Rows.layoutPartsSpec) (k := Rows.uptoSmall) rfl false ⟨#[], #[.agg #[.int .u32 0, .int .u32 0, .slice none 0 0]], []⟩ 8 (by kernel_rfl) (by kernel_rfl) (by kernel_rfl)
      (x := ([.agg [.lit (.int .u32 0), .lit (.int .u32 0), .nil]], [], [])) (by kernel_rfl) rfl (by kernel_rfl)) ?_
  intro W base args ds gs before hval hW _ hk _
  exact contract H enc W base args ds gs before hval hW hk
theorem proved : Rows.LayoutPartsUptoSaid :=
  OpenClaim.holds_of_cond 3 Try.f3 rfl rfl rfl rfl rfl rfl rfl ⟨rfl, rfl, rfl, rfl, rfl⟩ rfl rfl rfl rfl rfl (by kernel_rfl) Try.func3 (by kernel_rfl)
    (of_decide_eq_true (by kernel_rfl)) (by unfold Func.isWrapper; first | (rw [if_pos (by decide +kernel)]; kernel_rfl) | (rw [if_neg (by decide +kernel)]; exact ⟨rfl, rfl⟩))
    (fun os started H enc _ F => lifted os started H enc F)
end layoutParts
end Go.Proofs.Ytlmcppbpobnfjaa

