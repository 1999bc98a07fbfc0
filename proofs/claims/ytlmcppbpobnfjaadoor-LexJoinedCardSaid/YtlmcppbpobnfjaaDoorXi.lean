/-
  What is proved: intaglio/intagliolaw06.LexJoined returns true, whatever text it is given; and the text reads as it did.
  Condition: the package variables that the card lists hold what the program's text lays.
-/
import Derived.Test.YtlmcppbpobnfjaaDoorCards
import Derived.Test.YtlmcppbpobnfjaaDoorTie
import Derived.Test.YtlmcppbpobnfjaaDoorXh
import Derived.Test.YtlmcppbpobnfjaaDoorXc
import Derived.Test.YtlmcppbpobnfjaaDoorVw
import Derived.Deep.DeepHandedRow
import Derived.Deep.DeepWitnessRowRef
import Derived.Stop.LaidErr
import Derived.MakeChecks
namespace Go.Proofs.YtlmcppbpobnfjaaDoor
open Go Go.Vc Go.ChangeShapes Go.WideShapes Go.RowKit
open Go.ChangeMaps (open_string shut_string)

namespace lexJoined
theorem own : ownKnob P.godebug = none := by kernel_rfl
theorem laidOut : laidOutB P = true := by kernel_rfl
theorem star : "*" ++ "errors.errorString" = "*errors.errorString" := by decide
theorem row104 : ∀ u, P.typeName? 3 u = some "*errors.errorString" → u = 104 := fun u h =>
  typeName_ptr_named (P := P) (nm := "errors.errorString") (by rw [star]; kernel_rfl) (by kernel_rfl) (by decide) u (by rw [star]; exact h)
theorem errs {W : World} (h : laidMetH P Rows.lexJoinedRow.laid W) : ErrS W := by
  have h : laidMet P Rows.lexJoinedRow.laid W := by
    rw [← Go.MakeChecks.laidMetH_plain P _ W (by kernel_rfl)]; exact h
  have h5 := h.tail.tail.tail.tail
  have hst : P.underlying 106 = some (.struct #[(P.fieldsOf 106)[0]!]) := by kernel_rfl
  obtain ⟨a, s, hv, _⟩ := laid_sentinel (g := renP.g 0) (ti := 62) (tp := 104) (te := 106) (ts := 9) (ms := #[("Error", 65)]) (f := (P.fieldsOf 106)[0]!) h5 (by kernel_rfl) (by kernel_rfl) (by kernel_rfl) row104 (by kernel_rfl) hst (by kernel_rfl) (by kernel_rfl) (by kernel_rfl) (by kernel_rfl) (by kernel_rfl)
  have hc := World.var?_cell lays_renP.m0 hv 0
  have hc : W.cell? ⟨renP.g 0, 0, none⟩ = some (.iface 104 (.pointer (some a))) := by simpa using hc
  refine ⟨_, ?_, hc, .inr ⟨_, _, rfl⟩⟩
  unfold World.cell? at hc
  cases hob : W.heap[renP.g 0]? with
  | none => rw [hob] at hc; cases hc
  | some ob => exact (Array.getElem?_eq_some_iff.1 hob).1
/-- A world for the witness: the settled one, the tables and the two errors laid. -/
abbrev synS : ByteArray := { data := #[105, 110, 118, 97, 108, 105, 100, 32, 115, 121, 110, 116, 97, 120] }
abbrev rngS : ByteArray := { data := #[118, 97, 108, 117, 101, 32, 111, 117, 116, 32, 111, 102, 32, 114, 97, 110, 103, 101] }
noncomputable def low : Nat := (World.holding P default ⟨#[], #[], []⟩).heap.size
def cellsOfData : DataW Unit → Array Value
  | .agg l => (l.map fun
    | .lit (.int k n) => Value.int k n
    | _ => .pointer none).toArray
  | _ => #[]
def putG (h : Array Obj) (g : Nat) (cs : Array Value) : Array Obj := h.modify g fun
  | .cells _ t frozen => .cells cs t frozen
  | o => o
noncomputable def laidWorld (os : Os) : World :=
  let w0 := World.holding P os ⟨#[.cells #[.string synS] 106, .cells #[.string rngS] 106], #[], []⟩
  let h1 := putG w0.heap 1 #[.iface 104 (.pointer (some ⟨low, 0, none⟩))]
  let h2 := putG h1 2 #[.iface 104 (.pointer (some ⟨low + 1, 0, none⟩))]
  let h3 := putG h2 3 (cellsOfData Rows.laid_internal_strconv_uint64pow10)
  let h4 := putG h3 4 (cellsOfData Rows.laid_math_bits_deBruijn32tab)
  let h5 := putG h4 5 (cellsOfData Rows.laid_math_bits_deBruijn64tab)
  { w0 with heap := h5 }
theorem laid_met (os : Os) : laidMet P Rows.lexJoinedRow.laid ((laidWorld os).forCall (fun _ _ => 0) ⟨#[], #[.string ⟨#[]⟩], []⟩).memory :=
  laidMet_of_run' 10 (by kernel_rfl) (by kernel_rfl)
theorem reads (os : Os) {H : Type} (enc : TypeId × Value → H) : ∃ places, DataW.whole enc P ((laidWorld os).forCall (fun _ _ => 0) ⟨#[], #[.string ⟨#[]⟩], []⟩).memory Tryd.f3.params.toList Rows.lexJoinedSpec.vars false #[Value.string ⟨#[]⟩].toList 8 = some ([.lit (.string [])], [], places) :=
  ⟨[], by kernel_rfl⟩
set_option maxRecDepth 100000 in
theorem contract (H : Type) (enc : TypeId × Value → H) (W : World) (base : Nat) (args : Array Value) (ds gs : List (DataW H)) (before : List MemPlace)
    (hval : ∀ (j : Nat) t v, Tryd.f3.params[j]? = some t → args[j]? = some v → Value.okWide Tryd.prog W .any base t v)
    (hW : DataW.Whole enc Tryd.prog Tryd.f3.params.toList Rows.lexJoinedSpec.vars false W args.toList ds gs before) (hL : laidMetH Tryd.prog Rows.lexJoinedRow.laid W) :
    Calls Tryd.prog 3 args W fun e W' => ∃ v, e = .returned v ∧ Rows.lexJoinedSpec.post enc Tryd.prog Tryd.f3 false true false false W args v W' := by
  have hW' := hW
  obtain ⟨p, q, hA, hV, rfl, hfz, hnd⟩ := hW
  have hp : Tryd.f3.params = #[9] := by kernel_rfl
  rw [hp] at hA hval
  obtain ⟨v0, vs0, d0, ds0, p0, q0, hargs, rfl, rfl, h0, r0⟩ := trodAll_cons hA
  obtain ⟨rfl, rfl, rfl⟩ := trodAll_nil r0
  obtain rfl : args = #[v0] := by cases args; simp_all
  obtain ⟨rfl, rfl⟩ := trodVars_none hV
  obtain ⟨s, rfl, rfl, rfl, hs⟩ := open_string un9 (hval 0 9 v0 rfl rfl) h0
  have hE := errs hL
  rw [eta_bs s]
  have hlen : s.data.toList.length ≤ 9223372036854775807 := by
    have e : s.data.toList.length = s.size := rfl
    unfold maxLen at hs
    omega
  refine Cx.mono (c_joined (fun w L h => c_awake hE h) (So.refl W) s.data.toList hlen) fun v W' ⟨hv, hso⟩ => ?_
  subst hv
  rw [← eta_bs s]
  refine law_post laidOut rfl ?_ (tb := 4) (by kernel_rfl) (by kernel_rfl) rfl (fun h => rfl) rfl hW' hso.st.below
  rw [hp]
  intro t ht
  simp at ht
  subst ht
  exact ⟨by kernel_rfl, of_decide_eq_true (by kernel_rfl)⟩
set_option maxRecDepth 100000 in
theorem lifted (os : Os) (started : os.Started) (H : Type) (enc : TypeId × Value → H) (F : Stop.Interp) :
    ReturnsInHanded {} Tryd.checked os 3 .any ((OpenSpec.ofChange Rows.lexJoinedSpec).preRow enc Tryd.prog Tryd.f3 Rows.lexJoinedRow.domain false Rows.lexJoinedRow.laid) (((OpenSpec.ofChange Rows.lexJoinedSpec).at F).post enc Tryd.prog Tryd.f3 false true false false) := by
  obtain ⟨places, hx⟩ := reads os enc
  refine returnsInHanded_of_row (C := Tryd.checked) (s := OpenSpec.ofChange Rows.lexJoinedSpec) own started (by kernel_rfl) Tryd.func3
    (witness_row_at (enc := enc) (C := Tryd.checked) false (laidWorld os) #[.string ⟨#[]⟩] rfl (by kernel_rfl) (by kernel_rfl) (by kernel_rfl)
      (OpenSpec.preRow_of_cond 8 hx (by kernel_rfl) (fun k hk => by cases hk) (by kernel_rfl) (laid_met os))) ?_
  intro W base args ds gs before hval hW _ _ _ hL _ _
  exact contract H enc W base args ds gs before hval hW hL
theorem said : Rows.LexJoinedSaid :=
  OpenClaim.holds_of_cond 3 Tryd.f3 rfl rfl rfl rfl rfl rfl rfl ⟨rfl, rfl, rfl, rfl, rfl⟩ rfl rfl rfl rfl rfl (by kernel_rfl) Tryd.func3 (by kernel_rfl)
    (of_decide_eq_true (by kernel_rfl)) (by unfold Func.isWrapper; first | (rw [if_pos (by decide +kernel)]; kernel_rfl) | (rw [if_neg (by decide +kernel)]; exact ⟨rfl, rfl⟩))
    (fun os started H enc _ F => by rw [OpenClaim.pre_eq_preRow]; exact lifted os started H enc F)
theorem plain (f : FuncId) (fn : Func) (hf : Tryd.pinned.checked.prog.funcNamed "intaglio/intagliolaw06.LexJoined" = some f) (hfn : Tryd.pinned.checked.prog.funcs[f]? = some fn) :
    true = Tryd.pinned.checked.prog.looks [] ∧ ∀ (j : Nat) t, fn.params[j]? = some t → Tryd.pinned.checked.prog.wantsStandIn t = false := by
  obtain rfl : f = 3 := Option.some.inj ((show Tryd.prog.funcNamed "intaglio/intagliolaw06.LexJoined" = some 3 by kernel_rfl).symm.trans hf) |>.symm
  obtain rfl : fn = Tryd.f3 := (Option.some.inj (Tryd.func3.symm.trans hfn)).symm
  refine ⟨by kernel_rfl, fun j t ht => ?_⟩
  have hp : Tryd.f3.params = #[9] := by kernel_rfl
  rw [hp] at ht
  obtain rfl : t = 9 := by simpa using Array.mem_of_getElem? ht
  exact (show Tryd.prog.wantsStandIn 9 = false by kernel_rfl)
theorem card : Rows.LexJoinedCardSaid :=
  Claim7.holds_tied_plain_at .later [] _ _ _ _ said (fun _ h => by cases h) (by kernel_rfl) (fun _ h => by cases h) lexJoined_row_tie rfl ⟨rfl, rfl⟩ (by kernel_rfl) rfl plain (by kernel_rfl)
end lexJoined
end Go.Proofs.YtlmcppbpobnfjaaDoor

