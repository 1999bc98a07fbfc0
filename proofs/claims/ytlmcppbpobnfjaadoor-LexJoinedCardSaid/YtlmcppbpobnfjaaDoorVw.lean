/-
  Arguments read as plain data, and the end of a row whose law returns true and leaves its arguments. No project text.
-/
import Derived.Test.YtlmcppbpobnfjaaDoorVo
import Derived.ProofKit
import Derived.OpenShut
import Derived.Deep.Slices
import Derived.JoinedCond
namespace Go.Proofs.YtlmcppbpobnfjaaDoor
open Go Go.Vc Go.ChangeShapes Go.WideShapes Go.RowKit

section
variable {H : Type} {enc : TypeId × Value → H} {P : Program} {W : World} {base : Nat} {spare : Nat → Bool} {held : Bool}
theorem all_of {α β : Type} {f : α → β} {p : α → Prop} : ∀ (els : List β), (∀ (i : Nat) el, els[i]? = some el → ∃ a, el = f a ∧ p a) → ∃ as : List α, els = as.map f ∧ ∀ a ∈ as, p a
  | [], _ => ⟨[], rfl, by simp⟩
  | el :: els, h => by
    obtain ⟨a, rfl, ha⟩ := h 0 el rfl
    obtain ⟨as, rfl, has⟩ := all_of els fun i el hi => h (i + 1) el (by simpa using hi)
    exact ⟨a :: as, rfl, by
      intro b hb
      rcases List.mem_cons.1 hb with rfl | hb
      · exact ha
      · exact has b hb⟩
/-- A slice of the reading as a slice of the world. -/
theorem open_sl {t e n : Nat} {fuel : Nat} {cs : List Value} {x : DataW H × List MemPlace} (ht : P.underlying t = some (.slice e)) (hc : P.cellsOf e = n) (hn : 0 < n) (h : DataW.trod enc P W base spare held fuel t cs = some x) :
    ∃ (v : Value) (els : List (List Value)), cs = [v] ∧ Sl W n v els ∧ ((els = [] ∧ x.1 = .nil) ∨ ∃ ds rest, x.1 = .slice ds rest ∧ ds.length = els.length ∧ ∀ (i : Nat) el, els[i]? = some el → ∃ k y, DataW.trod enc P W base spare held k e el = some y ∧ y.1 ∈ ds) := by
  rcases Go.Deep.open_slice ht h with ⟨rfl, rfl⟩ | ⟨a, len, cap, m, k, D, Pl, rfl, hb, hl, hm, hmm, rfl, hx⟩
  · exact ⟨_, [], rfl, Sl.nil _ _ _ _, .inl ⟨rfl, rfl⟩⟩
  · have hlm : len ≤ m := by rw [hmm]; split <;> omega
    obtain ⟨g, hg⟩ := Go.Deep.choose_lt (n := len) (p := fun i cs' => W.cells? base (a.add (i * n)) n = some cs' ∧ DataW.trod enc P W base spare held k e cs' = some (D i, Pl i)) (fun i hi => by
      obtain ⟨cs', h1, h2⟩ := hx i (by omega)
      rw [hc] at h1
      exact ⟨cs', h1, h2⟩)
    refine ⟨_, (List.range len).map g, rfl, ?_, .inr ⟨_, _, rfl, by simp, ?_⟩⟩
    · by_cases h0 : len = 0
      · subst h0
        exact .inl ⟨rfl, _, _, rfl⟩
      · right
        obtain ⟨h1, _⟩ := hg 0 (by omega)
        obtain ⟨_, _, hcell⟩ := World.cells?_some h1
        have hc0 := hcell 0 hn
        have hlen0 := (World.cells?_some h1).2.1
        simp only [Nat.zero_mul] at hc0
        have hsome : ∃ v, W.cell? ((a.add 0).add 0) = some v := by
          rw [hc0, List.getElem?_eq_getElem (by omega)]; exact ⟨_, rfl⟩
        obtain ⟨v, hv⟩ := hsome
        have hadd0 : (a.add 0).add 0 = a := by unfold Addr.add; simp
        rw [hadd0] at hv
        unfold World.cell? at hv
        cases hob : W.heap[a.block]? with
        | none => rw [hob] at hv; cases hv
        | some ob =>
          rw [hob] at hv
          cases ob with
          | cells cells tt f =>
            simp only at hv
            cases hsp : a.spot with
            | some q => rw [hsp] at hv; simp at hv
            | none =>
              obtain ⟨gb, go, gs⟩ := a
              simp only at hsp hob
              subst hsp
              refine ⟨gb, go, cap, cells, tt, f, by simp, hob, ?_⟩
              intro i el hi
              have hil : i < len := by have := (List.getElem?_eq_some_iff.1 hi).1; simpa using this
              rw [List.getElem?_map, List.getElem?_range hil] at hi
              simp only [Option.map_some, Option.some.injEq] at hi
              subst hi
              obtain ⟨h1, _⟩ := hg i hil
              obtain ⟨_, hlen, hcell⟩ := World.cells?_some h1
              have hcl : ∀ j, j < n → cells[go + i * n + j]? = (g i)[j]? := by
                intro j hj
                rw [← hcell j hj]
                have ea : (({ block := gb, off := go, spot := none } : Addr).add (i * n)).add j = ⟨gb, go + i * n + j, none⟩ := by
                  rw [Go.Deep.add_add]
                  unfold Addr.add
                  split
                  · rename_i hz; simp at hz ⊢ <;> omega
                  · simp [Nat.add_assoc]
                rw [ea]
                unfold World.cell?
                rw [hob]
                simp
              have hsz : go + i * n + n ≤ cells.size := by
                have hlast := hcl (n - 1) (by omega)
                rw [List.getElem?_eq_getElem (by omega : n - 1 < (g i).length)] at hlast
                have := (Array.getElem?_eq_some_iff.1 hlast).1
                omega
              refine ⟨hlen, hsz, ?_⟩
              apply List.ext_getElem?
              intro j
              by_cases hj : j < n
              · rw [List.getElem?_take_of_lt hj, List.getElem?_drop, Array.getElem?_toList, hcl j hj]
              · rw [List.getElem?_eq_none (by simp; omega), List.getElem?_eq_none (by omega)]
          | _ => simp at hv
    · intro i el hi
      have hil : i < len := by have := (List.getElem?_eq_some_iff.1 hi).1; simpa using this
      rw [List.getElem?_map, List.getElem?_range hil] at hi
      simp only [Option.map_some, Option.some.injEq] at hi
      subst hi
      exact ⟨k, _, (hg i hil).2, List.mem_map.2 ⟨i, List.mem_range.2 hil, rfl⟩⟩
/-- A structure of fields of one cell each, read. -/
theorem open_cells {t : TypeId} {ts : List TypeId} {fuel : Nat} {cs : List Value} {x : DataW H × List MemPlace} (hu : P.underlying t = some (.struct (P.fieldsOf t))) (hl : (P.fieldsOf t).toList.map (fun f => (f.type, f.offset, P.cellsOf f.type)) = ts.zipIdx.map fun q => (q.1, q.2, 1))
    (hc : P.cellsOf t = ts.length) (h : DataW.trod enc P W base spare held fuel t cs = some x) :
    ∃ (ys : List (DataW H × List MemPlace)) (n : Nat), x.1 = .agg (ys.map (·.1)) ∧ cs.length = ts.length ∧ ys.length = ts.length ∧ ∀ (i : Nat) t c, ts[i]? = some t → cs[i]? = some c → ∃ y, ys[i]? = some y ∧ DataW.trod enc P W base spare held n t [c] = some y := by
  obtain ⟨xs, n, _, rfl, hlen, hxl, hf⟩ := DataW.trod_struct hu h
  have hsz : (P.fieldsOf t).size = ts.length := by
    have := congrArg List.length hl
    simpa using this
  refine ⟨xs, n, rfl, by rw [hlen, hc], by rw [hxl, hsz], ?_⟩
  intro i t' c ht hcs
  have hit : i < ts.length := (List.getElem?_eq_some_iff.1 ht).1
  have hfi : (P.fieldsOf t)[i]? = some ((P.fieldsOf t)[i]'(by omega)) := Array.getElem?_eq_getElem _
  have hm : ((P.fieldsOf t).toList.map (fun f => (f.type, f.offset, P.cellsOf f.type)))[i]? = some (t', i, 1) := by
    rw [hl, List.getElem?_map, List.getElem?_zipIdx, ht]
    simp
  rw [List.getElem?_map, Array.getElem?_toList, hfi] at hm
  simp only [Option.map_some, Option.some.injEq, Prod.mk.injEq] at hm
  have := hf i _ hfi
  rw [hm.1, hm.2.1, ← hm.1, hm.2.2] at this
  rw [hm.1] at this
  have hd : (cs.drop i).take 1 = [c] := by
    have hlt : i < cs.length := (List.getElem?_eq_some_iff.1 hcs).1
    rw [List.drop_eq_getElem_cons hlt]
    simp only [List.take_succ_cons, List.take_zero, List.cons.injEq, and_true]
    rw [List.getElem?_eq_getElem hlt] at hcs
    exact Option.some.inj hcs
  rw [hd] at this
  exact ⟨xs[i]'(by omega), List.getElem?_eq_getElem _, this.trans (List.getElem?_eq_getElem _)⟩
theorem trodAll_carry {W W' : World} (hl : laidOutB P = true) (hb : Below W.heap.size W W') : ∀ (ts : List TypeId) (vs : List Value) (ds : List (DataW H)) (ps : List MemPlace), (∀ t ∈ ts, P.readableRec t = true ∧ t < P.types.size) → (∀ x ∈ ps, x.block < W.heap.size) →
    DataW.TrodAll enc P W 0 (fun _ => true) true ts vs ds ps → DataW.TrodAll enc P W' 0 (fun b => decide (b < W.heap.size)) true ts vs ds ps
  | [], [], [], _, _, _, h => h
  | [], [], _ :: _, _, _, _, h => by cases h
  | [], _ :: _, [], _, _, _, h => by cases h
  | [], _ :: _, _ :: _, _, _, _, h => by cases h
  | _ :: _, [], [], _, _, _, h => by cases h
  | _ :: _, [], _ :: _, _, _, _, h => by cases h
  | _ :: _, _ :: _, [], _, _, _, h => by cases h
  | t :: ts, v :: vs, d :: ds, ps, ht, hp, h => by
    obtain ⟨p, q, h1, h2, rfl⟩ := h
    refine ⟨p, q, ?_, ?_, rfl⟩
    · exact Below.trod hl (ht t (List.mem_cons_self ..)).1 (ht t (List.mem_cons_self ..)).2 h1 hb fun x hx => hp x (List.mem_append_left _ hx)
    · exact trodAll_carry hl hb ts vs ds q (fun t h => ht t (List.mem_cons_of_mem _ h)) (fun x hx => hp x (List.mem_append_right _ hx)) h2
/-- What a law leaves that returns true and touches nothing that was there. -/
theorem law_post {f : Func} {s : ChangeSpec} {W' : World} {args : Array Value} {ds gs : List (DataW H)} {before : List MemPlace} (hl : laidOutB P = true) (hvars : s.vars = [])
    (hread : ∀ t ∈ f.params.toList, P.readableRec t = true ∧ t < P.types.size) {tb : TypeId} (hrt : f.resultTypes = #[tb]) (hbool : P.underlying tb = some .bool)
    (hfn : (s.fn H (ds ++ gs)).results = [.lit (.bool true)]) (hfa : gs = [] → (s.fn H (ds ++ gs)).args = ds) (hfv : (s.fn H (ds ++ gs)).vars = [])
    (hW : DataW.Whole enc P f.params.toList s.vars false W args.toList ds gs before) (hb : Below W.heap.size W W') :
    s.post enc P f false true false false W args (.bool true) W' := by
  have hlt := hW.lt
  have hW' := hW
  obtain ⟨p, q, hA, hV, rfl, hfz, hnd⟩ := hW
  have hgs : gs = [] ∧ q = [] := by
    rw [hvars] at hV
    cases gs with
    | nil => exact ⟨rfl, hV⟩
    | cons g gs => cases hV
  refine ⟨ds, gs, p ++ q, [], p, [], hW', ?_, ?_, ?_, Below.frame hb _, fun h => by cases h⟩
  · rw [hfn, hrt]
    exact trodAll_mk1 (shut_bool hbool true)
  · rw [hfa hgs.1]
    exact trodAll_carry hl hb _ _ _ _ hread (fun x hx => hlt x (List.mem_append_left _ hx)) hA
  · rw [hfv, hvars]; rfl
end
end Go.Proofs.YtlmcppbpobnfjaaDoor

