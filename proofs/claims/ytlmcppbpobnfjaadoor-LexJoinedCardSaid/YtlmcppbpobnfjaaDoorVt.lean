/-
  Steps whose types are known: loads as readings of blocks, stores by place in the memory's list, structs built. Over any program.
-/
import Derived.Test.YtlmcppbpobnfjaaDoorVm
namespace Go.Vc
open Go

/-! ## Where simp may go: never behind a step that is not yet taken -/
@[congr] theorem on_congr' {α : Type} {o o' : Option α} (K : α → Prop) (h : o = o') : on o K = on o' K := by rw [h]
@[congr] theorem cnd_congr' {v v' : Value} (A B : Prop) (h : v = v') : cnd v A B = cnd v' A B := by rw [h]
section
variable (P : Program) (t s : TypeId) (w : World) (K : Value → World → Prop) (K1 : World → Prop)
@[congr] theorem Cx_congr' (f : FuncId) {xs xs' : Array Value} (h : xs = xs') : Cx P f xs w K = Cx P f xs' w K := by rw [h]
@[congr] theorem callV_congr' {f f' : Value} {xs xs' : Array Value} (h : f = f') (h2 : xs = xs') : callV P f xs w K = callV P f' xs' w K := by rw [h, h2]
@[congr] theorem callF_congr' {f f' : Value} {xs xs' : Array Value} (h : f = f') (h2 : xs = xs') : callF P f xs w K = callF P f' xs' w K := by rw [h, h2]
@[congr] theorem eAlloc_congr' {w w' : World} (h : w = w') : eAlloc P t w K = eAlloc P t w' K := by rw [h]
@[congr] theorem eBox_congr' {x x' : Value} (h : x = x') : eBox P t x w K = eBox P t x' w K := by rw [h]
@[congr] theorem eBS_congr' (n : Nat) {x x' : Array (Nat × Value)} (h : x = x') : eBS P t n x w K = eBS P t n x' w K := by rw [h]
@[congr] theorem eStore_congr' {a a' x x' : Value} (ha : a = a') (h : x = x') : eStore P t a x w K1 = eStore P t a' x' w K1 := by rw [ha, h]
@[congr] theorem eMkSl_congr' {a a' x x' : Value} (ha : a = a') (h : x = x') : eMkSl P t a x w K = eMkSl P t a' x' w K := by rw [ha, h]
@[congr] theorem eMapUp_congr' {a a' x x' m m' : Value} (hm : m = m') (ha : a = a') (h : x = x') : eMapUp P t m a x w K1 = eMapUp P t m' a' x' w K1 := by rw [hm, ha, h]
@[congr] theorem eRange_congr' {x x' : Value} (h : x = x') : eRange P t x w K = eRange P t x' w K := by rw [h]
@[congr] theorem eNext_congr' (b : Bool) {x x' : Value} (h : x = x') : eNext P x b w K = eNext P x' b w K := by rw [h]
@[congr] theorem eConv_congr' {x x' : Value} (h : x = x') : eConv P s t x w K = eConv P s t x' w K := by rw [h]
@[congr] theorem eApp_congr' (ts : Array TypeId) {x x' : Array Value} (h : x = x') : eApp P ts x w K = eApp P ts x' w K := by rw [h]
@[congr] theorem eCopy_congr' (ts : Array TypeId) {x x' : Array Value} (h : x = x') : eCopy P ts x w K = eCopy P ts x' w K := by rw [h]
@[congr] theorem eClear_congr' (ts : Array TypeId) {x x' : Array Value} (h : x = x') : eClear P ts x w K = eClear P ts x' w K := by rw [h]
@[congr] theorem eDel_congr' (ts : Array TypeId) {x x' : Array Value} (h : x = x') : eDel P ts x w K = eDel P ts x' w K := by rw [h]
end

/-! ## Readings of blocks -/
def oCell : Option Obj → Nat → Option Value
  | some (.cells c _ _), o => c[o]?
  | _, _ => none
def oRow : Option Obj → Nat → Nat → Option Value
  | some (.cells c _ _), o, n => if o + n ≤ c.size then some (.agg ((c.toList.drop o).take n).toArray) else none
  | _, _, _ => none
theorem oCell_some (c : Array Value) (t : TypeId) (f : Nat × Nat) (o : Nat) : oCell (some (.cells c t f)) o = c[o]? := rfl
theorem oRow_some (c : Array Value) (t : TypeId) (f : Nat × Nat) (o n : Nat) (h : o + n ≤ c.size) : oRow (some (.cells c t f)) o n = some (.agg ((c.toList.drop o).take n).toArray) := if_pos h
theorem oRow_all {c : Array Value} {n : Nat} (h : c.size = n) (t : TypeId) (f : Nat × Nat) : oRow (some (.cells c t f)) 0 n = some (.agg c) := by
  subst h
  have : c.toList.take c.size = c.toList := List.take_of_length_le (by simp)
  simp [oRow, this]
theorem cell_oCell (w : World) (b o : Nat) : w.cell? ⟨b, o, none⟩ = oCell w.heap[b]? o := by
  cases h : w.heap[b]? with
  | none => simp [World.cell?, h, oCell]
  | some x => cases x <;> simp [World.cell?, h, oCell]

section
variable {P : Program} {w : World}
theorem xLoad_1 {t : TypeId} (h : (known P t, isAggT P t) = (true, false)) (b o : Nat) : xLoad P w t (.pointer (some ⟨b, o, none⟩)) = oCell w.heap[b]? o := by
  simp only [Prod.mk.injEq] at h
  rw [xLoad_one h.1 h.2, cell_oCell]
theorem xLoad_n {t n : Nat} (h : (known P t, isAggT P t, P.cellsOf t) = (true, true, n)) {b o : Nat} {v : Value} (hv : oRow w.heap[b]? o n = some v) : xLoad P w t (.pointer (some ⟨b, o, none⟩)) = some v := by
  simp only [Prod.mk.injEq] at h
  cases hb : w.heap[b]? with
  | none => rw [hb] at hv; cases hv
  | some x =>
    cases x <;> rw [hb] at hv <;> try (cases hv; done)
    simp only [oRow] at hv
    split at hv
    · rename_i hs
      simp only [Option.some.injEq] at hv
      rw [← hv]
      exact xLoad_agg h.1 h.2.1 h.2.2 _ (by rw [rdN_of hb _ _ _ (by simpa using hs)]; simp)
    · cases hv
theorem rr_bind_none {α β : Type} {s : Sem α} {f : α → Sem β} (h : rr P w s = none) : rr P w (s.bind f) = none := by
  induction s with
  | pure b => simp [rr] at h
  | program k ih => exact ih _ h
  | load p a k ih =>
    simp only [rr] at h
    show rr P w (Sem.load p a (fun v => (k v).bind f)) = none
    simp only [rr]
    split
    · rename_i v hv; rw [hv] at h; exact ih _ h
    · rfl
  | shape r k ih => exact ih _ h
  | frozen a k ih => exact ih (w.frozen? a) h
  | getObj r k ih =>
    simp only [rr] at h
    show rr P w (Sem.getObj r (fun v => (k v).bind f)) = none
    simp only [rr]
    split
    · rfl
    · rename_i o hno hv
      rw [hv] at h
      split at h
      · rename_i he; simp only [Option.some.injEq] at he; exact absurd he (hno _ _ _)
      · rename_i he; simp only [Option.some.injEq] at he; subst he; exact ih _ h
      · rename_i he; cases he
    · rfl
  | _ => rfl
theorem rr_loadFrom_none {a : Addr} : ∀ {n i : Nat} {acc : Array Value}, rdN w a i n = none → rr P w (loadCellsFrom a i n acc) = none
  | 0, i, acc, h => by simp [rdN] at h
  | n + 1, i, acc, h => by
    show rr P w (Sem.bind (load (a.add i)) _) = _
    cases hc : w.cell? (a.add i) with
    | none => simp [load, Sem.bind, rr, hc]
    | some v =>
      have h1 : rr P w (load (a.add i)) = some v := by simp only [load, rr, hc]
      rw [rr_bind h1]
      refine rr_loadFrom_none ?_
      simp only [rdN, hc] at h
      split at h
      · cases h
      · rename_i h2
        cases h3 : rdN w a (i + 1) n with
        | none => rfl
        | some vs => exact absurd h3 (h2 _ _ rfl)
theorem rdN_blk {b o : Nat} : ∀ {n i : Nat} {vs : List Value}, 0 < n → rdN w ⟨b, o, none⟩ i n = some vs → ∃ c t f, w.heap[b]? = some (.cells c t f) ∧ o + i + n ≤ c.size := by
  intro n
  induction n with
  | zero => intro i vs h; cases h
  | succ n ih =>
    intro i vs _ h
    simp only [rdN] at h
    split at h
    · rename_i v vs' hv hvs
      rw [add_mk, cell_oCell] at hv
      cases hb : w.heap[b]? with
      | none => rw [hb] at hv; cases hv
      | some x =>
        cases x <;> rw [hb] at hv <;> try (cases hv; done)
        rename_i c t f
        refine ⟨c, t, f, rfl, ?_⟩
        have hlt : o + i < c.size := (Array.getElem?_eq_some_iff.1 hv).1
        rcases Nat.eq_zero_or_pos n with rfl | hn
        · omega
        · obtain ⟨c', t', f', h1, h2⟩ := ih hn hvs
          rw [hb] at h1
          simp only [Option.some.injEq, Obj.cells.injEq] at h1
          obtain ⟨rfl, _⟩ := h1
          omega
    · cases h
/-- A load of more than one cell. -/
theorem xLoad_m {t n : Nat} (h : (known P t, isAggT P t, P.cellsOf t) = (true, true, n + 1)) (b o : Nat) : xLoad P w t (.pointer (some ⟨b, o, none⟩)) = oRow w.heap[b]? o (n + 1) := by
  cases hv : oRow w.heap[b]? o (n + 1) with
  | some v => exact xLoad_n h hv
  | none =>
    simp only [Prod.mk.injEq] at h
    have hn : rdN w ⟨b, o, none⟩ 0 (n + 1) = none := by
      cases hr : rdN w ⟨b, o, none⟩ 0 (n + 1) with
      | none => rfl
      | some vs =>
        obtain ⟨c, t, f, h1, h2⟩ := rdN_blk (Nat.succ_pos n) hr
        rw [h1, oRow_some c t f o (n + 1) (by omega)] at hv
        cases hv
    show rr P w (Sem.bind (isAgg t) _) = _
    rw [rr_bind (rr_isAgg h.1), h.2.1]
    show rr P w (Sem.bind (sizeOf t) _) = _
    rw [rr_bind (rr_sizeOf h.1), h.2.2]
    show rr P w (Sem.bind (loadCellsFrom _ 0 (n + 1) #[]) _) = _
    exact rr_bind_none (rr_loadFrom_none hn)
end

/-! ## The list's facts -/
def Facts (w : World) : List (Nat × Obj) → Prop
  | [] => True
  | x :: l => w.heap[x.1]? = some x.2 ∧ Facts w l
theorem facts_of {w : World} : ∀ {L : List (Nat × Obj)}, (∀ x ∈ L, w.heap[x.1]? = some x.2) → Facts w L
  | [], _ => trivial
  | x :: l, h => ⟨h x (List.mem_cons_self ..), facts_of fun y hy => h y (List.mem_cons_of_mem _ hy)⟩
theorem St.facts {w0 w : World} {L : List (Nat × Obj)} (h : St w0 w L) : Facts w L := facts_of h.blk

theorem map_fst_set {L : List (Nat × Obj)} : ∀ {i b : Nat} {o o' : Obj}, L[i]? = some (b, o) → (L.set i (b, o')).map (·.1) = L.map (·.1) := by
  induction L with
  | nil => intro i b o o' h; simp at h
  | cons x l ih =>
    intro i b o o' h
    cases i with
    | zero => simp only [List.getElem?_cons_zero, Option.some.injEq] at h; subst h; rfl
    | succ i => simp only [List.getElem?_cons_succ] at h; simp only [List.set_cons_succ, List.map_cons, ih h]

theorem nodup_inj : ∀ {l : List Nat} {i j : Nat}, l.Nodup → ∀ (hi : i < l.length) (hj : j < l.length), l[i] = l[j] → i = j
  | [], i, j, _, hi, _, _ => by simp at hi
  | x :: l, 0, 0, _, _, _, _ => rfl
  | x :: l, 0, j + 1, hn, _, hj, he => by
    simp only [List.nodup_cons] at hn
    simp only [List.getElem_cons_zero, List.getElem_cons_succ] at he
    exact absurd (he ▸ List.getElem_mem _) hn.1
  | x :: l, i + 1, 0, hn, hi, _, he => by
    simp only [List.nodup_cons] at hn
    simp only [List.getElem_cons_zero, List.getElem_cons_succ] at he
    exact absurd (he ▸ List.getElem_mem _) hn.1
  | x :: l, i + 1, j + 1, hn, hi, hj, he => by
    simp only [List.nodup_cons] at hn
    simp only [List.getElem_cons_succ] at he
    exact congrArg (· + 1) (nodup_inj hn.2 _ _ he)
theorem St.putI {w0 w w' : World} {L : List (Nat × Obj)} (i : Nat) {b : Nat} {o o' : Obj} (hi : L[i]? = some (b, o)) (h : St w0 w L) (hos : w'.os = w.os) (htp : w'.tape = w.tape) (hou : w'.output = w.output) (hsz : w'.heap.size = w.heap.size)
    (hb : w'.heap[b]? = some o') (hne : ∀ k, k ≠ b → w'.heap[k]? = w.heap[k]?) : St w0 w' (L.set i (b, o')) := by
  have hm := map_fst_set (o' := o') hi
  refine ⟨hos.trans h.os, htp.trans h.tape, hou.trans h.output, by rw [hsz]; exact h.size, by rw [hm]; exact h.nodup, ?_, ?_⟩
  · intro x hx
    obtain ⟨j, hj⟩ := List.getElem?_of_mem hx
    rw [List.getElem?_set] at hj
    by_cases hij : i = j
    · rw [if_pos hij] at hj
      split at hj
      · simp only [Option.some.injEq] at hj; subst hj; exact hb
      · cases hj
    · rw [if_neg hij] at hj
      have hne' : x.1 ≠ b := by
        intro he
        have h1 : (L.map (·.1))[i]? = some b := by simp [hi]
        have h2 : (L.map (·.1))[j]? = some b := by simp [hj, he]
        obtain ⟨hi1, hi2⟩ := List.getElem?_eq_some_iff.1 h1
        obtain ⟨hj1, hj2⟩ := List.getElem?_eq_some_iff.1 h2
        exact hij (nodup_inj h.nodup hi1 hj1 (hi2.trans hj2.symm))
      rw [hne _ hne']
      exact h.blk x (List.mem_of_getElem? hj)
  · intro k hk hn
    rw [hm] at hn
    have : k ≠ b := fun he => hn (he ▸ (List.mem_map.2 ⟨_, List.mem_of_getElem? hi, rfl⟩))
    rw [hne k this]
    exact h.old k hk hn

section
variable {P : Program} {w0 w : World} {L : List (Nat × Obj)}
/-- A store of one cell into the i-th block of the list. -/
theorem sStore1 {t b o : Nat} (hk : (known P t, isAggT P t, P.cellsOf t) = (true, false, 1)) {c : Array Value} {tb : TypeId} {v : Value} {K : World → Prop} (i : Nat) (h : St w0 w L) (k : ∀ w', St w0 w' (L.set i (b, cl (c.setIfInBounds o v) tb)) → K w') (hi : L[i]? = some (b, cl c tb)) (hs : o < c.size) (h1 : one1 v = true) : eStore P t (.pointer (some ⟨b, o, none⟩)) v w K := by
  simp only [Prod.mk.injEq] at hk
  have hb := h.blk _ (List.mem_of_getElem? hi)
  have hv : v.cells = #[v] := by cases v <;> simp [one1] at h1 <;> rfl
  rw [eStore_eq hk.1 hk.2.2 (by rw [hv]; rfl) (by rw [hv]; exact okN_blk hb (by simp; omega) (by simpa using h1))]
  obtain ⟨p1, p2, p3, p4, p5, p6⟩ := wrN_blk (vs := v.cells.toList) (o := o) (i := 0) hb
  have p1' : (wrN w ⟨b, o, none⟩ 0 v.cells.toList).heap[b]? = some (cl (c.setIfInBounds o v) tb) := by rw [p1, hv]; simp [splice]
  exact k _ (h.putI i hi p4 p5 p6 p3 p1' p2)
/-- A store of an aggregate into the i-th block. -/
theorem sStoreN {t b o n : Nat} (hk : (known P t, isAggT P t, P.cellsOf t) = (true, true, n)) {c x : Array Value} {tb : TypeId} {K : World → Prop} (i : Nat) (h : St w0 w L) (k : ∀ w', St w0 w' (L.set i (b, cl (splice c o x.toList) tb)) → K w') (hi : L[i]? = some (b, cl c tb)) (hx : x.size = n) (hs : o + n ≤ c.size) (h1 : x.toList.all one1 = true) : eStore P t (.pointer (some ⟨b, o, none⟩)) (.agg x) w K := by
  simp only [Prod.mk.injEq] at hk
  have hb := h.blk _ (List.mem_of_getElem? hi)
  rw [eStore_eq (v := .agg x) hk.1 hk.2.2 hx (okN_blk hb (by simpa [Value.cells, hx] using hs) (fun u hu => List.all_eq_true.1 h1 u hu))]
  obtain ⟨p1, p2, p3, p4, p5, p6⟩ := wrN_blk (vs := (Value.agg x).cells.toList) (o := o) (i := 0) hb
  exact k _ (h.putI i hi p4 p5 p6 p3 p1 p2)
/-- A store that fills a block. -/
theorem sStoreA {t b n : Nat} (hk : (known P t, isAggT P t, P.cellsOf t) = (true, true, n)) {c x : Array Value} {tb : TypeId} {K : World → Prop} (i : Nat) (h : St w0 w L) (k : ∀ w', St w0 w' (L.set i (b, cl x tb)) → K w') (hi : L[i]? = some (b, cl c tb)) (hx : x.size = n) (hs : c.size = n) (h1 : x.toList.all one1 = true) : eStore P t (.pointer (some ⟨b, 0, none⟩)) (.agg x) w K := by
  refine sStoreN (n := n) hk i h ?_ hi hx (by omega) h1
  have : splice c 0 x.toList = x := by
    have gen : ∀ (l : List Value) (o : Nat) (c : Array Value), c.size = o + l.length → splice c o l = (c.toList.take o ++ l).toArray := by
      intro l
      induction l with
      | nil =>
        intro o c hc
        simp only [splice, List.append_nil, List.length_nil, Nat.add_zero] at hc ⊢
        rw [List.take_of_length_le (by simp [hc])]
      | cons v l ih =>
        intro o c hc
        simp only [List.length_cons] at hc
        rw [splice, ih _ _ (by simp; omega)]
        congr 1
        apply List.ext_getElem?
        intro j
        simp only [Array.toList_setIfInBounds, List.getElem?_append, List.length_take, List.length_set, Array.length_toList, List.getElem?_take, List.getElem?_set]
        rcases Nat.lt_trichotomy j o with h1 | h1 | h1
        · simp [show j < o + 1 by omega, show j < min (o + 1) c.size by omega, show j < min o c.size by omega, h1, show ¬ o = j by omega]
        · subst h1
          simp [show j < min (j + 1) c.size by omega, show ¬ j < min j c.size by omega, show j < c.size by omega, Nat.min_eq_left (show j ≤ c.size by omega)]
        · rw [if_neg (by omega), if_neg (by omega), Nat.min_eq_left (by omega), Nat.min_eq_left (by omega), show j - o = (j - (o + 1)) + 1 by omega, List.getElem?_cons_succ]
    rw [gen _ _ _ (by simp [hs, hx])]
    simp
  rw [this]
  exact k
theorem sAlloc' {t : TypeId} {c : Array Value} {K : Value → World → Prop} (hr : (P.info? t).map (fun i => i.zero.map Value.cells) = some (some c)) (h : St w0 w L) (k : ∀ b w', w0.heap.size ≤ b → St w0 w' ((b, cl c t) :: L) → K (.pointer (some ⟨b, 0, none⟩)) w') : eAlloc P t w K := by
  cases hi : P.info? t with
  | none => rw [hi] at hr; cases hr
  | some i =>
    rw [hi] at hr
    simp only [Option.map_some, Option.some.injEq] at hr
    cases hz : i.zero with
    | none => rw [hz] at hr; cases hr
    | some z =>
      rw [hz] at hr
      simp only [Option.map_some, Option.some.injEq] at hr
      rw [eAlloc_eq hi hz, hr]
      exact k _ _ h.size (h.alloc _)
end

/-! ## Slices, by their types' facts -/
def slE (P : Program) (t : TypeId) : Option (TypeId × Nat) :=
  match P.underlying t with
  | some (.slice e) => (P.info? e).map fun i => (e, i.size)
  | _ => none
theorem slE_parts {P : Program} {t e n : Nat} (h : slE P t = some (e, n)) : P.underlying t = some (.slice e) ∧ (P.info? e).map (·.size) = some n := by
  unfold slE at h
  split at h
  · rename_i e' he
    cases hi : P.info? e' with
    | none => rw [hi] at h; cases h
    | some i =>
      rw [hi] at h
      simp only [Option.map_some, Option.some.injEq, Prod.mk.injEq] at h
      obtain ⟨rfl, rfl⟩ := h
      exact ⟨he, by rw [hi]; rfl⟩
  · cases h
section
variable {P : Program} {w : World}
theorem xIA_s {t e n : Nat} (ht : slE P t = some (e, n)) (b o l c : Nat) (k : IntKind) (i : Int) (h0 : 0 ≤ i) (h1 : i < l) : xIA P t (.slice (some ⟨b, o, none⟩) l c) (.int k i) = some (.pointer (some ⟨b, o + i.toNat * n, none⟩)) := by
  obtain ⟨h2, h3⟩ := slE_parts ht
  rw [xIA_slice h2 h3 _ _ _ _ _ h0 h1, add_mk]
theorem xLen_s {t e n : Nat} (ht : slE P t = some (e, n)) (a : Option Addr) (l c : Nat) : xLen P w #[t] #[.slice a l c] = some (.int .i64 l) := xLen_slice (slE_parts ht).1 a l c
def arE (P : Program) (t : TypeId) : Option (Nat × Nat) :=
  match P.underlying t with
  | some (.array m e) => (P.info? e).map fun i => (m, i.size)
  | _ => none
theorem xIA_a {t m n : Nat} (ht : arE P t = some (m, n)) (b o : Nat) (k : IntKind) (i : Int) (h0 : 0 ≤ i) (h1 : i < m) : xIA P t (.pointer (some ⟨b, o, none⟩)) (.int k i) = some (.pointer (some ⟨b, o + i.toNat * n, none⟩)) := by
  unfold arE at ht
  split at ht
  · rename_i m' e he
    cases hi : P.info? e with
    | none => rw [hi] at ht; cases ht
    | some x =>
      rw [hi] at ht
      simp only [Option.map_some, Option.some.injEq, Prod.mk.injEq] at ht
      obtain ⟨rfl, rfl⟩ := ht
      rw [xIA_ptr he (n := x.size) (by rw [hi]; rfl) _ _ _ h0 h1, add_mk]
  · cases ht
end

/-! ## Structs and arrays built -/
/-- The parts' cells laid in. -/
def lay (pl : List (Nat × Nat)) (c : Array Value) : List (Nat × Value) → Option (Array Value)
  | [] => some c
  | (i, v) :: r => match pl[i]? with
    | some (o, n) => if v.cells.size = n ∧ o + n ≤ c.size then lay pl (splice c o v.cells.toList) r else none
    | none => none
theorem foldl_splice : ∀ (l : List Value) (k o : Nat) (c : Array Value), (l.zipIdx k).foldl (fun a (x : Value × Nat) => a.setIfInBounds (o + x.2) x.1) c = splice c (o + k) l
  | [], _, _, _ => rfl
  | v :: l, k, o, c => by
    simp only [List.zipIdx_cons, List.foldl_cons, splice]
    exact foldl_splice l (k + 1) o _
theorem fill_lay (pl : List (Nat × Nat)) : ∀ (ps : List (Nat × Value)) (c : Array Value), Instr.fill (pl[·]?) c ps = lay pl c ps
  | [], _ => rfl
  | (i, v) :: r, c => by
    simp only [Instr.fill, lay]
    cases pl[i]? with
    | none => rfl
    | some x =>
      obtain ⟨o, n⟩ := x
      simp only
      rw [← Array.foldl_toList, Array.toList_zipIdx, foldl_splice, fill_lay pl r, Nat.add_zero]
      by_cases hn : v.cells.size = n
      · by_cases ho : o + n ≤ c.size
        · rw [if_neg (by simp [hn]; omega), if_pos ⟨hn, ho⟩]
        · rw [if_pos (by simp [hn]; omega), if_neg (fun h => ho h.2)]
      · rw [if_pos (by simp [hn]), if_neg (fun h => hn h.1)]
/-- A struct's zero and where its fields lie. -/
def bld (P : Program) (t : TypeId) : Option (Array Value × List (Nat × Nat)) :=
  match P.underlying t, (P.info? t).bind (·.zero) with
  | some (.struct fs), some z => if fs.toList.all (fun f => (P.info? f.type).isSome) then some (z.cells, fs.toList.map fun f => (f.offset, P.cellsOf f.type)) else none
  | _, _ => none
theorem pr_places {P : Program} : ∀ {fs : List Field} {acc : List (Nat × Nat)}, fs.all (fun f => (P.info? f.type).isSome) = true → pr P (List.mapM.loop (fun f : Field => (do pure (f.offset, ← sizeOf f.type) : Sem (Nat × Nat))) fs acc) = some (acc.reverse ++ fs.map fun f => (f.offset, P.cellsOf f.type))
  | [], acc, _ => by simp [List.mapM.loop, pr, pure]
  | f :: fs, acc, h => by
    simp only [List.all_cons, Bool.and_eq_true] at h
    unfold List.mapM.loop
    show pr P (Sem.bind (Sem.bind (sizeOf f.type) fun n => Sem.pure (f.offset, n)) _) = _
    cases hi : P.info? f.type with
    | none => rw [hi] at h; simp at h
    | some i =>
      have h1 : pr P (Sem.bind (sizeOf f.type) fun n => Sem.pure (f.offset, n)) = some (f.offset, P.cellsOf f.type) := by
        rw [pr_bind (pr_sizeOf (n := i.size) (by rw [hi]; rfl))]
        simp only [pr, Program.cellsOf, hi]; rfl
      rw [pr_bind h1, pr_places h.2]
      simp
theorem xBuild_b {P : Program} {t : TypeId} {z : Array Value} {pl : List (Nat × Nat)} (h : bld P t = some (z, pl)) (ps : Array (Nat × Value)) : xBuild P t ps = (lay pl z ps.toList).map .agg := by
  unfold bld at h
  split at h
  · rename_i fs z' hu hz'
    split at h
    · rename_i hall
      simp only [Option.some.injEq, Prod.mk.injEq] at h
      obtain ⟨rfl, rfl⟩ := h
      cases hi : P.info? t with
      | none => rw [hi] at hz'; cases hz'
      | some i =>
        rw [hi] at hz'
        have hzv : pr P (zeroValue t) = some z' := by
          show pr P (Sem.bind (Sem.bind program fun p => match p.info? t with | some i => Sem.pure i | none => stuck "no such type") _) = _
          show pr P (Sem.bind (match P.info? t with | some i => Sem.pure i | none => stuck "no such type") _) = _
          rw [hi]
          show pr P (match i.zero with | some z => Sem.pure z | none => _) = _
          have : i.zero = some z' := hz'
          rw [this]; rfl
        unfold xBuild Instr.build
        show pr P (Sem.bind (zeroValue t) _) = _
        rw [pr_bind hzv]
        show pr P (Sem.bind (underlying t) _) = _
        rw [pr_bind (pr_underlying hu)]
        have hp : pr P (fs.mapM fun f : Field => (do pure (f.offset, ← sizeOf f.type) : Sem (Nat × Nat))) = some (fs.toList.map fun f => (f.offset, P.cellsOf f.type)).toArray := by
          rw [Array.mapM_eq_mapM_toList]
          show pr P (Sem.bind (List.mapM _ fs.toList) fun l => Sem.pure l.toArray) = _
          have h2 : pr P (List.mapM (fun f : Field => (do pure (f.offset, ← sizeOf f.type) : Sem (Nat × Nat))) fs.toList) = some (fs.toList.map fun f => (f.offset, P.cellsOf f.type)) := by
            unfold List.mapM
            rw [pr_places hall]; rfl
          rw [pr_bind h2]
          rfl
        show pr P (Sem.bind (fs.mapM _) _) = _
        rw [pr_bind hp]
        have : (fun i : Nat => (fs.toList.map fun f => (f.offset, P.cellsOf f.type)).toArray[i]?) = fun i => (fs.toList.map fun f => (f.offset, P.cellsOf f.type))[i]? := by
          funext i; simp
        simp only [this, fill_lay]
        cases lay (List.map (fun f => (f.offset, P.cellsOf f.type)) fs.toList) z'.cells ps.toList <;> rfl
    · cases h
  · cases h

/-! ## Numbers -/
theorem wI64 {n : Int} (h0 : -9223372036854775808 ≤ n) (h1 : n ≤ 9223372036854775807) : IntKind.wrap .i64 n = n := by
  simp [IntKind.wrap, IntKind.bits, IntKind.signed]; omega
theorem wU64 {n : Int} (h0 : 0 ≤ n) (h1 : n < 18446744073709551616) : IntKind.wrap .u64 n = n := by
  simp [IntKind.wrap, IntKind.bits, IntKind.signed]; omega
theorem wU32 {n : Int} (h0 : 0 ≤ n) (h1 : n < 4294967296) : IntKind.wrap .u32 n = n := by
  simp [IntKind.wrap, IntKind.bits, IntKind.signed]; omega
theorem wI32 {n : Int} (h0 : -2147483648 ≤ n) (h1 : n < 2147483648) : IntKind.wrap .i32 n = n := by
  simp [IntKind.wrap, IntKind.bits, IntKind.signed]; omega
theorem wU16 {n : Int} (h0 : 0 ≤ n) (h1 : n < 65536) : IntKind.wrap .u16 n = n := by
  simp [IntKind.wrap, IntKind.bits, IntKind.signed]; omega
theorem wU8 {n : Int} (h0 : 0 ≤ n) (h1 : n < 256) : IntKind.wrap .u8 n = n := by
  simp [IntKind.wrap, IntKind.bits, IntKind.signed]; omega
end Go.Vc
