/-
  Memory: what has become of a world (St), blocks, slices that read as lists. Over any program.
-/
import Derived.Test.YtlmcppbpobnfjaaDoorVl
import Derived.Maps.AppendAt
import Derived.Laws.MakeOwn
namespace Go.Vc
open Go

@[simp] theorem add_mk (b o n : Nat) : (⟨b, o, none⟩ : Addr).add n = ⟨b, o + n, none⟩ := by
  unfold Addr.add; split <;> simp_all

/-- w0 has become w: the blocks of L hold what L says; of what there was nothing else has turned. -/
structure St (w0 w : World) (L : List (Nat × Obj)) : Prop where
  os : w.os = w0.os
  tape : w.tape = w0.tape
  output : w.output = w0.output
  size : w0.heap.size ≤ w.heap.size
  nodup : (L.map (·.1)).Nodup
  blk : ∀ x ∈ L, w.heap[x.1]? = some x.2
  old : ∀ b, b < w0.heap.size → b ∉ L.map (·.1) → w.heap[b]? = w0.heap[b]?

theorem St.refl (w : World) : St w w [] := ⟨rfl, rfl, rfl, Nat.le_refl _, by simp, by simp, fun _ _ _ => rfl⟩
theorem St.drew {w0 w : World} {L : List (Nat × Obj)} (h : St w0 w L) : St w0 w.drew L := ⟨h.os, h.tape, h.output, h.size, h.nodup, h.blk, h.old⟩
theorem St.lt {w0 w : World} {L : List (Nat × Obj)} (h : St w0 w L) {x : Nat × Obj} (hx : x ∈ L) : x.1 < w.heap.size := (Array.getElem?_eq_some_iff.1 (h.blk x hx)).1
theorem St.below {w0 w : World} (h : St w0 w []) : Go.RowKit.Below w0.heap.size w0 w := ⟨h.os, h.tape, h.output, h.size, fun b hb => h.old b hb (by simp)⟩
theorem St.of_below {w0 w : World} (h : Go.RowKit.Below w0.heap.size w0 w) : St w0 w [] := ⟨h.os, h.tape, h.output, h.size, by simp, by simp, fun b hb _ => h.block b hb⟩

theorem heap_alloc_lt {w : World} {o : Obj} {b : Nat} (h : b < w.heap.size) : (w.alloc o).heap[b]? = w.heap[b]? := by
  show (w.heap.push o)[b]? = _
  rw [Array.getElem?_push, if_neg (by omega)]
theorem heap_alloc_eq (w : World) (o : Obj) : (w.alloc o).heap[w.heap.size]? = some o := by
  show (w.heap.push o)[_]? = _
  simp
theorem size_alloc (w : World) (o : Obj) : (w.alloc o).heap.size = w.heap.size + 1 := by show (w.heap.push o).size = _; simp

theorem St.alloc {w0 w : World} {L : List (Nat × Obj)} (h : St w0 w L) (o : Obj) : St w0 (w.alloc o) ((w.heap.size, o) :: L) := by
  refine ⟨h.os, h.tape, h.output, by rw [size_alloc]; exact Nat.le_succ_of_le h.size, ?_, ?_, ?_⟩
  · simp only [List.map_cons, List.nodup_cons]
    refine ⟨fun hm => ?_, h.nodup⟩
    obtain ⟨x, hx, he⟩ := List.mem_map.1 hm
    have := h.lt hx
    omega
  · intro x hx
    rcases List.mem_cons.1 hx with rfl | hx
    · exact heap_alloc_eq w o
    · rw [heap_alloc_lt (h.lt hx)]; exact h.blk x hx
  · intro b hb hn
    simp only [List.map_cons, List.mem_cons, not_or] at hn
    rw [heap_alloc_lt (by have := h.size; omega)]
    exact h.old b hb hn.2

/-- A block is changed as a whole. -/
theorem St.put {w0 w w' : World} {b : Nat} {o o' : Obj} {L : List (Nat × Obj)} (h : St w0 w ((b, o) :: L)) (hos : w'.os = w.os) (htp : w'.tape = w.tape) (hou : w'.output = w.output) (hsz : w'.heap.size = w.heap.size)
    (hb : w'.heap[b]? = some o') (hne : ∀ k, k ≠ b → w'.heap[k]? = w.heap[k]?) : St w0 w' ((b, o') :: L) := by
  refine ⟨hos.trans h.os, htp.trans h.tape, hou.trans h.output, by rw [hsz]; exact h.size, h.nodup, ?_, ?_⟩
  · intro x hx
    rcases List.mem_cons.1 hx with rfl | hx
    · exact hb
    · have hnd := h.nodup
      simp only [List.map_cons, List.nodup_cons] at hnd
      have : x.1 ≠ b := fun he => hnd.1 (he ▸ List.mem_map_of_mem hx)
      rw [hne _ this]
      exact h.blk x (List.mem_cons_of_mem _ hx)
  · intro k hk hn
    simp only [List.map_cons, List.mem_cons, not_or] at hn
    rw [hne k hn.1]
    exact h.old k hk (by simpa using hn)

theorem St.perm {w0 w : World} {L M : List (Nat × Obj)} (h : St w0 w L) (p : L.Perm M) : St w0 w M :=
  ⟨h.os, h.tape, h.output, h.size, (p.map _).nodup_iff.1 h.nodup, fun x hx => h.blk x (p.mem_iff.2 hx), fun b hb hn => h.old b hb (fun hm => hn ((p.map _).mem_iff.1 hm))⟩
theorem St.swap {w0 w : World} {x y : Nat × Obj} {L : List (Nat × Obj)} (h : St w0 w (x :: y :: L)) : St w0 w (y :: x :: L) := h.perm (List.Perm.swap ..)
/-- A block of one's own is forgotten. -/
theorem St.drop {w0 w : World} {b : Nat} {o : Obj} {L : List (Nat × Obj)} (h : St w0 w ((b, o) :: L)) (hb : w0.heap.size ≤ b) : St w0 w L := by
  have hn := h.nodup
  simp only [List.map_cons, List.nodup_cons] at hn
  refine ⟨h.os, h.tape, h.output, h.size, hn.2, fun x hx => h.blk x (List.mem_cons_of_mem _ hx), fun k hk hm => h.old k hk ?_⟩
  simp only [List.map_cons, List.mem_cons, not_or]
  exact ⟨by omega, hm⟩
/-- A block that was there and is as it was is forgotten. -/
theorem St.same {w0 w : World} {b : Nat} {o : Obj} {L : List (Nat × Obj)} (h : St w0 w ((b, o) :: L)) (hb : w0.heap[b]? = some o) : St w0 w L := by
  have hn := h.nodup
  simp only [List.map_cons, List.nodup_cons] at hn
  refine ⟨h.os, h.tape, h.output, h.size, hn.2, fun x hx => h.blk x (List.mem_cons_of_mem _ hx), fun k hk hm => ?_⟩
  by_cases hkb : k = b
  · subst hkb; rw [h.blk _ (List.mem_cons_self ..), hb]
  · exact h.old k hk (by simp only [List.map_cons, List.mem_cons, not_or]; exact ⟨hkb, hm⟩)
/-- A block that is known is taken into the list. -/
theorem St.add {w0 w : World} {b : Nat} {o : Obj} {L : List (Nat × Obj)} (h : St w0 w L) (hb : w.heap[b]? = some o) (hn : b ∉ L.map (·.1)) : St w0 w ((b, o) :: L) := by
  refine ⟨h.os, h.tape, h.output, h.size, by simp only [List.map_cons, List.nodup_cons]; exact ⟨hn, h.nodup⟩, ?_, ?_⟩
  · intro x hx
    rcases List.mem_cons.1 hx with rfl | hx
    · exact hb
    · exact h.blk x hx
  · intro k hk hm
    simp only [List.map_cons, List.mem_cons, not_or] at hm
    exact h.old k hk hm.2
/-- The list holds of the world itself. -/
theorem St.here {w0 w : World} {L : List (Nat × Obj)} (h : St w0 w L) : St w w L := ⟨rfl, rfl, rfl, Nat.le_refl _, h.nodup, h.blk, fun _ _ _ => rfl⟩
/-- One after the other: the second speaks of all that the first does. -/
theorem St.trans {w0 w1 w2 : World} {L M : List (Nat × Obj)} (h : St w0 w1 L) (k : St w1 w2 M) (hs : ∀ b, b < w0.heap.size → b ∈ L.map (·.1) → b ∈ M.map (·.1)) : St w0 w2 M :=
  ⟨k.os.trans h.os, k.tape.trans h.tape, k.output.trans h.output, Nat.le_trans h.size k.size, k.nodup, k.blk, fun b hb hn => by
    rw [k.old b (Nat.lt_of_lt_of_le hb h.size) hn]
    exact h.old b hb (fun hm => hn (hs b hb hm))⟩
/-- A call that changes nothing that there was. -/
theorem St.call {w0 w w' : World} {L : List (Nat × Obj)} (h : St w0 w L) (k : St w w' []) : St w0 w' L :=
  ⟨k.os.trans h.os, k.tape.trans h.tape, k.output.trans h.output, Nat.le_trans h.size k.size, h.nodup, fun x hx => by rw [k.old _ (h.lt hx) (by simp)]; exact h.blk x hx, fun b hb hn => by
    rw [k.old b (Nat.lt_of_lt_of_le hb h.size) (by simp)]
    exact h.old b hb hn⟩
/-- A call that changes one block of the list. -/
theorem St.call1 {w0 w w' : World} {b : Nat} {o o' : Obj} {L : List (Nat × Obj)} (h : St w0 w ((b, o) :: L)) (k : St w w' [(b, o')]) : St w0 w' ((b, o') :: L) := by
  have hn := h.nodup
  simp only [List.map_cons, List.nodup_cons] at hn
  refine ⟨k.os.trans h.os, k.tape.trans h.tape, k.output.trans h.output, Nat.le_trans h.size k.size, h.nodup, ?_, ?_⟩
  · intro x hx
    rcases List.mem_cons.1 hx with rfl | hx
    · exact k.blk _ (List.mem_cons_self ..)
    · have hne : x.1 ≠ b := fun he => hn.1 (he ▸ List.mem_map_of_mem hx)
      rw [k.old _ (h.lt (List.mem_cons_of_mem _ hx)) (by simpa using hne)]
      exact h.blk x (List.mem_cons_of_mem _ hx)
  · intro c hc hm
    simp only [List.map_cons, List.mem_cons, not_or] at hm
    rw [k.old c (Nat.lt_of_lt_of_le hc h.size) (by simpa using hm.1)]
    exact h.old c hc (by simp only [List.map_cons, List.mem_cons, not_or]; exact hm)

/-! ## Reading a block -/

abbrev cl (c : Array Value) (t : TypeId) : Obj := .cells c t (0, 0)

theorem cell_of {w : World} {b : Nat} {c : Array Value} {t : TypeId} {f : Nat × Nat} (h : w.heap[b]? = some (.cells c t f)) (o : Nat) : w.cell? ⟨b, o, none⟩ = c[o]? := by
  simp [World.cell?, h]
theorem frozen_of {w : World} {b : Nat} {c : Array Value} {t : TypeId} (h : w.heap[b]? = some (.cells c t (0, 0))) (o : Nat) : w.frozen? ⟨b, o, none⟩ = false := by
  simp [World.frozen?, h]
theorem rdN_of {w : World} {b : Nat} {c : Array Value} {t : TypeId} {f : Nat × Nat} (h : w.heap[b]? = some (.cells c t f)) : ∀ (n o i : Nat), o + i + n ≤ c.size → rdN w ⟨b, o, none⟩ i n = some ((c.toList.drop (o + i)).take n)
  | 0, o, i, _ => by simp [rdN]
  | n + 1, o, i, hs => by
    have hlt : o + i < c.size := by omega
    have h1 : w.cell? ⟨b, o + i, none⟩ = some c[o + i] := by rw [cell_of h]; simp [hlt]
    simp only [rdN, add_mk, h1, rdN_of h n o (i + 1) (by omega)]
    rw [List.drop_eq_getElem_cons (i := o + i) (by simpa using hlt), List.take_succ_cons]
    simp [Nat.add_assoc]

/-- Cells of one block written: what the block holds. -/
def splice (c : Array Value) (o : Nat) : List Value → Array Value
  | [] => c
  | v :: vs => splice (c.setIfInBounds o v) (o + 1) vs
theorem splice_size (c : Array Value) (o : Nat) (vs : List Value) : (splice c o vs).size = c.size := by
  induction vs generalizing c o with
  | nil => rfl
  | cons v vs ih => rw [splice, ih]; simp

theorem setCell_blk {w : World} {b : Nat} {c : Array Value} {t : TypeId} {f : Nat × Nat} (h : w.heap[b]? = some (.cells c t f)) (o : Nat) (v : Value) : (w.setCell ⟨b, o, none⟩ v).heap[b]? = some (.cells (c.setIfInBounds o v) t f) := by
  simp [World.setCell, Array.getElem?_modify, h]
theorem setCell_ne {w : World} {b k : Nat} (h : k ≠ b) (o : Nat) (v : Value) : (w.setCell ⟨b, o, none⟩ v).heap[k]? = w.heap[k]? := by
  simp only [World.setCell, Array.getElem?_modify]
  rw [if_neg (fun he => h he.symm)]
theorem setCell_size (w : World) (a : Addr) (v : Value) : (w.setCell a v).heap.size = w.heap.size := by simp [World.setCell]

theorem wrN_blk {b : Nat} {t : TypeId} : ∀ {vs : List Value} {w : World} {c : Array Value} {o i : Nat}, w.heap[b]? = some (cl c t) →
    (wrN w ⟨b, o, none⟩ i vs).heap[b]? = some (cl (splice c (o + i) vs) t) ∧ (∀ k, k ≠ b → (wrN w ⟨b, o, none⟩ i vs).heap[k]? = w.heap[k]?) ∧ (wrN w ⟨b, o, none⟩ i vs).heap.size = w.heap.size ∧
    (wrN w ⟨b, o, none⟩ i vs).os = w.os ∧ (wrN w ⟨b, o, none⟩ i vs).tape = w.tape ∧ (wrN w ⟨b, o, none⟩ i vs).output = w.output
  | [], w, c, o, i, h => ⟨h, fun _ _ => rfl, rfl, rfl, rfl, rfl⟩
  | v :: vs, w, c, o, i, h => by
    have h1 := setCell_blk h (o + i) v
    obtain ⟨p1, p2, p3, p4, p5, p6⟩ := wrN_blk (vs := vs) (o := o) (i := i + 1) h1
    simp only [wrN, add_mk, splice]
    refine ⟨by rw [Nat.add_assoc]; exact p1, fun k hk => by rw [p2 k hk, setCell_ne hk], by rw [p3, setCell_size], p4, p5, p6⟩
theorem okN_blk {b : Nat} {t : TypeId} : ∀ {vs : List Value} {w : World} {c : Array Value} {o i : Nat}, w.heap[b]? = some (cl c t) → o + i + vs.length ≤ c.size → (∀ v ∈ vs, one1 v = true) → okN w ⟨b, o, none⟩ i vs
  | [], w, c, o, i, h, _, _ => trivial
  | v :: vs, w, c, o, i, h, hs, h1 => by
    simp only [List.length_cons] at hs
    refine ⟨h1 v (List.mem_cons_self ..), ?_, ?_, ?_⟩
    · rw [add_mk, cell_of h]; simp; omega
    · rw [add_mk]; exact frozen_of h _
    · rw [add_mk]
      exact okN_blk (setCell_blk h (o + i) v) (by simp; omega) fun v hv => h1 v (List.mem_cons_of_mem _ hv)

/-- A type's row: its zero, how many cells, how many bytes. -/
abbrev Row (P : Program) (t : TypeId) (z : Value) (size bytes : Nat) : Prop := (P.info? t).map (fun i => (i.zero, i.size, i.bytes)) = some (some z, size, bytes)
theorem Row.parts {P : Program} {t : TypeId} {z : Value} {size bytes : Nat} (h : Row P t z size bytes) : ∃ i, P.info? t = some i ∧ i.zero = some z ∧ i.size = size ∧ i.bytes = bytes := by
  unfold Row at h
  cases hi : P.info? t with
  | none => rw [hi] at h; cases h
  | some i =>
    rw [hi] at h
    simp only [Option.map_some, Option.some.injEq, Prod.mk.injEq] at h
    exact ⟨i, rfl, h.1, h.2.1, h.2.2⟩

theorem foldl_set : ∀ (l : List Value) (k : Nat) (acc : Array Value), acc.size = k + l.length →
    (l.zipIdx k).foldl (fun a (x : Value × Nat) => a.setIfInBounds x.2 x.1) acc = (acc.toList.take k ++ l).toArray
  | [], k, acc, h => by
    simp only [List.length_nil, Nat.add_zero] at h
    simp [List.take_of_length_le (show acc.toList.length ≤ k by simp [h])]
  | v :: l, k, acc, h => by
    simp only [List.length_cons] at h
    simp only [List.zipIdx_cons, List.foldl_cons]
    rw [foldl_set l (k + 1) _ (by simp; omega)]
    have hk : k < acc.size := by omega
    congr 1
    apply List.ext_getElem?
    intro j
    simp only [Array.toList_setIfInBounds, List.getElem?_append, List.length_take, List.length_set, Array.length_toList, List.getElem?_take, List.getElem?_set]
    rcases Nat.lt_trichotomy j k with h1 | h1 | h1
    · have a1 : j < min (k + 1) acc.size := by omega
      have a2 : j < min k acc.size := by omega
      simp only [a1, a2, if_true, show j < k + 1 by omega, h1, show ¬ k = j by omega, if_false]
    · subst h1
      have a1 : j < min (j + 1) acc.size := by omega
      have a2 : ¬ j < min j acc.size := by omega
      simp only [a1, a2, if_true, if_false, show j < j + 1 by omega, hk]
      simp [Nat.min_eq_left (Nat.le_of_lt hk)]
    · have a1 : ¬ j < min (k + 1) acc.size := by omega
      have a2 : ¬ j < min k acc.size := by omega
      simp only [Nat.min_eq_left (Nat.le_of_lt hk), Nat.min_eq_left hk]
      rw [show j - k = (j - (k + 1)) + 1 by omega, List.getElem?_cons_succ]
      simp [show ¬ j < k by omega, show ¬ j < k + 1 by omega]

/-! ## Steps: effects on the memory's list -/

section
variable {P : Program} {w0 w : World} {L : List (Nat × Obj)}

theorem sBox {t : TypeId} {v : Value} {K : Value → World → Prop} (h : St w0 w L) (k : ∀ b w', w0.heap.size ≤ b → St w0 w' ((b, cl v.cells t) :: L) → K (.pointer (some ⟨b, 0, none⟩)) w') : eBox P t v w K := by
  rw [eBox_eq]; exact k _ _ h.size (h.alloc _)

theorem sAlloc {t : TypeId} {z : Value} {size bytes : Nat} {K : Value → World → Prop} (h : St w0 w L) (hr : Row P t z size bytes) (k : ∀ b w', w0.heap.size ≤ b → St w0 w' ((b, cl z.cells t) :: L) → K (.pointer (some ⟨b, 0, none⟩)) w') : eAlloc P t w K := by
  obtain ⟨i, hi, hz, _⟩ := hr.parts
  rw [eAlloc_eq hi hz]; exact k _ _ h.size (h.alloc _)

/-- A store into the block that the list names first. -/
theorem sStore {t n b o : Nat} {c : Array Value} {tb : TypeId} {v : Value} {K : World → Prop} (h : St w0 w ((b, cl c tb) :: L)) (hk : known P t = true) (hn : P.cellsOf t = n) (hv : v.cells.size = n) (h1 : ∀ u ∈ v.cells.toList, one1 u = true) (hs : o + n ≤ c.size)
    (k : ∀ w', St w0 w' ((b, cl (splice c o v.cells.toList) tb) :: L) → K w') : eStore P t (.pointer (some ⟨b, o, none⟩)) v w K := by
  have hb := h.blk _ (List.mem_cons_self ..)
  rw [eStore_eq hk hn hv (okN_blk hb (by simpa [hv] using hs) h1)]
  obtain ⟨p1, p2, p3, p4, p5, p6⟩ := wrN_blk (vs := v.cells.toList) (o := o) (i := 0) hb
  exact k _ (h.put p4 p5 p6 p3 (by simpa using p1) p2)
end

/-! ## Slices: addresses, lengths -/
section
variable {P : Program} {w : World}
theorem pr_underlying {t : TypeId} {d : TypeDesc} (h : P.underlying t = some d) : pr P (underlying t) = some d := by
  show pr P (Sem.bind program _) = _
  show pr P (match P.underlying t with | some d => Sem.pure d | none => stuck "no such type") = _
  rw [h]; rfl
theorem pr_bind {α β : Type} {s : Sem α} {f : α → Sem β} {a : α} (h : pr P s = some a) : pr P (s.bind f) = pr P (f a) := by
  induction s with
  | pure b => simp only [pr, Option.some.injEq] at h; subst h; rfl
  | program k ih => exact ih _ h
  | _ => simp [pr] at h
theorem pr_sizeOf {t : TypeId} {n : Nat} (h : (P.info? t).map (·.size) = some n) : pr P (sizeOf t) = some n := by
  cases hi : P.info? t with
  | none => rw [hi] at h; cases h
  | some i =>
    rw [hi] at h
    show pr P (Sem.bind (Sem.bind program fun p => match p.info? t with | some i => Sem.pure i | none => stuck "no such type") _) = _
    show pr P (Sem.bind (match P.info? t with | some i => Sem.pure i | none => stuck "no such type") _) = _
    rw [hi]
    show some i.size = _
    simpa using h

theorem xIA_slice {t e n : TypeId} (ht : P.underlying t = some (.slice e)) (hs : (P.info? e).map (·.size) = some n) (a : Addr) (l c : Nat) (k : IntKind) (i : Int) (h0 : 0 ≤ i) (h1 : i < l) :
    xIA P t (.slice (some a) l c) (.int k i) = some (.pointer (some (a.add (i.toNat * n)))) := by
  show pr P (Sem.bind (underlying t) _) = _
  rw [pr_bind (pr_underlying ht)]
  show pr P (Sem.bind (Sem.pure (some a, l, e)) _) = _
  show pr P (Sem.bind (underlying t) _) = _
  rw [pr_bind (pr_underlying ht)]
  simp only [h0, h1, and_self, if_true]
  show pr P (Sem.bind (sizeOf e) _) = _
  rw [pr_bind (pr_sizeOf hs)]; rfl
theorem xIA_ptr {t e n m : TypeId} (ht : P.underlying t = some (.array m e)) (hs : (P.info? e).map (·.size) = some n) (a : Addr) (k : IntKind) (i : Int) (h0 : 0 ≤ i) (h1 : i < m) :
    xIA P t (.pointer (some a)) (.int k i) = some (.pointer (some (a.add (i.toNat * n)))) := by
  show pr P (Sem.bind (underlying t) _) = _
  rw [pr_bind (pr_underlying ht)]
  show pr P (Sem.bind (Sem.bind (Sem.pure a) _) _) = _
  show pr P (Sem.bind (underlying t) _) = _
  rw [pr_bind (pr_underlying ht)]
  simp only [h0, h1, and_self, if_true]
  show pr P (Sem.bind (sizeOf e) _) = _
  rw [pr_bind (pr_sizeOf hs)]; rfl
theorem xLen_slice {t e : TypeId} (ht : P.underlying t = some (.slice e)) (a : Option Addr) (l c : Nat) : xLen P w #[t] #[.slice a l c] = some (.int .i64 l) := by
  show rr P w (Sem.bind (underlying t) _) = _
  rw [rr_bind (pr_rr (pr_underlying ht) w)]; rfl
theorem xLen_string {t : TypeId} (ht : P.underlying t = some .string) (s : ByteArray) : xLen P w #[t] #[.string s] = some (.int .i64 s.size) := by
  show rr P w (Sem.bind (underlying t) _) = _
  rw [rr_bind (pr_rr (pr_underlying ht) w)]; rfl
theorem xIx_string {t : TypeId} (ht : P.underlying t = some .string) (s : ByteArray) (k : IntKind) (i : Int) (h0 : 0 ≤ i) (h1 : i.toNat < s.size) : xIx P t (.string s) (.int k i) = some (.int .u8 (s[i.toNat]'h1).toNat) := by
  show pr P (Sem.bind (underlying t) _) = _
  rw [pr_bind (pr_underlying ht)]
  have : s[i.toNat]? = some (s[i.toNat]'h1) := by simp [h1]
  simp only [h0, if_true, this]; rfl
theorem xConv_int {s d : TypeId} {us : TypeDesc} {k k' : IntKind} (hs : P.underlying s = some us) (hd : P.underlying d = some (.int k)) (n : Int) : xConv P s d (.int k' n) = some (.int k (k.wrap n)) := by
  show pr P (Sem.bind (underlying s) _) = _
  rw [pr_bind (pr_underlying hs)]
  show pr P (Sem.bind (underlying d) _) = _
  rw [pr_bind (pr_underlying hd)]
  cases us <;> rfl
end

/-! ## Slices of one's own -/

/-- v is nil, or a slice at the head of a block of one's own, which M names; its n elements of size cells each are xs. -/
def OwnS (base : Nat) (e : TypeId) (size : Nat) (v : Value) (n : Nat) (xs : List Value) (M : List (Nat × Obj)) : Prop :=
  xs.length = n * size ∧ ((v = .slice none 0 0 ∧ n = 0 ∧ M = []) ∨
    ∃ g cap cur, v = .slice (some ⟨g, 0, none⟩) n cap ∧ M = [(g, cl cur e)] ∧ base ≤ g ∧ n ≤ cap ∧ cap ≤ maxLen ∧ cur.size = cap * size ∧ cur.toList.take (n * size) = xs)
theorem OwnS.nil (base e size : Nat) : OwnS base e size (.slice none 0 0) 0 [] [] := ⟨by simp, .inl ⟨rfl, rfl, rfl⟩⟩
theorem OwnS.row {base e size n : Nat} {v : Value} {xs : List Value} {M L : List (Nat × Obj)} {w0 w : World} (h : OwnS base e size v n xs M) (hs : St w0 w (M ++ L)) : w.ownsRow base e size v n xs := by
  refine ⟨h.1, ?_⟩
  rcases h.2 with ⟨h1, h2, _⟩ | ⟨g, cap, cur, h1, h2, h3, h4, h5, h6, h7⟩
  · exact .inl ⟨h1, h2⟩
  · refine .inr ⟨g, cap, cur, h1, h3, ?_, h4, h5, h6, h7⟩
    subst h2
    exact hs.blk (g, cl cur e) (by simp)

theorem one1_eq (v : Value) : one1 v = v.oneCell' := by cases v <;> rfl

section
variable {P : Program} {w0 w : World} {L : List (Nat × Obj)}

/-- []T{x} -/
theorem sBS1 {t e : TypeId} {z x : Value} {size bytes : Nat} {K : Value → World → Prop} (h : St w0 w L) (ht : P.underlying t = some (.slice e)) (hr : Row P e z size bytes) (hzs : z.cells.size = size) (hx : x.cells.size = size) (h0 : 0 < size) (hsm : size ≤ 16777216)
    (k : ∀ b w', w0.heap.size ≤ b → b = w.heap.size → St w w' [(b, cl x.cells e)] → St w0 w' ((b, cl x.cells e) :: L) → K (.slice (some ⟨b, 0, none⟩) 1 1) w') : eBS P t 1 #[(0, x)] w K := by
  obtain ⟨i, hi, hz, hs, _⟩ := hr.parts
  have hrun : (Instr.buildSlice t 1 #[(0, x)]).run P w = .ok (.slice (some ⟨w.heap.size, 0, none⟩) 1 1) (w.alloc (.cells x.cells e)) := by
    have hfill : Instr.fill (fun i => some (i * size, size)) ((Array.range (1 * size)).map (z.cells[· % z.cells.size]!)) [(0, x)] = some x.cells := by
      simp only [Instr.fill, hx, ne_eq, not_true_eq_false, Nat.zero_mul, Nat.zero_add, Array.size_map, Array.size_range, Nat.one_mul, gt_iff_lt, Nat.lt_irrefl, or_self, if_false, Option.some.injEq]
      rw [← Array.foldl_toList, Array.toList_zipIdx]
      have := foldl_set x.cells.toList 0 ((Array.range size).map (z.cells[· % z.cells.size]!)) (by simp [hx])
      rw [this]
      simp
    show (Sem.bind (underlying t) _).run P w = _
    rw [run_bind_ok (rr_run (pr_rr (pr_underlying ht) w))]
    show (Sem.bind (sizeOf e) _).run P w = _
    rw [run_bind_ok (rr_run (pr_rr (pr_sizeOf (n := size) (by rw [hi]; simp [hs])) w))]
    have h2 : ¬ (1 * size > 2 ^ 24) := by omega
    have h3 : ¬ (1 * size = 0) := by omega
    simp only [h2, if_false, h3]
    have hz' : (zeroValue e).run P w = .ok z w := by
      show (Sem.bind (typeInfo e) _).run P w = _
      have h1 : (typeInfo e).run P w = .ok i w := by
        apply rr_run
        show rr P w (Sem.bind program _) = _
        rw [rr_bind (a := P) rfl, hi]; rfl
      rw [run_bind_ok h1, hz]; rfl
    show (Sem.bind (zeroValue e) _).run P w = _
    rw [run_bind_ok hz']
    show (match Instr.fill (fun i => some (i * size, size)) ((Array.range (1 * size)).map (z.cells[· % z.cells.size]!)) [(0, x)] with
          | some cells => Sem.bind (newRow e cells) fun a => Sem.pure (Value.slice (some a) 1 1)
          | _ => stuck "buildSlice: a part of the wrong size" : Sem Value).run P w = _
    simp only [hfill]
    rfl
  unfold eBS eff
  rw [hrun]
  exact k _ _ h.size rfl ((St.refl w).alloc _) (h.alloc _)

/-- append(v, y...), y not empty. G: what v's block was, where the elements have come to lie in a new one. -/
theorem sAppG {t e : TypeId} {i : TypeInfo} {z : Value} {size bytes : Nat} (ht : P.underlying t = some (.slice e)) (hi : P.info? e = some i) (hz : i.zero = some z) (hsize : i.size = size) (hby : i.bytes = bytes) (hzs : z.cells.size = size)
    {base : Nat} {v : Value} {n : Nat} {xs : List Value} {M : List (Nat × Obj)} (h : St w0 w (M ++ L)) (hown : OwnS base e size v n xs M) (hb : base ≤ w.heap.size)
    {a : Addr} {m c : Nat} {news : List Value} (hl : news.length = m * size) (hm : 0 < m) (hnews : ∀ j u, news[j]? = some u → w.cell? (a.add j) = some u) (h1 : ∀ u ∈ news, one1 u = true)
    (h63 : n + m ≤ maxLen) (hbytes : (n + m) * bytes ≤ 140737488355328) {K : Value → World → Prop}
    (k : ∀ v' M' G w', OwnS base e size v' (n + m) (xs ++ news) M' → (G = [] ∨ G = M) → St w0 w' (M' ++ (G ++ L)) → K v' w') : eApp P #[t, t] #[v, .slice (some a) m c] w K := by
  have hsmall : ((n + m : Nat) : Int) ≤ 9223372036854775807 := by simp only [maxLen] at h63; omega
  subst hsize
  subst hby
  have hlen : (xs ++ news).length = (n + m) * i.size := by rw [List.length_append, hown.1, hl, Nat.add_mul]
  have fresh : ∀ (old : Nat), old < n + m → ∀ (run : (Builtin.append_ #[t, t] 0 #[v, .slice (some a) m c]).run P w = .ok (.slice (some ⟨w.heap.size, 0, none⟩) (n + m) (grownCap w (n + m) old e))
        (w.drew.alloc (.cells (xs.toArray ++ news.toArray ++ Builtin.zeroCells z.cells (grownCap w (n + m) old e - (n + m))) e))), eApp P #[t, t] #[v, .slice (some a) m c] w K := by
    intro old ho hrun
    unfold eApp eff
    rw [hrun]
    refine k _ [(w.heap.size, cl (xs.toArray ++ news.toArray ++ Builtin.zeroCells z.cells (grownCap w (n + m) old e - (n + m))) e)] M _ ⟨hlen, .inr ⟨_, _, _, rfl, rfl, hb, grownCap_ge _ _ _ _, grownCap_le_maxLen _ _ _ _ h63, ?_, ?_⟩⟩ (.inr rfl) ?_
    · have hge := grownCap_ge w (n + m) old e
      simp only [Array.size_append, List.size_toArray, size_zeroCells, hzs, hown.1, hl, ← Nat.add_mul]
      congr 1
      omega
    · have : (xs.toArray ++ news.toArray ++ Builtin.zeroCells z.cells (grownCap w (n + m) old e - (n + m))).toList = (xs ++ news) ++ (Builtin.zeroCells z.cells (grownCap w (n + m) old e - (n + m))).toList := by simp
      rw [this, List.take_append_of_le_length (by omega), List.take_of_length_le (by omega)]
    · exact h.drew.alloc _
  rcases hown.2 with ⟨rfl, rfl, hM⟩ | ⟨g, cap, cur, rfl, hM, q3, q4, q5, q6, q7⟩
  · have hx : xs = [] := by simpa using hown.1
    subst hx
    refine fresh 0 (by omega) ?_
    have hb' : m * i.bytes ≤ 140737488355328 := by rw [Nat.zero_add] at hbytes; exact hbytes
    have := run_append_nil (P := P) w t 0 e i z ht hi hz a m c news hl hnews hm (by omega) (by omega)
    simp only [Nat.zero_add] at this ⊢
    rw [this]
    simp
  · subst hM
    have hg := h.blk (g, cl cur e) (by simp)
    by_cases hroom : n + m ≤ cap
    · have hfit : n * i.size + news.length ≤ cur.size := by rw [hl, q6, ← Nat.add_mul]; exact Nat.mul_le_mul_right _ hroom
      have hrun := run_append_room (P := P) w t 0 e i ht hi g n cap cur hg a m c news hl hnews (fun u hu => by rw [← one1_eq]; exact h1 u hu) hroom hfit
      unfold eApp eff
      rw [hrun]
      have ho : OwnS base e i.size (.slice (some ⟨g, 0, none⟩) (n + m) cap) (n + m) (xs ++ news) [(g, cl (cur.toList.take (n * i.size) ++ news ++ cur.toList.drop (n * i.size + news.length)).toArray e)] := by
        refine ⟨hlen, .inr ⟨g, cap, _, rfl, rfl, q3, hroom, q5, ?_, ?_⟩⟩
        · simp only [List.size_toArray, List.length_append, List.length_take, List.length_drop, Array.length_toList]
          omega
        · simp only [q7]
          rw [List.append_assoc, ← List.append_assoc, List.take_append_of_le_length (by omega), List.take_of_length_le (by omega)]
      refine k _ _ [] _ ho (.inl rfl) ?_
      have hlt : g < w.heap.size := (Array.getElem?_eq_some_iff.1 hg).1
      refine St.put (o := cl cur e) h rfl rfl rfl (by simp [World.setRow]) ?_ ?_
      · simp [World.setRow, Array.getElem?_modify, hg]
      · intro b hb'
        simp only [World.setRow, Array.getElem?_modify]
        rw [if_neg (fun he => hb' he.symm)]
    · refine fresh cap (by omega) ?_
      have holds : ∀ j u, xs[j]? = some u → w.cell? ((⟨g, 0, none⟩ : Addr).add j) = some u := by
        intro j u hu
        rw [add_mk, cell_of hg]
        rw [← q7, List.getElem?_take] at hu
        split at hu
        · simpa using hu
        · cases hu
      exact run_append_grow (P := P) w t 0 e i z ht hi hz ⟨g, 0, none⟩ n cap xs hown.1 holds a m c news hl hnews (by omega) hsmall (growslice_fits (by omega) hbytes)

/-- append(v, y...), v of one's own. -/
theorem sApp {t e : TypeId} {z : Value} {size bytes : Nat} (ht : P.underlying t = some (.slice e)) (hr : Row P e z size bytes) (hzs : z.cells.size = size)
    {base : Nat} {v : Value} {n : Nat} {xs : List Value} {M : List (Nat × Obj)} (h : St w0 w (M ++ L)) (hown : OwnS base e size v n xs M) (hb : base ≤ w.heap.size) (hb0 : w0.heap.size ≤ base)
    {a : Addr} {m c : Nat} {news : List Value} (hl : news.length = m * size) (hm : 0 < m) (hnews : ∀ j u, news[j]? = some u → w.cell? (a.add j) = some u) (h1 : ∀ u ∈ news, one1 u = true)
    (h63 : n + m ≤ maxLen) (hbytes : (n + m) * bytes ≤ 140737488355328) {K : Value → World → Prop}
    (k : ∀ v' M' w', OwnS base e size v' (n + m) (xs ++ news) M' → St w0 w' (M' ++ L) → K v' w') : eApp P #[t, t] #[v, .slice (some a) m c] w K := by
  obtain ⟨i, hi, hz, hsize, hby⟩ := hr.parts
  refine sAppG ht hi hz hsize hby hzs h hown hb hl hm hnews h1 h63 hbytes fun v' M' G w' ho hG hs => k v' M' w' ho ?_
  rcases hG with rfl | rfl
  · exact hs
  · rcases hown.2 with ⟨_, _, q3⟩ | ⟨g, cap, cur, _, q2, q3, _⟩
    · subst q3; exact hs
    · subst q2
      have : (M' ++ ([(g, cl cur e)] ++ L)).Perm ((g, cl cur e) :: (M' ++ L)) := by
        rw [← List.append_assoc]
        have : (M' ++ [(g, cl cur e)] ++ L).Perm ([(g, cl cur e)] ++ M' ++ L) := List.Perm.append_right _ List.perm_append_comm
        exact this
      exact (hs.perm this).drop (by omega)

/-- append(v, x): the element's cells are laid in a block of their own first. -/
theorem sApp1 {t e : TypeId} {z : Value} {size bytes : Nat} (ht : P.underlying t = some (.slice e)) (hr : Row P e z size bytes) (hzs : z.cells.size = size)
    {base : Nat} {v : Value} {n : Nat} {xs : List Value} {M : List (Nat × Obj)} (h : St w0 w (M ++ L)) (hown : OwnS base e size v n xs M) (hb : base ≤ w.heap.size) (hb0 : w0.heap.size ≤ base)
    {y : Nat} {x : Value} (hx : x.cells.size = size) (h1 : ∀ u ∈ x.cells.toList, one1 u = true) (hy : w.heap[y]? = some (cl x.cells e)) (h63 : n + 1 ≤ maxLen) (hbytes : (n + 1) * bytes ≤ 140737488355328) {K : Value → World → Prop}
    (k : ∀ v' M' w', OwnS base e size v' (n + 1) (xs ++ x.cells.toList) M' → St w0 w' (M' ++ L) → K v' w') : eApp P #[t, t] #[v, .slice (some ⟨y, 0, none⟩) 1 1] w K := by
  refine sApp ht hr hzs h hown hb hb0 (news := x.cells.toList) (by simpa using hx) (by omega) ?_ h1 h63 hbytes k
  intro j u hu
  rw [add_mk, cell_of hy]
  simpa using hu
end

end Go.Vc
