/-
  Own blocks over a base world (So), slices of the base world (Sl), in steps. Over any program.
-/
import Derived.Test.YtlmcppbpobnfjaaDoorVt
namespace Go.Vc
open Go

/-- Two lists of blocks that any count takes for the same are the same but for their order. -/
theorem perm_of {L M : List (Nat × Obj)} (h : ∀ (c : List (Nat × Obj) → Nat) (d : Nat × Obj → Nat), (∀ A B, c (A ++ B) = c A + c B) → (∀ x A, c (x :: A) = d x + c A) → c [] = 0 → c L = c M) : L.Perm M := by
  haveI : DecidableEq (Nat × Obj) := fun a b => Classical.propDecidable (a = b)
  rw [List.perm_iff_count]
  intro a
  refine h (List.count a) (fun x => if x == a then 1 else 0) (fun A B => List.count_append ..) (fun x A => ?_) rfl
  rw [List.count_cons]; omega

/-- w0 has become w; the blocks of L are own ones. -/
structure So (w0 w : World) (L : List (Nat × Obj)) : Prop where
  st : St w0 w L
  own : ∀ x ∈ L, w0.heap.size ≤ x.1
theorem So.refl (w : World) : So w w [] := ⟨.refl w, by simp⟩
theorem So.facts {w0 w : World} {L : List (Nat × Obj)} (h : So w0 w L) : Facts w L := h.st.facts
theorem So.drew {w0 w : World} {L : List (Nat × Obj)} (h : So w0 w L) : So w0 w.drew L := ⟨h.st.drew, h.own⟩
theorem So.drop {w0 w : World} {x : Nat × Obj} {L : List (Nat × Obj)} (h : So w0 w (x :: L)) : So w0 w L :=
  ⟨St.drop (b := x.1) (o := x.2) h.st (h.own x (List.mem_cons_self ..)), fun y hy => h.own y (List.mem_cons_of_mem _ hy)⟩
theorem So.drop2 {w0 w : World} {x y : Nat × Obj} {L : List (Nat × Obj)} (h : So w0 w (x :: y :: L)) : So w0 w L := h.drop.drop
theorem So.drops {w0 w : World} {M L : List (Nat × Obj)} (h : So w0 w (M ++ L)) : So w0 w L := by
  induction M with
  | nil => exact h
  | cons x M ih => exact ih (So.drop h)
theorem So.perm {w0 w : World} {L M : List (Nat × Obj)} (h : So w0 w L) (p : L.Perm M) : So w0 w M := ⟨h.st.perm p, fun x hx => h.own x (p.mem_iff.2 hx)⟩
theorem So.swap {w0 w : World} {x y : Nat × Obj} {L : List (Nat × Obj)} (h : So w0 w (x :: y :: L)) : So w0 w (y :: x :: L) := h.perm (List.Perm.swap ..)
theorem So.dropEnd {w0 w : World} {L M : List (Nat × Obj)} (h : So w0 w (L ++ M)) : So w0 w L := (h.perm List.perm_append_comm).drops
/-- A call over the world as it is, that keeps nothing. -/
theorem So.call {w0 w w' : World} {L : List (Nat × Obj)} (h : So w0 w L) (k : So w w' []) : So w0 w' L := ⟨h.st.call k.st, h.own⟩
/-- A call over the world as it is, that leaves blocks. -/
theorem So.calls {w0 w w' : World} {L M : List (Nat × Obj)} (h : So w0 w L) (k : So w w' M) : So w0 w' (M ++ L) := by
  refine ⟨⟨k.st.os.trans h.st.os, k.st.tape.trans h.st.tape, k.st.output.trans h.st.output, Nat.le_trans h.st.size k.st.size, ?_, ?_, ?_⟩, ?_⟩
  · rw [List.map_append, List.nodup_append]
    refine ⟨k.st.nodup, h.st.nodup, ?_⟩
    intro a ha b hb he
    subst he
    obtain ⟨x, hx, rfl⟩ := List.mem_map.1 ha
    obtain ⟨y, hy, he⟩ := List.mem_map.1 hb
    have h1 := k.own x hx
    have h2 := h.st.lt hy
    omega
  · intro x hx
    rcases List.mem_append.1 hx with hx | hx
    · exact k.st.blk x hx
    · rw [k.st.old _ (h.st.lt hx) ?_]
      · exact h.st.blk x hx
      · intro hm
        obtain ⟨y, hy, he⟩ := List.mem_map.1 hm
        have h1 := k.own y hy
        have h2 := h.st.lt hx
        omega
  · intro b hb hn
    rw [List.map_append, List.mem_append, not_or] at hn
    rw [k.st.old b (Nat.lt_of_lt_of_le hb h.st.size) hn.1]
    exact h.st.old b hb hn.2
  · intro x hx
    rcases List.mem_append.1 hx with hx | hx
    · exact Nat.le_trans h.st.size (k.own x hx)
    · exact h.own x hx
/-- What the base world holds is there. -/
theorem So.old {w0 w : World} {L : List (Nat × Obj)} (h : So w0 w L) {b : Nat} {o : Obj} (hb : w0.heap[b]? = some o) : w.heap[b]? = some o := by
  have hlt : b < w0.heap.size := (Array.getElem?_eq_some_iff.1 hb).1
  rw [h.st.old b hlt ?_]; exact hb
  intro hm
  obtain ⟨x, hx, he⟩ := List.mem_map.1 hm
  have := h.own x hx
  omega

section
variable {P : Program} {w0 w : World} {L : List (Nat × Obj)}
theorem soBox {t : TypeId} {v : Value} {K : Value → World → Prop} (h : So w0 w L) (k : ∀ b w', So w0 w' ((b, cl v.cells t) :: L) → K (.pointer (some ⟨b, 0, none⟩)) w') : eBox P t v w K :=
  sBox h.st fun b w' hb hs => k b w' ⟨hs, fun x hx => by rcases List.mem_cons.1 hx with rfl | hx; exact hb; exact h.own x hx⟩
theorem soAlloc {t : TypeId} {c : Array Value} {K : Value → World → Prop} (hr : (P.info? t).map (fun i => i.zero.map Value.cells) = some (some c)) (h : So w0 w L) (k : ∀ b w', So w0 w' ((b, cl c t) :: L) → K (.pointer (some ⟨b, 0, none⟩)) w') : eAlloc P t w K :=
  sAlloc' hr h.st fun b w' hb hs => k b w' ⟨hs, fun x hx => by rcases List.mem_cons.1 hx with rfl | hx; exact hb; exact h.own x hx⟩
theorem own_set {i b : Nat} {o o' : Obj} (h : ∀ x ∈ L, w0.heap.size ≤ x.1) (hi : L[i]? = some (b, o)) : ∀ x ∈ L.set i (b, o'), w0.heap.size ≤ x.1 := by
  intro x hx
  rcases List.mem_or_eq_of_mem_set hx with hx | rfl
  · exact h x hx
  · exact h (b, o) (List.mem_of_getElem? hi)
theorem soStore1 {t b o : Nat} (hk : (known P t, isAggT P t, P.cellsOf t) = (true, false, 1)) {c : Array Value} {tb : TypeId} {v : Value} {K : World → Prop} (i : Nat) (h : So w0 w L) (k : ∀ w', So w0 w' (L.set i (b, cl (c.setIfInBounds o v) tb)) → K w') (hi : L[i]? = some (b, cl c tb)) (hs : o < c.size) (h1 : one1 v = true) : eStore P t (.pointer (some ⟨b, o, none⟩)) v w K :=
  sStore1 hk i h.st (fun w' hs' => k w' ⟨hs', own_set h.own hi⟩) hi hs h1
theorem soStoreN {t b o n : Nat} (hk : (known P t, isAggT P t, P.cellsOf t) = (true, true, n)) {c x : Array Value} {tb : TypeId} {K : World → Prop} (i : Nat) (h : So w0 w L) (k : ∀ w', So w0 w' (L.set i (b, cl (splice c o x.toList) tb)) → K w') (hi : L[i]? = some (b, cl c tb)) (hx : x.size = n) (hs : o + n ≤ c.size) (h1 : x.toList.all one1 = true) : eStore P t (.pointer (some ⟨b, o, none⟩)) (.agg x) w K :=
  sStoreN hk i h.st (fun w' hs' => k w' ⟨hs', own_set h.own hi⟩) hi hx hs h1
theorem soStoreA {t b n : Nat} (hk : (known P t, isAggT P t, P.cellsOf t) = (true, true, n)) {c x : Array Value} {tb : TypeId} {K : World → Prop} (i : Nat) (h : So w0 w L) (k : ∀ w', So w0 w' (L.set i (b, cl x tb)) → K w') (hi : L[i]? = some (b, cl c tb)) (hx : x.size = n) (hs : c.size = n) (h1 : x.toList.all one1 = true) : eStore P t (.pointer (some ⟨b, 0, none⟩)) (.agg x) w K :=
  sStoreA hk i h.st (fun w' hs' => k w' ⟨hs', own_set h.own hi⟩) hi hx hs h1
end

/-! ## Slices of the base world -/
/-- v is a slice whose elements, of n cells each, are els. -/
def Sl (w : World) (n : Nat) (v : Value) (els : List (List Value)) : Prop :=
  (els = [] ∧ ∃ a c, v = .slice a 0 c) ∨
  ∃ g o c cells t f, v = .slice (some ⟨g, o, none⟩) els.length c ∧ w.heap[g]? = some (.cells cells t f) ∧ ∀ i el, els[i]? = some el → el.length = n ∧ o + i * n + n ≤ cells.size ∧ (cells.toList.drop (o + i * n)).take n = el
theorem Sl.nil (w : World) (n : Nat) (a : Option Addr) (c : Nat) : Sl w n (.slice a 0 c) [] := .inl ⟨rfl, a, c, rfl⟩
theorem Sl.go {w0 w : World} {L : List (Nat × Obj)} {n : Nat} {v : Value} {els : List (List Value)} (h : So w0 w L) (s : Sl w0 n v els) : Sl w n v els := by
  rcases s with s | ⟨g, o, c, cells, t, f, h1, h2, h3⟩
  · exact .inl s
  · exact .inr ⟨g, o, c, cells, t, f, h1, h.old h2, h3⟩
theorem Sl.shape {w : World} {n : Nat} {v : Value} {els : List (List Value)} (s : Sl w n v els) : ∃ a c, v = .slice a els.length c := by
  rcases s with ⟨rfl, a, c, rfl⟩ | ⟨g, o, c, cells, t, f, rfl, _⟩
  · exact ⟨_, _, rfl⟩
  · exact ⟨_, _, rfl⟩
theorem Sl.len {P : Program} {w w' : World} {t e m n : Nat} {v : Value} {els : List (List Value)} (ht : slE P t = some (e, m)) (s : Sl w n v els) : xLen P w' #[t] #[v] = some (.int .i64 els.length) := by
  obtain ⟨a, c, rfl⟩ := s.shape
  exact xLen_s ht _ _ _
/-- Where an element lies. -/
theorem Sl.at {P : Program} {w : World} {t e n : Nat} {v : Value} {els : List (List Value)} (ht : slE P t = some (e, n)) (s : Sl w n v els) {i : Nat} {el : List Value} (hi : els[i]? = some el) :
    ∃ g o cells t' f, (∀ k : IntKind, xIA P t v (.int k i) = some (.pointer (some ⟨g, o, none⟩))) ∧ w.heap[g]? = some (.cells cells t' f) ∧ el.length = n ∧ o + n ≤ cells.size ∧ (cells.toList.drop o).take n = el := by
  rcases s with ⟨rfl, _⟩ | ⟨g, o, c, cells, t', f, rfl, h2, h3⟩
  · simp at hi
  · obtain ⟨p1, p2, p3⟩ := h3 i el hi
    refine ⟨g, o + i * n, cells, t', f, fun k => ?_, h2, p1, p2, p3⟩
    have hlt : i < els.length := (List.getElem?_eq_some_iff.1 hi).1
    rw [xIA_s ht _ _ _ _ _ _ (by omega) (by omega)]
    simp
theorem cells_at {cells : Array Value} {o n j : Nat} {el : List Value} (h : (cells.toList.drop o).take n = el) (hj : j < n) : cells[o + j]? = el[j]? := by
  subst h
  simp [List.getElem?_take, hj, List.getElem?_drop]
/-- One element is read as a whole, field by field, or sliced. -/
theorem Sl.get {P : Program} {w : World} {t e n : Nat} {v : Value} {els : List (List Value)} (ht : slE P t = some (e, n)) (s : Sl w n v els) (q : Int) {i : Nat} {el : List Value} (hq : q = i) (hi : els[i]? = some el) :
    ∃ g o, (∀ k : IntKind, xIA P t v (.int k q) = some (.pointer (some ⟨g, o, none⟩))) ∧ oRow w.heap[g]? o n = some (.agg el.toArray) ∧ ∀ j, j < n → oCell w.heap[g]? (o + j) = el[j]? := by
  subst hq
  obtain ⟨g, o, cells, t', f, h1, h2, h3, h4, h5⟩ := s.at ht hi
  refine ⟨g, o, h1, ?_, ?_⟩
  · rw [h2, oRow_some _ _ _ _ _ h4, h5]
  · intro j hj
    rw [h2, oCell_some, cells_at h5 hj]

/-! ## Appending one -/
section
variable {P : Program} {w0 w : World} {L : List (Nat × Obj)}
theorem OwnS.own {base e size : Nat} {v : Value} {n : Nat} {xs : List Value} {M : List (Nat × Obj)} (h : OwnS base e size v n xs M) : ∀ x ∈ M, base ≤ x.1 := by
  rcases h.2 with ⟨_, _, rfl⟩ | ⟨g, cap, cur, _, rfl, h3, _⟩
  · simp
  · simpa using h3
theorem soBS1 {t e : TypeId} {z x : Value} {size bytes : Nat} (ht : P.underlying t = some (.slice e)) (hr : Row P e z size bytes) (hzs : z.cells.size = size) (h0 : 0 < size) (hsm : size ≤ 16777216)
    (h : So w0 w L) (hx : x.cells.size = size) {K : Value → World → Prop} (k : ∀ y w', So w0 w' ((y, cl x.cells e) :: L) → K (.slice (some ⟨y, 0, none⟩) 1 1) w') : eBS P t 1 #[(0, x)] w K :=
  sBS1 h.st ht hr hzs hx h0 hsm fun b w' hb _ _ hs => k b w' ⟨hs, fun y hy => by rcases List.mem_cons.1 hy with rfl | hy; exact hb; exact h.own y hy⟩
theorem soApp1 {t e : TypeId} {z x : Value} {size bytes : Nat} (ht : P.underlying t = some (.slice e)) (hr : Row P e z size bytes) (hzs : z.cells.size = size)
    {v : Value} {y n : Nat} {xs : List Value} {M : List (Nat × Obj)} (h : So w0 w ((y, cl x.cells e) :: (M ++ L))) (hown : OwnS w0.heap.size e size v n xs M)
    (hx : x.cells.size = size) (h1 : ∀ u ∈ x.cells.toList, one1 u = true) (h63 : n + 1 ≤ maxLen) (hbytes : (n + 1) * bytes ≤ 140737488355328) {K : Value → World → Prop}
    (k : ∀ v' M' w', OwnS w0.heap.size e size v' (n + 1) (xs ++ x.cells.toList) M' → So w0 w' (M' ++ L) → K v' w') :
    eApp P #[t, t] #[v, .slice (some ⟨y, 0, none⟩) 1 1] w K := by
  have hp : ((y, cl x.cells e) :: (M ++ L)).Perm (M ++ (y, cl x.cells e) :: L) := List.perm_middle.symm
  have hs' := h.st.perm hp
  refine sApp1 ht hr hzs hs' hown h.st.size (Nat.le_refl _) hx h1 (h.st.blk (y, cl x.cells e) (List.mem_cons_self ..)) h63 hbytes fun v' M' w'' ho hs'' => ?_
  refine k v' M' w'' ho ?_
  have own' : ∀ q ∈ M' ++ (y, cl x.cells e) :: L, w0.heap.size ≤ q.1 := by
    intro q hq
    rcases List.mem_append.1 hq with hq | hq
    · exact ho.own q hq
    · rcases List.mem_cons.1 hq with rfl | hq
      · exact h.own _ (List.mem_cons_self ..)
      · exact h.own q (List.mem_cons_of_mem _ (List.mem_append_right _ hq))
  have hq : So w0 w'' (M' ++ (y, cl x.cells e) :: L) := ⟨hs'', own'⟩
  exact (hq.perm List.perm_middle).drop
theorem soPush {t e : TypeId} {z x : Value} {size bytes : Nat} (ht : P.underlying t = some (.slice e)) (hr : Row P e z size bytes) (hzs : z.cells.size = size) (h0 : 0 < size) (hsm : size ≤ 16777216)
    {v : Value} {n : Nat} {xs : List Value} {M : List (Nat × Obj)} (h : So w0 w (M ++ L)) (hown : OwnS w0.heap.size e size v n xs M)
    (hx : x.cells.size = size) (h1 : ∀ u ∈ x.cells.toList, one1 u = true) (h63 : n + 1 ≤ maxLen) (hbytes : (n + 1) * bytes ≤ 140737488355328) {K : Value → World → Prop}
    (k : ∀ v' M' w', OwnS w0.heap.size e size v' (n + 1) (xs ++ x.cells.toList) M' → So w0 w' (M' ++ L) → K v' w') :
    eBS P t 1 #[(0, x)] w fun y w => eApp P #[t, t] #[v, y] w K :=
  soBS1 ht hr hzs h0 hsm h hx fun _ _ hs => soApp1 ht hr hzs hs hown hx h1 h63 hbytes k
/-- One's own slice as one of the base world's kind: an element is read. -/
theorem OwnS.sl {e size : Nat} {v : Value} {n : Nat} {els : List (List Value)} {M : List (Nat × Obj)} (hs : So w0 w (M ++ L)) (h : OwnS w0.heap.size e size v n (els.flatten) M) (hl : ∀ x ∈ els, x.length = size) (hn : els.length = n) : Sl w size v els := by
  rcases h.2 with ⟨rfl, rfl, _⟩ | ⟨g, cap, cur, rfl, rfl, h3, h4, h5, h6, h7⟩
  · rw [List.length_eq_zero_iff] at hn; subst hn; exact Sl.nil _ _ _ _
  · refine .inr ⟨g, 0, cap, cur, e, (0, 0), by rw [hn], hs.st.blk (g, cl cur e) (by simp), fun i el hi => ?_⟩
    have hlt : i < els.length := (List.getElem?_eq_some_iff.1 hi).1
    have hel := hl el (List.mem_of_getElem? hi)
    have hb : i * size + size ≤ n * size := by
      rw [← Nat.succ_mul]; exact Nat.mul_le_mul_right _ (by omega)
    have hc : n * size ≤ cur.size := by rw [h6]; exact Nat.mul_le_mul_right _ h4
    refine ⟨hel, by omega, ?_⟩
    have key : ∀ (els : List (List Value)) (i : Nat), (∀ x ∈ els, x.length = size) → els[i]? = some el → (els.flatten.drop (i * size)).take size = el := by
      intro els
      induction els with
      | nil => intro i _ h; simp at h
      | cons x els ih =>
        intro i hl hi
        have hx : x.length = size := hl x (List.mem_cons_self ..)
        cases i with
        | zero =>
          simp only [List.getElem?_cons_zero, Option.some.injEq] at hi
          subst hi
          simp [List.take_append_of_le_length, hx]
        | succ i =>
          simp only [List.getElem?_cons_succ] at hi
          rw [List.flatten_cons, show (i + 1) * size = x.length + i * size by rw [hx, Nat.succ_mul, Nat.add_comm], ← List.drop_drop, List.drop_left]
          exact ih i (fun y hy => hl y (List.mem_cons_of_mem _ hy)) hi
    have := key els i hl hi
    rw [← h7] at this
    rw [Nat.zero_add, ← this, List.drop_take, List.take_take, Nat.min_eq_left (by omega)]
end

/-! ## Slices written out -/
theorem soBSn {P : Program} {w0 w : World} {L : List (Nat × Obj)} {t e n : Nat} {z : Value} {size bytes : Nat} {ps : Array (Nat × Value)} {cells : Array Value} {K : Value → World → Prop} (ht : P.underlying t = some (.slice e)) (hr : Row P e z size bytes) (h0 : n * size ≠ 0) (hsm : n * size ≤ 16777216)
    (hfill : Instr.fill (fun i => some (i * size, size)) ((Array.range (n * size)).map (z.cells[· % z.cells.size]!)) ps.toList = some cells)
    (h : So w0 w L) (k : ∀ y w', So w0 w' ((y, cl cells e) :: L) → K (.slice (some ⟨y, 0, none⟩) n n) w') : eBS P t n ps w K := by
  obtain ⟨i, hi, hz, hs, _⟩ := hr.parts
  have hrun : (Instr.buildSlice t n ps).run P w = .ok (.slice (some ⟨w.heap.size, 0, none⟩) n n) (w.alloc (.cells cells e)) := by
    show (Sem.bind (underlying t) _).run P w = _
    rw [run_bind_ok (rr_run (pr_rr (pr_underlying ht) w))]
    show (Sem.bind (sizeOf e) _).run P w = _
    rw [run_bind_ok (rr_run (pr_rr (pr_sizeOf (n := size) (by rw [hi]; simp [hs])) w))]
    have h2 : ¬ (n * size > 2 ^ 24) := by omega
    simp only [h2, if_false, h0]
    have hz' : (zeroValue e).run P w = .ok z w := by
      show (Sem.bind (typeInfo e) _).run P w = _
      have h1 : (typeInfo e).run P w = .ok i w := by
        apply rr_run
        show rr P w (Sem.bind program _) = _
        rw [rr_bind (a := P) rfl, hi]; rfl
      rw [run_bind_ok h1, hz]; rfl
    show (Sem.bind (zeroValue e) _).run P w = _
    rw [run_bind_ok hz']
    show (match Instr.fill (fun i => some (i * size, size)) ((Array.range (n * size)).map (z.cells[· % z.cells.size]!)) ps.toList with
          | some cells => Sem.bind (newRow e cells) fun a => Sem.pure (Value.slice (some a) n n)
          | _ => stuck "buildSlice: a part of the wrong size" : Sem Value).run P w = _
    simp only [hfill]
    rfl
  unfold eBS eff
  rw [hrun]
  exact k _ _ ⟨h.st.alloc _, fun x hx => by rcases List.mem_cons.1 hx with rfl | hx; exact h.st.size; exact h.own x hx⟩
theorem callV_func {P : Program} {f : FuncId} {a b args : Array Value} {w : World} {K : Value → World → Prop} (hb : bodied P f = true) (h : Cx P f (a ++ args ++ b) w K) : callV P (.func (.func f) a b) args w K := ⟨hb, h⟩
theorem callF_func {P : Program} {f : FuncId} {a b args : Array Value} {w : World} {K : Value → World → Prop} (hb : bodied P f = true) (h : Cx P f (a ++ args ++ b) w K) : callF P (.func (.func f) a b) args w K := ⟨hb, h⟩
end Go.Vc
