/-
  Shifts, bits, slices made. Over any program.
-/
import Derived.Test.YtlmcppbpobnfjaaDoorVr
namespace Go.Vc
open Go

section
variable {P : Program} (t : TypeId) (cx cy : Bool) (k k' : IntKind) (a b : Int)
theorem eqGuard_shl (x y : Operand) (op : BinOp) (hop : op = .shl ∨ op = .shr) : eqGuard op t x y (.int k a) (.int k' b) = pure () := by
  rcases hop with rfl | rfl <;> rfl
theorem xBin_shl (h : 0 ≤ b) : xBin P .shl t cx cy (.int k a) (.int k' b) = some (.int k (k.wrap (a * 2 ^ min b.toNat k.bits))) := by
  unfold xBin
  rw [eqGuard_int]
  show pr P (Op.shift .shl k a k' b) = _
  unfold Op.shift
  rw [if_neg (by omega)]
  rfl
theorem xBin_shr (h : 0 ≤ b) : xBin P .shr t cx cy (.int k a) (.int k' b) = some (.int k (a.fdiv (2 ^ min b.toNat k.bits))) := by
  unfold xBin
  rw [eqGuard_int]
  show pr P (Op.shift .shr k a k' b) = _
  unfold Op.shift
  rw [if_neg (by omega)]
  rfl
theorem xBin_or : xBin P .or t cx cy (.int k a) (.int k b) = some (.int k (k.wrap (BitVec.ofInt k.bits a ||| BitVec.ofInt k.bits b).toNat)) := by
  rw [xBin_int]; simp only [binOp, ne_eq, not_true_eq_false, if_false]; rfl
theorem xBin_and : xBin P .and t cx cy (.int k a) (.int k b) = some (.int k (k.wrap (BitVec.ofInt k.bits a &&& BitVec.ofInt k.bits b).toNat)) := by
  rw [xBin_int]; simp only [binOp, ne_eq, not_true_eq_false, if_false]; rfl
theorem xBin_xor : xBin P .xor t cx cy (.int k a) (.int k b) = some (.int k (k.wrap (BitVec.ofInt k.bits a ^^^ BitVec.ofInt k.bits b).toNat)) := by
  rw [xBin_int]; simp only [binOp, ne_eq, not_true_eq_false, if_false]; rfl
end
theorem soMkSl {P : Program} {w0 w : World} {L : List (Nat × Obj)} {t e : TypeId} {z : Value} {size bytes : Nat} (ht : P.underlying t = some (.slice e)) (hr : Row P e z size bytes) (h : So w0 w L) (kl kc : IntKind) (l c : Int) (h0 : 0 ≤ l) (hlc : l ≤ c) (hcells : c.toNat * size ≤ 16777216) (hbytes : (bytes : Int) * c ≤ 281474976710656) (h63 : c ≤ 9223372036854775807)
    {K : Value → World → Prop} (k : ∀ y w', So w0 w' ((y, cl (madeCells z.cells (c.toNat * size)) e) :: L) → K (.slice (some ⟨y, 0, none⟩) l.toNat c.toNat) w') : eMkSl P t (.int kl l) (.int kc c) w K := by
  obtain ⟨i, hi, hz, rfl, rfl⟩ := hr.parts
  unfold eMkSl eff
  rw [run_makeSlice (w := w) t e i z ht hi hz kl kc l c h0 hlc hcells hbytes h63]
  exact k _ _ ⟨h.st.alloc _, fun x hx => by rcases List.mem_cons.1 hx with rfl | hx; exact h.st.size; exact h.own x hx⟩
/-- A block of one's own as a slice. -/
theorem OwnS.of {base e size n y : Nat} {cells : Array Value} (hb : base ≤ y) (hn : n ≤ maxLen) (hc : cells.size = n * size) : OwnS base e size (.slice (some ⟨y, 0, none⟩) n n) n cells.toList [(y, cl cells e)] :=
  ⟨by simpa using hc, .inr ⟨y, n, cells, rfl, rfl, hb, Nat.le_refl _, hn, hc, List.take_of_length_le (by simp [hc])⟩⟩
/-- append(v, y...) of a slice that is not empty. -/
theorem soApp {P : Program} {w0 w : World} {L : List (Nat × Obj)} {t e : TypeId} {z : Value} {size bytes : Nat} (ht : P.underlying t = some (.slice e)) (hr : Row P e z size bytes) (hzs : z.cells.size = size)
    {v : Value} {n : Nat} {xs : List Value} {M : List (Nat × Obj)} (h : So w0 w (M ++ L)) (hown : OwnS w0.heap.size e size v n xs M)
    {a : Addr} {m c : Nat} {news : List Value} (hl : news.length = m * size) (hm : 0 < m) (hnews : ∀ j u, news[j]? = some u → w.cell? (a.add j) = some u) (h1 : ∀ u ∈ news, one1 u = true)
    (h63 : n + m ≤ maxLen) (hbytes : (n + m) * bytes ≤ 140737488355328) {K : Value → World → Prop}
    (k : ∀ v' M' w', OwnS w0.heap.size e size v' (n + m) (xs ++ news) M' → So w0 w' (M' ++ L) → K v' w') : eApp P #[t, t] #[v, .slice (some a) m c] w K :=
  sApp ht hr hzs h.st hown h.st.size (Nat.le_refl _) hl hm hnews h1 h63 hbytes fun v' M' w' ho hs => k v' M' w' ho ⟨hs, fun x hx => by
    rcases List.mem_append.1 hx with hx | hx
    · exact ho.own x hx
    · exact h.own x (List.mem_append_right _ hx)⟩
end Go.Vc
