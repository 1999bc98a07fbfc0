/-
  Strings: ranges over them, one byte behind another, texts of runes. Over any program.
-/
import Derived.Test.YtlmcppbpobnfjaaDoorVo
import Derived.Laws.RangeString
namespace Go.Vc
open Go

/-- Bytes as a text. -/
abbrev bs (l : List UInt8) : ByteArray := ⟨l.toArray⟩
theorem bs_size (l : List UInt8) : (bs l).size = l.length := by simp [bs, ByteArray.size]
theorem bs_get (l : List UInt8) (i : Nat) (h : i < (bs l).size) : (bs l)[i]'h = l[i]'(by rwa [bs_size] at h) := by
  show l.toArray[i] = _
  simp
theorem bs_toList (l : List UInt8) : (bs l).toList = l := by
  have : ∀ (n i : Nat) (acc : List UInt8), l.length - i = n → ByteArray.toList.loop (bs l) i acc = acc.reverse ++ l.drop i := by
    intro n
    induction n with
    | zero =>
      intro i acc h
      unfold ByteArray.toList.loop
      rw [if_neg (by rw [bs_size]; omega), List.drop_of_length_le (by omega)]; simp
    | succ n ih =>
      intro i acc h
      unfold ByteArray.toList.loop
      have hi : i < l.length := by omega
      rw [if_pos (by rw [bs_size]; omega), ih _ _ (by omega)]
      have : (bs l).get! i = l[i] := by
        show (bs l).data[i]! = _
        simp [bs, hi]
      rw [this, List.drop_eq_getElem_cons hi]
      simp
  show ByteArray.toList.loop (bs l) 0 [] = l
  rw [this l.length 0 [] (by omega)]; simp
theorem bs_append (a b : List UInt8) : bs a ++ bs b = bs (a ++ b) := by
  apply ByteArray.ext
  simp [bs, ByteArray.data_append]
theorem eta_bs (s : ByteArray) : s = bs s.data.toList := by
  cases s; simp [bs]

section
variable {P : Program} {w0 w : World} {L : List (Nat × Obj)}
theorem soRangeS {t : TypeId} {s : ByteArray} {K : Value → World → Prop} (ht : P.underlying t = some .string) (h : So w0 w L) (k : ∀ b w', So w0 w' ((b, .stringIter s 0) :: L) → K (.pointer (some ⟨b, 0, none⟩)) w') : eRange P t (.string s) w K := by
  unfold eRange eff
  rw [run_range_string w t s ht]
  refine k _ _ ⟨h.st.alloc _, fun x hx => ?_⟩
  rcases List.mem_cons.1 hx with rfl | hx
  · exact h.st.size
  · exact h.own x hx
theorem so_setObj {i b : Nat} {o o' : Obj} (h : So w0 w L) (hi : L[i]? = some (b, o)) : So w0 { w with heap := w.heap.setIfInBounds b o' } (L.set i (b, o')) := by
  have hb := h.st.blk _ (List.mem_of_getElem? hi)
  have hlt : b < w.heap.size := (Array.getElem?_eq_some_iff.1 hb).1
  refine ⟨h.st.putI i hi rfl rfl rfl (by simp) ?_ ?_, own_set h.own hi⟩
  · simp [hlt]
  · intro k hk
    simp only [Array.getElem?_setIfInBounds]
    rw [if_neg (fun he => hk he.symm)]
/-- One more byte. -/
theorem soNextS {b pos : Nat} {s : ByteArray} {K : Value → World → Prop} (i : Nat) (h : So w0 w L) (hi : L[i]? = some (b, .stringIter s pos)) (hp : pos < s.size) (ha : (s[pos]'hp).toNat < 128)
    (k : ∀ w', So w0 w' (L.set i (b, .stringIter s (pos + 1))) → K (.tuple #[.bool true, .int .i64 pos, .int .i32 (s[pos]'hp).toNat]) w') : eNext P (.pointer (some ⟨b, 0, none⟩)) true w K := by
  have hb := h.st.blk _ (List.mem_of_getElem? hi)
  have hr : (Instr.next (.pointer (some ⟨b, 0, none⟩)) true 0).run P w = .ok (.tuple #[.bool true, .int .i64 pos, .int .i32 (s[pos]'hp).toNat]) { w with heap := w.heap.setIfInBounds b (.stringIter s (pos + 1)) } := by
    simp only at hb
    simp only [Instr.next, getObj, setObj, Sem.run_bind, Sem.run, hb, Result.andThen, hp, if_true, decode_ascii s pos hp ha]
    simp [goInt, Sem.run, hb]
  unfold eNext eff
  rw [hr]
  exact k _ (so_setObj h hi)
/-- No more. -/
theorem soNextE {b pos : Nat} {s : ByteArray} {K : Value → World → Prop} (i : Nat) (h : So w0 w L) (hi : L[i]? = some (b, .stringIter s pos)) (hp : ¬ pos < s.size)
    (k : K (.tuple #[.bool false]) w) : eNext P (.pointer (some ⟨b, 0, none⟩)) true w K := by
  have hb := h.st.blk _ (List.mem_of_getElem? hi)
  have hr : (Instr.next (.pointer (some ⟨b, 0, none⟩)) true 0).run P w = .ok (.tuple #[.bool false]) w := by
    simp only at hb
    simp [Instr.next, getObj, Sem.run, hb, hp]
  unfold eNext eff
  rw [hr]
  exact k
/-- string(r) of a small rune. -/
theorem eConv_rune {s d : TypeId} {k0 : IntKind} (hs : P.underlying s = some (.int k0)) (hd : P.underlying d = some .string) {k1 : IntKind} {c : UInt8} (hc : c.toNat < 128) {K : Value → World → Prop} (k : K (.string (bs [c])) w) : eConv P s d (.int k1 (c.toNat : Int)) w K := by
  have hv : Utf8.valid (c.toNat : Int) = true := by
    simp [Utf8.valid]; omega
  have he : Utf8.encode (c.toNat : Int) = bs [c] := by
    simp only [Utf8.encode, hv, if_true, Int.toNat_natCast]
    rw [if_pos (by omega)]
    simp [bs]
  have hr : (convert s d (.int k1 (c.toNat : Int))).run P w = .ok (.string (bs [c])) w := by
    show (Sem.bind (underlying s) _).run P w = _
    rw [run_bind_ok (rr_run (pr_rr (pr_underlying hs) w))]
    show (Sem.bind (underlying d) _).run P w = _
    rw [run_bind_ok (rr_run (pr_rr (pr_underlying hd) w))]
    show (Conv.intToString (c.toNat : Int)).run P w = _
    unfold Conv.intToString
    rw [he]; rfl
  unfold eConv eff
  rw [hr]
  exact k
end
theorem xBin_adds {P : Program} (t : TypeId) (cx cy : Bool) (x y : ByteArray) (hs : x.size + y.size ≤ 9223372036854775807) : xBin P .add t cx cy (.string x) (.string y) = some (.string (x ++ y)) := by
  rw [xBin_string]
  show pr P (Op.stringOp .add x y) = _
  have hm : IntKind.i64.max = 9223372036854775807 := rfl
  simp only [Op.stringOp, hm]
  split
  · omega
  · rfl
/-- A chain of cases. -/
theorem case_int {P : Program} {t : TypeId} {cx cy : Bool} {k : IntKind} {a b : Int} {A B : Prop} (h1 : a = b → A) (h2 : ¬ a = b → B) : on (xBin P .eql t cx cy (.int k a) (.int k b)) fun x => cnd x A B := by
  rw [xBin_eql]
  show (if (a == b) = true then A else B)
  by_cases h : a = b
  · rw [if_pos (by simpa using h)]; exact h1 h
  · rw [if_neg (by simpa using h)]; exact h2 h
end Go.Vc
