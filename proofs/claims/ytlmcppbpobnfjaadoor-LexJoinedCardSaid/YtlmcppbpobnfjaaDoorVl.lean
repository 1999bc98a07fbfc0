/-
  Small laws of the conditions' words: what each reading or effect comes to on values that are written out. Over any program.
-/
import Derived.Test.YtlmcppbpobnfjaaDoorVc
namespace Go.Vc
open Go

/-! ## Words that are read off by looking -/
section
variable {P : Program} {w : World} {α : Type}
@[simp] theorem cnd_bool (b : Bool) (A B : Prop) : cnd (.bool b) A B = if b = true then A else B := propext Iff.rfl
@[simp] theorem on_some_eq (v : α) (K : α → Prop) : on (some v) K = K v := propext Iff.rfl
@[simp] theorem on_none_eq (K : α → Prop) : on none K = False := rfl
@[simp] theorem Dr_eq (K : World → Prop) : Dr w K = K w.drew := propext Iff.rfl
@[simp] theorem xNil_ptr (a : Addr) : xNil (.pointer (some a)) = some (.pointer (some a)) := rfl
@[simp] theorem xNil_func (f : FuncId) (x y : Array Value) : xNil (.func (.func f) x y) = some (.func (.func f) x y) := rfl
@[simp] theorem xNil_yield (l : Nat) (x y : Array Value) : xNil (.func (.yield l) x y) = some (.func (.yield l) x y) := rfl
@[simp] theorem xPick_bool (b : Bool) (x y : Value) : xPick (.bool b) x y = some (if b then x else y) := rfl
@[simp] theorem unw_nil (K : World → Prop) : unw [] w K = K w := rfl
@[simp] theorem xRes_ptr (t : TypeId) (a : Addr) : xRes P w t (.pointer (some a)) = xLoad P w t (.pointer (some a)) := rfl

@[simp] theorem xUn_not (b : Bool) : xUn P .not (.bool b) = some (.bool !b) := rfl
@[simp] theorem xUn_neg (k : IntKind) (n : Int) : xUn P .neg (.int k n) = some (.int k (k.wrap (0 - n))) := rfl
@[simp] theorem xEx_tuple (vs : Array Value) (i : Nat) : xEx P (.tuple vs) i = vs[i]? := by
  unfold xEx Instr.extract
  cases h : vs[i]? with
  | none => simp only [h]; rfl
  | some v => simp only [h]; rfl

theorem eqGuard_int (op : BinOp) (t : TypeId) (x y : Operand) (k k' : IntKind) (a b : Int) : eqGuard op t x y (.int k a) (.int k' b) = pure () := by
  cases op <;> rfl
theorem eqGuard_string (op : BinOp) (t : TypeId) (x y : Operand) (a b : ByteArray) : eqGuard op t x y (.string a) (.string b) = pure () := by
  cases op <;> rfl
theorem eqGuard_bool (op : BinOp) (t : TypeId) (x y : Operand) (a b : Bool) : eqGuard op t x y (.bool a) (.bool b) = pure () := by
  cases op <;> rfl
theorem eqGuard_ptr (op : BinOp) (t : TypeId) (x y : Operand) (a b : Option Addr) : eqGuard op t x y (.pointer a) (.pointer b) = pure () := by
  cases op <;> rfl
theorem eqGuard_slice (op : BinOp) (t : TypeId) (x y : Operand) (a b : Option Addr) (n c n' c' : Nat) : eqGuard op t x y (.slice a n c) (.slice b n' c') = pure () := by
  cases op <;> rfl
theorem pr_pure_bind {α β : Type} (a : α) (f : α → Sem β) : pr P ((pure a : Sem α) >>= f) = pr P (f a) := rfl

section
variable (t : TypeId) (cx cy : Bool) (k : IntKind) (a b : Int)
theorem xBin_int (op : BinOp) : xBin P op t cx cy (.int k a) (.int k b) = pr P (binOp op t (.int k a) (.int k b)) := by
  unfold xBin; rw [eqGuard_int]; rfl
@[simp] theorem xBin_add : xBin P .add t cx cy (.int k a) (.int k b) = some (.int k (k.wrap (a + b))) := by
  rw [xBin_int]; simp only [binOp, ne_eq, not_true_eq_false, if_false]; rfl
@[simp] theorem xBin_sub : xBin P .sub t cx cy (.int k a) (.int k b) = some (.int k (k.wrap (a - b))) := by
  rw [xBin_int]; simp only [binOp, ne_eq, not_true_eq_false, if_false]; rfl
@[simp] theorem xBin_mul : xBin P .mul t cx cy (.int k a) (.int k b) = some (.int k (k.wrap (a * b))) := by
  rw [xBin_int]; simp only [binOp, ne_eq, not_true_eq_false, if_false]; rfl
@[simp] theorem xBin_eql : xBin P .eql t cx cy (.int k a) (.int k b) = some (.bool (a == b)) := by
  rw [xBin_int]; simp only [binOp, ne_eq, not_true_eq_false, if_false]; rfl
@[simp] theorem xBin_neq : xBin P .neq t cx cy (.int k a) (.int k b) = some (.bool (a != b)) := by
  rw [xBin_int]; simp only [binOp, ne_eq, not_true_eq_false, if_false]; rfl
@[simp] theorem xBin_lss : xBin P .lss t cx cy (.int k a) (.int k b) = some (.bool (decide (a < b))) := by
  rw [xBin_int]; simp only [binOp, ne_eq, not_true_eq_false, if_false]; rfl
@[simp] theorem xBin_leq : xBin P .leq t cx cy (.int k a) (.int k b) = some (.bool (decide (a ≤ b))) := by
  rw [xBin_int]; simp only [binOp, ne_eq, not_true_eq_false, if_false]; rfl
@[simp] theorem xBin_gtr : xBin P .gtr t cx cy (.int k a) (.int k b) = some (.bool (decide (a > b))) := by
  rw [xBin_int]; simp only [binOp, ne_eq, not_true_eq_false, if_false]; rfl
@[simp] theorem xBin_geq : xBin P .geq t cx cy (.int k a) (.int k b) = some (.bool (decide (a ≥ b))) := by
  rw [xBin_int]; simp only [binOp, ne_eq, not_true_eq_false, if_false]; rfl
theorem xBin_quo (h : b ≠ 0) : xBin P .quo t cx cy (.int k a) (.int k b) = some (.int k (k.wrap (a.tdiv b))) := by
  rw [xBin_int]; simp only [binOp, ne_eq, not_true_eq_false, if_false, Op.intDiv, h]; rfl
theorem xBin_rem (h : b ≠ 0) : xBin P .rem t cx cy (.int k a) (.int k b) = some (.int k (a.tmod b)) := by
  rw [xBin_int]; simp only [binOp, ne_eq, not_true_eq_false, if_false, Op.intDiv, h]; rfl
theorem xBin_string (op : BinOp) (x y : ByteArray) : xBin P op t cx cy (.string x) (.string y) = pr P (binOp op t (.string x) (.string y)) := by
  unfold xBin; rw [eqGuard_string]; rfl
@[simp] theorem xBin_eqls (x y : ByteArray) : xBin P .eql t cx cy (.string x) (.string y) = some (.bool (x.toList == y.toList)) := by
  rw [xBin_string]; rfl
@[simp] theorem xBin_neqs (x y : ByteArray) : xBin P .neq t cx cy (.string x) (.string y) = some (.bool !(x.toList == y.toList)) := by
  rw [xBin_string]; rfl
end

/-! ## Memory -/

/-- The cells from a on, one behind the other. -/
def rdN (w : World) (a : Addr) (i : Nat) : Nat → Option (List Value)
  | 0 => some []
  | n + 1 => match w.cell? (a.add i), rdN w a (i + 1) n with
    | some v, some vs => some (v :: vs)
    | _, _ => none

theorem rr_loadFrom {a : Addr} : ∀ {n i : Nat} {acc : Array Value} {vs : List Value}, rdN w a i n = some vs → rr P w (loadCellsFrom a i n acc) = some (acc ++ vs.toArray)
  | 0, i, acc, vs, h => by simp only [rdN, Option.some.injEq] at h; subst h; simp [loadCellsFrom, rr, pure]
  | n + 1, i, acc, vs, h => by
    simp only [rdN] at h
    split at h
    · rename_i v vs' hv hvs
      cases h
      show rr P w (Sem.bind (load (a.add i)) _) = _
      have h1 : rr P w (load (a.add i)) = some v := by simp only [load, rr, hv]
      rw [rr_bind h1, rr_loadFrom hvs]
      simp
    · cases h

def isAggT (P : Program) (t : TypeId) : Bool :=
  match P.underlying t with
  | some (.struct _) | some (.array _ _) => true
  | _ => false
def known (P : Program) (t : TypeId) : Bool := (P.underlying t).isSome && (P.info? t).isSome

theorem rr_underlying {t : TypeId} (h : known P t = true) : ∃ d, P.underlying t = some d ∧ rr P w (underlying t) = some d := by
  simp only [known, Bool.and_eq_true] at h
  cases hu : P.underlying t with
  | none => rw [hu] at h; simp at h
  | some d =>
    refine ⟨d, rfl, ?_⟩
    show rr P w (Sem.bind program _) = _
    rw [rr_bind (a := P) rfl, hu]; rfl

theorem rr_isAgg {t : TypeId} (h : known P t = true) : rr P w (isAgg t) = some (isAggT P t) := by
  obtain ⟨d, hd, hr⟩ := rr_underlying (w := w) h
  show rr P w (Sem.bind (underlying t) _) = _
  rw [rr_bind hr]
  unfold isAggT
  rw [hd]
  cases d <;> rfl
theorem rr_sizeOf {t : TypeId} (h : known P t = true) : rr P w (sizeOf t) = some (P.cellsOf t) := by
  simp only [known, Bool.and_eq_true] at h
  cases hi : P.info? t with
  | none => rw [hi] at h; simp at h
  | some i =>
    show rr P w (Sem.bind (Sem.bind program _) _) = _
    have h1 : rr P w (Sem.bind program fun p => match p.info? t with | some i => Sem.pure i | none => stuck "no such type") = some i := by
      rw [rr_bind (a := P) rfl, hi]; rfl
    refine (rr_bind h1).trans ?_
    simp only [Program.cellsOf, hi]; rfl

theorem xLoad_one {t : TypeId} (h : known P t = true) (hA : isAggT P t = false) (a : Addr) : xLoad P w t (.pointer (some a)) = w.cell? a := by
  show rr P w (Sem.bind (isAgg t) _) = _
  rw [rr_bind (rr_isAgg h), hA]
  show rr P w (load a) = _
  simp only [load, rr]
  cases w.cell? a <;> rfl
theorem xLoad_agg {t n : Nat} (h : known P t = true) (hA : isAggT P t = true) (hn : P.cellsOf t = n) (a : Addr) {vs : List Value} (hr : rdN w a 0 n = some vs) : xLoad P w t (.pointer (some a)) = some (.agg vs.toArray) := by
  show rr P w (Sem.bind (isAgg t) _) = _
  rw [rr_bind (rr_isAgg h), hA]
  show rr P w (Sem.bind (sizeOf t) _) = _
  rw [rr_bind (rr_sizeOf h), hn]
  show rr P w (Sem.bind (loadCellsFrom a 0 n #[]) _) = _
  rw [rr_bind (rr_loadFrom hr)]
  simp [rr, pure]

/-! ## Effects -/

@[simp] theorem eBox_eq (t : TypeId) (v : Value) (K : Value → World → Prop) : eBox P t v w K = K (.pointer (some ⟨w.heap.size, 0, none⟩)) (w.alloc (.cells v.cells t)) := rfl

theorem eAlloc_eq {t : TypeId} {i : TypeInfo} {z : Value} (hi : P.info? t = some i) (hz : i.zero = some z) (K : Value → World → Prop) : eAlloc P t w K = K (.pointer (some ⟨w.heap.size, 0, none⟩)) (w.alloc (.cells z.cells t)) := by
  have hz' : (zeroValue t).run P w = .ok z w := by
    show (Sem.bind (Sem.bind program _) _).run P w = _
    have h1 : (Sem.bind program fun p => match p.info? t with | some i => Sem.pure i | none => stuck "no such type").run P w = .ok i w := by
      apply rr_run; rw [rr_bind (a := P) rfl, hi]; rfl
    refine (run_bind_ok h1).trans ?_
    rw [hz]; rfl
  unfold eAlloc eff
  have : (Instr.alloc t true (.tuple #[])).run P w = .ok (.pointer (some ⟨w.heap.size, 0, none⟩)) (w.alloc (.cells z.cells t)) := by
    show (Sem.bind (zeroValue t) _).run P w = _
    rw [run_bind_ok hz']; rfl
  rw [this]

def one1 : Value → Bool
  | .agg _ | .tuple _ => false
  | _ => true
/-- The cells from a on are written. -/
def wrN (w : World) (a : Addr) (i : Nat) : List Value → World
  | [] => w
  | v :: vs => wrN (w.setCell (a.add i) v) a (i + 1) vs
/-- They may be written. -/
def okN (w : World) (a : Addr) (i : Nat) : List Value → Prop
  | [] => True
  | v :: vs => one1 v = true ∧ (w.cell? (a.add i)).isSome = true ∧ w.frozen? (a.add i) = false ∧ okN (w.setCell (a.add i) v) a (i + 1) vs

theorem run_storeCells {a : Addr} : ∀ {vs : List Value} {i : Nat} {w : World}, okN w a i vs → (storeCells a vs i).run P w = .ok () (wrN w a i vs)
  | [], i, w, _ => by unfold storeCells; rfl
  | v :: vs, i, w, h => by
    obtain ⟨h1, h2, h3, h4⟩ := h
    have hs : (store (a.add i) v).run P w = .ok () (w.setCell (a.add i) v) := by
      cases hc : w.cell? (a.add i) with
      | none => rw [hc] at h2; cases h2
      | some u =>
        cases v <;> simp [one1] at h1 <;> simp [store, Sem.run, hc, h3]
    unfold storeCells
    show (Sem.bind (store (a.add i) v) _).run P w = _
    rw [run_bind_ok hs]
    exact run_storeCells h4

theorem eStore_eq {t n : Nat} (h : known P t = true) (hn : P.cellsOf t = n) {a : Addr} {v : Value} (hv : v.cells.size = n) (ho : okN w a 0 v.cells.toList) (K : World → Prop) : eStore P t (.pointer (some a)) v w K = K (wrN w a 0 v.cells.toList) := by
  unfold eStore effU
  have : (Instr.storeAt t (.pointer (some a)) v).run P w = .ok () (wrN w a 0 v.cells.toList) := by
    show (Sem.bind (sizeOf t) _).run P w = _
    rw [run_bind_ok (rr_run (rr_sizeOf h)), hn]
    simp only [hv, ne_eq, not_true_eq_false, if_false]
    exact run_storeCells ho
  rw [this]
end

end Go.Vc
