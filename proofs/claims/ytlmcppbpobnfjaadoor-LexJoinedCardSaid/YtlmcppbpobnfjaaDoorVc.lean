/-
  A verification condition computed from the model's code of a Go function, over an environment (slot to value) and a world, and its soundness: what it says implies the run's contract. No project text.
-/
import Derived.Deep.LoopGhost
import Derived.Still
import Derived.Deep.Draws
import Derived.Below
import Derived.Scope
import Derived.Sort.LoopGhostIn
import Derived.RangeFuncIn
import Derived.RangeFuncLeaves
import Derived.DefersIn
import Derived.OrdersIn
namespace Go.Vc
open Go

/-- The call returns a value, and Q holds of it and of the world behind. -/
def Cx (P : Program) (f : FuncId) (args : Array Value) (w : World) (Q : Value → World → Prop) : Prop :=
  Calls P f args w fun e w' => ∃ v, e = .returned v ∧ Q v w'

theorem Cx.mono {P : Program} {f : FuncId} {args : Array Value} {w : World} {Q Q' : Value → World → Prop} (h : Cx P f args w Q) (hq : ∀ v w', Q v w' → Q' v w') : Cx P f args w Q' :=
  Calls.mono h fun _ w' ⟨v, he, q⟩ => ⟨v, he, hq v w' q⟩

theorem Cx.of {P : Program} {f : FuncId} {args : Array Value} {w : World} {R : Ending → World → Prop} {Q : Value → World → Prop} (h : Calls P f args w R) (hr : ∀ e w', R e w' → ∃ v, e = .returned v ∧ Q v w') : Cx P f args w Q :=
  Calls.mono h hr

/-! ## Environments -/

/-- What the slots hold, and the blocks of the deferred calls that ranges over functions have laid. -/
structure Env where
  t : Nat → Value
  d : List Nat
instance : CoeFun Env (fun _ => Nat → Value) := ⟨Env.t⟩
def Env.put (N : Nat) (ρ : Env) (dst : Option Tmp) (v : Value) : Env :=
  match dst with
  | none => ρ
  | some d => ⟨fun j => bif Nat.beq j d && Nat.blt d N then v else ρ.t j, ρ.d⟩
def Env.ev (ρ : Env) : Operand → Value
  | .tmp t => ρ.t t
  | .const v => v
  | .global g => .pointer (some ⟨g, 0, none⟩)
  | .func f => .func (.func f) #[] #[]
def mkE (a : Act) (D : List Nat) : Env := ⟨fun i => a.tmps.getD i undef, D⟩
def env0 (args : List Value) : Env := ⟨fun i => args.getD i undef, []⟩

theorem eval_eq (a : Act) (D : List Nat) : a.eval = (mkE a D).ev := by funext x; cases x <;> rfl

theorem mkE_put (a : Act) (D : List Nat) (d : Option Tmp) (v : Value) : mkE (a.put d v) D = (mkE a D).put a.tmps.size d v := by
  cases d with
  | none => rfl
  | some d =>
    simp only [mkE, Act.put, Env.put, Env.mk.injEq, and_true]
    funext j
    simp only [cond_eq_ite, Bool.and_eq_true, Nat.blt_eq]
    by_cases hj : j = d
    · subst hj
      by_cases hs : j < a.tmps.size
      · simp [hs]
      · simp [hs]
    · have h2 : d ≠ j := fun h => hj h.symm
      have h3 : ¬ Nat.beq j d = true := by simpa [Nat.beq_eq] using hj
      simp [h3, Array.getElem?_setIfInBounds_ne h2]

theorem size_put (a : Act) (d : Option Tmp) (v : Value) : (a.put d v).tmps.size = a.tmps.size := by cases d <;> simp [Act.put]
theorem defers_put (a : Act) (d : Option Tmp) (v : Value) : (a.put d v).defers = a.defers := by cases d <;> rfl

/-! ## Runs that leave the world alone -/

/-- The value, where the run only reads. -/
def rr {α : Type} (p : Program) (w : World) : Sem α → Option α
  | .pure a => some a
  | .load _ a k => match w.cell? a with
    | some v => rr p w (k v)
    | none => none
  | .shape r k => rr p w (k (w.shape? r))
  | .frozen a k => rr p w (k (w.frozen? a))
  | .getObj r k => match w.heap[r]? with
    | some (.cells ..) => none
    | some o => rr p w (k o)
    | none => none
  | .program k => rr p w (k p)
  | _ => none

theorem rr_run {α : Type} {p : Program} {w : World} {s : Sem α} {a : α} (h : rr p w s = some a) : s.run p w = .ok a w := by
  induction s with
  | pure b => simp only [rr, Option.some.injEq] at h; subst h; rfl
  | load m ad k ih =>
    simp only [rr] at h
    simp only [Sem.run]
    cases hv : w.cell? ad with
    | some v => rw [hv] at h; exact ih v h
    | none => rw [hv] at h; cases h
  | shape r k ih => exact ih _ h
  | frozen ad k ih => exact ih _ h
  | getObj r k ih =>
    simp only [rr] at h
    simp only [Sem.run]
    cases ho : w.heap[r]? with
    | none => rw [ho] at h; cases h
    | some o => cases o <;> rw [ho] at h <;> first | cases h | exact ih _ h
  | program k ih => exact ih _ h
  | _ => simp [rr] at h

/-- The value, where the run doesn't look at the world. -/
def pr {α : Type} (p : Program) : Sem α → Option α
  | .pure a => some a
  | .program k => pr p (k p)
  | _ => none

theorem pr_rr {α : Type} {p : Program} {s : Sem α} {a : α} (h : pr p s = some a) (w : World) : rr p w s = some a := by
  induction s with
  | pure b => exact h
  | program k ih => exact ih _ h
  | _ => simp [pr] at h

theorem rr_bind {α β : Type} {p : Program} {w : World} {s : Sem α} {f : α → Sem β} {a : α} (h : rr p w s = some a) : rr p w (s.bind f) = rr p w (f a) := by
  induction s with
  | pure b => simp only [rr, Option.some.injEq] at h; subst h; rfl
  | load m ad k ih =>
    simp only [rr, Sem.bind] at h ⊢
    split at h
    · rename_i v hv; exact ih v h
    · cases h
  | shape r k ih => exact ih _ h
  | frozen ad k ih => exact ih _ h
  | getObj r k ih =>
    simp only [rr, Sem.bind] at h ⊢
    split at h
    · cases h
    · rename_i o hno ho
      exact ih _ h
    · cases h
  | program k ih => exact ih _ h
  | _ => simp [rr] at h

theorem rr_value {p : Program} {w : World} {s : Sem Value} {v : Value} (h : rr p w s = some v) : rr p w (do pure (Next.value (← s)) : Sem Next) = some (.value v) := by
  show rr p w (s.bind fun x => .pure (Next.value x)) = _
  rw [rr_bind h]; rfl

def on {α : Type} (o : Option α) (K : α → Prop) : Prop :=
  match o with
  | some v => K v
  | none => False
theorem on_some {α : Type} (v : α) (K : α → Prop) : on (some v) K = K v := rfl
theorem on_iff {α : Type} {o : Option α} {K : α → Prop} : on o K ↔ ∃ v, o = some v ∧ K v := by
  cases o <;> simp [on]
theorem on_mono {α : Type} {o : Option α} {K K' : α → Prop} (h : ∀ v, K v → K' v) (hh : on o K) : on o K' := by
  cases o with
  | none => exact hh
  | some v => exact h v hh
theorem on_of {α : Type} {o : Option α} {K : α → Prop} {v : α} (h : o = some v) (k : K v) : on o K := by subst h; exact k

def cnd (v : Value) (A B : Prop) : Prop :=
  match v with
  | .bool b => if b = true then A else B
  | _ => False

/-- An effect: what is run may change the world. -/
def eff (P : Program) (s : Sem Value) (w : World) (K : Value → World → Prop) : Prop :=
  match s.run P w with
  | .ok v w' => K v w'
  | .halt _ _ => False
def effU (P : Program) (s : Sem Unit) (w : World) (K : World → Prop) : Prop :=
  match s.run P w with
  | .ok _ w' => K w'
  | .halt _ _ => False

/-! ## Operations -/

def isC : Operand → Bool
  | .const _ => true
  | _ => false
def evs (ρ : Env) (xs : Array Operand) : Array Value := (xs.toList.map ρ.ev).toArray
theorem evs_eq (ρ : Env) (xs : Array Operand) : xs.map ρ.ev = evs ρ xs := by
  apply Array.toList_inj.1; simp [evs]
def evo (ρ : Env) : Option Operand → Option Value
  | some x => some (ρ.ev x)
  | none => none
def evp (ρ : Env) (ps : Array (Nat × Operand)) : Array (Nat × Value) := (ps.toList.map fun p => (p.1, ρ.ev p.2)).toArray

def xLoad (P : Program) (w : World) (t : TypeId) (x : Value) : Option Value := rr P w (Instr.loadAt t x)
def xNil : Value → Option Value
  | .pointer none | .nilIface | .nilFunc => none
  | .func (.method _) _ _ => none
  | x => some x
def xBin (P : Program) (op : BinOp) (t : TypeId) (cx cy : Bool) (x y : Value) : Option Value :=
  pr P (do eqGuard op t (if cx then .const x else .tmp 0) (if cy then .const y else .tmp 0) x y; binOp op t x y)
def xUn (P : Program) (op : UnOp) (x : Value) : Option Value := pr P (Op.unary op x)
def xConv (P : Program) (s d : TypeId) (x : Value) : Option Value := pr P (convert s d x)
def xMkI (P : Program) (t : TypeId) (x : Value) : Option Value := pr P (Instr.makeInterface t x)
def xFA (P : Program) (s : TypeId) (x : Value) (f : Nat) : Option Value := pr P (Instr.fieldAt s x f)
def xFld (P : Program) (s : TypeId) (x : Value) (f : Nat) : Option Value := pr P (Instr.field s x f)
def xIA (P : Program) (t : TypeId) (x i : Value) : Option Value := pr P (Instr.indexAt t x i)
def xIx (P : Program) (t : TypeId) (x i : Value) : Option Value := pr P (Instr.index t x i)
def xSl (P : Program) (t : TypeId) (x : Value) (lo hi mx : Option Value) : Option Value := pr P (Instr.sliceAt t x lo hi mx)
def xBuild (P : Program) (t : TypeId) (ps : Array (Nat × Value)) : Option Value := pr P (Instr.build t ps)
def xEx (P : Program) (x : Value) (i : Nat) : Option Value := pr P (Instr.extract x i)
def xLk (P : Program) (w : World) (t : TypeId) (m k : Value) (ok : Bool) : Option Value := rr P w (Instr.lookup t m k ok)
def xLen (P : Program) (w : World) (ts : Array TypeId) (xs : Array Value) : Option Value := rr P w (Builtin.len_ ts 0 xs)
def xCap (P : Program) (w : World) (ts : Array TypeId) (xs : Array Value) : Option Value := rr P w (Builtin.cap_ ts 0 xs)
def xMax (P : Program) (xs : Array Value) : Option Value := pr P (Builtin.max_ #[] 0 xs)
def xMin (P : Program) (xs : Array Value) : Option Value := pr P (Builtin.min_ #[] 0 xs)
def xPick (c x y : Value) : Option Value :=
  match c with
  | .bool b => some (if b then x else y)
  | _ => none

/-- Is a conversion one that makes no memory, by its types? -/
def plainConv (P : Program) (s d : TypeId) : Bool :=
  match P.underlying d with
  | some (.slice _) => false
  | some .string => match P.underlying s with
    | some .string => true
    | _ => false
  | _ => true

/-- Does an operation leave the world alone, by its kind? -/
def readish (P : Program) : Op → Bool
  | .move _ | .assign _ | .pick .. | .load .. | .nilCheck _ | .binOp .. | .unOp .. | .makeInterface .. | .makeFunc .. | .fieldAddr .. | .field ..
  | .indexAddr .. | .index .. | .slice .. | .build .. | .extract .. | .lookup .. => true
  | .convert s d _ => plainConv P s d
  | .call { callee := .builtin .len, .. } | .call { callee := .builtin .cap, .. } | .call { callee := .builtin .max, .. } | .call { callee := .builtin .min, .. } => true
  | _ => false
/-- May what it yields hang on the world? -/
def looks : Op → Bool
  | .load .. | .lookup .. => true
  | .call { callee := .builtin .len, .. } | .call { callee := .builtin .cap, .. } => true
  | _ => false

/-- What a reading operation yields. -/
def rv (P : Program) (o : Op) (ρ : Env) (w : World) : Option Value :=
  match o with
  | .move x | .assign x => some (ρ.ev x)
  | .pick c a b => xPick (ρ.ev c) (ρ.ev a) (ρ.ev b)
  | .load t x => xLoad P w t (ρ.ev x)
  | .nilCheck x => xNil (ρ.ev x)
  | .binOp op t x y _ => xBin P op t (isC x) (isC y) (ρ.ev x) (ρ.ev y)
  | .unOp op _ x => xUn P op (ρ.ev x)
  | .convert s d x => xConv P s d (ρ.ev x)
  | .makeInterface t x => xMkI P t (ρ.ev x)
  | .makeFunc fn first captured => some (.func fn (evs ρ first) (evs ρ captured))
  | .fieldAddr s x f => xFA P s (ρ.ev x) f
  | .field s x f => xFld P s (ρ.ev x) f
  | .indexAddr t x i => xIA P t (ρ.ev x) (ρ.ev i)
  | .index t x i => xIx P t (ρ.ev x) (ρ.ev i)
  | .slice t x lo hi mx => xSl P t (ρ.ev x) (evo ρ lo) (evo ρ hi) (evo ρ mx)
  | .build t ps => xBuild P t (evp ρ ps)
  | .extract x i => xEx P (ρ.ev x) i
  | .lookup t m k ok => xLk P w t (ρ.ev m) (ρ.ev k) ok
  | .call { callee := .builtin .len, args, argTypes } => xLen P w argTypes (evs ρ args)
  | .call { callee := .builtin .cap, args, argTypes } => xCap P w argTypes (evs ρ args)
  | .call { callee := .builtin .max, args, .. } => xMax P (evs ρ args)
  | .call { callee := .builtin .min, args, .. } => xMin P (evs ρ args)
  | _ => none

def bodied (P : Program) (f : FuncId) : Bool :=
  match P.funcs[f]? with
  | some fn => fn.body.isSome && !(fn.name == "runtime.NumGoroutine")
  | none => false
/-- A round of a range over a function, as a call of its yield makes it. -/
def Rnd (P : Program) (l : Nat) (f : FuncId) (tmps : Array Value) (assign body : Code) (w : World) (K : Value → World → Prop) : Prop :=
  RoundIn Fence.wide 0 P l f tmps assign body w fun e w' => ∃ v, e = .returned v ∧ K v w'
theorem Rnd.mono {P : Program} {l : Nat} {f : FuncId} {tmps : Array Value} {assign body : Code} {w : World} {K K' : Value → World → Prop} (h : Rnd P l f tmps assign body w K) (hq : ∀ v w', K v w' → K' v w') : Rnd P l f tmps assign body w K' :=
  RoundIn.mono h fun _ w' ⟨v, he, q⟩ => ⟨v, he, hq v w' q⟩
def yieldTmps (ps : Array Tmp) (args T : Array Value) : Array Value := (ps.zip args).foldl (fun tmps (t, a) => tmps.setIfInBounds t a) T
def yieldV (P : Program) (l : Nat) (args : Array Value) (w : World) (K : Value → World → Prop) : Prop :=
  match w.heap[l]? with
  | some (.loop r) => args.size = r.params.size ∧ Rnd P l r.fn (yieldTmps r.params args r.tmps) r.assign r.body w K
  | _ => False
/-- A call of a function value. -/
def callV (P : Program) (f : Value) (args : Array Value) (w : World) (K : Value → World → Prop) : Prop :=
  match f with
  | .func (.func f) first captured => bodied P f = true ∧ Cx P f (first ++ args ++ captured) w K
  | .func (.yield l) first _ => yieldV P l (first ++ args) w K
  | _ => False

theorem callV.mono {P : Program} {f : Value} {args : Array Value} {w : World} {K K' : Value → World → Prop} (h : callV P f args w K) (hq : ∀ v w', K v w' → K' v w') : callV P f args w K' := by
  unfold callV at *
  split
  · exact ⟨h.1, h.2.mono hq⟩
  · simp only [] at h
    unfold yieldV at *
    split
    · rename_i r hr; rw [hr] at h; exact ⟨h.1, h.2.mono hq⟩
    · rename_i hn
      split at h
      · rename_i r hr; exact hn r hr
      · exact h
  · rename_i h1 h2
    split at h
    · exact h1 _ _ _ rfl
    · exact h2 _ _ _ rfl
    · exact h

def eAlloc (P : Program) (t : TypeId) (w : World) (K : Value → World → Prop) : Prop := eff P (Instr.alloc t true (.tuple #[])) w K
def eBox (P : Program) (t : TypeId) (x : Value) (w : World) (K : Value → World → Prop) : Prop := eff P (Instr.box t x) w K
def eBS (P : Program) (t : TypeId) (n : Nat) (ps : Array (Nat × Value)) (w : World) (K : Value → World → Prop) : Prop := eff P (Instr.buildSlice t n ps) w K
def eStore (P : Program) (t : TypeId) (a x : Value) (w : World) (K : World → Prop) : Prop := effU P (Instr.storeAt t a x) w K
def eMkMap (P : Program) (t : TypeId) (r : Option Value) (w : World) (K : Value → World → Prop) : Prop := eff P (Instr.makeMap t r) w K
def eMkSl (P : Program) (t : TypeId) (l c : Value) (w : World) (K : Value → World → Prop) : Prop := eff P (Instr.makeSlice t l c) w K
def eMapUp (P : Program) (t : TypeId) (m k x : Value) (w : World) (K : World → Prop) : Prop := effU P (Instr.mapUpdate t m k x) w K
def eRange (P : Program) (t : TypeId) (x : Value) (w : World) (K : Value → World → Prop) : Prop := eff P (Instr.range t x) w K
def eNext (P : Program) (x : Value) (s : Bool) (w : World) (K : Value → World → Prop) : Prop := eff P (Instr.next x s 0) w K
def eConv (P : Program) (s d : TypeId) (x : Value) (w : World) (K : Value → World → Prop) : Prop := eff P (convert s d x) w K
def eApp (P : Program) (ts : Array TypeId) (xs : Array Value) (w : World) (K : Value → World → Prop) : Prop := eff P (Builtin.append_ ts 0 xs) w K
def eCopy (P : Program) (ts : Array TypeId) (xs : Array Value) (w : World) (K : Value → World → Prop) : Prop := eff P (Builtin.copy_ ts 0 xs) w K
def eClear (P : Program) (ts : Array TypeId) (xs : Array Value) (w : World) (K : Value → World → Prop) : Prop := eff P (Builtin.clear_ ts 0 xs) w K
def eDel (P : Program) (ts : Array TypeId) (xs : Array Value) (w : World) (K : Value → World → Prop) : Prop := eff P (Builtin.delete_ ts 0 xs) w K

/-- An operation that isn't a reading one. -/
def vcE (P : Program) (o : Op) (ρ : Env) (w : World) (K : Value → World → Prop) : Prop :=
  match o with
  | .alloc t => eAlloc P t w K
  | .box t x => eBox P t (ρ.ev x) w K
  | .buildSlice t n ps => eBS P t n (evp ρ ps) w K
  | .store t a x => eStore P t (ρ.ev a) (ρ.ev x) w (K undef)
  | .makeMap t r => eMkMap P t (evo ρ r) w K
  | .makeSlice t l c => eMkSl P t (ρ.ev l) (ρ.ev c) w K
  | .mapUpdate t m k x | .insert t m k x => eMapUp P t (ρ.ev m) (ρ.ev k) (ρ.ev x) w (K undef)
  | .range t x => eRange P t (ρ.ev x) w K
  | .next x s => eNext P (ρ.ev x) s w K
  | .convert s d x => eConv P s d (ρ.ev x) w K
  | .call { callee := .builtin .append, args, argTypes } => eApp P argTypes (evs ρ args) w K
  | .call { callee := .builtin .copy, args, argTypes } => eCopy P argTypes (evs ρ args) w K
  | .call { callee := .builtin .clear, args, argTypes } => eClear P argTypes (evs ρ args) w K
  | .call { callee := .builtin .delete, args, argTypes } => eDel P argTypes (evs ρ args) w K
  | .call { callee := .value (.func f), args, .. } => bif bodied P f then Cx P f (evs ρ args) w K else False
  | .call { callee := .value x, args, .. } => callV P (ρ.ev x) (evs ρ args) w K
  | _ => False

/-- An operation. -/
def vcO (P : Program) (o : Op) (ρ : Env) (w : World) (K : Value → World → Prop) : Prop :=
  match o with
  | .move x | .assign x => K (ρ.ev x) w
  | .makeFunc fn first captured => K (.func fn (evs ρ first) (evs ρ captured)) w
  | o => bif readish P o then on (rv P o ρ w) (fun v => K v w) else vcE P o ρ w K

/-- What an operation's run comes to, if it neither panics nor does anything beyond. -/
def nrm (P : Program) (o : Oper) (a : Act) (w : World) (K : Value → World → Prop) : Prop :=
  match (execOp a.eval o).run P w with
  | .ok (.value v) w' => K v w'
  | .ok .skip w' => K undef w'
  | .ok (.enter f args) w' => Cx P f args w' K
  | .ok (.round l f tmps assign body) w' => Rnd P l f tmps assign body w' K
  | _ => False

theorem nrm_mono {P : Program} {o : Oper} {a : Act} {w : World} {K K' : Value → World → Prop} (h : ∀ v w', K v w' → K' v w') (hh : nrm P o a w K) : nrm P o a w K' := by
  unfold nrm at *
  generalize (execOp a.eval o).run P w = r at *
  cases r with
  | ok n w' => cases n <;> first | exact h _ _ hh | exact hh.elim | exact Cx.mono hh h | exact Rnd.mono hh h
  | halt x w' => exact hh.elim

/-- The fence that lets everything in, about a plain frame or a round's. -/
def WF (r : Option Nat) : Fence := { Fence.wide with round := r }

theorem callsIn_WF {P : Program} {r : Option Nat} {f : FuncId} {args : Array Value} {w : World} {R : Ending → World → Prop} (h : Calls P f args w R) : CallsIn (WF r) 0 P f args w R := by
  have h1 : CallsIn Fence.wide 0 P f args w R := callsIn_wide.2 h
  cases r with
  | none => exact h1
  | some l => exact h1

theorem wp_of_nrm {P : Program} {r : Option Nat} {o : Oper} {a : Act} {w : World} {K : Value → World → Prop} {next : Act → World → Prop} {Q : Exit → Act → World → Prop}
    (h : ∀ v w', K v w' → next (a.put o.dst v) w') (hh : nrm P o a w K) : o.wpIn (WF r) 0 P a w next Q := by
  refine ⟨fun _ _ => trivial, ?_⟩
  have hsem : o.semAt r a.eval = execOp a.eval o := by
    refine Oper.semAt_eq _ _ _ fun c hc => ?_
    unfold nrm at hh
    have he : execOp a.eval o = (resolve a.eval c o.type).bind fun d => .pure (Next.defer d) := by
      unfold execOp; rw [hc]; rfl
    rw [he] at hh
    have hb := Sem.run_bind' P (resolve a.eval c o.type) (fun d => .pure (Next.defer d)) w
    rw [hb] at hh
    cases hr : (resolve a.eval c o.type).run P w with
    | ok d w' => rw [hr] at hh; exact hh
    | halt x w' => rw [hr] at hh; exact hh
  show o.uponIn (WF r) 0 P a next Q ((o.semAt r a.eval).run P w)
  rw [hsem]
  unfold nrm at hh
  generalize (execOp a.eval o).run P w = res at *
  cases res with
  | ok n w' =>
    cases n <;> simp only [Oper.uponIn] at hh ⊢ <;> first | exact h _ _ hh | exact hh.elim | skip
    · exact ⟨fun h => (by cases h), CallsIn.mono (callsIn_WF hh) fun e w'' ⟨v, he, q⟩ => by subst he; exact h _ _ q⟩
    · exact ⟨fun h => (by cases h), RoundIn.mono (show RoundIn (WF r) 0 P _ _ _ _ _ _ _ from hh) fun e w'' ⟨v, he, q⟩ => by subst he; exact h _ _ q⟩
  | halt x w' => exact hh.elim

theorem nrm_value {P : Program} {o : Oper} {a : Act} {w w' : World} {K : Value → World → Prop} {v : Value} (h : (execOp a.eval o).run P w = .ok (.value v) w') (k : K v w') : nrm P o a w K := by
  unfold nrm; rw [h]; exact k
theorem nrm_skip {P : Program} {o : Oper} {a : Act} {w w' : World} {K : Value → World → Prop} (h : (execOp a.eval o).run P w = .ok .skip w') (k : K undef w') : nrm P o a w K := by
  unfold nrm; rw [h]; exact k
theorem nrm_round {P : Program} {o : Oper} {a : Act} {w w' : World} {K : Value → World → Prop} {l : Nat} {f : FuncId} {tmps : Array Value} {assign body : Code} (h : (execOp a.eval o).run P w = .ok (.round l f tmps assign body) w') (k : Rnd P l f tmps assign body w' K) : nrm P o a w K := by
  unfold nrm; rw [h]; exact k
theorem nrm_enter {P : Program} {o : Oper} {a : Act} {w w' : World} {K : Value → World → Prop} {f : FuncId} {args : Array Value} (h : (execOp a.eval o).run P w = .ok (.enter f args) w') (k : Cx P f args w' K) : nrm P o a w K := by
  unfold nrm; rw [h]; exact k

theorem run_bind_ok {α β : Type} {P : Program} {s : Sem α} {f : α → Sem β} {w w' : World} {a : α} (h : s.run P w = .ok a w') : (s.bind f).run P w = (f a).run P w' := by
  show Sem.run P (s >>= f) w = _
  rw [Sem.run_bind, h]; rfl

theorem guardC {op : BinOp} {t : TypeId} (x y : Operand) (a b : Value) (u : Operand) (v : Operand) (hu : (u matches .const _) = (x matches .const _)) (hv : (v matches .const _) = (y matches .const _)) :
    eqGuard op t x y a b = eqGuard op t u v a b := by
  cases x <;> cases y <;> cases u <;> cases v <;> simp at hu hv <;> rfl

theorem map_pairs (ρ : Env) (ps : Array (Nat × Operand)) : (ps.map fun (i, x) => (i, ρ.ev x)) = evp ρ ps := by
  apply Array.toList_inj.1; simp [evp]

/-- A reading operation yields what 'rv' says, and leaves the world. -/
theorem run_of_rv {P : Program} {o : Oper} {a : Act} {D : List Nat} {w : World} {v : Value} (hr : readish P o.op = true) (h : rv P o.op (mkE a D) w = some v) : (execOp a.eval o).run P w = .ok (.value v) w := by
  apply rr_run
  obtain ⟨dst, op, type, pos, after, guard⟩ := o
  rw [eval_eq a D]
  cases op <;> simp only [readish, Bool.false_eq_true] at hr <;> simp only [rv] at h <;> simp only [execOp]
  case move x => cases h; rfl
  case assign x => cases h; rfl
  case pick c x y =>
    unfold xPick at h
    split at h
    · rename_i b hb
      cases h
      rw [hb]; rfl
    · cases h
  case load t x => exact rr_value h
  case nilCheck x =>
    unfold xNil at h
    split at h <;> simp_all <;> rfl
  case binOp op t x y yt =>
    refine rr_value ?_
    rw [guardC x y _ _ (if isC x then .const ((mkE a D).ev x) else .tmp 0) (if isC y then .const ((mkE a D).ev y) else .tmp 0) (by cases x <;> rfl) (by cases y <;> rfl)]
    exact pr_rr h w
  case unOp op t x => exact rr_value (pr_rr h w)
  case convert s d x => exact rr_value (pr_rr h w)
  case makeInterface t x => exact rr_value (pr_rr h w)
  case makeFunc fn first captured =>
    cases h
    rw [evs_eq, evs_eq]; rfl
  case fieldAddr s x f => exact rr_value (pr_rr h w)
  case field s x f => exact rr_value (pr_rr h w)
  case indexAddr t x i => exact rr_value (pr_rr h w)
  case index t x i => exact rr_value (pr_rr h w)
  case slice t x lo hi mx =>
    refine rr_value ?_
    have := pr_rr h w
    cases lo <;> cases hi <;> cases mx <;> exact this
  case build t ps => rw [map_pairs]; exact rr_value (pr_rr h w)
  case extract x i => exact rr_value (pr_rr h w)
  case lookup t m k ok => exact rr_value h
  case call c =>
    obtain ⟨callee, args, argTypes⟩ := c
    cases callee with
    | value f => simp at hr
    | invoke r m => simp at hr
    | builtin b =>
      cases b <;> simp at hr <;> simp only [] at h
      case len =>
        show rr P w (do pure (Next.value (← Builtin.len_ argTypes type (args.map (mkE a D).ev))) : Sem Next) = _
        rw [evs_eq]; exact rr_value h
      case cap =>
        show rr P w (do pure (Next.value (← Builtin.cap_ argTypes type (args.map (mkE a D).ev))) : Sem Next) = _
        rw [evs_eq]; exact rr_value h
      case max =>
        show rr P w (do pure (Next.value (← Builtin.max_ argTypes type (args.map (mkE a D).ev))) : Sem Next) = _
        rw [evs_eq]; exact rr_value (pr_rr h w)
      case min =>
        show rr P w (do pure (Next.value (← Builtin.min_ argTypes type (args.map (mkE a D).ev))) : Sem Next) = _
        rw [evs_eq]; exact rr_value (pr_rr h w)

/-- If it doesn't look, it yields the same in every world. -/
theorem rv_world {P : Program} {o : Op} {ρ : Env} {w w' : World} (h : looks o = false) : rv P o ρ w = rv P o ρ w' := by
  cases o <;> simp only [looks, Bool.true_eq_false] at h <;> try rfl
  case call c =>
    obtain ⟨callee, args, argTypes⟩ := c
    cases callee with
    | value f => rfl
    | invoke r m => rfl
    | builtin b => cases b <;> simp at h <;> rfl

theorem eff_value {P : Program} {o : Oper} {a : Act} {s : Sem Value} {w : World} {K : Value → World → Prop} (he : execOp a.eval o = (do pure (Next.value (← s)))) (h : eff P s w K) : nrm P o a w K := by
  unfold eff at h
  split at h
  · rename_i v w' hr
    refine nrm_value (w' := w') ?_ h
    rw [he]
    show (s.bind fun x => .pure (Next.value x)).run P w = _
    rw [run_bind_ok hr]; rfl
  · exact h.elim
theorem eff_skip {P : Program} {o : Oper} {a : Act} {s : Sem Unit} {w : World} {K : Value → World → Prop} (he : execOp a.eval o = (do s; pure Next.skip)) (h : effU P s w (K undef)) : nrm P o a w K := by
  unfold effU at h
  split at h
  · rename_i v w' hr
    refine nrm_skip (w' := w') ?_ h
    rw [he]
    show (s.bind fun _ => .pure Next.skip).run P w = _
    rw [run_bind_ok hr]; rfl
  · exact h.elim

theorem callFunc_run {P : Program} {f : FuncId} {args : Array Value} {w : World} (h : bodied P f = true) : (callFunc f args).run P w = .ok (.enter f args) w := by
  unfold bodied at h
  split at h
  · rename_i fn hf
    simp only [Bool.and_eq_true, Bool.not_eq_true'] at h
    show (Sem.run P (match P.funcs[f]? with
      | none => _
      | some fn => _) w) = _
    rw [hf]
    simp only [h.2, Bool.false_eq_true, if_false]
    have : fn.body.isNone = false := by cases hb : fn.body <;> simp_all
    simp only [this, Bool.false_eq_true, if_false]
    rfl
  · cases h

theorem vcE_ok {P : Program} {o : Oper} {a : Act} {D : List Nat} {w : World} {K : Value → World → Prop} (h : vcE P o.op (mkE a D) w K) : nrm P o a w K := by
  obtain ⟨dst, op, type, pos, after, guard⟩ := o
  cases op <;> simp only [vcE] at h
  case alloc t => exact eff_value rfl h
  case box t x => exact eff_value (by rw [eval_eq a D]; rfl) h
  case buildSlice t n ps => exact eff_value (by rw [eval_eq a D]; simp only [execOp]; rw [map_pairs]) h
  case store t ad x => exact eff_skip (by rw [eval_eq a D]; rfl) h
  case makeMap t r => exact eff_value (by rw [eval_eq a D]; cases r <;> rfl) h
  case makeSlice t l c => exact eff_value (by rw [eval_eq a D]; rfl) h
  case mapUpdate t m k x => exact eff_skip (by rw [eval_eq a D]; rfl) h
  case insert t m k x => exact eff_skip (by rw [eval_eq a D]; rfl) h
  case range t x => exact eff_value (by rw [eval_eq a D]; rfl) h
  case next x s => exact eff_value (by rw [eval_eq a D]; rfl) h
  case convert s d x => exact eff_value (by rw [eval_eq a D]; rfl) h
  case call c =>
    obtain ⟨callee, args, argTypes⟩ := c
    have hev : args.map a.eval = evs (mkE a D) args := by rw [eval_eq a D, evs_eq]
    cases callee with
    | invoke r m => exact h.elim
    | builtin b =>
      cases b <;> simp only [] at h
      case append => exact eff_value (s := Builtin.append_ argTypes type (evs (mkE a D) args)) (by simp only [execOp, resolve, hev]; rfl) h
      case copy => exact eff_value (s := Builtin.copy_ argTypes type (evs (mkE a D) args)) (by simp only [execOp, resolve, hev]; rfl) h
      case clear => exact eff_value (s := Builtin.clear_ argTypes type (evs (mkE a D) args)) (by simp only [execOp, resolve, hev]; rfl) h
      case delete => exact eff_value (s := Builtin.delete_ argTypes type (evs (mkE a D) args)) (by simp only [execOp, resolve, hev]; rfl) h
    | value x =>
      have key : ∀ f first captured, a.eval x = .func (.func f) first captured → bodied P f = true → Cx P f (first ++ evs (mkE a D) args ++ captured) w K →
          nrm P ⟨dst, .call ⟨.value x, args, argTypes⟩, type, pos, after, guard⟩ a w K := by
        intro f first captured hx hb hc
        refine nrm_enter (w' := w) (f := f) (args := first ++ evs (mkE a D) args ++ captured) ?_ hc
        simp only [execOp, resolve, hev, hx]
        exact callFunc_run hb
      have hdyn : callV P ((mkE a D).ev x) (evs (mkE a D) args) w K → nrm P ⟨dst, .call ⟨.value x, args, argTypes⟩, type, pos, after, guard⟩ a w K := by
        intro hv
        unfold callV at hv
        split at hv
        · rename_i f first captured hx
          exact key f first captured (by rw [eval_eq a D]; exact hx) hv.1 hv.2
        · rename_i l first captured hx
          have hx' : a.eval x = .func (.yield l) first captured := by rw [eval_eq a D]; exact hx
          unfold yieldV at hv
          split at hv
          · rename_i rec hrec
            refine nrm_round (w' := w) ?_ hv.2
            simp only [execOp, resolve, hev, hx']
            show (Instr.yield l (first ++ evs (mkE a D) args)).run P w = _
            have hg : (Instr.getLoop l).run P w = .ok rec w := by
              apply rr_run
              show rr P w (Sem.bind (getObj l) _) = _
              have h0 : rr P w (getObj l) = some (.loop rec) := by simp only [getObj, rr, hrec]
              rw [rr_bind h0]; rfl
            show (Sem.bind (Instr.getLoop l) _).run P w = _
            rw [run_bind_ok hg]
            rw [if_neg (by simp [hv.1])]
            rfl
          · exact hv.elim
        · exact hv.elim
      cases x with
      | func f =>
        simp only [] at h
        cases hb : bodied P f with
        | false => rw [hb] at h; exact h.elim
        | true =>
          rw [hb] at h
          exact key f #[] #[] rfl hb (by simpa using h)
      | tmp t => exact hdyn h
      | const v => exact hdyn h
      | global g => exact hdyn h

theorem vcO_ok {P : Program} {o : Oper} {a : Act} {D : List Nat} {w : World} {K : Value → World → Prop} (h : vcO P o.op (mkE a D) w K) : nrm P o a w K := by
  have base : (bif readish P o.op then on (rv P o.op (mkE a D) w) (fun v => K v w) else vcE P o.op (mkE a D) w K) → nrm P o a w K := by
    intro h
    cases hr : readish P o.op with
    | true =>
      rw [hr] at h
      obtain ⟨v, hv, k⟩ := on_iff.1 h
      exact nrm_value (run_of_rv hr hv) k
    | false => rw [hr] at h; exact vcE_ok h
  unfold vcO at h
  split at h
  · rename_i x hx
    exact base (by rw [hx]; exact h)
  · rename_i x hx
    exact base (by rw [hx]; exact h)
  · rename_i fn first captured hx
    exact base (by rw [hx]; exact h)
  · exact base h

/-! ## Guards -/

def tupK (v : Value) (K : Prop) : Prop :=
  match v with
  | .tuple _ => K
  | _ => False

/-- An operation's guard: A where it is wanted, B where not. U: the operations that were not wanted. What the guard holds is written out behind it. -/
def gK (ops : Array Oper) (N : Nat) (U : List Nat) (g : Option (Nat × Bool)) (ρ : Env) (A B : Env → Prop) : Prop :=
  match g with
  | none => A ρ
  | some (j, want) =>
    match (ops[j]?).bind (·.dst) with
    | none => B ρ
    | some d =>
      bif U.any (Nat.beq j) then tupK (ρ d) (B ρ)
      else cnd (ρ d) (bif want then A (ρ.put N (some d) (.bool true)) else B (ρ.put N (some d) (.bool true))) (bif want then B (ρ.put N (some d) (.bool false)) else A (ρ.put N (some d) (.bool false)))

theorem put_same {ρ : Env} {N d : Nat} {v : Value} (h : ρ d = v) : ρ.put N (some d) v = ρ := by
  have : (ρ.put N (some d) v).t = ρ.t := by
    funext j
    simp only [Env.put, cond_eq_ite, Bool.and_eq_true, Nat.beq_eq]
    split
    · rename_i hj; rw [hj.1, h]
    · rfl
  cases ρ
  simp only [Env.put] at this ⊢
  rw [this]

theorem gK_mono {ops : Array Oper} {N : Nat} {U : List Nat} {g : Option (Nat × Bool)} {ρ : Env} {A A' B B' : Env → Prop} (hA : ∀ ρ, A ρ → A' ρ) (hB : ∀ ρ, B ρ → B' ρ) (h : gK ops N U g ρ A B) : gK ops N U g ρ A' B' := by
  cases g with
  | none => exact hA _ h
  | some jw =>
    obtain ⟨j, want⟩ := jw
    unfold gK at *
    simp only [] at *
    cases hd : (ops[j]?).bind (·.dst) with
    | none => rw [hd] at h; exact hB _ h
    | some d =>
      rw [hd] at h
      simp only [] at *
      cases hU : U.any (Nat.beq j) with
      | true =>
        rw [hU] at h
        simp only [cond_true] at *
        unfold tupK at *
        generalize ρ d = x at *
        cases x <;> first | exact h.elim | exact hB _ h
      | false =>
        rw [hU] at h
        simp only [cond_false] at *
        unfold cnd at *
        generalize ρ d = x at *
        cases x <;> first | exact h.elim | skip
        rename_i b
        cases b <;> cases want <;> first | exact hA _ h | exact hB _ h

theorem gK_ok {ops : Array Oper} {N : Nat} {U : List Nat} {o : Oper} {a : Act} {D : List Nat} {A B : Env → Prop} {C : Prop} (h : gK ops N U o.guard (mkE a D) A B)
    (hA : Region.wanted o (yielded ops a.tmps) = true → A (mkE a D) → C) (hB : Region.wanted o (yielded ops a.tmps) = false → B (mkE a D) → C) : C := by
  unfold Region.wanted at hA hB
  cases hg : o.guard with
  | none => rw [hg] at h hA; exact hA rfl h
  | some jw =>
    obtain ⟨j, want⟩ := jw
    rw [hg] at h hA hB
    unfold gK at h
    simp only [] at h hA hB
    unfold yielded at hA hB
    cases hd : (ops[j]?).bind (·.dst) with
    | none => rw [hd] at h hA hB; exact hB rfl h
    | some d =>
      rw [hd] at h hA hB
      simp only [Option.bind_some] at h hA hB
      have he : (mkE a D) d = (a.tmps[d]?).getD undef := by simp [mkE]
      cases hU : U.any (Nat.beq j) with
      | true =>
        rw [hU] at h
        simp only [cond_true] at h
        unfold tupK at h
        rw [he] at h
        cases ht : a.tmps[d]? with
        | none => rw [ht] at h hB; exact hB rfl h
        | some v =>
          rw [ht] at h hB
          simp only [Option.getD_some] at h
          cases v <;> first | exact h.elim | exact hB rfl h
      | false =>
        rw [hU] at h
        simp only [cond_false] at h
        unfold cnd at h
        cases ht : a.tmps[d]? with
        | none => rw [he, ht] at h; exact h.elim
        | some v =>
          have hv : (mkE a D) d = v := by rw [he, ht]; rfl
          rw [hv] at h
          rw [ht] at hA hB
          cases v <;> first | exact h.elim | skip
          rename_i b
          simp only [] at h hA hB
          cases b <;> cases want <;> simp only [cond_true, cond_false, if_true, if_false, Bool.false_eq_true] at h <;> rw [put_same hv] at h <;> first | exact hA rfl h | exact hB rfl h

/-! ## A region in the text's order -/

def vcL (P : Program) (N : Nat) (ops : Array Oper) : List Oper → Nat → List Nat → Env → World → (Env → World → Prop) → Prop
  | [], _, _, ρ, w, K => K ρ w
  | o :: rest, k, U, ρ, w, K =>
    gK ops N U o.guard ρ (fun ρ => vcO P o.op ρ w fun v w => vcL P N ops rest (k + 1) U (ρ.put N o.dst v) w K) (fun ρ => vcL P N ops rest (k + 1) (k :: U) (ρ.put N o.dst undef) w K)

theorem vcL_ok {P : Program} {r : Option Nat} {ops : Array Oper} {Q : Exit → Act → World → Prop} {K : Env → World → Prop} {N : Nat} {ds : List Deferred} {D : List Nat}
    (hQ : ∀ a w, a.tmps.size = N → a.defers = ds → K (mkE a D) w → Q .normal a w) :
    ∀ (l : List Oper) (k m : Nat) (U : List Nat) (a : Act) (w : World), (∀ j, l[j]? = ops[k + j]?) → a.tmps.size = N → a.defers = ds → vcL P N ops l m U (mkE a D) w K → wpOpsIn (WF r) 0 P ops Q (List.range' k l.length) a w
  | [], _, _, _, a, w, _, hs, hd, h => hQ a w hs hd h
  | o :: l, k, m, U, a, w, hl, hs, hd, h => by
    have h0 : ops[k]? = some o := by simpa using (hl 0).symm
    have hl' : ∀ j, l[j]? = ops[k + 1 + j]? := fun j => by
      have := hl (j + 1)
      rw [List.getElem?_cons_succ] at this
      rw [this, show k + (j + 1) = k + 1 + j by omega]
    simp only [List.length_cons, List.range'_succ, wpOpsIn, h0]
    refine gK_ok h (fun hw hA => ?_) (fun hw hB => ?_)
    · rw [if_pos hw]
      refine wp_of_nrm (fun v w' hk => ?_) (vcO_ok hA)
      refine vcL_ok hQ l (k + 1) (m + 1) U _ _ hl' (by rw [size_put]; exact hs) (by rw [defers_put]; exact hd) ?_
      rw [mkE_put, hs]; exact hk
    · rw [if_neg (by simp [hw])]
      refine ⟨fun _ _ => trivial, vcL_ok hQ l (k + 1) (m + 1) (m :: U) _ _ hl' (by rw [size_put]; exact hs) (by rw [defers_put]; exact hd) ?_⟩
      rw [mkE_put, hs]; exact hB

/-! ## A region that draws its order -/

/-- Does operation j stand behind operation i by the region's edges? -/
def waits (ops : Array Oper) : Nat → Nat → Nat → Bool
  | 0, _, _ => false
  | f + 1, j, i =>
    match ops[j]? with
    | some o => o.after.toList.any fun e => Region.binds .any e && (bif Nat.blt e.on i then false else Nat.beq e.on i || waits ops f e.on i)
    | none => false

def Closed (ops : Array Oper) (listed : Array Bool) : Prop :=
  ∀ j oj, ops[j]? = some oj → listed.getD j false = true → ∀ e ∈ oj.after, Region.binds .any e = true → listed.getD e.on false = true

theorem closed_none (ops : Array Oper) (m : Nat) : Closed ops (Array.replicate m false) := by
  intro j oj _ hl
  have : (Array.replicate m false).getD j false = false := by
    rcases Nat.lt_or_ge j m with h | h <;> simp [h]
  rw [this] at hl; cases hl

theorem Closed.set {ops : Array Oper} {listed : Array Bool} {i : Nat} (h : Closed ops listed) (hi : i ∈ Region.ready .any ops listed) : Closed ops (listed.setIfInBounds i true) := by
  obtain ⟨_, oi, hoi, hall⟩ := mem_ready.1 hi
  intro j oj hj hl e he hb
  by_cases hij : i = j
  · subst hij
    have : oj = oi := Option.some.inj (hj.symm.trans hoi)
    subst this
    exact getD_set_true (hall e he hb)
  · rw [getD_set_ne false hij] at hl
    exact getD_set_true (h j oj hj hl e he hb)

theorem not_waits {ops : Array Oper} {listed : Array Bool} (hc : Closed ops listed) {i : Nat} (hi : listed.getD i false = false) :
    ∀ (f j : Nat), (∀ oj, ops[j]? = some oj → ∀ e ∈ oj.after, Region.binds .any e = true → listed.getD e.on false = true) → waits ops f j i = false
  | 0, _, _ => rfl
  | f + 1, j, hj => by
    unfold waits
    cases ho : ops[j]? with
    | none => rfl
    | some o =>
      simp only []
      rw [List.any_eq_false]
      intro e he hcon
      simp only [Bool.and_eq_true] at hcon
      have hl := hj o ho e (by simpa using he) hcon.1
      have h2 := hcon.2
      have hne : e.on ≠ i := fun h => by rw [h, hi] at hl; cases hl
      cases hb : Nat.blt e.on i with
      | true => rw [hb] at h2; cases h2
      | false =>
        rw [hb] at h2
        simp only [cond_false, Bool.or_eq_true, Nat.beq_eq] at h2
        rcases h2 with h2 | h2
        · exact hne h2
        · rw [not_waits hc hi f e.on (fun oj hoj e' he' hb' => hc _ _ hoj hl e' he' hb')] at h2
          cases h2

/-- One operation of a region; behind it the world is as it was, or R holds of the new one. -/
def stepK (P : Program) (ops : Array Oper) (R : Nat → World → Prop) (i : Nat) (K : Act → World → Prop) (a : Act) (w : World) : Prop :=
  match ops[i]? with
  | none => K a w
  | some o => if Region.wanted o (yielded ops a.tmps) then nrm P o a w (fun v w' => (w' = w ∨ R i w') ∧ K (a.put o.dst v) w') else K (a.put o.dst undef) w

/-- Whatever order is picked from here on. -/
def wpAnyK (P : Program) (ops : Array Oper) (R : Nat → World → Prop) (Q : Act → World → Prop) : Nat → Array Bool → Act → World → Prop
  | 0, listed, a, w => Region.ready .any ops listed = [] ∧ Q a w
  | f + 1, listed, a, w => (Region.ready .any ops listed = [] → Q a w) ∧
    ∀ i ∈ Region.ready .any ops listed, stepK P ops R i (wpAnyK P ops R Q f (listed.setIfInBounds i true)) a w

theorem stepK_mono {P : Program} {ops : Array Oper} {R R' : Nat → World → Prop} {i : Nat} {K K' : Act → World → Prop} {a : Act} {w : World} (hR : ∀ w, R i w → R' i w) (h : ∀ a w, K a w → K' a w) (hh : stepK P ops R i K a w) : stepK P ops R' i K' a w := by
  unfold stepK at *
  cases ho : ops[i]? with
  | none => rw [ho] at hh; exact h _ _ hh
  | some o =>
    rw [ho] at hh
    simp only [] at hh ⊢
    split
    · rename_i hw
      rw [if_pos hw] at hh
      exact nrm_mono (fun v w' ⟨h1, h2⟩ => ⟨h1.imp id (hR w'), h _ _ h2⟩) hh
    · rename_i hw
      rw [if_neg hw] at hh
      exact h _ _ hh

theorem wpAny_of_K {P : Program} {r : Option Nat} {ops : Array Oper} {R : Nat → World → Prop} {Q : Act → World → Prop} {Q' : Exit → Act → World → Prop} (hQ : ∀ a w, Q a w → Q' .normal a w) :
    ∀ (f : Nat) (listed : Array Bool) (a : Act) (w : World), wpAnyK P ops R Q f listed a w → wpAnyIn (WF r) 0 P .any ops Q' f listed a w
  | 0, _, _, _, h => ⟨h.1, hQ _ _ h.2⟩
  | f + 1, listed, a, w, h => by
    refine ⟨fun h0 => hQ _ _ (h.1 h0), fun i hi => ?_⟩
    have h1 := h.2 i hi
    unfold stepK at h1
    unfold wpOpIn
    cases ho : ops[i]? with
    | none => rw [ho] at h1; exact wpAny_of_K hQ f _ _ _ h1
    | some o =>
      rw [ho] at h1
      simp only [] at h1 ⊢
      split
      · rename_i hw
        rw [if_pos hw] at h1
        exact wp_of_nrm (fun v w' hk => wpAny_of_K hQ f _ _ _ hk.2) h1
      · rename_i hw
        rw [if_neg hw] at h1
        exact ⟨fun _ _ => trivial, wpAny_of_K hQ f _ _ _ h1⟩

/-- In this state and world the operation leaves v in its slot, and the world. -/
def Yld (P : Program) (ops : Array Oper) (o : Oper) (v : Value) (a : Act) (w : World) : Prop :=
  (Region.wanted o (yielded ops a.tmps) = true ∧ (execOp a.eval o).run P w = .ok (.value v) w) ∨ (Region.wanted o (yielded ops a.tmps) = false ∧ v = undef)

theorem Yld.step {P : Program} {ops : Array Oper} {R : Nat → World → Prop} {i : Nat} {o : Oper} {v : Value} {a : Act} {w : World} {K : Act → World → Prop} (hi : ops[i]? = some o) (hy : Yld P ops o v a w) (h : K (a.put o.dst v) w) : stepK P ops R i K a w := by
  unfold stepK
  simp only [hi]
  rcases hy with ⟨hw, hv⟩ | ⟨hw, rfl⟩
  · rw [if_pos hw]; exact nrm_value hv ⟨.inl rfl, h⟩
  · rw [if_neg (by simp [hw])]; exact h

theorem getD_ff {listed : Array Bool} {i : Nat} (h : listed.getD i true = false) : listed.getD i false = false := by
  rcases Nat.lt_or_ge i listed.size with h' | h'
  · simp [h'] at h ⊢; exact h
  · simp [Array.getElem?_eq_none h'] at h

/-- **A reading operation that may come up now may be taken first.** -/
theorem wpAnyK_first {P : Program} {ops : Array Oper} {R R' : Nat → World → Prop} {Q : Act → World → Prop} {i : Nat} {oi : Oper} {v : Value} (hi : ops[i]? = some oi) (hsel : Region.noSelect ops = true) (hRR : ∀ j w, R j w → R' j w) :
    ∀ (f : Nat) (listed : Array Bool) (a : Act) (w : World), Closed ops listed →
      (∀ j oj, ops[j]? = some oj → j ≠ i → listed.getD j true = false → (∀ e ∈ oj.after, Region.binds .any e = true → e.on ≠ i) → oi.apart ops oj = true) →
      i ∈ Region.ready .any ops listed → Yld P ops oi v a w →
      (∀ j w', waits ops ops.size j i = false → R j w' → Region.wanted oi (yielded ops a.tmps) = true → (execOp a.eval oi).run P w' = .ok (.value v) w') →
      wpAnyK P ops R Q f (listed.setIfInBounds i true) (a.put oi.dst v) w → wpAnyK P ops R' Q (f + 1) listed a w := by
  have hs := Region.noSelect_spec hsel
  intro f
  induction f with
  | zero =>
    intro listed a w hc hfree hr hy hR H
    refine ⟨fun h => (by rw [h] at hr; cases hr), fun j hj => ?_⟩
    by_cases hji : j = i
    · subst hji; exact hy.step hi ⟨H.1, H.2⟩
    · have := ready_mono hj hji
      rw [H.1] at this
      cases this
  | succ f ih =>
    intro listed a w hc hfree hr hy hR H
    refine ⟨fun h => (by rw [h] at hr; cases hr), fun j hj => ?_⟩
    have hiun := (mem_ready.1 hr).1
    by_cases hji : j = i
    · subst hji
      refine hy.step hi ?_
      -- the same, R weakened
      have weak : ∀ (f : Nat) (listed : Array Bool) (a : Act) (w : World), wpAnyK P ops R Q f listed a w → wpAnyK P ops R' Q f listed a w := by
        intro f
        induction f with
        | zero => intro listed a w h; exact h
        | succ f ih => intro listed a w h; exact ⟨h.1, fun k hk => stepK_mono (hRR k) (fun a w => ih _ a w) (h.2 k hk)⟩
      exact weak _ _ _ _ H
    · have h1 := H.2 j (ready_mono hj hji)
      obtain ⟨hjun, oj, hoj, hall⟩ := mem_ready.1 hj
      have hnot : ∀ e ∈ oj.after, Region.binds .any e = true → e.on ≠ i := fun e he hb heq => by
        have h1 := hall e he hb
        rw [heq, getD_ff hiun] at h1
        cases h1
      have hnw : waits ops ops.size j i = false := not_waits hc (getD_ff hiun) _ _ (fun oj' hoj' e he hb => by
        have : oj' = oj := Option.some.inj (hoj'.symm.trans hoj)
        subst this; exact hall e he hb)
      obtain ⟨p1, p2, p3⟩ := Oper.apart_spec (hfree j oj hoj hji hjun hnot)
      have hfree' : ∀ k ok, ops[k]? = some ok → k ≠ i → (listed.setIfInBounds j true).getD k true = false →
          (∀ e ∈ ok.after, Region.binds .any e = true → e.on ≠ i) → oi.apart ops ok = true := fun k ok hk hki hun hno => by
        refine hfree k ok hk hki ?_ hno
        by_cases hjk : j = k
        · subst hjk; exact hjun
        · rw [getD_set_ne true hjk] at hun; exact hun
      have hrun : ∀ (u : Value), execOp (a.put oj.dst u).eval oi = execOp a.eval oi := fun u => execOp_put oi (hs i oi · · hi) a oj.dst u p3
      have hwant : ∀ (u : Value), Region.wanted oi (yielded ops (a.put oj.dst u).tmps) = Region.wanted oi (yielded ops a.tmps) := fun u => wanted_put oi a oj.dst u p3
      have next : ∀ (u : Value) (w' : World), (w' = w ∨ R j w') → wpAnyK P ops R Q f ((listed.setIfInBounds i true).setIfInBounds j true) ((a.put oi.dst v).put oj.dst u) w' →
          wpAnyK P ops R' Q (f + 1) (listed.setIfInBounds j true) (a.put oj.dst u) w' := by
        intro u w' hw' hk
        refine ih _ _ _ (hc.set hj) hfree' (ready_mono hr (Ne.symm hji)) ?_ ?_ ?_
        · rcases hy with ⟨y1, y2⟩ | ⟨y1, y2⟩
          · refine .inl ⟨by rw [hwant]; exact y1, ?_⟩
            rw [hrun]
            rcases hw' with rfl | hw'
            · exact y2
            · exact hR j w' hnw hw' y1
          · exact .inr ⟨by rw [hwant]; exact y1, y2⟩
        · intro k w'' h1 h2 h3
          rw [hrun]
          rw [hwant] at h3
          exact hR k w'' h1 h2 h3
        · rw [Array.setIfInBounds_comm _ _ hji, ← Act.put_comm a v u p2]
          exact hk
      unfold stepK at h1 ⊢
      simp only [hoj] at h1 ⊢
      rw [wanted_put oj a oi.dst v p1] at h1
      split
      · rename_i hw
        rw [if_pos hw] at h1
        unfold nrm at h1 ⊢
        rw [execOp_put oj (hs j oj · · hoj) a oi.dst v p1] at h1
        generalize (execOp a.eval oj).run P w = r at *
        cases r with
        | ok n w' =>
          cases n <;> first
            | exact h1.elim
            | exact ⟨h1.1.imp id (hRR j w'), next _ _ h1.1 h1.2⟩
            | exact Cx.mono h1 fun u w'' hk => ⟨hk.1.imp id (hRR j w''), next _ _ hk.1 hk.2⟩
            | exact Rnd.mono h1 fun u w'' hk => ⟨hk.1.imp id (hRR j w''), next _ _ hk.1 hk.2⟩
        | halt x w' => exact h1.elim
      · rename_i hw
        rw [if_neg hw] at h1
        exact next _ _ (.inl rfl) h1

/-- What was read and must still read so behind operation i, unless i stands behind the reading. -/
def obl (ops : Array Oper) (i : Nat) (w : World) (K : Prop) : List (Nat × (World → Prop)) → Prop
  | [] => K
  | (k, p) :: H => bif waits ops ops.size i k then obl ops i w K H else p w ∧ obl ops i w K H

theorem obl_spec {ops : Array Oper} {i : Nat} {w : World} {K : Prop} : ∀ {H : List (Nat × (World → Prop))}, obl ops i w K H → K ∧ ∀ x ∈ H, waits ops ops.size i x.1 = false → x.2 w
  | [], h => ⟨h, fun _ hx => by cases hx⟩
  | (k, p) :: H, h => by
    unfold obl at h
    cases hw : waits ops ops.size i k with
    | true =>
      rw [hw] at h
      obtain ⟨h1, h2⟩ := obl_spec h
      refine ⟨h1, fun x hx hx' => ?_⟩
      cases hx with
      | head => rw [hw] at hx'; cases hx'
      | tail _ hm => exact h2 x hm hx'
    | false =>
      rw [hw] at h
      obtain ⟨h1, h2⟩ := obl_spec h.2
      refine ⟨h1, fun x hx hx' => ?_⟩
      cases hx with
      | head => exact h.1
      | tail _ hm => exact h2 x hm hx'

/-- Orders: one operation, or one of two. -/
inductive Tr where
  | done
  | one (i : Nat) (t : Tr)
  | two (i : Nat) (t : Tr) (j : Nat) (u : Tr)
def Tr.len : Tr → Nat
  | .done => 0
  | .one _ t => t.len + 1
  | .two _ t _ _ => t.len + 1

abbrev Held := List (Nat × (World → Prop))

/-- One operation of a region in a canonical order; C: what follows. -/
def vcI (P : Program) (N : Nat) (ops : Array Oper) (i : Nat) (U : List Nat) (H : Held) (ρ : Env) (w : World) (C : List Nat → Held → Env → World → Prop) : Prop :=
  match ops[i]? with
  | none => False
  | some o =>
    bif readish P o.op then
      match o.op with
      | .move x | .assign x => gK ops N U o.guard ρ (fun ρ => C U H (ρ.put N o.dst (ρ.ev x)) w) (fun ρ => C (i :: U) H (ρ.put N o.dst undef) w)
      | op => gK ops N U o.guard ρ
        (fun ρ => on (rv P op ρ w) fun v => C U (bif looks op then (i, fun w' => rv P op ρ w' = some v) :: H else H) (ρ.put N o.dst v) w)
        (fun ρ => C (i :: U) H (ρ.put N o.dst undef) w)
    else gK ops N U o.guard ρ
      (fun ρ => vcO P o.op ρ w fun v w' => obl ops i w' (C U H (ρ.put N o.dst v) w') H)
      (fun ρ => C (i :: U) H (ρ.put N o.dst undef) w)

/-- The region's operations in a canonical order. H: what has been read. -/
def vcD (P : Program) (N : Nat) (ops : Array Oper) : Tr → List Nat → Held → Env → World → (Env → World → Prop) → Prop
  | .done, _, _, ρ, w, K => K ρ w
  | .one i t, U, H, ρ, w, K => vcI P N ops i U H ρ w fun U H ρ w => vcD P N ops t U H ρ w K
  | .two i t j u, U, H, ρ, w, K => (vcI P N ops i U H ρ w fun U H ρ w => vcD P N ops t U H ρ w K) ∧ (vcI P N ops j U H ρ w fun U H ρ w => vcD P N ops u U H ρ w K)

def isRead (P : Program) (ops : Array Oper) (i : Nat) : Bool :=
  match ops[i]? with
  | some o => readish P o.op
  | none => false
def isEff (P : Program) (ops : Array Oper) (i : Nat) : Bool :=
  match ops[i]? with
  | some o => !readish P o.op
  | none => false

/-- Is the order one that serves? -/
def chkD (P : Program) (ops : Array Oper) : Tr → Array Bool → Bool
  | .done, listed => (Region.ready .any ops listed).isEmpty
  | .one i t, listed =>
    (bif isRead P ops i then (Region.ready .any ops listed).contains i && Region.free .any ops listed i else isEff P ops i && decide (Region.ready .any ops listed = [i])) &&
    chkD P ops t (listed.setIfInBounds i true)
  | .two i t j u, listed =>
    isEff P ops i && isEff P ops j && decide (Region.ready .any ops listed = [i, j]) && Nat.beq t.len u.len &&
    chkD P ops t (listed.setIfInBounds i true) && chkD P ops u (listed.setIfInBounds j true)

/-- The order: what reads first. -/
def canon (P : Program) (ops : Array Oper) : Nat → Array Bool → Tr
  | 0, _ => .done
  | f + 1, listed =>
    let r := Region.ready .any ops listed
    match r.find? (isRead P ops) with
    | some i => .one i (canon P ops f (listed.setIfInBounds i true))
    | none => match r with
      | [] => .done
      | [i] => .one i (canon P ops f (listed.setIfInBounds i true))
      | i :: j :: _ => .two i (canon P ops f (listed.setIfInBounds i true)) j (canon P ops f (listed.setIfInBounds j true))

def RH (ops : Array Oper) (H : Held) (j : Nat) (w : World) : Prop := ∀ x ∈ H, waits ops ops.size j x.1 = false → x.2 w

theorem vcI_read {P : Program} {N : Nat} {ops : Array Oper} {i : Nat} {U : List Nat} {H : Held} {ρ : Env} {w : World} {C : List Nat → Held → Env → World → Prop} {o : Oper} (hi : ops[i]? = some o) (hr : readish P o.op = true) (h : vcI P N ops i U H ρ w C) :
    gK ops N U o.guard ρ (fun ρ => ∃ v H', rv P o.op ρ w = some v ∧ C U H' (ρ.put N o.dst v) w ∧ (∀ x ∈ H, x ∈ H') ∧ (looks o.op = false ∨ (i, fun w' => rv P o.op ρ w' = some v) ∈ H')) (fun ρ => C (i :: U) H (ρ.put N o.dst undef) w) := by
  unfold vcI at h
  simp only [hi, hr, cond_true] at h
  split at h
  · rename_i x hx
    exact gK_mono (fun ρ hk => ⟨ρ.ev x, H, by rw [hx]; rfl, hk, fun _ h => h, .inl (by rw [hx]; rfl)⟩) (fun _ h => h) h
  · rename_i x hx
    exact gK_mono (fun ρ hk => ⟨ρ.ev x, H, by rw [hx]; rfl, hk, fun _ h => h, .inl (by rw [hx]; rfl)⟩) (fun _ h => h) h
  · refine gK_mono (fun ρ hk => ?_) (fun _ h => h) h
    obtain ⟨v, hv, hk⟩ := on_iff.1 hk
    cases hl : looks o.op with
    | false => rw [hl] at hk; exact ⟨v, H, hv, hk, fun _ h => h, .inl rfl⟩
    | true => rw [hl] at hk; exact ⟨v, _, hv, hk, fun _ h => List.mem_cons_of_mem _ h, .inr (List.mem_cons_self ..)⟩

theorem vcI_eff {P : Program} {N : Nat} {ops : Array Oper} {i : Nat} {U : List Nat} {H : Held} {ρ : Env} {w : World} {C : List Nat → Held → Env → World → Prop} {o : Oper} (hi : ops[i]? = some o) (hr : readish P o.op = false) (h : vcI P N ops i U H ρ w C) :
    gK ops N U o.guard ρ (fun ρ => vcO P o.op ρ w fun v w' => obl ops i w' (C U H (ρ.put N o.dst v) w') H) (fun ρ => C (i :: U) H (ρ.put N o.dst undef) w) := by
  unfold vcI at h
  simp only [hi, hr, cond_false] at h
  exact h

/-- An effect that may come up, by itself. -/
theorem step_of_eff {P : Program} {ops : Array Oper} {K : Act → World → Prop} {N i : Nat} {U : List Nat} {H : Held} {D : List Nat} {ds : List Deferred} {a : Act} {w : World} {C : List Nat → Held → Env → World → Prop}
    (he : isEff P ops i = true) (hs : a.tmps.size = N) (hd : a.defers = ds) (h : vcI P N ops i U H (mkE a D) w C)
    (hK : ∀ a' w' U', a'.tmps.size = N → a'.defers = ds → C U' H (mkE a' D) w' → K a' w') : stepK P ops (RH ops H) i K a w := by
  unfold isEff at he
  cases hi : ops[i]? with
  | none => rw [hi] at he; cases he
  | some o =>
    rw [hi] at he
    have hr : readish P o.op = false := by simpa using he
    have put_eq : ∀ v, mkE (a.put o.dst v) D = (mkE a D).put N o.dst v := fun v => by rw [mkE_put, hs]
    unfold stepK
    simp only [hi]
    refine gK_ok (vcI_eff hi hr h) (fun hw hA => ?_) (fun hw hB => ?_)
    · rw [if_pos hw]
      refine nrm_mono (fun v w' hk => ?_) (vcO_ok hA)
      obtain ⟨h1, h2⟩ := obl_spec hk
      exact ⟨.inr h2, hK _ _ _ (by rw [size_put]; exact hs) (by rw [defers_put]; exact hd) (by rw [put_eq]; exact h1)⟩
    · rw [if_neg (by simp [hw])]
      exact hK _ _ _ (by rw [size_put]; exact hs) (by rw [defers_put]; exact hd) (by rw [put_eq]; exact hB)

theorem vcD_ok {P : Program} {ops : Array Oper} {K : Env → World → Prop} {N : Nat} {ds : List Deferred} {D : List Nat} (hsel : Region.noSelect ops = true) :
    ∀ (t : Tr) (U : List Nat) (H : Held) (listed : Array Bool) (a : Act) (w : World), chkD P ops t listed = true → Closed ops listed → a.tmps.size = N → a.defers = ds →
      vcD P N ops t U H (mkE a D) w K → wpAnyK P ops (RH ops H) (fun a w => a.tmps.size = N ∧ a.defers = ds ∧ K (mkE a D) w) t.len listed a w
  | .done, _, H, listed, a, w, hchk, hc, hs, hd, h => ⟨by simpa [chkD] using hchk, hs, hd, h⟩
  | .two i t j u, U, H, listed, a, w, hchk, hc, hs, hd, h => by
    simp only [chkD, Bool.and_eq_true, decide_eq_true_eq, Nat.beq_eq] at hchk
    obtain ⟨⟨⟨⟨⟨ei, ej⟩, hrd⟩, hlen⟩, ht⟩, hu⟩ := hchk
    refine ⟨fun h0 => (by rw [hrd] at h0; cases h0), fun k hk => ?_⟩
    rw [hrd] at hk
    simp only [List.mem_cons, List.not_mem_nil, or_false] at hk
    rcases hk with rfl | rfl
    · have hrd' : k ∈ Region.ready .any ops listed := by rw [hrd]; simp
      exact step_of_eff ei hs hd h.1 fun a' w' U' q1 q2 q3 => vcD_ok hsel t _ H _ _ _ ht (hc.set hrd') q1 q2 q3
    · have hrd' : k ∈ Region.ready .any ops listed := by rw [hrd]; simp
      refine step_of_eff ej hs hd h.2 fun a' w' U' q1 q2 q3 => ?_
      rw [hlen]
      exact vcD_ok hsel u _ H _ _ _ hu (hc.set hrd') q1 q2 q3
  | .one i t, U, H, listed, a, w, hchk, hc, hs, hd, h => by
    simp only [chkD, Bool.and_eq_true] at hchk
    obtain ⟨hchk, hch⟩ := hchk
    cases hir : isRead P ops i with
    | false =>
      rw [hir] at hchk
      simp only [cond_false, Bool.and_eq_true, decide_eq_true_eq] at hchk
      obtain ⟨ei, hrd⟩ := hchk
      have hrd' : i ∈ Region.ready .any ops listed := by rw [hrd]; simp
      refine ⟨fun h0 => (by rw [hrd] at h0; cases h0), fun j hj => ?_⟩
      rw [hrd] at hj
      have hji : j = i := by simpa using hj
      subst hji
      exact step_of_eff ei hs hd h fun a' w' U' q1 q2 q3 => vcD_ok hsel t _ H _ _ _ hch (hc.set hrd') q1 q2 q3
    | true =>
      rw [hir] at hchk
      simp only [cond_true, Bool.and_eq_true] at hchk
      obtain ⟨hrd, hfr⟩ := hchk
      have hrd' : i ∈ Region.ready .any ops listed := by simpa using hrd
      unfold isRead at hir
      cases hi : ops[i]? with
      | none => rw [hi] at hir; cases hir
      | some o =>
        rw [hi] at hir
        have hr : readish P o.op = true := hir
        have put_eq : ∀ v, mkE (a.put o.dst v) D = (mkE a D).put N o.dst v := fun v => by rw [mkE_put, hs]
        refine gK_ok (vcI_read hi hr h) (fun hw hA => ?_) (fun hw hB => ?_)
        · obtain ⟨v, H', hv, hk, hsub, hold⟩ := hA
          have hrun := run_of_rv (a := a) hr hv
          refine wpAnyK_first (R := RH ops H') hi hsel (fun j w h x hx => h x (hsub x hx)) _ _ _ _ hc (Region.free_spec hi hfr) hrd' (.inl ⟨hw, hrun⟩) ?_ ?_
          · intro j w' hnw hRj _
            rcases hold with hl | hm
            · exact run_of_rv hr (by rw [rv_world hl (w' := w)]; exact hv)
            · exact run_of_rv hr (hRj _ hm hnw)
          · exact vcD_ok hsel t _ H' _ _ _ hch (hc.set hrd') (by rw [size_put]; exact hs) (by rw [defers_put]; exact hd) (by rw [put_eq]; exact hk)
        · refine wpAnyK_first (R := RH ops H) (v := undef) hi hsel (fun j w h => h) _ _ _ _ hc (Region.free_spec hi hfr) hrd' (.inr ⟨hw, rfl⟩) ?_ ?_
          · intro j w' _ _ hw'
            rw [hw] at hw'; cases hw'
          · exact vcD_ok hsel t _ H _ _ _ hch (hc.set hrd') (by rw [size_put]; exact hs) (by rw [defers_put]; exact hd) (by rw [put_eq]; exact hB)

/-! ## Code -/

def chkR (P : Program) (ops : Array Oper) (t : Tr) : Bool :=
  P.follows .mixedOrders && Region.noSelect ops && Nat.beq t.len ops.size && chkD P ops t (Array.replicate ops.size false)

def coll (r : Nat) : Deferred := { target := .collected r, args := #[] }
/-- The frame's deferred calls: marks of ranges over functions; none where m is false. -/
def DOK (m : Bool) (D : List Nat) (a : Act) : Prop := (m = false → D = []) ∧ a.defers = D.map coll
def Post (m : Bool) (N : Nat) (Q : Exit → Env → World → Prop) (e : Exit) (a : Act) (w : World) : Prop := a.tmps.size = N ∧ ∃ D, DOK m D a ∧ Q e (mkE a D) w

/-- What 'vcC' says is meant: whatever frame has these slots. r: of a round of the loop r. m: may the frame bear marks? -/
def Sd (P : Program) (r : Option Nat) (m : Bool) (N : Nat) (c : Code) (ρ : Env) (w : World) (Q : Exit → Env → World → Prop) : Prop :=
  ∀ (a : Act) (D : List Nat), a.tmps.size = N → DOK m D a → mkE a D = ρ → c.wpIn (WF r) 0 P (Post m N Q) a w

def thenQ (K : Env → World → Prop) (Q : Exit → Env → World → Prop) : Exit → Env → World → Prop
  | .normal, ρ, w => K ρ w
  | e, ρ, w => Q e ρ w
def blkQ (id : Nat) (Q : Exit → Env → World → Prop) : Exit → Env → World → Prop
  | .exit id', ρ, w => bif Nat.beq id' id then Q .normal ρ w else Q (.exit id') ρ w
  | e, ρ, w => Q e ρ w
def gotoQ (S : Nat → Env → World → Prop) (Q : Exit → Env → World → Prop) : Exit → Env → World → Prop
  | .goto l, ρ, w => S l ρ w
  | e, ρ, w => Q e ρ w

/-- Code without loops, scopes, ranges over functions. -/
def vcC (P : Program) (N : Nat) : Code → Env → World → (Exit → Env → World → Prop) → Prop
  | .skip, ρ, w, Q => Q .normal ρ w
  | .region _ ops draw, ρ, w, Q =>
    match draw with
    | false => vcL P N ops ops.toList 0 [] ρ w fun ρ w => Q .normal ρ w
    | true =>
      let t := canon P ops ops.size (Array.replicate ops.size false)
      bif chkR P ops t then vcD P N ops t [] [] ρ w.drew fun ρ w => Q .normal ρ w else False
  | .seq a b, ρ, w, Q => vcC P N a ρ w (thenQ (fun ρ w => vcC P N b ρ w Q) Q)
  | .cond c x y, ρ, w, Q => cnd (ρ.ev c) (vcC P N x ρ w Q) (vcC P N y ρ w Q)
  | .block id b, ρ, w, Q => vcC P N b ρ w (blkQ id Q)
  | .exit id, ρ, w, Q => Q (.exit id) ρ w
  | .goto l, ρ, w, Q => Q (.goto l) ρ w
  | .label _, ρ, w, Q => Q .normal ρ w
  | .ret, ρ, w, Q => Q .ret ρ w
  | _, _, _, _ => False

section
variable {P : Program} {r : Option Nat} {m : Bool} {N : Nat}

theorem Sd.mono {c : Code} {ρ : Env} {w : World} {Q Q' : Exit → Env → World → Prop} (h : ∀ e ρ w, Q e ρ w → Q' e ρ w) (hh : Sd P r m N c ρ w Q) : Sd P r m N c ρ w Q' :=
  fun a D h1 h2 h3 => wpIn_mono (hh a D h1 h2 h3) fun _ _ _ ⟨q1, D', q2, q3⟩ => ⟨q1, D', q2, h _ _ _ q3⟩

theorem sd_seq {a b : Code} {ρ : Env} {w : World} {Q : Exit → Env → World → Prop} (K : Env → World → Prop) (hb : ∀ ρ w, K ρ w → Sd P r m N b ρ w Q) (ha : Sd P r m N a ρ w (thenQ K Q)) : Sd P r m N (.seq a b) ρ w Q := by
  intro act D h1 h2 h3
  refine wpIn_seq (wpIn_mono (ha act D h1 h2 h3) ?_)
  rintro e a' w' ⟨q1, D', q2, q3⟩
  cases e with
  | normal => exact hb _ _ q3 a' D' q1 q2 rfl
  | _ => exact ⟨q1, D', q2, q3⟩

theorem sd_cond {c : Operand} {x y : Code} {ρ : Env} {w : World} {Q : Exit → Env → World → Prop} (h : cnd (ρ.ev c) (Sd P r m N x ρ w Q) (Sd P r m N y ρ w Q)) : Sd P r m N (.cond c x y) ρ w Q := by
  intro act D h1 h2 h3
  unfold cnd at h
  split at h
  · rename_i b hb
    refine wpIn_cond (t := b) (by rw [eval_eq act D, h3]; exact hb) ?_
    cases b with
    | true => exact h act D h1 h2 h3
    | false => exact h act D h1 h2 h3
  · exact h.elim

theorem sd_block {id : Nat} {b : Code} {ρ : Env} {w : World} {Q : Exit → Env → World → Prop} (h : Sd P r m N b ρ w (blkQ id Q)) : Sd P r m N (.block id b) ρ w Q := by
  intro act D h1 h2 h3
  refine wpIn_block (wpIn_mono (h act D h1 h2 h3) ?_)
  rintro e a' w' ⟨q1, D', q2, q3⟩
  cases e with
  | exit id' =>
    simp only [Exit.inBlock, blkQ] at q3 ⊢
    by_cases hid : id' = id
    · have hb : Nat.beq id' id = true := by simpa [Nat.beq_eq] using hid
      rw [if_pos hid]; rw [hb] at q3; exact ⟨q1, D', q2, q3⟩
    · have hb : Nat.beq id' id = false := by
        cases hh : Nat.beq id' id with
        | false => rfl
        | true => exact (hid (by simpa [Nat.beq_eq] using hh)).elim
      rw [if_neg hid]; rw [hb] at q3; exact ⟨q1, D', q2, q3⟩
  | _ => exact ⟨q1, D', q2, q3⟩

theorem sd_loop {b : Code} {Q : Exit → Env → World → Prop} (S : Nat → Env → World → Prop) (h0 : ∀ ρ w, ¬ S 0 ρ w) (hs : ∀ n ρ w, S (n + 1) ρ w → Sd P r m N b ρ w (thenQ (S n) Q))
    {n : Nat} {ρ : Env} {w : World} (h : S n ρ w) : Sd P r m N (.loop b) ρ w Q := by
  intro act D h1 h2 h3
  subst h3
  refine wpIn_loop_ghost (fun n a w => a.tmps.size = N ∧ ∃ D, DOK m D a ∧ S n (mkE a D) w) n ⟨h1, D, h2, h⟩ ?_
  rintro k a w ⟨q1, D, q2, q3⟩
  cases k with
  | zero => exact (h0 _ _ q3).elim
  | succ k =>
    refine wpIn_mono (hs k _ _ q3 a D q1 q2 rfl) ?_
    rintro e a' w' ⟨r1, D', r2, r3⟩
    cases e with
    | normal => exact ⟨k, by omega, r1, D', r2, r3⟩
    | _ => exact ⟨r1, D', r2, r3⟩

/-- A scope with its labels: S says what is asked where a label is come to, with so many jumps left. -/
theorem sd_scope {c : Code} {Q : Exit → Env → World → Prop} (S : Nat → Nat → Env → World → Prop) (h0 : ∀ l ρ w, ¬ S 0 l ρ w)
    (hs : ∀ n l ρ w, S (n + 1) l ρ w → ∃ rest, findLabel c l = some rest ∧ Sd P r m N rest ρ w (gotoQ (S n) Q))
    {ρ : Env} {w : World} (h : ∃ n, Sd P r m N c ρ w (gotoQ (S n) Q)) : Sd P r m N (.scope c) ρ w Q := by
  obtain ⟨n, h⟩ := h
  intro act D h1 h2 h3 b k cs hro hb hr
  have hk : ∀ l rest, findLabel c l = some rest → gotoIn l (.inScope c :: k) = some (.code rest :: .inScope c :: k) := fun l rest hf => by simp [gotoIn, hf]
  have out : ∀ {M : Machine} {e : Exit} {a₁ : Act} {w₁ : World}, (∀ l, e ≠ .goto l) → Post m N Q e a₁ w₁ → ArrivesIn (Machine.fenced P (WF r)) P M b (.inScope c :: k) cs e a₁ w₁ →
      ∃ e a' w', Post m N Q e a' w' ∧ ArrivesIn (Machine.fenced P (WF r)) P M b k cs e a' w' := by
    intro M e a₁ w₁ hne hq harr
    cases e with
    | normal => exact ⟨.normal, a₁, w₁, hq, StepsIn.trans harr (.one (fenced_calm hb hr rfl) (step_lone_go (by simp [stepG, stepG.exec, Frame.atR])))⟩
    | exit id =>
      refine ⟨.exit id, a₁, w₁, hq, fun k' hk' => harr.1 k' (by simp [exitTo, hk']), fun hr1 hr2 => ?_⟩
      obtain ⟨k₁, hk₁, hs₁⟩ := harr.2 hr1 (by simp [exitTo, hr2])
      exact ⟨k₁, by simpa [exitTo] using hk₁, hs₁⟩
    | goto l => exact (hne l rfl).elim
    | ret => exact ⟨.ret, a₁, w₁, hq, harr⟩
    | panic ch => exact ⟨.panic ch, a₁, w₁, hq, harr⟩
    | outgrown => exact ⟨.outgrown, a₁, w₁, hq, harr⟩
  have key : ∀ n l a D w rest, S n l (mkE a D) w → a.tmps.size = N → DOK m D a → findLabel c l = some rest →
      ∃ e a' w', Post m N Q e a' w' ∧ ArrivesIn (Machine.fenced P (WF r)) P (lone (b.atR a (.code rest :: .inScope c :: k)) cs w) b k cs e a' w' := by
    intro n
    induction n with
    | zero => intro l a D w rest hS; exact (h0 _ _ _ hS).elim
    | succ n ih =>
      intro l a D w rest hS q1 q2 hf
      obtain ⟨rest', hf', hsd⟩ := hs n l _ _ hS
      have : rest' = rest := Option.some.inj (hf'.symm.trans hf)
      subst this
      obtain ⟨e, a₁, w₁, ⟨p1, D₁, p2, p3⟩, harr⟩ := hsd a D q1 q2 rfl b (.inScope c :: k) cs hro hb hr
      cases e with
      | goto l' =>
        cases n with
        | zero => exact (h0 _ _ _ p3).elim
        | succ n =>
          obtain ⟨rest₂, hf₂, _⟩ := hs n l' _ _ p3
          obtain ⟨e₂, a₂, w₂, hq₂, harr₂⟩ := ih l' a₁ D₁ w₁ rest₂ p3 p1 p2 hf₂
          exact ⟨e₂, a₂, w₂, hq₂, .of_steps (harr.1 _ (hk l' rest₂ hf₂)) harr₂⟩
      | normal => exact out (by intro l h; cases h) ⟨p1, D₁, p2, p3⟩ harr
      | exit id => exact out (by intro l h; cases h) ⟨p1, D₁, p2, p3⟩ harr
      | ret => exact out (by intro l h; cases h) ⟨p1, D₁, p2, p3⟩ harr
      | panic ch => exact out (by intro l h; cases h) ⟨p1, D₁, p2, p3⟩ harr
      | outgrown => exact out (by intro l h; cases h) ⟨p1, D₁, p2, p3⟩ harr
  have hstep : step P (lone (b.atR act (.code (.scope c) :: k)) cs w) = .next (lone (b.atR act (.code c :: .inScope c :: k)) cs w) :=
    step_lone_go (by simp [stepG, stepG.exec, Frame.atR])
  have h0' : (lone (b.atR act (.code (.scope c) :: k)) cs w).fenced P (WF r) := fenced_calm hb hr rfl
  obtain ⟨e, a₁, w₁, ⟨p1, D₁, p2, p3⟩, harr⟩ := h act D h1 h2 h3 b (.inScope c :: k) cs hro hb hr
  have fin : ∃ e a' w', Post m N Q e a' w' ∧ ArrivesIn (Machine.fenced P (WF r)) P (lone (b.atR act (.code c :: .inScope c :: k)) cs w) b k cs e a' w' := by
    cases e with
    | goto l' =>
      cases n with
      | zero => exact (h0 _ _ _ p3).elim
      | succ n =>
        obtain ⟨rest₂, hf₂, _⟩ := hs n l' _ _ p3
        obtain ⟨e₂, a₂, w₂, hq₂, harr₂⟩ := key (n + 1) l' a₁ D₁ w₁ rest₂ p3 p1 p2 hf₂
        exact ⟨e₂, a₂, w₂, hq₂, .of_steps (harr.1 _ (hk l' rest₂ hf₂)) harr₂⟩
    | normal => exact out (by intro l h; cases h) ⟨p1, D₁, p2, p3⟩ harr
    | exit id => exact out (by intro l h; cases h) ⟨p1, D₁, p2, p3⟩ harr
    | ret => exact out (by intro l h; cases h) ⟨p1, D₁, p2, p3⟩ harr
    | panic ch => exact out (by intro l h; cases h) ⟨p1, D₁, p2, p3⟩ harr
    | outgrown => exact out (by intro l h; cases h) ⟨p1, D₁, p2, p3⟩ harr
  obtain ⟨e₂, a₂, w₂, hq₂, harr₂⟩ := fin
  exact ⟨e₂, a₂, w₂, hq₂, .of_steps (.one h0' hstep) harr₂⟩

theorem sd_leaf : ∀ (c : Code) (ρ : Env) (w : World) (Q : Exit → Env → World → Prop), vcC P N c ρ w Q → Sd P r m N c ρ w Q
  | .skip, ρ, w, Q, h => fun a D h1 h2 h3 => wpIn_skip ⟨h1, D, h2, by rw [h3]; exact h⟩
  | .exit id, ρ, w, Q, h => fun a D h1 h2 h3 => wpIn_exit ⟨h1, D, h2, by rw [h3]; exact h⟩
  | .goto l, ρ, w, Q, h => fun a D h1 h2 h3 => wpIn_goto ⟨h1, D, h2, by rw [h3]; exact h⟩
  | .label l, ρ, w, Q, h => fun a D h1 h2 h3 => wpIn_label ⟨h1, D, h2, by rw [h3]; exact h⟩
  | .ret, ρ, w, Q, h => fun a D h1 h2 h3 => wpIn_ret ⟨h1, D, h2, by rw [h3]; exact h⟩
  | .seq a b, ρ, w, Q, h => sd_seq (fun ρ w => vcC P N b ρ w Q) (fun ρ w h => sd_leaf b ρ w Q h) (sd_leaf a ρ w _ h)
  | .cond c x y, ρ, w, Q, h => sd_cond (by
      have h' : cnd (ρ.ev c) (vcC P N x ρ w Q) (vcC P N y ρ w Q) := h
      unfold cnd at h' ⊢
      generalize ρ.ev c = v at h'
      cases v <;> first | exact h'.elim | skip
      rename_i b
      cases b
      · exact sd_leaf y ρ w Q h'
      · exact sd_leaf x ρ w Q h')
  | .block id b, ρ, w, Q, h => sd_block (sd_leaf b ρ w _ h)
  | .region id ops draw, ρ, w, Q, h => by
    intro a D h1 h2 h3
    subst h3
    cases draw with
    | false =>
      refine wpIn_region ?_
      have := vcL_ok (P := P) (r := r) (ops := ops) (N := N) (D := D) (ds := a.defers) (Q := Post m N Q) (K := fun ρ w => Q .normal ρ w)
        (fun a' w q1 q2 q3 => ⟨q1, D, ⟨h2.1, q2.trans h2.2⟩, q3⟩) ops.toList 0 0 [] a w (by simp) h1 rfl h
      rw [List.range_eq_range']
      simpa using this
    | true =>
      have h' : (bif chkR P ops (canon P ops ops.size (Array.replicate ops.size false)) then vcD P N ops (canon P ops ops.size (Array.replicate ops.size false)) [] [] (mkE a D) w.drew (fun ρ w => Q .normal ρ w) else False) := h
      generalize canon P ops ops.size (Array.replicate ops.size false) = t at h'
      cases hch : chkR P ops t with
      | false => rw [hch] at h'; exact h'.elim
      | true =>
        rw [hch] at h'
        simp only [chkR, Bool.and_eq_true, Nat.beq_eq] at hch
        obtain ⟨⟨⟨c1, c2⟩, c3⟩, c4⟩ := hch
        refine wpIn_region_any c1 ?_
        have := vcD_ok (P := P) (ds := a.defers) (D := D) c2 t [] [] _ a w.drew c4 (closed_none _ _) h1 rfl h'
        rw [c3] at this
        exact wpAny_of_K (Q' := Post m N Q) (fun a' w q => ⟨q.1, D, ⟨h2.1, q.2.1.trans h2.2⟩, q.2.2⟩) _ _ _ _ this
  | .loop _, _, _, _, h => h.elim
  | .rangeFunc .., _, _, _, h => h.elim
  | .scope _, _, _, _, h => h.elim
  | .refuse _, _, _, _, h => h.elim
end

/-- A draw. -/
def Dr (w : World) (K : World → Prop) : Prop := K w.drew

/-! ## Functions -/

def xRes (P : Program) (w : World) (t : TypeId) (x : Value) : Option Value :=
  match x with
  | .pointer (some a) => xLoad P w t (.pointer (some a))
  | _ => none
def tup : List Value → Value
  | [v] => v
  | vs => .tuple vs.toArray
def retG (P : Program) (w : World) (ρ : Env) : List ResultVar → (List Value → Prop) → Prop
  | [], K => K []
  | .tmp t :: rs, K => retG P w ρ rs fun vs => K (ρ.t t :: vs)
  | .cell a t :: rs, K => on (xRes P w t (ρ.t a)) fun v => retG P w ρ rs fun vs => K (v :: vs)
def retV (P : Program) (rs : List ResultVar) (ρ : Env) (w : World) (Q : Value → World → Prop) : Prop := retG P w ρ rs fun vs => Q (tup vs) w
def retQ (P : Program) (rs : List ResultVar) (Q : Value → World → Prop) : Exit → Env → World → Prop
  | .normal, ρ, w | .ret, ρ, w => retV P rs ρ w Q
  | _, _, _ => False
def putO (w : World) (r : Nat) (o : Obj) : World := { w with heap := w.heap.setIfInBounds r o }
/-- The marks of ranges over functions are taken back. -/
def unw : List Nat → World → (World → Prop) → Prop
  | [], w, K => K w
  | r :: rs, w, K =>
    match w.heap[r]? with
    | some (.deferred (some [])) => unw rs (putO w r (.deferred none)) K
    | _ => False
def retM (P : Program) (rs : List ResultVar) (Q : Value → World → Prop) : Exit → Env → World → Prop
  | .normal, ρ, w | .ret, ρ, w => unw ρ.d w fun w => retV P rs ρ w Q
  | _, _, _ => False

theorem run_of_retG {P : Program} {w : World} {a : Act} {D : List Nat} : ∀ {rs : List ResultVar} {K : List Value → Prop}, retG P w (mkE a D) rs K →
    ∃ vs, rr P w (rs.mapM (m := Sem) fun
      | .tmp t => pure (a.tmps.getD t undef)
      | .cell x t => do loadVar t (← asAddr (a.tmps.getD x undef))) = some vs ∧ K vs
  | [], K, h => ⟨[], rfl, h⟩
  | .tmp t :: rs, K, h => by
    obtain ⟨vs, h1, h2⟩ := run_of_retG (rs := rs) (K := fun vs => K ((mkE a D).t t :: vs)) h
    refine ⟨_, ?_, h2⟩
    rw [List.mapM_cons]
    show rr P w (Sem.bind _ _) = _
    rw [rr_bind (a := (mkE a D).t t) rfl]
    show rr P w (Sem.bind _ _) = _
    rw [rr_bind h1]
    rfl
  | .cell x t :: rs, K, h => by
    obtain ⟨v, hv, h⟩ := on_iff.1 h
    obtain ⟨vs, h1, h2⟩ := run_of_retG (rs := rs) (K := fun vs => K (v :: vs)) h
    refine ⟨_, ?_, h2⟩
    rw [List.mapM_cons]
    have hx : rr P w (do loadVar t (← asAddr (a.tmps.getD x undef)) : Sem Value) = some v := by
      unfold xRes at hv
      split at hv
      · rename_i ad hx
        have hx' : a.tmps.getD x undef = .pointer (some ad) := hx
        rw [hx']
        exact hv
      · cases hv
    show rr P w (Sem.bind _ _) = _
    rw [rr_bind hx]
    show rr P w (Sem.bind _ _) = _
    rw [rr_bind h1]
    rfl

theorem results_of {P : Program} {fn : Func} {a : Act} {D : List Nat} {w : World} {Q : Value → World → Prop} (h : retV P fn.results.toList (mkE a D) w Q) : ∃ v, (results fn a.tmps).run P w = .ok v w ∧ Q v w := by
  obtain ⟨vs, hm, q⟩ := run_of_retG h
  refine ⟨_, ?_, q⟩
  apply rr_run
  unfold results
  show rr P w (Sem.bind _ _) = _
  have e : (fn.results.mapM (m := Sem) fun
    | .tmp t => pure (a.tmps.getD t undef)
    | .cell x t => do loadVar t (← asAddr (a.tmps.getD x undef))) = (do pure (← (fn.results.toList.mapM (m := Sem) fun
    | .tmp t => pure (a.tmps.getD t undef)
    | .cell x t => do loadVar t (← asAddr (a.tmps.getD x undef)))).toArray) := by
    rw [Array.mapM_eq_mapM_toList]; rfl
  have e2 : rr P w (do pure (← (fn.results.toList.mapM (m := Sem) fun
    | .tmp t => pure (a.tmps.getD t undef)
    | .cell x t => do loadVar t (← asAddr (a.tmps.getD x undef)))).toArray : Sem (Array Value)) = some vs.toArray := by
    show rr P w (Sem.bind _ _) = _
    rw [rr_bind hm]; rfl
  rw [← e] at e2
  refine (rr_bind (a := vs.toArray) e2).trans ?_
  show some _ = some _
  cases vs with
  | nil => rfl
  | cons v vs => cases vs with
    | nil => rfl
    | cons u us => simp [tup]

theorem take_run {P : Program} {w : World} {r : Nat} (h : w.heap[r]? = some (.deferred (some []))) : (Instr.takeDeferred r).run P w = .ok [] (putO w r (.deferred none)) := by
  simp only [Instr.takeDeferred, getObj, setObj, Bind.bind, Sem.bind, Sem.run, h, pure, putO]

theorem leaves_of_unw {P : Program} {r : Option Nat} {fn : Func} {a : Act} {D0 : List Nat} {Q : Value → World → Prop} : ∀ (D : List Nat) (w : World), unw D w (fun w => retV P fn.results.toList (mkE a D0) w Q) →
    LeavesInM (WF r) 0 P fn a.tmps (fun e w => ∃ v, e = .returned v ∧ Q v w) (D.map coll) .returning w
  | [], w, h => by
    obtain ⟨v, hv, q⟩ := results_of h
    exact ⟨v, hv, v, rfl, q⟩
  | d :: D, w, h => by
    unfold unw at h
    split at h
    · rename_i hd
      exact ⟨by simp, .inl ⟨d, _, rfl, take_run hd, leaves_of_unw D _ h⟩⟩
    · exact h.elim

theorem cx_of_sd {P : Program} {m : Bool} {f : FuncId} {fn : Func} {c : Code} {args : Array Value} {w : World} {Q : Value → World → Prop} (hf : P.funcs[f]? = some fn) (hb : fn.body = some c) (hn : args.size ≤ fn.ntmps)
    (h : Sd P none m fn.ntmps c (env0 args.toList) w (bif m then retM P fn.results.toList Q else retQ P fn.results.toList Q)) : Cx P f args w Q := by
  refine (callsIn_wide (n := 0)).1 (callsIn_of_wp_marks (F := Fence.wide) hf hb trivial ?_)
  refine wpIn_mono (h _ [] (by simp; omega) ⟨fun _ => rfl, rfl⟩ ?_) ?_
  · simp only [mkE, env0, Env.mk.injEq, and_true]
    funext i
    simp only [List.getD_eq_getElem?_getD]
    by_cases hi : i < args.size
    · simp [Array.getElem?_append, hi]
    · by_cases h2 : i < fn.ntmps
      · have h3 : i - args.size < fn.ntmps - args.size := by omega
        simp [Array.getElem?_append, hi, h3]
      · have h3 : ¬ i - args.size < fn.ntmps - args.size := by omega
        simp [Array.getElem?_append, hi, h3]
  · rintro e a' w' ⟨q1, D, q2, q3⟩
    have fin : (bif m then unw D w' (fun w => retV P fn.results.toList (mkE a' D) w Q) else retV P fn.results.toList (mkE a' D) w' Q) → LeavesInM (WF none) 0 P fn a'.tmps (fun e w => ∃ v, e = .returned v ∧ Q v w) a'.defers .returning w' := by
      intro hq
      rw [q2.2]
      cases m with
      | true => exact leaves_of_unw D w' hq
      | false =>
        have := q2.1 rfl
        subst this
        exact leaves_of_unw [] w' hq
    cases e with
    | normal => exact fin (by cases m <;> exact q3)
    | ret => exact fin (by cases m <;> exact q3)
    | _ => cases m <;> exact q3.elim

/-! ## Ranges over functions -/

/-- A call of a function value that is no yield. -/
def callF (P : Program) (f : Value) (args : Array Value) (w : World) (K : Value → World → Prop) : Prop :=
  match f with
  | .func (.func f) first captured => bodied P f = true ∧ Cx P f (first ++ args ++ captured) w K
  | _ => False
theorem callF.mono {P : Program} {f : Value} {args : Array Value} {w : World} {K K' : Value → World → Prop} (h : callF P f args w K) (hq : ∀ v w', K v w' → K' v w') : callF P f args w K' := by
  unfold callF at *
  split
  · exact ⟨h.1, h.2.mono hq⟩
  · rename_i h1
    split at h
    · exact h1 _ _ _ rfl
    · exact h

/-- At l lies the record of a range over a function, whose slots hold E. -/
def LRec (N : Nat) (ps : Array Tmp) (A B : Code) (E : List (Nat × Value)) (l : Nat) (st : LoopState) (pend : Option Code) (w : World) : Prop :=
  ∃ fn T df, T.size = N ∧ (∀ x ∈ E, T.getD x.1 undef = x.2) ∧ w.heap[l]? = some (.loop { state := st, pending := pend, fn := fn, tmps := T, params := ps, assign := A, body := B, defers := df })
/-- A range over a function is entered: d: the block of its mark, l: its record. -/
def RFo (N : Nat) (ps : Array Tmp) (A B : Code) (E : List (Nat × Value)) (w : World) (K : Nat → Nat → World → Prop) : Prop :=
  ∀ w', Go.RowKit.Below w.heap.size w w' → w'.heap.size = w.heap.size + 2 → w'.heap[w.heap.size]? = some (.deferred (some [])) → LRec N ps A B E (w.heap.size + 1) .ready none w' → K w.heap.size (w.heap.size + 1) w'
/-- The same within a round of the loop l0. -/
def RFi (l0 : Nat) (N : Nat) (ps : Array Tmp) (A B : Code) (E : List (Nat × Value)) (w : World) (K : Nat → World → Prop) : Prop :=
  (∃ r0, w.heap[l0]? = some (.loop r0)) ∧ ∀ w', Go.RowKit.Below w.heap.size w w' → w'.heap.size = w.heap.size + 1 → LRec N ps A B E w.heap.size .ready none w' → K w.heap.size w'
def rfEnd (l : Nat) (w : World) (K : Option Code → World → Prop) : Prop :=
  match w.heap[l]? with
  | some (.loop r) => (r.state == .busy) = false ∧ K r.pending (putO w l (.loop { r with state := .exhausted }))
  | _ => False
def jmp (j : Option Code) (Q : Exit → Env → World → Prop) (ρ : Env) (w : World) : Prop :=
  match j with
  | none => Q .normal ρ w
  | some .ret => Q .ret ρ w
  | some (.exit id) => Q (.exit id) ρ w
  | some (.goto t) => Q (.goto t) ρ w
  | _ => False
def rBeg (l : Nat) (w : World) (K : World → Prop) : Prop :=
  match w.heap[l]? with
  | some (.loop r) => r.state = .ready ∧ K (putO w l (.loop { r with state := .busy }))
  | _ => False
def rEnd (l : Nat) (j : Option Code) (w : World) (K : World → Prop) : Prop :=
  match w.heap[l]? with
  | some (.loop r) => K (putO w l (.loop { r with state := if j.isNone then .ready else .done, pending := j }))
  | _ => False
def rndQ (l : Nat) (K : Value → World → Prop) : Exit → Env → World → Prop
  | .normal, _, w => rEnd l none w fun w => K (.bool true) w
  | .ret, _, w => rEnd l (some .ret) w fun w => K (.bool false) w
  | .exit id, _, w => rEnd l (some (.exit id)) w fun w => K (.bool false) w
  | .goto t, _, w => rEnd l (some (.goto t)) w fun w => K (.bool false) w
  | _, _, _ => False
def noQ : Exit → Env → World → Prop := fun _ _ _ => False

theorem getObj_run {P : Program} {w : World} {l : Nat} {r : Loop} (h : w.heap[l]? = some (.loop r)) : (Instr.getLoop l).run P w = .ok r w := by
  apply rr_run
  show rr P w (Sem.bind (getObj l) _) = _
  have h0 : rr P w (getObj l) = some (.loop r) := by simp only [getObj, rr, h]
  rw [rr_bind h0]; rfl
theorem setObj_run {P : Program} {w : World} {l : Nat} {r : Loop} {o : Obj} (h : w.heap[l]? = some (.loop r)) : (setObj l o).run P w = .ok () (putO w l o) := by
  simp only [setObj, Sem.run, h, putO]

theorem jmp_wp {P : Program} {r : Option Nat} {m : Bool} {N : Nat} {Q : Exit → Env → World → Prop} {j : Code} {a : Act} {D : List Nat} {w : World} (hs : a.tmps.size = N) (hd : DOK m D a) (h : jmp (some j) Q (mkE a D) w) : j.wpIn (WF r) 0 P (Post m N Q) a w := by
  unfold jmp at h
  cases j <;> simp only [] at h <;> first | exact h.elim | skip
  · exact wpIn_exit ⟨hs, D, hd, h⟩
  · exact wpIn_goto ⟨hs, D, hd, h⟩
  · exact wpIn_ret ⟨hs, D, hd, h⟩

theorem endLoop_run {P : Program} {w : World} {l : Nat} {K : Option Code → World → Prop} (h : rfEnd l w K) : ∃ j w', (Instr.endLoop l).run P w = .ok j w' ∧ K j w' := by
  unfold rfEnd at h
  split at h
  · rename_i rec hrec
    refine ⟨_, _, ?_, h.2⟩
    show (Sem.bind (Instr.getLoop l) _).run P w = _
    rw [run_bind_ok (getObj_run hrec)]
    simp only [h.1, Bool.false_eq_true, if_false]
    show (Sem.bind (setObj l _) _).run P w = _
    rw [run_bind_ok (setObj_run hrec)]
    rfl
  · exact h.elim

theorem call_rf {P : Program} {r : Option Nat} {m : Bool} {N : Nat} {g : Operand} {a : Act} {w1 : World} {l : Nat} {mark : List Deferred} {D : List Nat} {Q : Exit → Env → World → Prop}
    (hs : a.tmps.size = N) (hd : DOK m D { a with defers := mark ++ a.defers })
    (hc : callF P ((mkE a D).ev g) #[.func (.yield l) #[] #[]] w1 fun _ w3 => rfEnd l w3 fun j w4 => jmp j Q (mkE { a with defers := mark ++ a.defers } D) w4) :
    ∃ (d : Deferred) (w1' : World) (f : FuncId) (args : Array Value) (w2 : World), (resolve a.eval (rangeCall g l) 0).run P w1 = .ok d w1' ∧ (invoke d.target d.args).run P w1' = .ok (.enter f args) w2 ∧
      CallsIn (WF r) 0 P f args w2 (rangePost (WF r) 0 P l (Post m N Q) { a with defers := mark ++ a.defers }) := by
  unfold callF at hc
  split at hc
  · rename_i f first captured hg
    have hg' : a.eval g = .func (.func f) first captured := by rw [eval_eq a D]; exact hg
    refine ⟨⟨.fn (.func f) captured, first ++ #[.func (.yield l) #[] #[]]⟩, w1, f, first ++ #[.func (.yield l) #[] #[]] ++ captured, w1, ?_, ?_, ?_⟩
    · show (Deferred.ofValue (a.eval g) (Array.map a.eval #[.const (.func (.yield l) #[] #[])])).run P w1 = _
      rw [hg']
      have e : Array.map a.eval #[.const (.func (.yield l) #[] #[])] = #[.func (.yield l) #[] #[]] := by simp; rfl
      rw [e]; rfl
    · exact callFunc_run hc.1
    · refine CallsIn.mono (callsIn_WF hc.2) ?_
      rintro e w3 ⟨v, rfl, hk⟩
      obtain ⟨j, w4, hj, hk⟩ := endLoop_run (P := P) hk
      refine ⟨j, w4, hj, ?_⟩
      cases j with
      | none => exact ⟨hs, D, hd, hk⟩
      | some j => exact jmp_wp hs hd hk
  · exact hc.elim

theorem below_alloc2 (w : World) (o o' : Obj) : Go.RowKit.Below w.heap.size w ((w.alloc o).alloc o') :=
  ((Go.RowKit.Below.refl _ w).alloc (Nat.le_refl _) o).alloc (by show _ ≤ (w.heap.push _).size; simp) o'

theorem sd_rfo {P : Program} {N : Nat} {g : Operand} {ps : Array Tmp} {A B : Code} {ρ : Env} {w : World} {Q : Exit → Env → World → Prop} (E : List (Nat × Value)) (hE : ∀ x ∈ E, ρ.t x.1 = x.2)
    (h : RFo N ps A B E w fun d l w => callF P (ρ.ev g) #[.func (.yield l) #[] #[]] w fun _ w => rfEnd l w fun j w => jmp j Q ⟨ρ.t, d :: ρ.d⟩ w) : Sd P none true N (.rangeFunc g ps A B) ρ w Q := by
  intro a D h1 h2 h3
  subst h3
  refine wpIn_rangeFunc fun fn _ => ?_
  let w1 := (w.alloc (.deferred (some []))).alloc (.loop { state := .ready, pending := none, fn := fn, tmps := a.tmps, params := ps, assign := A, body := B, defers := w.heap.size })
  have hb : Go.RowKit.Below w.heap.size w w1 := below_alloc2 _ _ _
  have hc := h w1 hb (by show ((w.heap.push _).push _).size = _; simp) (by
      show ((w.heap.push _).push _)[w.heap.size]? = _
      rw [Array.getElem?_push, if_neg (by simp)]
      simp) ⟨fn, a.tmps, w.heap.size, h1, hE, by
      show ((w.heap.push _).push _)[w.heap.size + 1]? = _
      rw [Array.getElem?_push, if_pos (by simp)]⟩
  have hd : DOK true (w.heap.size :: D) { a with defers := [coll w.heap.size] ++ a.defers } := ⟨fun h => (by cases h), by simp [h2.2]⟩
  obtain ⟨d, w1', f, args, w2, r1, r2, r3⟩ := call_rf (P := P) (r := none) (m := true) (mark := [coll w.heap.size]) (D := w.heap.size :: D) (a := a) h1 hd hc
  refine ⟨w.heap.size + 1, [coll w.heap.size], w1, d, w1', f, args, w2, ?_, r1, fun _ _ => trivial, r2, fun h => (by cases h), r3⟩
  show Sem.run P (Instr.enterLoop fn a.tmps ps A B none) w = _
  simp only [Instr.enterLoop, newObj, Bind.bind, Sem.bind, Sem.run, pure, Array.size_push]
  rfl

theorem sd_rfi {P : Program} {l0 : Nat} {m : Bool} {N : Nat} {g : Operand} {ps : Array Tmp} {A B : Code} {ρ : Env} {w : World} {Q : Exit → Env → World → Prop} (E : List (Nat × Value)) (hE : ∀ x ∈ E, ρ.t x.1 = x.2)
    (h : RFi l0 N ps A B E w fun l w => callF P (ρ.ev g) #[.func (.yield l) #[] #[]] w fun _ w => rfEnd l w fun j w => jmp j Q ρ w) : Sd P (some l0) m N (.rangeFunc g ps A B) ρ w Q := by
  intro a D h1 h2 h3
  subst h3
  obtain ⟨⟨r0, hr0⟩, h⟩ := h
  refine wpIn_rangeFunc fun fn _ => ?_
  let w1 := w.alloc (.loop { state := .ready, pending := none, fn := fn, tmps := a.tmps, params := ps, assign := A, body := B, defers := r0.defers })
  have hb : Go.RowKit.Below w.heap.size w w1 := (Go.RowKit.Below.refl _ w).alloc (Nat.le_refl _) _
  have hc := h w1 hb (by show (w.heap.push _).size = _; simp) ⟨fn, a.tmps, r0.defers, h1, hE, by
      show (w.heap.push _)[w.heap.size]? = _
      simp⟩
  obtain ⟨d, w1', f, args, w2, r1, r2, r3⟩ := call_rf (P := P) (r := some l0) (m := m) (mark := []) (D := D) (a := a) h1 h2 hc
  refine ⟨w.heap.size, [], w1, d, w1', f, args, w2, ?_, r1, fun _ _ => trivial, r2, fun h => (by cases h), r3⟩
  show Sem.run P (Instr.enterLoop fn a.tmps ps A B (some l0)) w = _
  simp only [Instr.enterLoop, Instr.getLoop, getObj, newObj, Bind.bind, Sem.bind, Sem.run, pure, hr0]
  rfl

theorem rBeg_run {P : Program} {w : World} {l : Nat} {K : World → Prop} (h : rBeg l w K) : ∃ w', (Instr.beginRound l).run P w = .ok () w' ∧ K w' := by
  unfold rBeg at h
  split at h
  · rename_i rec hrec
    refine ⟨_, ?_, h.2⟩
    show (Sem.bind (Instr.getLoop l) _).run P w = _
    rw [run_bind_ok (getObj_run hrec)]
    show (Sem.bind (setObj l _) _).run P w = _
    rw [run_bind_ok (setObj_run hrec)]
    rw [h.1]
    rfl
  · exact h.elim
theorem rEnd_run {P : Program} {w : World} {l : Nat} {j : Option Code} {K : World → Prop} (h : rEnd l j w K) : ∃ w', (Instr.endRound l j).run P w = .ok (.bool j.isNone) w' ∧ K w' := by
  unfold rEnd at h
  split at h
  · rename_i rec hrec
    refine ⟨_, ?_, h⟩
    show (Sem.bind (Instr.getLoop l) _).run P w = _
    rw [run_bind_ok (getObj_run hrec)]
    show (Sem.bind (setObj l _) _).run P w = _
    rw [run_bind_ok (setObj_run hrec)]
    rfl
  · exact h.elim
theorem rBeg_mono {l : Nat} {w : World} {K K' : World → Prop} (hk : ∀ w, K w → K' w) (h : rBeg l w K) : rBeg l w K' := by
  unfold rBeg at *
  split
  · rename_i rec hrec; rw [hrec] at h; exact ⟨h.1, hk _ h.2⟩
  · rename_i hn
    split at h
    · rename_i rec hrec; exact hn rec hrec
    · exact h

/-- A round, out of its code's conditions. -/
theorem rnd_ok {P : Program} {l : Nat} {N : Nat} {fn : FuncId} {T : Array Value} {A B : Code} {w : World} {K : Value → World → Prop} (hT : T.size = N)
    (h : Sd P (some l) false N A ⟨fun i => T.getD i undef, []⟩ w (thenQ (fun ρ w => rBeg l w fun w => Sd P (some l) false N B ρ w (rndQ l K)) noQ)) : Rnd P l fn T A B w K := by
  refine roundIn_of_wpIn (F := Fence.wide) (n := 0) trivial ?_
  have h1 := h { tmps := T, defers := [] } [] hT ⟨fun _ => rfl, rfl⟩ rfl
  refine wpIn_mono h1 ?_
  rintro e a w' ⟨q1, D, q2, q3⟩
  cases e with
  | normal =>
    have q3' : rBeg l w' fun w => Sd P (some l) false N B (mkE a D) w (rndQ l K) := q3
    obtain ⟨w2, hb, hs⟩ := rBeg_run (P := P) q3'
    refine ⟨w2, hb, wpIn_mono (hs a D q1 q2 rfl) ?_⟩
    rintro e a' w3 ⟨p1, D', p2, p3⟩
    have fin : ∀ j, rEnd l j w3 (fun w => K (.bool j.isNone) w) → ∃ v w', (Instr.endRound l j).run P w3 = .ok v w' ∧ ∃ v', Ending.returned v = .returned v' ∧ K v' w' := by
      intro j hj
      obtain ⟨w4, h4, hk⟩ := rEnd_run (P := P) hj
      exact ⟨_, w4, h4, _, rfl, hk⟩
    cases e with
    | normal => exact fin none p3
    | ret => exact fin (some .ret) p3
    | exit id => exact fin (some (.exit id)) p3
    | goto t => exact fin (some (.goto t)) p3
    | panic ch => exact p3.elim
    | outgrown => exact p3.elim
  | _ => exact q3.elim

theorem yieldTmps_size (ps : Array Tmp) (args T : Array Value) : (yieldTmps ps args T).size = T.size := by
  unfold yieldTmps
  rw [← Array.foldl_toList]
  generalize (ps.zip args).toList = l
  induction l generalizing T with
  | nil => rfl
  | cons x l ih => rw [List.foldl_cons, ih]; simp

/-- What a slot holds when a round begins. -/
def yE (N : Nat) : List Tmp → List Value → (Nat → Value) → Nat → Value
  | p :: ps, v :: vs, f => yE N ps vs fun j => bif Nat.beq j p && Nat.blt p N then v else f j
  | _, _, f => f

theorem yieldTmps_eq (ps : List Tmp) (args : List Value) (T : Array Value) : yieldTmps ps.toArray args.toArray T = (ps.zip args).foldl (fun tmps x => tmps.setIfInBounds x.1 x.2) T := by
  unfold yieldTmps
  rw [← Array.foldl_toList, List.zip_toArray]

theorem yE_spec (N : Nat) : ∀ (ps : List Tmp) (args : List Value) (T : Array Value), T.size = N → (fun i => (yieldTmps ps.toArray args.toArray T).getD i undef) = yE N ps args fun i => T.getD i undef
  | [], args, T, h => by rw [yieldTmps_eq]; rfl
  | p :: ps, [], T, h => by rw [yieldTmps_eq]; rfl
  | p :: ps, v :: vs, T, h => by
    have h2 : yieldTmps (p :: ps).toArray (v :: vs).toArray T = yieldTmps ps.toArray vs.toArray (T.setIfInBounds p v) := by
      rw [yieldTmps_eq, yieldTmps_eq]; rfl
    rw [h2, yE_spec N ps vs _ (by simpa using h)]
    show yE N ps vs _ = yE N ps vs _
    congr 1
    funext j
    simp only [cond_eq_ite, Bool.and_eq_true, Nat.blt_eq]
    by_cases hj : j = p
    · subst hj
      by_cases hs : j < N
      · have : j < T.size := by omega
        simp [hs, this]
      · have : ¬ j < T.size := by omega
        simp [hs, this]
    · have h3 : ¬ Nat.beq j p = true := by simpa [Nat.beq_eq] using hj
      simp [h3, Array.getElem?_setIfInBounds_ne (fun h => hj h.symm)]

/-- Do the slots hold E? -/
def okE (f : Nat → Value) : List (Nat × Value) → Prop
  | [] => True
  | x :: E => f x.1 = x.2 ∧ okE f E
theorem okE_of {f : Nat → Value} : ∀ {E : List (Nat × Value)}, (∀ x ∈ E, f x.1 = x.2) → okE f E
  | [], _ => trivial
  | x :: _, h => ⟨h x (List.mem_cons_self ..), okE_of fun y hy => h y (List.mem_cons_of_mem _ hy)⟩
theorem of_okE {f : Nat → Value} : ∀ {E : List (Nat × Value)}, okE f E → ∀ x ∈ E, f x.1 = x.2
  | [], _, _, hx => by cases hx
  | y :: E, h, x, hx => by
    cases hx with
    | head => exact h.1
    | tail _ hm => exact of_okE h.2 x hm

/-- A call of the yield of the range over a function whose record lies at l. S: the round's condition, said of the slots. -/
theorem yield_ok {P : Program} {l : Nat} {N : Nat} {ps : List Tmp} {args : List Value} {A B : Code} {E : List (Nat × Value)} {st : LoopState} {pend : Option Code} {w : World} {K : Value → World → Prop}
    (hr : LRec N ps.toArray A B E l st pend w) (hn : args.length = ps.length) (S : Env → World → Prop) (SB : Env → World → Prop)
    (hS : ∀ ρ w, S ρ w → Sd P (some l) false N A ρ w (thenQ (fun ρ w => rBeg l w fun w => SB ρ w) noQ)) (hB : ∀ ρ w, SB ρ w → Sd P (some l) false N B ρ w (rndQ l K))
    (h : ∀ f : Nat → Value, okE f E → S ⟨yE N ps args f, []⟩ w) : callV P (.func (.yield l) #[] #[]) args.toArray w K := by
  obtain ⟨fn, T, df, hT, hE, hl⟩ := hr
  show yieldV P l (#[] ++ args.toArray) w K
  unfold yieldV
  rw [hl]
  simp only [Array.empty_append]
  refine ⟨by simpa using hn, rnd_ok (N := N) (by rw [yieldTmps_size]; exact hT) ?_⟩
  rw [yE_spec N ps args T hT]
  refine Sd.mono ?_ (hS _ _ (h _ (okE_of hE)))
  intro e ρ w q
  cases e with
  | normal => exact rBeg_mono (l := l) (w := w) (K := fun w => SB ρ w) (fun w hk => hB ρ w hk) q
  | _ => exact q

/-! ## Code by its places -/

def cL : Code → Code
  | .seq a _ => a
  | .cond _ x _ => x
  | .block _ b => b
  | .loop b => b
  | .scope b => b
  | .rangeFunc _ _ a _ => a
  | c => c
def cR : Code → Code
  | .seq _ b => b
  | .cond _ _ y => y
  | .rangeFunc _ _ _ b => b
  | c => c
def cO : Code → Operand
  | .cond c _ _ => c
  | _ => .tmp 0
def cG (c : Code) (l : Nat) : Code := (findLabel (cL c) l).getD .skip
def cB (fn : Func) : Code := fn.body.getD .skip

theorem cnd_mono {v : Value} {A A' B B' : Prop} (hA : A → A') (hB : B → B') (h : cnd v A B) : cnd v A' B' := by
  unfold cnd at *
  cases v <;> first | exact h.elim | skip
  rename_i b
  cases b
  · exact hB h
  · exact hA h

section
variable {P : Program} {r : Option Nat} {m : Bool} {N : Nat} {c : Code} {ρ : Env} {w : World} {Q : Exit → Env → World → Prop}
theorem pLeaf {S : Prop} (e : S = vcC P N c ρ w Q) (h : S) : Sd P r m N c ρ w Q := sd_leaf c ρ w Q (e.mp h)
theorem pCast {c' : Code} (e : c = c') (h : Sd P r m N c' ρ w Q) : Sd P r m N c ρ w Q := by rw [e]; exact h
/-- The first n parts of a row of statements; K: what follows. -/
def vcN (P : Program) (N : Nat) : Nat → Code → Env → World → (Env → World → Prop) → (Exit → Env → World → Prop) → Prop
  | 0, _, ρ, w, K, _ => K ρ w
  | n + 1, c, ρ, w, K, Q => vcC P N (cL c) ρ w (thenQ (fun ρ w => vcN P N n (cR c) ρ w K Q) Q)
def cN : Nat → Code → Code
  | 0, c => c
  | n + 1, c => cN n (cR c)
def isRow : Nat → Code → Bool
  | 0, _ => true
  | n + 1, .seq _ b => isRow n b
  | _, _ => false
theorem sd_row (K : Env → World → Prop) : ∀ (n : Nat) (c : Code) (ρ : Env) (w : World), isRow n c = true → (∀ ρ w, K ρ w → Sd P r m N (cN n c) ρ w Q) → vcN P N n c ρ w K Q → Sd P r m N c ρ w Q
  | 0, _, ρ, w, _, hb, h => hb ρ w h
  | n + 1, .seq a b, ρ, w, hr, hb, h => sd_seq _ (fun ρ w h => sd_row K n b ρ w hr hb h) (sd_leaf a ρ w _ h)
theorem pRow {S : Prop} (n : Nat) (hc : isRow n c = true) (K : Env → World → Prop) (e : S = vcN P N n c ρ w K Q) (hb : ∀ ρ w, K ρ w → Sd P r m N (cN n c) ρ w Q) (h : S) : Sd P r m N c ρ w Q := sd_row K n c ρ w hc hb (e.mp h)
theorem pSeq (hc : c = .seq (cL c) (cR c)) (K : Env → World → Prop) (hb : ∀ ρ w, K ρ w → Sd P r m N (cR c) ρ w Q) (ha : Sd P r m N (cL c) ρ w (thenQ K Q)) : Sd P r m N c ρ w Q := by
  rw [hc]; exact sd_seq K hb ha
theorem pCond {S A B : Prop} (hc : c = .cond (cO c) (cL c) (cR c)) (e : S = cnd (ρ.ev (cO c)) A B) (hA : A → Sd P r m N (cL c) ρ w Q) (hB : B → Sd P r m N (cR c) ρ w Q) (h : S) : Sd P r m N c ρ w Q := by
  rw [hc]; exact sd_cond (cnd_mono hA hB (e.mp h))
theorem pBlock (id : Nat) (hc : c = .block id (cL c)) (h : Sd P r m N (cL c) ρ w (blkQ id Q)) : Sd P r m N c ρ w Q := by
  rw [hc]; exact sd_block h
theorem pLoop (hc : c = .loop (cL c)) (S : Nat → Env → World → Prop) (h0 : ∀ ρ w, ¬ S 0 ρ w) (hs : ∀ n ρ w, S (n + 1) ρ w → Sd P r m N (cL c) ρ w (thenQ (S n) Q))
    (h : ∃ n, S n ρ w) : Sd P r m N c ρ w Q := by
  obtain ⟨n, h⟩ := h
  rw [hc]; exact sd_loop S h0 hs h
theorem pScope (hc : c = .scope (cL c)) (S : Nat → Nat → Env → World → Prop) (h0 : ∀ l ρ w, ¬ S 0 l ρ w)
    (hs : ∀ n l ρ w, S (n + 1) l ρ w → findLabel (cL c) l = some (cG c l) ∧ Sd P r m N (cG c l) ρ w (gotoQ (S n) Q))
    (h : ∃ n, Sd P r m N (cL c) ρ w (gotoQ (S n) Q)) : Sd P r m N c ρ w Q := by
  rw [hc]; exact sd_scope S h0 (fun n l ρ w h => ⟨_, hs n l ρ w h⟩) h
end
def gotoL (L : Nat) (S : Env → World → Prop) (Q : Exit → Env → World → Prop) : Exit → Env → World → Prop
  | .goto l, ρ, w => bif Nat.beq l L then S ρ w else False
  | e, ρ, w => Q e ρ w
theorem gotoL_eq {L : Nat} {S : Env → World → Prop} {Q : Exit → Env → World → Prop} : gotoL L S Q = gotoQ (fun l ρ w => bif Nat.beq l L then S ρ w else False) Q := by
  funext e ρ w; cases e <;> rfl
/-- A scope in which one label is jumped to. -/
theorem pScope1 {P : Program} {r : Option Nat} {m : Bool} {N : Nat} {c : Code} {ρ : Env} {w : World} {Q : Exit → Env → World → Prop} (L : Nat) (hc : c = .scope (cL c)) (hf : findLabel (cL c) L = some (cG c L)) (S : Nat → Env → World → Prop) (h0 : ∀ ρ w, ¬ S 0 ρ w)
    (hs : ∀ n ρ w, S (n + 1) ρ w → Sd P r m N (cG c L) ρ w (gotoL L (S n) Q)) (h : ∃ n, Sd P r m N (cL c) ρ w (gotoL L (S n) Q)) : Sd P r m N c ρ w Q := by
  refine pScope hc (fun n l ρ w => bif Nat.beq l L then S n ρ w else False) ?_ ?_ ?_
  · intro l ρ w h
    cases hb : Nat.beq l L with
    | true => rw [hb] at h; exact h0 _ _ h
    | false => rw [hb] at h; exact h
  · intro n l ρ w h'
    cases hb : Nat.beq l L with
    | true =>
      rw [hb] at h'
      have hl : l = L := by simpa [Nat.beq_eq] using hb
      rw [hl]
      exact ⟨hf, by rw [← gotoL_eq]; exact hs n ρ w h'⟩
    | false => rw [hb] at h'; exact h'.elim
  · obtain ⟨n, h⟩ := h
    exact ⟨n, by rw [← gotoL_eq]; exact h⟩
theorem pScope0 {P : Program} {r : Option Nat} {m : Bool} {N : Nat} {c : Code} {ρ : Env} {w : World} {Q : Exit → Env → World → Prop} (hc : c = .scope (cL c)) (h : Sd P r m N (cL c) ρ w (gotoQ (fun _ _ _ => False) Q)) : Sd P r m N c ρ w Q :=
  pScope hc (fun _ _ _ _ => False) (fun _ _ _ h => h) (fun _ _ _ _ h => h.elim) ⟨0, h⟩
/-- Where a range over a function is left to. -/
def jmX (id : Nat) (w : World) : List (Nat × (World → Prop)) → Prop
  | [] => False
  | (k, C) :: L => bif Nat.beq id k then C w else jmX id w L
def jm (j : Option Code) (w : World) (A B : World → Prop) (L : List (Nat × (World → Prop))) : Prop :=
  match j with
  | none => A w
  | some .ret => B w
  | some (.exit id) => jmX id w L
  | _ => False
def okX (Q : Exit → Env → World → Prop) (ρ : Env) : List (Nat × (World → Prop)) → Prop
  | [] => True
  | (k, C) :: L => (∀ w, C w = Q (.exit k) ρ w) ∧ okX Q ρ L
theorem jmp_of_jm {j : Option Code} {w : World} {A B : World → Prop} {L : List (Nat × (World → Prop))} {Q : Exit → Env → World → Prop} {ρ : Env} (hA : ∀ w, A w = Q .normal ρ w) (hB : ∀ w, B w = Q .ret ρ w) (hL : okX Q ρ L) (h : jm j w A B L) : jmp j Q ρ w := by
  unfold jm at h
  unfold jmp
  split at h
  · exact (hA w).mp h
  · exact (hB w).mp h
  · rename_i id
    simp only []
    induction L with
    | nil => exact h.elim
    | cons x L ih =>
      obtain ⟨k, C⟩ := x
      unfold jmX at h
      cases hb : Nat.beq id k with
      | true =>
        rw [hb] at h
        have hk : id = k := by simpa [Nat.beq_eq] using hb
        rw [hk]
        exact (hL.1 w).mp h
      | false => rw [hb] at h; exact ih hL.2 h
  · exact h.elim
theorem rfEnd_mono {l : Nat} {w : World} {K K' : Option Code → World → Prop} (hk : ∀ j w, K j w → K' j w) (h : rfEnd l w K) : rfEnd l w K' := by
  unfold rfEnd at *
  split
  · rename_i rec hrec; rw [hrec] at h; exact ⟨h.1, hk _ _ h.2⟩
  · rename_i hn
    split at h
    · rename_i rec hrec; exact hn rec hrec
    · exact h
theorem pRFo {P : Program} {N : Nat} {c : Code} {ρ : Env} {w : World} {Q : Exit → Env → World → Prop} (g : Operand) (ps : Array Tmp) (hc : c = .rangeFunc g ps (cL c) (cR c)) (E : List (Nat × Value)) (hE : okE ρ.t E)
    (A B : Nat → World → Prop) (L : Nat → List (Nat × (World → Prop))) (hA : ∀ d w, A d w = Q .normal ⟨ρ.t, d :: ρ.d⟩ w) (hB : ∀ d w, B d w = Q .ret ⟨ρ.t, d :: ρ.d⟩ w) (hL : ∀ d, okX Q ⟨ρ.t, d :: ρ.d⟩ (L d))
    (h : RFo N ps (cL c) (cR c) E w fun d l w => callF P (ρ.ev g) #[.func (.yield l) #[] #[]] w fun _ w => rfEnd l w fun j w => jm j w (A d) (B d) (L d)) : Sd P none true N c ρ w Q := by
  rw [hc]
  exact sd_rfo E (of_okE hE) fun w' h1 h2 h3 h4 => (h w' h1 h2 h3 h4).mono fun _ w hk => rfEnd_mono (fun j w hj => jmp_of_jm (hA _) (hB _) (hL _) hj) hk
theorem pRFi {P : Program} {l0 : Nat} {m : Bool} {N : Nat} {c : Code} {ρ : Env} {w : World} {Q : Exit → Env → World → Prop} (g : Operand) (ps : Array Tmp) (hc : c = .rangeFunc g ps (cL c) (cR c)) (E : List (Nat × Value)) (hE : okE ρ.t E)
    (A B : World → Prop) (L : List (Nat × (World → Prop))) (hA : ∀ w, A w = Q .normal ρ w) (hB : ∀ w, B w = Q .ret ρ w) (hL : okX Q ρ L)
    (h : RFi l0 N ps (cL c) (cR c) E w fun l w => callF P (ρ.ev g) #[.func (.yield l) #[] #[]] w fun _ w => rfEnd l w fun j w => jm j w A B L) : Sd P (some l0) m N c ρ w Q := by
  rw [hc]
  exact sd_rfi E (of_okE hE) ⟨h.1, fun w' h1 h2 h3 => (h.2 w' h1 h2 h3).mono fun _ w hk => rfEnd_mono (fun j w hj => jmp_of_jm hA hB hL hj) hk⟩
theorem pFun {P : Program} {f : FuncId} {args : Array Value} {w : World} {Q : Value → World → Prop} (m : Bool) (fn : Func) (hf : P.funcs[f]? = some fn) (hb : fn.body.isSome = true) (hn : Nat.ble args.size fn.ntmps = true)
    (h : Sd P none m fn.ntmps (cB fn) (env0 args.toList) w (bif m then retM P fn.results.toList Q else retQ P fn.results.toList Q)) : Cx P f args w Q := by
  cases hc : fn.body with
  | none => rw [hc] at hb; cases hb
  | some c =>
    refine cx_of_sd (m := m) hf hc (by simpa using hn) ?_
    have : cB fn = c := by simp [cB, hc]
    rw [← this]; exact h

end Go.Vc
