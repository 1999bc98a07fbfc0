/- The conditions of the functions, printed by this session's vcgen.py: each F<k> implies the contract of function k. -/
import Derived.Test.YtlmcppbpobnfjaaDoorProg
import Derived.Test.YtlmcppbpobnfjaaDoorVc
import Derived.KernelRfl
namespace Go.Proofs.YtlmcppbpobnfjaaDoor
open Go Go.Vc
set_option linter.unusedVariables false
set_option maxRecDepth 100000
noncomputable abbrev P : Program := Tryd.prog
/- 3 intaglio/intagliolaw06.LexJoined -/
def F3.k3 (Q : Value → World → Prop) (ds : List Nat) (v0 : Value) (v2 : Value) (v3 : Value) (w : World) : Prop :=
   on (xLoad P w 9 v3) fun x51 =>
   on (xBin P .eql 9 false false x51 v0) fun x53 =>
   cnd x53
   (Cx P 4 #[] w fun x55 w =>
   eStore P 4 v2 x55 w fun w =>
   unw ds w fun w =>
   on (xRes P w 4 v2) fun x900 =>
   Q x900 w)
   (eStore P 4 v2 (.bool false) w fun w =>
   unw ds w fun w =>
   on (xRes P w 4 v2) fun x900_2 =>
   Q x900_2 w)
theorem F3.k3_ok (Q : Value → World → Prop) (ρ : Env) (w : World) (h : F3.k3 Q ρ.d (ρ 0) (ρ 2) (ρ 3) w) : Sd P none true 57 (cN 1 (cR (cN 6 (cB Tryd.f3)))) ρ w (retM P [.cell 2 4] Q) :=
  pLeaf (by kernel_rfl) h
def F3.k2 (Q : Value → World → Prop) (ds : List Nat) (v0 : Value) (v2 : Value) (v3 : Value) (w : World) : Prop :=
   on (xBin P .neq 9 false true v0 (.string ⟨#[]⟩)) fun x40 =>
   cnd x40
   (on (xLen P w #[9] #[v0]) fun x44 =>
   on (xBin P .sub 3 false true x44 (.int .i64 1)) fun x45 =>
   on (xIx P 9 v0 x45) fun x46 =>
   on (xBin P .neq 5 false true x46 (.int .u8 10)) fun x47 =>
   cnd x47
   (on (xBin P .add 9 false true v0 (.string ⟨#[10]⟩)) fun x50 =>
   F3.k3 Q ds x50 v2 v3 w)
   (F3.k3 Q ds v0 v2 v3 w))
   (F3.k3 Q ds v0 v2 v3 w)
theorem F3.k2_ok (Q : Value → World → Prop) (ρ : Env) (w : World) (h : F3.k2 Q ρ.d (ρ 0) (ρ 2) (ρ 3) w) : Sd P none true 57 (cR (cN 6 (cB Tryd.f3))) ρ w (retM P [.cell 2 4] Q) :=
  pRow 1 (by kernel_rfl) (fun ρ w => F3.k3 Q ρ.d (ρ 0) (ρ 2) (ρ 3) w) (by kernel_rfl) (fun ρ w h => F3.k3_ok Q ρ w h) h
def F3.k7 (Q : Value → World → Prop) (l : Nat) (v3 : Value) (v7 : Value) (w : World) : Prop :=
   on (xLoad P w 9 v3) fun x35 =>
   on (xBin P .add 9 false false x35 v7) fun x37 =>
   on (xBin P .add 9 false true x37 (.string ⟨#[10]⟩)) fun x38 =>
   eStore P 9 v3 x38 w fun w =>
   rEnd l none w fun w =>
   Q (.bool true) w
theorem F3.k7_ok (Q : Value → World → Prop) (l : Nat) (ρ : Env) (w : World) (h : F3.k7 Q l (ρ 3) (ρ 7) w) : Sd P (some l) false 57 (cR (cN 2 (cL (cR (cL (cN 1 (cL (cN 6 (cB Tryd.f3))))))))) ρ w (blkQ 1 (rndQ l Q)) :=
  pLeaf (by kernel_rfl) h
def F3.l1 (Q : Value → World → Prop) (l : Nat) : Nat → Value → Value → Value → Value → World → Prop
 | 0, _, _, _, _, _ => False
 | n + 1, v2, v3, v7, v8, w => on (xLen P w #[9] #[v7]) fun x27 =>
   on (xBin P .lss 3 false false v8 x27) fun x28 =>
   cnd x28
   (on (xIx P 9 v7 v8) fun x33 =>
   on (xBin P .eql 5 false true x33 (.int .u8 10)) fun x34 =>
   cnd x34
   (eStore P 4 v2 (.bool false) w fun w =>
   rEnd l (some .ret) w fun w =>
   Q (.bool false) w)
   (on (xBin P .add 3 false true v8 (.int .i64 1)) fun x30 =>
   F3.l1 Q l n v2 v3 v7 x30 w))
   (F3.k7 Q l v3 v7 w)
theorem F3.l1_ok (Q : Value → World → Prop) (l : Nat) (ρ : Env) (w : World) (h : ∃ n, F3.l1 Q l n (ρ 2) (ρ 3) (ρ 7) (ρ 8) w) : Sd P (some l) false 57 (cL (cN 1 (cL (cN 2 (cL (cR (cL (cN 1 (cL (cN 6 (cB Tryd.f3))))))))))) ρ w (blkQ 2 (thenQ (fun ρ w => F3.k7 Q l (ρ 3) (ρ 7) w) (blkQ 1 (rndQ l Q)))) :=
  pLoop (by kernel_rfl) (fun n ρ w => F3.l1 Q l n (ρ 2) (ρ 3) (ρ 7) (ρ 8) w) (fun _ _ h => h) (fun n ρ w h => pLeaf (S := F3.l1 Q l (n + 1) (ρ 2) (ρ 3) (ρ 7) (ρ 8) w) (by kernel_rfl) h) h
def F3.k8 (Q : Value → World → Prop) (l : Nat) (v2 : Value) (v3 : Value) (v7 : Value) (v8 : Value) (w : World) : Prop :=
   ∃ n, F3.l1 Q l n v2 v3 v7 v8 w
theorem F3.k8_ok (Q : Value → World → Prop) (l : Nat) (ρ : Env) (w : World) (h : F3.k8 Q l (ρ 2) (ρ 3) (ρ 7) (ρ 8) w) : Sd P (some l) false 57 (cN 1 (cL (cN 2 (cL (cR (cL (cN 1 (cL (cN 6 (cB Tryd.f3)))))))))) ρ w (thenQ (fun ρ w => F3.k7 Q l (ρ 3) (ρ 7) w) (blkQ 1 (rndQ l Q))) :=
  pBlock 2 (by kernel_rfl) (F3.l1_ok Q l _ _ h)
def F3.k6 (Q : Value → World → Prop) (l : Nat) (v2 : Value) (v3 : Value) (v7 : Value) (w : World) : Prop :=
   F3.k8 Q l v2 v3 v7 (.int .i64 0) w
theorem F3.k6_ok (Q : Value → World → Prop) (l : Nat) (ρ : Env) (w : World) (h : F3.k6 Q l (ρ 2) (ρ 3) (ρ 7) w) : Sd P (some l) false 57 (cN 2 (cL (cR (cL (cN 1 (cL (cN 6 (cB Tryd.f3)))))))) ρ w (blkQ 1 (rndQ l Q)) :=
  pSeq (by kernel_rfl) (fun ρ w => F3.k7 Q l (ρ 3) (ρ 7) w) (fun ρ w h => F3.k7_ok Q l ρ w h) (pRow 1 (by kernel_rfl) (fun ρ w => F3.k8 Q l (ρ 2) (ρ 3) (ρ 7) (ρ 8) w) (by kernel_rfl) (fun ρ w h => F3.k8_ok Q l ρ w h) h)
def F3.k5 (Q : Value → World → Prop) (l : Nat) (v2 : Value) (v3 : Value) (v4 : Value) (v6 : Value) (v7 : Value) (w : World) : Prop :=
   on (xLoad P w 3 v4) fun x20 =>
   on (xBin P .add 3 false true x20 (.int .i64 1)) fun x21 =>
   eStore P 3 v4 x21 w fun w =>
   on (xLoad P w 3 v4) fun x23 =>
   on (xBin P .neq 3 false false v6 x23) fun x24 =>
   cnd x24
   (eStore P 4 v2 (.bool false) w fun w =>
   rEnd l (some .ret) w fun w =>
   Q (.bool false) w)
   (F3.k6 Q l v2 v3 v7 w)
theorem F3.k5_ok (Q : Value → World → Prop) (l : Nat) (ρ : Env) (w : World) (h : F3.k5 Q l (ρ 2) (ρ 3) (ρ 4) (ρ 6) (ρ 7) w) : Sd P (some l) false 57 (cR (cL (cN 1 (cL (cN 6 (cB Tryd.f3)))))) ρ w (rndQ l Q) :=
  pBlock 1 (by kernel_rfl) (pRow 2 (by kernel_rfl) (fun ρ w => F3.k6 Q l (ρ 2) (ρ 3) (ρ 7) w) (by kernel_rfl) (fun ρ w h => F3.k6_ok Q l ρ w h) h)
def F3.r1 (Q : Value → World → Prop) (l : Nat) (v2 : Value) (v3 : Value) (v4 : Value) (v18 : Value) (v19 : Value) (w : World) : Prop :=
   rBeg l w fun w =>
   F3.k5 Q l v2 v3 v4 v18 v19 w
theorem F3.r1_ok (Q : Value → World → Prop) (l : Nat) {st : LoopState} {pend : Option Code} {w : World} {v2 v3 v4 : Value} (a18 a19 : Value) (hr : LRec 57 #[18, 19] (cL (cL (cN 1 (cL (cN 6 (cB Tryd.f3)))))) (cR (cL (cN 1 (cL (cN 6 (cB Tryd.f3)))))) [(2, v2), (3, v3), (4, v4)] l .ready pend w) (h : F3.r1 Q l v2 v3 v4 a18 a19 w) : callV P (.func (.yield l) #[] #[]) #[a18, a19] w Q :=
  yield_ok (ps := [18, 19]) (args := [a18, a19]) hr rfl (fun ρ w => F3.r1 Q l (ρ 2) (ρ 3) (ρ 4) (ρ 18) (ρ 19) w) (fun ρ w => F3.k5 Q l (ρ 2) (ρ 3) (ρ 4) (ρ 6) (ρ 7) w) (fun ρ w h => pLeaf (S := F3.r1 Q l (ρ 2) (ρ 3) (ρ 4) (ρ 18) (ρ 19) w) (by kernel_rfl) h) (fun ρ w h => F3.k5_ok Q l ρ w h) (by intro f hf; obtain ⟨e2, e3, e4, _⟩ := hf; dsimp only at e2 e3 e4; subst e2 e3 e4; exact h)
def F3.k4 (Q : Value → World → Prop) (ds : List Nat) (v0 : Value) (v2 : Value) (v3 : Value) (v4 : Value) (v17 : Value) (w : World) : Prop :=
   RFo 57 #[18, 19] (cL (cL (cN 1 (cL (cN 6 (cB Tryd.f3)))))) (cR (cL (cN 1 (cL (cN 6 (cB Tryd.f3)))))) [(2, v2), (3, v3), (4, v4)] w fun d l w =>
   callF P v17 #[.func (.yield l) #[] #[]] w fun _ w =>
   rfEnd l w fun j w =>
   jm j w (fun w => F3.k2 Q (d :: ds) v0 v2 v3 w) (fun w => unw (d :: ds) w fun w =>
   on (xRes P w 4 v2) fun x900 =>
   Q x900 w) []
theorem F3.k4_ok (Q : Value → World → Prop) (ρ : Env) (w : World) (h : F3.k4 Q ρ.d (ρ 0) (ρ 2) (ρ 3) (ρ 4) (ρ 17) w) : Sd P none true 57 (cN 1 (cL (cN 6 (cB Tryd.f3)))) ρ w (thenQ (fun ρ w => F3.k2 Q ρ.d (ρ 0) (ρ 2) (ρ 3) w) (retM P [.cell 2 4] Q)) :=
  pBlock 0 (by kernel_rfl) (pRFo (.tmp 17) #[18, 19] (by kernel_rfl) [(2, (ρ 2)), (3, (ρ 3)), (4, (ρ 4))] ⟨rfl, rfl, rfl, trivial⟩ (fun d w => F3.k2 Q (d :: ρ.d) (ρ 0) (ρ 2) (ρ 3) w) (fun d w => unw (d :: ρ.d) w fun w =>
on (xRes P w 4 (ρ 2)) fun x900_2 =>
Q x900_2 w) (fun d => []) (fun d w => by kernel_rfl) (fun d w => by kernel_rfl) (fun d => trivial) h)
def F3.k1 (Q : Value → World → Prop) (ds : List Nat) (v0 : Value) (v2 : Value) (v3 : Value) (v4 : Value) (v5 : Value) (w : World) : Prop :=
   F3.k4 Q ds v0 v2 v3 v4 v5 w
theorem F3.k1_ok (Q : Value → World → Prop) (ρ : Env) (w : World) (h : F3.k1 Q ρ.d (ρ 0) (ρ 2) (ρ 3) (ρ 4) (ρ 5) w) : Sd P none true 57 (cN 6 (cB Tryd.f3)) ρ w (retM P [.cell 2 4] Q) :=
  pSeq (by kernel_rfl) (fun ρ w => F3.k2 Q ρ.d (ρ 0) (ρ 2) (ρ 3) w) (fun ρ w h => F3.k2_ok Q ρ w h) (pRow 1 (by kernel_rfl) (fun ρ w => F3.k4 Q ρ.d (ρ 0) (ρ 2) (ρ 3) (ρ 4) (ρ 17) w) (by kernel_rfl) (fun ρ w h => F3.k4_ok Q ρ w h) h)
def F3 (a0 : Value) (w : World) (Q : Value → World → Prop) : Prop :=
   eAlloc P 4 w fun x2 w =>
   on (xLen P w #[9] #[a0]) fun x10 =>
   on (xBin P .gtr 3 false true x10 (.int .i64 40000)) fun x11 =>
   cnd x11
   (Cx P 4 #[] w fun x12 w =>
   eStore P 4 x2 x12 w fun w =>
   on (xRes P w 4 x2) fun x900_3 =>
   Q x900_3 w)
   (eAlloc P 9 w fun x3 w =>
   eStore P 9 x3 (.string ⟨#[]⟩) w fun w =>
   eAlloc P 3 w fun x4 w =>
   eStore P 3 x4 (.int .i64 0) w fun w =>
   Cx P 5 #[a0] w fun x14 w =>
   on (xBin P .eql 24 false true x14 .nilFunc) fun x16 =>
   cnd x16
   (eStore P 4 x2 (.bool false) w fun w =>
   on (xRes P w 4 x2) fun x900_4 =>
   Q x900_4 w)
   (F3.k1 Q [] a0 x2 x3 x4 x14 w))
theorem F3_ok (a0 : Value) (w : World) (Q : Value → World → Prop) (h : F3 a0 w Q) : Cx P 3 #[a0] w Q :=
  pFun true Tryd.f3 (by kernel_rfl) (by kernel_rfl) (by kernel_rfl) (pRow 6 (by kernel_rfl) (fun ρ w => F3.k1 Q ρ.d (ρ 0) (ρ 2) (ρ 3) (ρ 4) (ρ 5) w) (by kernel_rfl) (fun ρ w h => F3.k1_ok Q ρ w h) h)

/- 4 intaglio/intagliolaw06.awake -/
def F4.k1 (Q : Value → World → Prop) (v1 : Value) (w : World) : Prop :=
   Cx P 7 #[v1] w fun x40 w =>
   on (xEx P x40 0) fun x41 =>
   on (xEx P x40 1) fun x42 =>
   on (xBin P .eql 28 false true x42 (.int .i64 0)) fun x44 =>
   cnd x44
   (on (xBin P .eql 9 false true x41 (.string ⟨#[37, 53, 32, 61, 32, 79, 112, 73, 65, 100, 100, 32, 45, 49, 32, 34, 97, 34]⟩)) fun x47 =>
   Q x47 w)
   (Q (.bool false) w)
theorem F4.k1_ok (Q : Value → World → Prop) (ρ : Env) (w : World) (h : F4.k1 Q (ρ 1) w) : Sd P none false 49 (cN 3 (cB Tryd.f4)) ρ w (retQ P [.tmp 0] Q) :=
  pLeaf (by kernel_rfl) h
def F4 (w : World) (Q : Value → World → Prop) : Prop :=
   Cx P 6 #[(.string ⟨#[37, 53, 32, 61, 32, 79, 112, 73, 65, 100, 100, 32, 45, 49, 32, 34, 97, 34, 32, 59, 32, 98]⟩)] w fun x6 w =>
   on (xEx P x6 0) fun x7 =>
   on (xEx P x6 1) fun x8 =>
   eAlloc P 30 w fun x2 w =>
   eStore P 30 x2 x8 w fun w =>
   on (xFA P 30 x2 0) fun x9 =>
   on (xLoad P w 28 x9) fun x10 =>
   on (xBin P .neq 28 false true x10 (.int .i64 0)) fun x11 =>
   cnd x11
   (Q (.bool false) w)
   (on (xLen P w #[27] #[x7]) fun x14 =>
   on (xBin P .neq 3 false true x14 (.int .i64 5)) fun x15 =>
   cnd x15
   (Q (.bool false) w)
   (on (xIA P 27 x7 (.int .i64 2)) fun x19 =>
   on (xFA P 34 x19 0) fun x20 =>
   on (xLoad P w 5 x20) fun x21 =>
   on (xBin P .neq 5 false true x21 (.int .u8 1)) fun x22 =>
   cnd x22
   (Q (.bool false) w)
   (on (xIA P 27 x7 (.int .i64 2)) fun x26 =>
   on (xFA P 34 x26 1) fun x27 =>
   on (xLoad P w 9 x27) fun x28 =>
   on (xBin P .neq 9 false true x28 (.string ⟨#[79, 112, 73, 65, 100, 100]⟩)) fun x29 =>
   cnd x29
   (Q (.bool false) w)
   (on (xIA P 27 x7 (.int .i64 2)) fun x33 =>
   on (xFA P 34 x33 2) fun x34 =>
   on (xLoad P w 3 x34) fun x35 =>
   on (xBin P .neq 3 false true x35 (.int .i64 5)) fun x36 =>
   cnd x36
   (Q (.bool false) w)
   (F4.k1 Q x7 w)))))
theorem F4_ok (w : World) (Q : Value → World → Prop) (h : F4  w Q) : Cx P 4 #[] w Q :=
  pFun false Tryd.f4 (by kernel_rfl) (by kernel_rfl) (by kernel_rfl) (pRow 3 (by kernel_rfl) (fun ρ w => F4.k1 Q (ρ 1) w) (by kernel_rfl) (fun ρ w h => F4.k1_ok Q ρ w h) h)

/- 5 intaglio/lex.Lines -/
def F5 (a0 : Value) (w : World) (Q : Value → World → Prop) : Prop :=
   eBox P 9 a0 w fun x1 w =>
   Q (.func (.func 8) #[] #[x1]) w
theorem F5_ok (a0 : Value) (w : World) (Q : Value → World → Prop) (h : F5 a0 w Q) : Cx P 5 #[a0] w Q :=
  pFun false Tryd.f5 (by kernel_rfl) (by kernel_rfl) (by kernel_rfl) (pLeaf (by kernel_rfl) h)

/- 6 intaglio/lex.Tokens -/
def F6.k3 (Q : Value → World → Prop) (v3 : Value) (v4 : Value) (w : World) : Prop :=
   on (xBuild P 30 #[]) fun x49 =>
   eStore P 30 v3 x49 w fun w =>
   on (xRes P w 30 v3) fun x901 =>
   Q (.tuple #[v4, x901]) w
theorem F6.k3_ok (Q : Value → World → Prop) (ρ : Env) (w : World) (h : F6.k3 Q (ρ 3) (ρ 4) w) : Sd P none false 50 (cR (cN 2 (cL (cN 1 (cB Tryd.f6))))) ρ w (gotoQ (fun _ _ _ => False) (retQ P [.tmp 2, .cell 3 30] Q)) :=
  pLeaf (by kernel_rfl) h
def F6.l1 (Q : Value → World → Prop) : Nat → Value → Value → Value → Value → World → Prop
 | 0, _, _, _, _, _ => False
 | n + 1, v0, v3, v4, v5, w => on (xLen P w #[9] #[v0]) fun x11 =>
   on (xBin P .lss 3 false false v5 x11) fun x12 =>
   cnd x12
   (on (xIx P 9 v0 v5) fun x16 =>
   on (xBin P .eql 5 false true x16 (.int .u8 59)) fun x17 =>
   cnd x17
   (F6.k3 Q v3 v4 w)
   (on (xIx P 9 v0 v5) fun x21 =>
   Cx P 10 #[x21] w fun x22 w =>
   on (xBin P .eql 40 false true x22 (.int .i64 1)) fun x23 =>
   cnd x23
   (on (xBin P .add 3 false true v5 (.int .i64 1)) fun x25 =>
   F6.l1 Q n v0 v3 v4 x25 w)
   (on (xSl P 9 v0 (some v5) none none) fun x29 =>
   Cx P 11 #[x29] w fun x30 w =>
   on (xEx P x30 0) fun x31 =>
   on (xEx P x30 1) fun x32 =>
   on (xEx P x30 2) fun x33 =>
   eAlloc P 34 w fun x6 w =>
   eStore P 34 x6 x31 w fun w =>
   on (xBin P .neq 28 false true x33 (.int .i64 0)) fun x35 =>
   cnd x35
   (on (xBuild P 30 #[(0, x33), (1, v5)]) fun x38 =>
   eStore P 30 v3 x38 w fun w =>
   on (xRes P w 30 v3) fun x901 =>
   Q (.tuple #[(.slice none 0 0), x901]) w)
   (on (xFA P 34 x6 2) fun x40 =>
   eStore P 3 x40 v5 w fun w =>
   on (xLoad P w 34 x6) fun x42 =>
   eBS P 27 1 #[(0, x42)] w fun x43 w =>
   eApp P #[27, 27] #[v4, x43] w fun x44 w =>
   on (xBin P .add 3 false false v5 x32) fun x47 =>
   F6.l1 Q n v0 v3 x44 x47 w))))
   (F6.k3 Q v3 v4 w)
theorem F6.l1_ok (Q : Value → World → Prop) (ρ : Env) (w : World) (h : ∃ n, F6.l1 Q n (ρ 0) (ρ 3) (ρ 4) (ρ 5) w) : Sd P none false 50 (cL (cN 1 (cL (cN 2 (cL (cN 1 (cB Tryd.f6))))))) ρ w (blkQ 0 (thenQ (fun ρ w => F6.k3 Q (ρ 3) (ρ 4) w) (gotoQ (fun _ _ _ => False) (retQ P [.tmp 2, .cell 3 30] Q)))) :=
  pLoop (by kernel_rfl) (fun n ρ w => F6.l1 Q n (ρ 0) (ρ 3) (ρ 4) (ρ 5) w) (fun _ _ h => h) (fun n ρ w h => pLeaf (S := F6.l1 Q (n + 1) (ρ 0) (ρ 3) (ρ 4) (ρ 5) w) (by kernel_rfl) h) h
def F6.k4 (Q : Value → World → Prop) (v0 : Value) (v3 : Value) (v4 : Value) (v5 : Value) (w : World) : Prop :=
   ∃ n, F6.l1 Q n v0 v3 v4 v5 w
theorem F6.k4_ok (Q : Value → World → Prop) (ρ : Env) (w : World) (h : F6.k4 Q (ρ 0) (ρ 3) (ρ 4) (ρ 5) w) : Sd P none false 50 (cN 1 (cL (cN 2 (cL (cN 1 (cB Tryd.f6)))))) ρ w (thenQ (fun ρ w => F6.k3 Q (ρ 3) (ρ 4) w) (gotoQ (fun _ _ _ => False) (retQ P [.tmp 2, .cell 3 30] Q))) :=
  pBlock 0 (by kernel_rfl) (F6.l1_ok Q _ _ h)
def F6.k2 (Q : Value → World → Prop) (v0 : Value) (v3 : Value) (v4 : Value) (w : World) : Prop :=
   F6.k4 Q v0 v3 v4 (.int .i64 0) w
theorem F6.k2_ok (Q : Value → World → Prop) (ρ : Env) (w : World) (h : F6.k2 Q (ρ 0) (ρ 3) (ρ 4) w) : Sd P none false 50 (cN 2 (cL (cN 1 (cB Tryd.f6)))) ρ w (gotoQ (fun _ _ _ => False) (retQ P [.tmp 2, .cell 3 30] Q)) :=
  pSeq (by kernel_rfl) (fun ρ w => F6.k3 Q (ρ 3) (ρ 4) w) (fun ρ w h => F6.k3_ok Q ρ w h) (pRow 1 (by kernel_rfl) (fun ρ w => F6.k4 Q (ρ 0) (ρ 3) (ρ 4) (ρ 5) w) (by kernel_rfl) (fun ρ w h => F6.k4_ok Q ρ w h) h)
def F6.k1 (Q : Value → World → Prop) (v0 : Value) (v3 : Value) (w : World) : Prop :=
   F6.k2 Q v0 v3 (.slice none 0 0) w
theorem F6.k1_ok (Q : Value → World → Prop) (ρ : Env) (w : World) (h : F6.k1 Q (ρ 0) (ρ 3) w) : Sd P none false 50 (cN 1 (cB Tryd.f6)) ρ w (retQ P [.tmp 2, .cell 3 30] Q) :=
  pScope0 (by kernel_rfl) (pRow 2 (by kernel_rfl) (fun ρ w => F6.k2 Q (ρ 0) (ρ 3) (ρ 4) w) (by kernel_rfl) (fun ρ w h => F6.k2_ok Q ρ w h) h)
def F6 (a0 : Value) (w : World) (Q : Value → World → Prop) : Prop :=
   eAlloc P 30 w fun x3 w =>
   F6.k1 Q a0 x3 w
theorem F6_ok (a0 : Value) (w : World) (Q : Value → World → Prop) (h : F6 a0 w Q) : Cx P 6 #[a0] w Q :=
  pFun false Tryd.f6 (by kernel_rfl) (by kernel_rfl) (by kernel_rfl) (pRow 1 (by kernel_rfl) (fun ρ w => F6.k1 Q (ρ 0) (ρ 3) w) (by kernel_rfl) (fun ρ w h => F6.k1_ok Q ρ w h) h)

/- 7 intaglio/lex.Write -/
def F7.k2 (Q : Value → World → Prop) (v4 : Value) (w : World) : Prop :=
   Cx P 13 #[v4, (.string ⟨#[32]⟩)] w fun x28 w =>
   Q (.tuple #[x28, (.int .i64 0)]) w
theorem F7.k2_ok (Q : Value → World → Prop) (ρ : Env) (w : World) (h : F7.k2 Q (ρ 4) w) : Sd P none false 29 (cR (cN 2 (cB Tryd.f7))) ρ w (retQ P [.tmp 2, .tmp 3] Q) :=
  pLeaf (by kernel_rfl) h
def F7.l1 (Q : Value → World → Prop) : Nat → Value → Value → Value → Value → World → Prop
 | 0, _, _, _, _, _ => False
 | n + 1, v4, v9, v10, v11, w => on (xBin P .lss 3 false false v11 v10) fun x12 =>
   cnd x12
   (on (xIA P 27 v9 v11) fun x13 =>
   on (xLoad P w 34 x13) fun x14 =>
   eAlloc P 34 w fun x6 w =>
   eStore P 34 x6 x14 w fun w =>
   on (xLoad P w 34 x6) fun x16 =>
   Cx P 12 #[x16] w fun x17 w =>
   on (xEx P x17 0) fun x18 =>
   on (xEx P x17 1) fun x19 =>
   on (xUn P .not x19) fun x21 =>
   cnd x21
   (Q (.tuple #[(.string ⟨#[]⟩), (.int .i64 2)]) w)
   (eBS P 44 1 #[(0, x18)] w fun x24 w =>
   eApp P #[44, 44] #[v4, x24] w fun x25 w =>
   on (xBin P .add 3 false true v11 (.int .i64 1)) fun x26 =>
   F7.l1 Q n x25 v9 v10 x26 w))
   (F7.k2 Q v4 w)
theorem F7.l1_ok (Q : Value → World → Prop) (ρ : Env) (w : World) (h : ∃ n, F7.l1 Q n (ρ 4) (ρ 9) (ρ 10) (ρ 11) w) : Sd P none false 29 (cL (cN 1 (cL (cN 2 (cB Tryd.f7))))) ρ w (blkQ 0 (thenQ (fun ρ w => F7.k2 Q (ρ 4) w) (retQ P [.tmp 2, .tmp 3] Q))) :=
  pLoop (by kernel_rfl) (fun n ρ w => F7.l1 Q n (ρ 4) (ρ 9) (ρ 10) (ρ 11) w) (fun _ _ h => h) (fun n ρ w h => pLeaf (S := F7.l1 Q (n + 1) (ρ 4) (ρ 9) (ρ 10) (ρ 11) w) (by kernel_rfl) h) h
def F7.k3 (Q : Value → World → Prop) (v4 : Value) (v9 : Value) (v10 : Value) (v11 : Value) (w : World) : Prop :=
   ∃ n, F7.l1 Q n v4 v9 v10 v11 w
theorem F7.k3_ok (Q : Value → World → Prop) (ρ : Env) (w : World) (h : F7.k3 Q (ρ 4) (ρ 9) (ρ 10) (ρ 11) w) : Sd P none false 29 (cN 1 (cL (cN 2 (cB Tryd.f7)))) ρ w (thenQ (fun ρ w => F7.k2 Q (ρ 4) w) (retQ P [.tmp 2, .tmp 3] Q)) :=
  pBlock 0 (by kernel_rfl) (F7.l1_ok Q _ _ h)
def F7.k1 (Q : Value → World → Prop) (v0 : Value) (v4 : Value) (w : World) : Prop :=
   on (xLen P w #[27] #[v0]) fun x10 =>
   F7.k3 Q v4 v0 x10 (.int .i64 0) w
theorem F7.k1_ok (Q : Value → World → Prop) (ρ : Env) (w : World) (h : F7.k1 Q (ρ 0) (ρ 4) w) : Sd P none false 29 (cN 2 (cB Tryd.f7)) ρ w (retQ P [.tmp 2, .tmp 3] Q) :=
  pSeq (by kernel_rfl) (fun ρ w => F7.k2 Q (ρ 4) w) (fun ρ w h => F7.k2_ok Q ρ w h) (pRow 1 (by kernel_rfl) (fun ρ w => F7.k3 Q (ρ 4) (ρ 9) (ρ 10) (ρ 11) w) (by kernel_rfl) (fun ρ w h => F7.k3_ok Q ρ w h) h)
def F7 (a0 : Value) (w : World) (Q : Value → World → Prop) : Prop :=
   F7.k1 Q a0 (.slice none 0 0) w
theorem F7_ok (a0 : Value) (w : World) (Q : Value → World → Prop) (h : F7 a0 w Q) : Cx P 7 #[a0] w Q :=
  pFun false Tryd.f7 (by kernel_rfl) (by kernel_rfl) (by kernel_rfl) (pRow 2 (by kernel_rfl) (fun ρ w => F7.k1 Q (ρ 0) (ρ 4) w) (by kernel_rfl) (fun ρ w h => F7.k1_ok Q ρ w h) h)

/- 8 intaglio/lex.Lines$1 -/
def F8.l1 (Q : Value → World → Prop) : Nat → Value → Value → Value → World → Prop
 | 0, _, _, _, _ => False
 | n + 1, v0, v3, v4, w => on (xBin P .neq 9 false true v4 (.string ⟨#[]⟩)) fun x10 =>
   cnd x10
   (Cx P 9 #[v4, (.string ⟨#[10]⟩)] w fun x15 w =>
   on (xEx P x15 0) fun x16 =>
   on (xEx P x15 1) fun x17 =>
   on (xEx P x15 2) fun x18 =>
   callV P v0 #[v3, x16] w fun x22 w =>
   on (xUn P .not x22) fun x23 =>
   cnd x23
   (Q (.tuple #[]) w)
   (on (xBin P .add 3 false true v3 (.int .i64 1)) fun x12 =>
   F8.l1 Q n v0 x12 x17 w))
   (Q (.tuple #[]) w)
theorem F8.l1_ok (Q : Value → World → Prop) (ρ : Env) (w : World) (h : ∃ n, F8.l1 Q n (ρ 0) (ρ 3) (ρ 4) w) : Sd P none false 25 (cL (cN 1 (cB Tryd.f8))) ρ w (blkQ 0 (retQ P [] Q)) :=
  pLoop (by kernel_rfl) (fun n ρ w => F8.l1 Q n (ρ 0) (ρ 3) (ρ 4) w) (fun _ _ h => h) (fun n ρ w h => pLeaf (S := F8.l1 Q (n + 1) (ρ 0) (ρ 3) (ρ 4) w) (by kernel_rfl) h) h
def F8.k1 (Q : Value → World → Prop) (v0 : Value) (v3 : Value) (v4 : Value) (w : World) : Prop :=
   ∃ n, F8.l1 Q n v0 v3 v4 w
theorem F8.k1_ok (Q : Value → World → Prop) (ρ : Env) (w : World) (h : F8.k1 Q (ρ 0) (ρ 3) (ρ 4) w) : Sd P none false 25 (cN 1 (cB Tryd.f8)) ρ w (retQ P [] Q) :=
  pBlock 0 (by kernel_rfl) (F8.l1_ok Q _ _ h)
def F8 (a0 a1 : Value) (w : World) (Q : Value → World → Prop) : Prop :=
   Dr w fun w =>
   on (xLoad P w 9 a1) fun x8 =>
   F8.k1 Q a0 (.int .i64 1) x8 w
theorem F8_ok (a0 a1 : Value) (w : World) (Q : Value → World → Prop) (h : F8 a0 a1 w Q) : Cx P 8 #[a0, a1] w Q :=
  pFun false Tryd.f8 (by kernel_rfl) (by kernel_rfl) (by kernel_rfl) (pRow 1 (by kernel_rfl) (fun ρ w => F8.k1 Q (ρ 0) (ρ 3) (ρ 4) w) (by kernel_rfl) (fun ρ w h => F8.k1_ok Q ρ w h) h)

/- 9 strings.Cut -/
def F9 (a0 a1 : Value) (w : World) (Q : Value → World → Prop) : Prop :=
   Cx P 14 #[a0, a1] w fun x9 w =>
   on (xEx P x9 0) fun x10 =>
   on (xEx P x9 1) fun x11 =>
   on (xEx P x9 2) fun x12 =>
   Q (.tuple #[x10, x11, x12]) w
theorem F9_ok (a0 a1 : Value) (w : World) (Q : Value → World → Prop) (h : F9 a0 a1 w Q) : Cx P 9 #[a0, a1] w Q :=
  pFun false Tryd.f9 (by kernel_rfl) (by kernel_rfl) (by kernel_rfl) (pLeaf (by kernel_rfl) h)

/- 10 intaglio/lex.kindOf -/
def F10.k2 (Q : Value → World → Prop) (w : World) : Prop :=
   Q (.int .i64 0) w
theorem F10.k2_ok (Q : Value → World → Prop) (ρ : Env) (w : World) (h : F10.k2 Q w) : Sd P none false 32 (cR (cN 1 (cB Tryd.f10))) ρ w (retQ P [.tmp 2] Q) :=
  pLeaf (by kernel_rfl) h
def F10.k4 (Q : Value → World → Prop) (w : World) : Prop :=
   Q (.int .i64 1) w
theorem F10.k4_ok (Q : Value → World → Prop) (ρ : Env) (w : World) (h : F10.k4 Q w) : Sd P none false 32 (cL (cN 1 (cL (cL (cN 1 (cB Tryd.f10)))))) ρ w (blkQ 0 (thenQ (fun ρ w => F10.k2 Q w) (retQ P [.tmp 2] Q))) :=
  pLeaf (by kernel_rfl) h
def F10.k6 (Q : Value → World → Prop) (v0 : Value) (v10 : Value) (w : World) : Prop :=
   cnd v10
   (Q (.int .i64 2) w)
   (on (xBin P .geq 5 false true v0 (.int .u8 48)) fun x27 =>
   cnd x27
   (on (xBin P .leq 5 false true v0 (.int .u8 57)) fun x30 =>
   cnd x30
   (Q (.int .i64 3) w)
   (F10.k2 Q w))
   (F10.k2 Q w))
theorem F10.k6_ok (Q : Value → World → Prop) (ρ : Env) (w : World) (h : F10.k6 Q (ρ 0) (ρ 10) w) : Sd P none false 32 (cR (cR (cN 1 (cL (cL (cN 1 (cB Tryd.f10))))))) ρ w (blkQ 0 (thenQ (fun ρ w => F10.k2 Q w) (retQ P [.tmp 2] Q))) :=
  pLeaf (by kernel_rfl) h
def F10.k7 (Q : Value → World → Prop) (v0 : Value) (v10 : Value) (w : World) : Prop :=
   cnd v10
   (F10.k6 Q v0 v10 w)
   (on (xBin P .geq 5 false true v0 (.int .u8 97)) fun x18 =>
   cnd x18
   (on (xBin P .leq 5 false true v0 (.int .u8 122)) fun x21 =>
   cnd x21
   (F10.k6 Q v0 x21 w)
   (on (xBin P .eql 5 false true v0 (.int .u8 95)) fun x24 =>
   F10.k6 Q v0 x24 w))
   (on (xBin P .eql 5 false true v0 (.int .u8 95)) fun x24_2 =>
   F10.k6 Q v0 x24_2 w))
theorem F10.k7_ok (Q : Value → World → Prop) (ρ : Env) (w : World) (h : F10.k7 Q (ρ 0) (ρ 10) w) : Sd P none false 32 (cN 1 (cL (cR (cN 1 (cL (cL (cN 1 (cB Tryd.f10)))))))) ρ w (thenQ (fun ρ w => F10.k6 Q (ρ 0) (ρ 10) w) (blkQ 0 (thenQ (fun ρ w => F10.k2 Q w) (retQ P [.tmp 2] Q)))) :=
  pLeaf (by kernel_rfl) h
def F10.k5 (Q : Value → World → Prop) (v0 : Value) (w : World) : Prop :=
   on (xBin P .geq 5 false true v0 (.int .u8 65)) fun x12 =>
   cnd x12
   (on (xBin P .leq 5 false true v0 (.int .u8 90)) fun x15 =>
   F10.k7 Q v0 x15 w)
   (F10.k7 Q v0 (.bool false) w)
theorem F10.k5_ok (Q : Value → World → Prop) (ρ : Env) (w : World) (h : F10.k5 Q (ρ 0) w) : Sd P none false 32 (cR (cN 1 (cL (cL (cN 1 (cB Tryd.f10)))))) ρ w (blkQ 0 (thenQ (fun ρ w => F10.k2 Q w) (retQ P [.tmp 2] Q))) :=
  pSeq (by kernel_rfl) (fun ρ w => F10.k6 Q (ρ 0) (ρ 10) w) (fun ρ w h => F10.k6_ok Q ρ w h) (pRow 1 (by kernel_rfl) (fun ρ w => F10.k7 Q (ρ 0) (ρ 10) w) (by kernel_rfl) (fun ρ w h => F10.k7_ok Q ρ w h) h)
def F10.k3 (Q : Value → World → Prop) (v0 : Value) (v3 : Value) (w : World) : Prop :=
   cnd v3
   (F10.k4 Q w)
   (F10.k5 Q v0 w)
theorem F10.k3_ok (Q : Value → World → Prop) (ρ : Env) (w : World) (h : F10.k3 Q (ρ 0) (ρ 3) w) : Sd P none false 32 (cN 1 (cL (cL (cN 1 (cB Tryd.f10))))) ρ w (blkQ 0 (thenQ (fun ρ w => F10.k2 Q w) (retQ P [.tmp 2] Q))) :=
  pCond (A := F10.k4 Q w) (B := F10.k5 Q (ρ 0) w) (by kernel_rfl) (by kernel_rfl) (fun h => F10.k4_ok Q _ _ h) (fun h => F10.k5_ok Q _ _ h) h
def F10.k1 (Q : Value → World → Prop) (v0 : Value) (w : World) : Prop :=
   on (xBin P .eql 5 false true v0 (.int .u8 9)) fun x5 =>
   cnd x5
   (F10.k3 Q v0 x5 w)
   (on (xBin P .eql 5 false true v0 (.int .u8 13)) fun x7 =>
   cnd x7
   (F10.k3 Q v0 x7 w)
   (on (xBin P .eql 5 false true v0 (.int .u8 32)) fun x9 =>
   F10.k3 Q v0 x9 w))
theorem F10.k1_ok (Q : Value → World → Prop) (ρ : Env) (w : World) (h : F10.k1 Q (ρ 0) w) : Sd P none false 32 (cN 1 (cB Tryd.f10)) ρ w (retQ P [.tmp 2] Q) :=
  pSeq (by kernel_rfl) (fun ρ w => F10.k2 Q w) (fun ρ w h => F10.k2_ok Q ρ w h) (pBlock 0 (by kernel_rfl) (pRow 1 (by kernel_rfl) (fun ρ w => F10.k3 Q (ρ 0) (ρ 3) w) (by kernel_rfl) (fun ρ w h => F10.k3_ok Q ρ w h) h))
def F10 (a0 : Value) (w : World) (Q : Value → World → Prop) : Prop :=
   F10.k1 Q a0 w
theorem F10_ok (a0 : Value) (w : World) (Q : Value → World → Prop) (h : F10 a0 w Q) : Cx P 10 #[a0] w Q :=
  pFun false Tryd.f10 (by kernel_rfl) (by kernel_rfl) (by kernel_rfl) (pRow 1 (by kernel_rfl) (fun ρ w => F10.k1 Q (ρ 0) w) (by kernel_rfl) (fun ρ w h => F10.k1_ok Q ρ w h) h)

/- 11 intaglio/lex.token -/
def F11.k2 (Q : Value → World → Prop) (v2 : Value) (w : World) : Prop :=
   on (xBuild P 34 #[]) fun x88 =>
   eStore P 34 v2 x88 w fun w =>
   on (xRes P w 34 v2) fun x900 =>
   Q (.tuple #[x900, (.int .i64 0), (.int .i64 60)]) w
theorem F11.k2_ok (Q : Value → World → Prop) (ρ : Env) (w : World) (h : F11.k2 Q (ρ 2) w) : Sd P none false 89 (cR (cN 2 (cB Tryd.f11))) ρ w (retQ P [.cell 2 34, .tmp 3, .tmp 4] Q) :=
  pLeaf (by kernel_rfl) h
def F11.k3 (Q : Value → World → Prop) (v0 : Value) (v2 : Value) (w : World) : Prop :=
   on (xSl P 9 v0 (some (.int .i64 1)) none none) fun x73 =>
   Cx P 16 #[x73] w fun x74 w =>
   on (xLen P w #[9] #[x74]) fun x75 =>
   on (xBin P .add 3 true false (.int .i64 1) x75) fun x76 =>
   on (xSl P 9 v0 none (some x76) none) fun x77 =>
   Cx P 18 #[x77] w fun x80 w =>
   on (xEx P x80 0) fun x81 =>
   on (xEx P x80 1) fun x82 =>
   on (xBuild P 34 #[(0, (.int .u8 3)), (1, x77)]) fun x84 =>
   on (xLen P w #[9] #[x77]) fun x86 =>
   eStore P 34 v2 x84 w fun w =>
   on (xRes P w 34 v2) fun x900 =>
   Q (.tuple #[x900, x86, x82]) w
theorem F11.k3_ok (Q : Value → World → Prop) (ρ : Env) (w : World) (h : F11.k3 Q (ρ 0) (ρ 2) w) : Sd P none false 89 (cN 1 (cL (cL (cN 2 (cB Tryd.f11))))) ρ w (blkQ 0 (thenQ (fun ρ w => F11.k2 Q (ρ 2) w) (retQ P [.cell 2 34, .tmp 3, .tmp 4] Q))) :=
  pLeaf (by kernel_rfl) h
def F11.k1 (Q : Value → World → Prop) (v0 : Value) (v2 : Value) (v5 : Value) (w : World) : Prop :=
   on (xBin P .eql 5 false true v5 (.int .u8 34)) fun x19 =>
   cnd x19
   (Cx P 15 #[v0] w fun x39 w =>
   on (xEx P x39 0) fun x40 =>
   on (xEx P x39 1) fun x41 =>
   on (xBin P .eql 3 false true x41 (.int .i64 0)) fun x43 =>
   cnd x43
   (on (xBuild P 34 #[]) fun x44 =>
   eStore P 34 v2 x44 w fun w =>
   on (xRes P w 34 v2) fun x900_2 =>
   Q (.tuple #[x900_2, (.int .i64 0), (.int .i64 61)]) w)
   (on (xBuild P 34 #[(0, (.int .u8 4)), (1, x40)]) fun x46 =>
   eStore P 34 v2 x46 w fun w =>
   on (xRes P w 34 v2) fun x900_3 =>
   Q (.tuple #[x900_3, x41, (.int .i64 0)]) w))
   (on (xBin P .eql 5 false true v5 (.int .u8 61)) fun x22 =>
   cnd x22
   (on (xBuild P 34 #[(0, (.int .u8 5)), (1, (.string ⟨#[61]⟩))]) fun x48 =>
   eStore P 34 v2 x48 w fun w =>
   on (xRes P w 34 v2) fun x900_4 =>
   Q (.tuple #[x900_4, (.int .i64 1), (.int .i64 0)]) w)
   (on (xBin P .eql 5 false true v5 (.int .u8 37)) fun x25 =>
   cnd x25
   (on (xSl P 9 v0 (some (.int .i64 1)) none none) fun x50 =>
   Cx P 16 #[x50] w fun x51 w =>
   Cx P 17 #[x51] w fun x54 w =>
   on (xEx P x54 0) fun x55 =>
   on (xEx P x54 1) fun x56 =>
   on (xUn P .not x56) fun x58 =>
   cnd x58
   (on (xBuild P 34 #[]) fun x59 =>
   eStore P 34 v2 x59 w fun w =>
   on (xRes P w 34 v2) fun x900_5 =>
   Q (.tuple #[x900_5, (.int .i64 0), (.int .i64 62)]) w)
   (on (xBuild P 34 #[(0, (.int .u8 2)), (1, x51)]) fun x61 =>
   on (xLen P w #[9] #[x51]) fun x63 =>
   on (xBin P .add 3 true false (.int .i64 1) x63) fun x64 =>
   eStore P 34 v2 x61 w fun w =>
   on (xRes P w 34 v2) fun x900_6 =>
   Q (.tuple #[x900_6, x64, (.int .i64 0)]) w))
   (Cx P 10 #[v5] w fun x28 w =>
   on (xBin P .eql 40 false true x28 (.int .i64 2)) fun x29 =>
   cnd x29
   (Cx P 16 #[v0] w fun x66 w =>
   on (xBuild P 34 #[(0, (.int .u8 1)), (1, x66)]) fun x68 =>
   on (xLen P w #[9] #[x66]) fun x70 =>
   eStore P 34 v2 x68 w fun w =>
   on (xRes P w 34 v2) fun x900_7 =>
   Q (.tuple #[x900_7, x70, (.int .i64 0)]) w)
   (on (xBin P .eql 5 false true v5 (.int .u8 45)) fun x32 =>
   cnd x32
   (F11.k3 Q v0 v2 w)
   (Cx P 10 #[v5] w fun x35 w =>
   on (xBin P .eql 40 false true x35 (.int .i64 3)) fun x36 =>
   cnd x36
   (F11.k3 Q v0 v2 w)
   (F11.k2 Q v2 w))))))
theorem F11.k1_ok (Q : Value → World → Prop) (ρ : Env) (w : World) (h : F11.k1 Q (ρ 0) (ρ 2) (ρ 5) w) : Sd P none false 89 (cN 2 (cB Tryd.f11)) ρ w (retQ P [.cell 2 34, .tmp 3, .tmp 4] Q) :=
  pSeq (by kernel_rfl) (fun ρ w => F11.k2 Q (ρ 2) w) (fun ρ w h => F11.k2_ok Q ρ w h) (pBlock 0 (by kernel_rfl) (pRow 1 (by kernel_rfl) (fun ρ w => F11.k3 Q (ρ 0) (ρ 2) w) (by kernel_rfl) (fun ρ w h => F11.k3_ok Q ρ w h) h))
def F11 (a0 : Value) (w : World) (Q : Value → World → Prop) : Prop :=
   eAlloc P 34 w fun x2 w =>
   on (xIx P 9 a0 (.int .i64 0)) fun x16 =>
   F11.k1 Q a0 x2 x16 w
theorem F11_ok (a0 : Value) (w : World) (Q : Value → World → Prop) (h : F11 a0 w Q) : Cx P 11 #[a0] w Q :=
  pFun false Tryd.f11 (by kernel_rfl) (by kernel_rfl) (by kernel_rfl) (pRow 2 (by kernel_rfl) (fun ρ w => F11.k1 Q (ρ 0) (ρ 2) (ρ 5) w) (by kernel_rfl) (fun ρ w h => F11.k1_ok Q ρ w h) h)

/- 12 intaglio/lex.write -/
def F12 (a0 : Value) (w : World) (Q : Value → World → Prop) : Prop :=
   eBox P 34 a0 w fun x1 w =>
   on (xFA P 34 x1 0) fun x8 =>
   on (xLoad P w 5 x8) fun x9 =>
   on (xBin P .eql 5 false true x9 (.int .u8 1)) fun x11 =>
   cnd x11
   (Dr w fun w =>
   on (xFA P 34 x1 1) fun x12 =>
   on (xLoad P w 9 x12) fun x13 =>
   on (xFA P 34 x1 1) fun x14 =>
   on (xLoad P w 9 x14) fun x15 =>
   on (xBin P .neq 9 false true x15 (.string ⟨#[]⟩)) fun x16 =>
   cnd x16
   (on (xFA P 34 x1 1) fun x18 =>
   on (xLoad P w 9 x18) fun x19 =>
   on (xIx P 9 x19 (.int .i64 0)) fun x20 =>
   Cx P 10 #[x20] w fun x21 w =>
   (xLoad P w 9 x12 = some x13) ∧ (on (xBin P .eql 40 false true x21 (.int .i64 2)) fun x22 =>
   cnd x22
   (on (xFA P 34 x1 1) fun x25 =>
   on (xLoad P w 9 x25) fun x26 =>
   on (xFA P 34 x1 1) fun x28 =>
   on (xLoad P w 9 x28) fun x29 =>
   Cx P 16 #[x26] w fun x27 w =>
   (xLoad P w 9 x28 = some x29) ∧ (xLoad P w 9 x12 = some x13) ∧ (on (xBin P .eql 9 false false x27 x29) fun x30 =>
   Q (.tuple #[x13, x30]) w))
   (Q (.tuple #[x13, (.bool false)]) w)))
   (Q (.tuple #[x13, (.bool false)]) w))
   (on (xBin P .eql 5 false true x9 (.int .u8 2)) fun x33 =>
   cnd x33
   (on (xFA P 34 x1 1) fun x35 =>
   on (xLoad P w 9 x35) fun x36 =>
   Cx P 17 #[x36] w fun x37 w =>
   on (xEx P x37 0) fun x38 =>
   on (xEx P x37 1) fun x39 =>
   on (xFA P 34 x1 1) fun x40 =>
   on (xLoad P w 9 x40) fun x41 =>
   on (xBin P .add 9 true false (.string ⟨#[37]⟩) x41) fun x42 =>
   Q (.tuple #[x42, x39]) w)
   (on (xBin P .eql 5 false true x9 (.int .u8 3)) fun x45 =>
   cnd x45
   (on (xFA P 34 x1 1) fun x47 =>
   on (xLoad P w 9 x47) fun x48 =>
   Cx P 18 #[x48] w fun x49 w =>
   on (xEx P x49 0) fun x50 =>
   on (xEx P x49 1) fun x51 =>
   on (xFA P 34 x1 1) fun x52 =>
   on (xLoad P w 9 x52) fun x53 =>
   on (xBin P .eql 28 false true x51 (.int .i64 0)) fun x55 =>
   Q (.tuple #[x53, x55]) w)
   (on (xBin P .eql 5 false true x9 (.int .u8 4)) fun x57 =>
   cnd x57
   (on (xFA P 34 x1 1) fun x58 =>
   on (xLoad P w 9 x58) fun x59 =>
   Cx P 19 #[x59] w fun x60 w =>
   Q (.tuple #[x60, (.bool true)]) w)
   (on (xBin P .eql 5 false true x9 (.int .u8 5)) fun x62 =>
   cnd x62
   (Dr w fun w =>
   on (xFA P 34 x1 1) fun x63 =>
   on (xLoad P w 9 x63) fun x64 =>
   on (xFA P 34 x1 1) fun x65 =>
   on (xLoad P w 9 x65) fun x66 =>
   on (xBin P .eql 9 false true x66 (.string ⟨#[61]⟩)) fun x67 =>
   Q (.tuple #[x64, x67]) w)
   (Q (.tuple #[(.string ⟨#[]⟩), (.bool false)]) w)))))
theorem F12_ok (a0 : Value) (w : World) (Q : Value → World → Prop) (h : F12 a0 w Q) : Cx P 12 #[a0] w Q :=
  pFun false Tryd.f12 (by kernel_rfl) (by kernel_rfl) (by kernel_rfl) (pLeaf (by kernel_rfl) h)

/- 14 internal/stringslite.Cut -/
def F14 (a0 a1 : Value) (w : World) (Q : Value → World → Prop) : Prop :=
   Cx P 23 #[a0, a1] w fun x10 w =>
   on (xBin P .geq 3 false true x10 (.int .i64 0)) fun x12 =>
   cnd x12
   (Dr w fun w =>
   on (xSl P 9 a0 none (some x10) none) fun x15 =>
   on (xLen P w #[9] #[a1]) fun x19 =>
   on (xBin P .add 3 false false x10 x19) fun x20 =>
   on (xSl P 9 a0 (some x20) none none) fun x21 =>
   Q (.tuple #[x15, x21, (.bool true)]) w)
   (Q (.tuple #[a0, (.string ⟨#[]⟩), (.bool false)]) w)
theorem F14_ok (a0 a1 : Value) (w : World) (Q : Value → World → Prop) (h : F14 a0 a1 w Q) : Cx P 14 #[a0, a1] w Q :=
  pFun false Tryd.f14 (by kernel_rfl) (by kernel_rfl) (by kernel_rfl) (pLeaf (by kernel_rfl) h)

/- 15 intaglio/lex.quoted -/
def F15.k4 (Q : Value → World → Prop) (G1 : Value → Value → Value → World → Prop) (v0 : Value) (v4 : Value) (v5 : Value) (w : World) : Prop :=
   on (xBin P .add 3 false true v5 (.int .i64 1)) fun x55 =>
   G1 v0 v4 x55 w
theorem F15.k4_ok (Q : Value → World → Prop) (G1 : Value → Value → Value → World → Prop) (ρ : Env) (w : World) (h : F15.k4 Q G1 (ρ 0) (ρ 4) (ρ 5) w) : Sd P none false 56 (cR (cN 4 (cL (cN 1 (cB Tryd.f15))))) ρ w (gotoL 0 (fun ρ w => G1 (ρ 0) (ρ 4) (ρ 5) w) (retQ P [.tmp 2, .tmp 3] Q)) :=
  pLeaf (by kernel_rfl) h
def F15.k7 (Q : Value → World → Prop) (G1 : Value → Value → Value → World → Prop) (v4 : Value) (v5 : Value) (w : World) : Prop :=
   eConv P 57 9 v4 w fun x24 w =>
   on (xBin P .add 3 false true v5 (.int .i64 1)) fun x26 =>
   Q (.tuple #[x24, x26]) w
theorem F15.k7_ok (Q : Value → World → Prop) (G1 : Value → Value → Value → World → Prop) (ρ : Env) (w : World) (h : F15.k7 Q G1 (ρ 4) (ρ 5) w) : Sd P none false 56 (cL (cN 1 (cL (cN 1 (cL (cN 4 (cL (cN 1 (cB Tryd.f15))))))))) ρ w (blkQ 0 (thenQ (fun ρ w => F15.k4 Q G1 (ρ 0) (ρ 4) (ρ 5) w) (gotoL 0 (fun ρ w => G1 (ρ 0) (ρ 4) (ρ 5) w) (retQ P [.tmp 2, .tmp 3] Q)))) :=
  pLeaf (by kernel_rfl) h
def F15.k9 (Q : Value → World → Prop) (G1 : Value → Value → Value → World → Prop) (v0 : Value) (v4 : Value) (v5 : Value) (v6 : Value) (v27 : Value) (w : World) : Prop :=
   cnd v27
   (Q (.tuple #[(.string ⟨#[]⟩), (.int .i64 0)]) w)
   (on (xBin P .eql 5 false true v6 (.int .u8 92)) fun x36 =>
   cnd x36
   (on (xBin P .add 3 false true v5 (.int .i64 1)) fun x40 =>
   on (xSl P 9 v0 (some x40) none none) fun x41 =>
   Cx P 24 #[x41] w fun x42 w =>
   on (xEx P x42 0) fun x43 =>
   on (xEx P x42 1) fun x44 =>
   on (xBin P .eql 3 false true x44 (.int .i64 0)) fun x46 =>
   cnd x46
   (Q (.tuple #[(.string ⟨#[]⟩), (.int .i64 0)]) w)
   (eBS P 57 1 #[(0, x43)] w fun x49 w =>
   eApp P #[57, 57] #[v4, x49] w fun x50 w =>
   on (xBin P .add 3 false false v5 x44) fun x53 =>
   F15.k4 Q G1 v0 x50 x53 w))
   (eBS P 57 1 #[(0, v6)] w fun x18 w =>
   eApp P #[57, 57] #[v4, x18] w fun x19 w =>
   F15.k4 Q G1 v0 x19 v5 w))
theorem F15.k9_ok (Q : Value → World → Prop) (G1 : Value → Value → Value → World → Prop) (ρ : Env) (w : World) (h : F15.k9 Q G1 (ρ 0) (ρ 4) (ρ 5) (ρ 6) (ρ 27) w) : Sd P none false 56 (cN 1 (cR (cN 1 (cL (cN 1 (cL (cN 4 (cL (cN 1 (cB Tryd.f15)))))))))) ρ w (blkQ 0 (thenQ (fun ρ w => F15.k4 Q G1 (ρ 0) (ρ 4) (ρ 5) w) (gotoL 0 (fun ρ w => G1 (ρ 0) (ρ 4) (ρ 5) w) (retQ P [.tmp 2, .tmp 3] Q)))) :=
  pLeaf (by kernel_rfl) h
def F15.k8 (Q : Value → World → Prop) (G1 : Value → Value → Value → World → Prop) (v0 : Value) (v4 : Value) (v5 : Value) (v6 : Value) (w : World) : Prop :=
   on (xBin P .lss 5 false true v6 (.int .u8 32)) fun x29 =>
   cnd x29
   (F15.k9 Q G1 v0 v4 v5 v6 (.bool true) w)
   (on (xBin P .gtr 5 false true v6 (.int .u8 126)) fun x32 =>
   F15.k9 Q G1 v0 v4 v5 v6 x32 w)
theorem F15.k8_ok (Q : Value → World → Prop) (G1 : Value → Value → Value → World → Prop) (ρ : Env) (w : World) (h : F15.k8 Q G1 (ρ 0) (ρ 4) (ρ 5) (ρ 6) w) : Sd P none false 56 (cR (cN 1 (cL (cN 1 (cL (cN 4 (cL (cN 1 (cB Tryd.f15))))))))) ρ w (blkQ 0 (thenQ (fun ρ w => F15.k4 Q G1 (ρ 0) (ρ 4) (ρ 5) w) (gotoL 0 (fun ρ w => G1 (ρ 0) (ρ 4) (ρ 5) w) (retQ P [.tmp 2, .tmp 3] Q)))) :=
  pRow 1 (by kernel_rfl) (fun ρ w => F15.k9 Q G1 (ρ 0) (ρ 4) (ρ 5) (ρ 6) (ρ 27) w) (by kernel_rfl) (fun ρ w h => F15.k9_ok Q G1 ρ w h) h
def F15.k6 (Q : Value → World → Prop) (G1 : Value → Value → Value → World → Prop) (v0 : Value) (v4 : Value) (v5 : Value) (v6 : Value) (v20 : Value) (w : World) : Prop :=
   cnd v20
   (F15.k7 Q G1 v4 v5 w)
   (F15.k8 Q G1 v0 v4 v5 v6 w)
theorem F15.k6_ok (Q : Value → World → Prop) (G1 : Value → Value → Value → World → Prop) (ρ : Env) (w : World) (h : F15.k6 Q G1 (ρ 0) (ρ 4) (ρ 5) (ρ 6) (ρ 20) w) : Sd P none false 56 (cN 1 (cL (cN 1 (cL (cN 4 (cL (cN 1 (cB Tryd.f15)))))))) ρ w (blkQ 0 (thenQ (fun ρ w => F15.k4 Q G1 (ρ 0) (ρ 4) (ρ 5) w) (gotoL 0 (fun ρ w => G1 (ρ 0) (ρ 4) (ρ 5) w) (retQ P [.tmp 2, .tmp 3] Q)))) :=
  pCond (A := F15.k7 Q G1 (ρ 4) (ρ 5) w) (B := F15.k8 Q G1 (ρ 0) (ρ 4) (ρ 5) (ρ 6) w) (by kernel_rfl) (by kernel_rfl) (fun h => F15.k7_ok Q G1 _ _ h) (fun h => F15.k8_ok Q G1 _ _ h) h
def F15.k5 (Q : Value → World → Prop) (G1 : Value → Value → Value → World → Prop) (v0 : Value) (v4 : Value) (v5 : Value) (v6 : Value) (w : World) : Prop :=
   on (xBin P .eql 5 false true v6 (.int .u8 34)) fun x22 =>
   F15.k6 Q G1 v0 v4 v5 v6 x22 w
theorem F15.k5_ok (Q : Value → World → Prop) (G1 : Value → Value → Value → World → Prop) (ρ : Env) (w : World) (h : F15.k5 Q G1 (ρ 0) (ρ 4) (ρ 5) (ρ 6) w) : Sd P none false 56 (cN 1 (cL (cN 4 (cL (cN 1 (cB Tryd.f15)))))) ρ w (thenQ (fun ρ w => F15.k4 Q G1 (ρ 0) (ρ 4) (ρ 5) w) (gotoL 0 (fun ρ w => G1 (ρ 0) (ρ 4) (ρ 5) w) (retQ P [.tmp 2, .tmp 3] Q))) :=
  pBlock 0 (by kernel_rfl) (pRow 1 (by kernel_rfl) (fun ρ w => F15.k6 Q G1 (ρ 0) (ρ 4) (ρ 5) (ρ 6) (ρ 20) w) (by kernel_rfl) (fun ρ w h => F15.k6_ok Q G1 ρ w h) h)
def F15.k3 (Q : Value → World → Prop) (G1 : Value → Value → Value → World → Prop) (v0 : Value) (v4 : Value) (v5 : Value) (w : World) : Prop :=
   on (xIx P 9 v0 v5) fun x15 =>
   F15.k5 Q G1 v0 v4 v5 x15 w
theorem F15.k3_ok (Q : Value → World → Prop) (G1 : Value → Value → Value → World → Prop) (ρ : Env) (w : World) (h : F15.k3 Q G1 (ρ 0) (ρ 4) (ρ 5) w) : Sd P none false 56 (cN 4 (cL (cN 1 (cB Tryd.f15)))) ρ w (gotoL 0 (fun ρ w => G1 (ρ 0) (ρ 4) (ρ 5) w) (retQ P [.tmp 2, .tmp 3] Q)) :=
  pSeq (by kernel_rfl) (fun ρ w => F15.k4 Q G1 (ρ 0) (ρ 4) (ρ 5) w) (fun ρ w h => F15.k4_ok Q G1 ρ w h) (pRow 1 (by kernel_rfl) (fun ρ w => F15.k5 Q G1 (ρ 0) (ρ 4) (ρ 5) (ρ 6) w) (by kernel_rfl) (fun ρ w h => F15.k5_ok Q G1 ρ w h) h)
def F15.k2 (Q : Value → World → Prop) (G1 : Value → Value → Value → World → Prop) (v0 : Value) (w : World) : Prop :=
   on (xLen P w #[9] #[v0]) fun x11 =>
   on (xBin P .geq 3 false false (.int .i64 1) x11) fun x12 =>
   cnd x12
   (Q (.tuple #[(.string ⟨#[]⟩), (.int .i64 0)]) w)
   (F15.k3 Q G1 v0 (.slice none 0 0) (.int .i64 1) w)
theorem F15.k2_ok (Q : Value → World → Prop) (G1 : Value → Value → Value → World → Prop) (ρ : Env) (w : World) (h : F15.k2 Q G1 (ρ 0) w) : Sd P none false 56 (cL (cN 1 (cB Tryd.f15))) ρ w (gotoL 0 (fun ρ w => G1 (ρ 0) (ρ 4) (ρ 5) w) (retQ P [.tmp 2, .tmp 3] Q)) :=
  pRow 4 (by kernel_rfl) (fun ρ w => F15.k3 Q G1 (ρ 0) (ρ 4) (ρ 5) w) (by kernel_rfl) (fun ρ w h => F15.k3_ok Q G1 ρ w h) h
def F15.k10 (Q : Value → World → Prop) (G1 : Value → Value → Value → World → Prop) (v0 : Value) (v4 : Value) (v5 : Value) (w : World) : Prop :=
   on (xLen P w #[9] #[v0]) fun x11 =>
   on (xBin P .geq 3 false false v5 x11) fun x12 =>
   cnd x12
   (Q (.tuple #[(.string ⟨#[]⟩), (.int .i64 0)]) w)
   (F15.k3 Q G1 v0 v4 v5 w)
theorem F15.k10_ok (Q : Value → World → Prop) (G1 : Value → Value → Value → World → Prop) (ρ : Env) (w : World) (h : F15.k10 Q G1 (ρ 0) (ρ 4) (ρ 5) w) : Sd P none false 56 (cG (cN 1 (cB Tryd.f15)) 0) ρ w (gotoL 0 (fun ρ w => G1 (ρ 0) (ρ 4) (ρ 5) w) (retQ P [.tmp 2, .tmp 3] Q)) :=
  pRow 2 (by kernel_rfl) (fun ρ w => F15.k3 Q G1 (ρ 0) (ρ 4) (ρ 5) w) (by kernel_rfl) (fun ρ w h => pCast (by kernel_rfl) (F15.k3_ok Q G1 ρ w h)) h
def F15.g1 (Q : Value → World → Prop) : Nat → Value → Value → Value → World → Prop
 | 0, _, _, _, _ => False
 | n + 1, v0, v4, v5, w => F15.k10 Q (F15.g1 Q n) v0 v4 v5 w
def F15.k1 (Q : Value → World → Prop) (v0 : Value) (w : World) : Prop :=
   ∃ n, F15.k2 Q (F15.g1 Q n) v0 w
theorem F15.k1_ok (Q : Value → World → Prop) (ρ : Env) (w : World) (h : F15.k1 Q (ρ 0) w) : Sd P none false 56 (cN 1 (cB Tryd.f15)) ρ w (retQ P [.tmp 2, .tmp 3] Q) :=
  pScope1 0 (by kernel_rfl) (by kernel_rfl) (fun n ρ w => F15.g1 Q n (ρ 0) (ρ 4) (ρ 5) w) (fun _ _ h => h) (fun n ρ w h => F15.k10_ok Q (F15.g1 Q n) ρ w h) (Exists.elim h fun n h => ⟨n, F15.k2_ok Q (F15.g1 Q n) _ _ h⟩)
def F15 (a0 : Value) (w : World) (Q : Value → World → Prop) : Prop :=
   F15.k1 Q a0 w
theorem F15_ok (a0 : Value) (w : World) (Q : Value → World → Prop) (h : F15 a0 w Q) : Cx P 15 #[a0] w Q :=
  pFun false Tryd.f15 (by kernel_rfl) (by kernel_rfl) (by kernel_rfl) (pRow 1 (by kernel_rfl) (fun ρ w => F15.k1 Q (ρ 0) w) (by kernel_rfl) (fun ρ w h => F15.k1_ok Q ρ w h) h)

/- 16 intaglio/lex.run -/
def F16.k2 (Q : Value → World → Prop) (v0 : Value) (v3 : Value) (w : World) : Prop :=
   on (xSl P 9 v0 none (some v3) none) fun x19 =>
   Q x19 w
theorem F16.k2_ok (Q : Value → World → Prop) (ρ : Env) (w : World) (h : F16.k2 Q (ρ 0) (ρ 3) w) : Sd P none false 20 (cR (cN 2 (cB Tryd.f16))) ρ w (retQ P [.tmp 2] Q) :=
  pLeaf (by kernel_rfl) h
def F16.l1 (Q : Value → World → Prop) : Nat → Value → Value → World → Prop
 | 0, _, _, _ => False
 | n + 1, v0, v3, w => on (xLen P w #[9] #[v0]) fun x6 =>
   on (xBin P .lss 3 false false v3 x6) fun x7 =>
   cnd x7
   (on (xIx P 9 v0 v3) fun x11 =>
   Cx P 10 #[x11] w fun x12 w =>
   on (xBin P .geq 40 false true x12 (.int .i64 2)) fun x13 =>
   cnd x13
   (on (xBin P .add 3 false true v3 (.int .i64 1)) fun x16 =>
   F16.l1 Q n v0 x16 w)
   (F16.k2 Q v0 v3 w))
   (F16.k2 Q v0 v3 w)
theorem F16.l1_ok (Q : Value → World → Prop) (ρ : Env) (w : World) (h : ∃ n, F16.l1 Q n (ρ 0) (ρ 3) w) : Sd P none false 20 (cL (cL (cN 2 (cB Tryd.f16)))) ρ w (blkQ 0 (thenQ (fun ρ w => F16.k2 Q (ρ 0) (ρ 3) w) (retQ P [.tmp 2] Q))) :=
  pLoop (by kernel_rfl) (fun n ρ w => F16.l1 Q n (ρ 0) (ρ 3) w) (fun _ _ h => h) (fun n ρ w h => pLeaf (S := F16.l1 Q (n + 1) (ρ 0) (ρ 3) w) (by kernel_rfl) h) h
def F16.k1 (Q : Value → World → Prop) (v0 : Value) (v3 : Value) (w : World) : Prop :=
   ∃ n, F16.l1 Q n v0 v3 w
theorem F16.k1_ok (Q : Value → World → Prop) (ρ : Env) (w : World) (h : F16.k1 Q (ρ 0) (ρ 3) w) : Sd P none false 20 (cN 2 (cB Tryd.f16)) ρ w (retQ P [.tmp 2] Q) :=
  pSeq (by kernel_rfl) (fun ρ w => F16.k2 Q (ρ 0) (ρ 3) w) (fun ρ w h => F16.k2_ok Q ρ w h) (pBlock 0 (by kernel_rfl) (F16.l1_ok Q _ _ h))
def F16 (a0 : Value) (w : World) (Q : Value → World → Prop) : Prop :=
   F16.k1 Q a0 (.int .i64 0) w
theorem F16_ok (a0 : Value) (w : World) (Q : Value → World → Prop) (h : F16 a0 w Q) : Cx P 16 #[a0] w Q :=
  pFun false Tryd.f16 (by kernel_rfl) (by kernel_rfl) (by kernel_rfl) (pRow 2 (by kernel_rfl) (fun ρ w => F16.k1 Q (ρ 0) (ρ 3) w) (by kernel_rfl) (fun ρ w h => F16.k1_ok Q ρ w h) h)

/- 17 intaglio/lex.plain -/
def F17 (a0 : Value) (w : World) (Q : Value → World → Prop) : Prop :=
   Cx P 25 #[a0, (.int .i64 10), (.int .i64 32)] w fun x8 w =>
   on (xEx P x8 0) fun x9 =>
   on (xEx P x8 1) fun x10 =>
   on (xConv P 69 51 x9) fun x12 =>
   on (xBin P .eql 62 false true x10 .nilIface) fun x14 =>
   cnd x14
   (Cx P 26 #[x9, (.int .i64 10)] w fun x17 w =>
   on (xBin P .eql 9 false false x17 a0) fun x19 =>
   Q (.tuple #[x12, x19]) w)
   (Q (.tuple #[x12, (.bool false)]) w)
theorem F17_ok (a0 : Value) (w : World) (Q : Value → World → Prop) (h : F17 a0 w Q) : Cx P 17 #[a0] w Q :=
  pFun false Tryd.f17 (by kernel_rfl) (by kernel_rfl) (by kernel_rfl) (pLeaf (by kernel_rfl) h)

/- 18 intaglio/lex.Number -/
def F18.k3 (Q : Value → World → Prop) (w : World) : Prop :=
   Q (.tuple #[(.int .u32 0), (.int .i64 62)]) w
theorem F18.k3_ok (Q : Value → World → Prop) (ρ : Env) (w : World) (h : F18.k3 Q w) : Sd P none false 74 (cR (cR (cN 2 (cB Tryd.f18)))) ρ w (retQ P [.tmp 2, .tmp 3] Q) :=
  pLeaf (by kernel_rfl) h
def F18.k6 (Q : Value → World → Prop) (v12 : Value) (v71 : Value) (w : World) : Prop :=
   cnd v71
   (on (xConv P 69 51 v12) fun x73 =>
   Q (.tuple #[x73, (.int .i64 0)]) w)
   (F18.k3 Q w)
theorem F18.k6_ok (Q : Value → World → Prop) (ρ : Env) (w : World) (h : F18.k6 Q (ρ 12) (ρ 71) w) : Sd P none false 74 (cN 2 (cL (cN 2 (cL (cR (cN 2 (cB Tryd.f18))))))) ρ w (thenQ (fun ρ w => F18.k3 Q w) (retQ P [.tmp 2, .tmp 3] Q)) :=
  pLeaf (by kernel_rfl) h
def F18.k5 (Q : Value → World → Prop) (v10 : Value) (w : World) : Prop :=
   Cx P 25 #[v10, (.int .i64 16), (.int .i64 32)] w fun x62 w =>
   on (xEx P x62 0) fun x63 =>
   on (xEx P x62 1) fun x64 =>
   on (xBin P .eql 62 false true x64 .nilIface) fun x66 =>
   cnd x66
   (Cx P 28 #[v10, (.int .u8 95)] w fun x69 w =>
   on (xBin P .lss 3 false true x69 (.int .i64 0)) fun x70 =>
   F18.k6 Q x63 x70 w)
   (F18.k6 Q x63 (.bool false) w)
theorem F18.k5_ok (Q : Value → World → Prop) (ρ : Env) (w : World) (h : F18.k5 Q (ρ 10) w) : Sd P none false 74 (cL (cN 2 (cL (cR (cN 2 (cB Tryd.f18)))))) ρ w (thenQ (fun ρ w => F18.k3 Q w) (retQ P [.tmp 2, .tmp 3] Q)) :=
  pRow 2 (by kernel_rfl) (fun ρ w => F18.k6 Q (ρ 12) (ρ 71) w) (by kernel_rfl) (fun ρ w h => F18.k6_ok Q ρ w h) h
def F18.k7 (Q : Value → World → Prop) (w : World) : Prop :=
   F18.k3 Q w
theorem F18.k7_ok (Q : Value → World → Prop) (ρ : Env) (w : World) (h : F18.k7 Q w) : Sd P none false 74 (cR (cN 2 (cL (cR (cN 2 (cB Tryd.f18)))))) ρ w (thenQ (fun ρ w => F18.k3 Q w) (retQ P [.tmp 2, .tmp 3] Q)) :=
  pLeaf (by kernel_rfl) h
def F18.k4 (Q : Value → World → Prop) (v10 : Value) (v59 : Value) (w : World) : Prop :=
   cnd v59
   (F18.k5 Q v10 w)
   (F18.k7 Q w)
theorem F18.k4_ok (Q : Value → World → Prop) (ρ : Env) (w : World) (h : F18.k4 Q (ρ 10) (ρ 59) w) : Sd P none false 74 (cN 2 (cL (cR (cN 2 (cB Tryd.f18))))) ρ w (thenQ (fun ρ w => F18.k3 Q w) (retQ P [.tmp 2, .tmp 3] Q)) :=
  pCond (A := F18.k5 Q (ρ 10) w) (B := F18.k7 Q w) (by kernel_rfl) (by kernel_rfl) (fun h => F18.k5_ok Q _ _ h) (fun h => F18.k7_ok Q _ _ h) h
def F18.k2 (Q : Value → World → Prop) (v0 : Value) (w : World) : Prop :=
   Cx P 27 #[v0, (.string ⟨#[48, 120]⟩)] w fun x45 w =>
   on (xEx P x45 0) fun x46 =>
   on (xEx P x45 1) fun x47 =>
   cnd x47
   (on (xLen P w #[9] #[x46]) fun x51 =>
   on (xBin P .leq 3 false true x51 (.int .i64 8)) fun x52 =>
   cnd x52
   (Cx P 16 #[x46] w fun x56 w =>
   on (xBin P .eql 9 false false x56 x46) fun x58 =>
   F18.k4 Q x46 x58 w)
   (F18.k4 Q x46 (.bool false) w))
   (F18.k4 Q x46 (.bool false) w)
theorem F18.k2_ok (Q : Value → World → Prop) (ρ : Env) (w : World) (h : F18.k2 Q (ρ 0) w) : Sd P none false 74 (cR (cN 2 (cB Tryd.f18))) ρ w (retQ P [.tmp 2, .tmp 3] Q) :=
  pSeq (by kernel_rfl) (fun ρ w => F18.k3 Q w) (fun ρ w h => F18.k3_ok Q ρ w h) (pRow 2 (by kernel_rfl) (fun ρ w => F18.k4 Q (ρ 10) (ρ 59) w) (by kernel_rfl) (fun ρ w h => F18.k4_ok Q ρ w h) h)
def F18.k10 (Q : Value → World → Prop) (v0 : Value) (v8 : Value) (v40 : Value) (w : World) : Prop :=
   cnd v40
   (on (xUn P .neg v8) fun x42 =>
   Q (.tuple #[x42, (.int .i64 0)]) w)
   (F18.k2 Q v0 w)
theorem F18.k10_ok (Q : Value → World → Prop) (ρ : Env) (w : World) (h : F18.k10 Q (ρ 0) (ρ 8) (ρ 40) w) : Sd P none false 74 (cN 2 (cL (cN 2 (cL (cN 2 (cB Tryd.f18)))))) ρ w (thenQ (fun ρ w => F18.k2 Q (ρ 0) w) (retQ P [.tmp 2, .tmp 3] Q)) :=
  pLeaf (by kernel_rfl) h
def F18.k9 (Q : Value → World → Prop) (v0 : Value) (v6 : Value) (w : World) : Prop :=
   Cx P 17 #[v6] w fun x29 w =>
   on (xEx P x29 0) fun x30 =>
   on (xEx P x29 1) fun x31 =>
   cnd x31
   (on (xBin P .geq 51 false true x30 (.int .u32 1)) fun x35 =>
   cnd x35
   (on (xBin P .leq 51 false true x30 (.int .u32 2147483648)) fun x39 =>
   F18.k10 Q v0 x30 x39 w)
   (F18.k10 Q v0 x30 (.bool false) w))
   (F18.k10 Q v0 x30 (.bool false) w)
theorem F18.k9_ok (Q : Value → World → Prop) (ρ : Env) (w : World) (h : F18.k9 Q (ρ 0) (ρ 6) w) : Sd P none false 74 (cL (cN 2 (cL (cN 2 (cB Tryd.f18))))) ρ w (thenQ (fun ρ w => F18.k2 Q (ρ 0) w) (retQ P [.tmp 2, .tmp 3] Q)) :=
  pRow 2 (by kernel_rfl) (fun ρ w => F18.k10 Q (ρ 0) (ρ 8) (ρ 40) w) (by kernel_rfl) (fun ρ w h => F18.k10_ok Q ρ w h) h
def F18.k11 (Q : Value → World → Prop) (v0 : Value) (w : World) : Prop :=
   F18.k2 Q v0 w
theorem F18.k11_ok (Q : Value → World → Prop) (ρ : Env) (w : World) (h : F18.k11 Q (ρ 0) w) : Sd P none false 74 (cR (cN 2 (cL (cN 2 (cB Tryd.f18))))) ρ w (thenQ (fun ρ w => F18.k2 Q (ρ 0) w) (retQ P [.tmp 2, .tmp 3] Q)) :=
  pLeaf (by kernel_rfl) h
def F18.k8 (Q : Value → World → Prop) (v0 : Value) (v6 : Value) (v26 : Value) (w : World) : Prop :=
   cnd v26
   (F18.k9 Q v0 v6 w)
   (F18.k11 Q v0 w)
theorem F18.k8_ok (Q : Value → World → Prop) (ρ : Env) (w : World) (h : F18.k8 Q (ρ 0) (ρ 6) (ρ 26) w) : Sd P none false 74 (cN 2 (cL (cN 2 (cB Tryd.f18)))) ρ w (thenQ (fun ρ w => F18.k2 Q (ρ 0) w) (retQ P [.tmp 2, .tmp 3] Q)) :=
  pCond (A := F18.k9 Q (ρ 0) (ρ 6) w) (B := F18.k11 Q (ρ 0) w) (by kernel_rfl) (by kernel_rfl) (fun h => F18.k9_ok Q _ _ h) (fun h => F18.k11_ok Q _ _ h) h
def F18.k1 (Q : Value → World → Prop) (v0 : Value) (w : World) : Prop :=
   Cx P 27 #[v0, (.string ⟨#[45]⟩)] w fun x23 w =>
   on (xEx P x23 0) fun x24 =>
   on (xEx P x23 1) fun x25 =>
   F18.k8 Q v0 x24 x25 w
theorem F18.k1_ok (Q : Value → World → Prop) (ρ : Env) (w : World) (h : F18.k1 Q (ρ 0) w) : Sd P none false 74 (cN 2 (cB Tryd.f18)) ρ w (retQ P [.tmp 2, .tmp 3] Q) :=
  pSeq (by kernel_rfl) (fun ρ w => F18.k2 Q (ρ 0) w) (fun ρ w h => F18.k2_ok Q ρ w h) (pRow 2 (by kernel_rfl) (fun ρ w => F18.k8 Q (ρ 0) (ρ 6) (ρ 26) w) (by kernel_rfl) (fun ρ w h => F18.k8_ok Q ρ w h) h)
def F18 (a0 : Value) (w : World) (Q : Value → World → Prop) : Prop :=
   Cx P 17 #[a0] w fun x16 w =>
   on (xEx P x16 0) fun x17 =>
   on (xEx P x16 1) fun x18 =>
   cnd x18
   (Q (.tuple #[x17, (.int .i64 0)]) w)
   (F18.k1 Q a0 w)
theorem F18_ok (a0 : Value) (w : World) (Q : Value → World → Prop) (h : F18 a0 w Q) : Cx P 18 #[a0] w Q :=
  pFun false Tryd.f18 (by kernel_rfl) (by kernel_rfl) (by kernel_rfl) (pRow 2 (by kernel_rfl) (fun ρ w => F18.k1 Q (ρ 0) w) (by kernel_rfl) (fun ρ w h => F18.k1_ok Q ρ w h) h)

/- 19 intaglio/lex.Quote -/
def F19.k2 (Q : Value → World → Prop) (v3 : Value) (w : World) : Prop :=
   eBS P 57 1 #[(0, (.int .u8 34))] w fun x45 w =>
   eApp P #[57, 57] #[v3, x45] w fun x46 w =>
   eConv P 57 9 x46 w fun x47 w =>
   Q x47 w
theorem F19.k2_ok (Q : Value → World → Prop) (ρ : Env) (w : World) (h : F19.k2 Q (ρ 3) w) : Sd P none false 48 (cR (cN 2 (cB Tryd.f19))) ρ w (retQ P [.tmp 2] Q) :=
  pLeaf (by kernel_rfl) h
def F19.k5 (Q : Value → World → Prop) (R : Value → Value → Value → World → Prop) (v0 : Value) (v3 : Value) (v4 : Value) (w : World) : Prop :=
   on (xBin P .add 3 false true v4 (.int .i64 1)) fun x12 =>
   R v0 v3 x12 w
theorem F19.k5_ok (Q : Value → World → Prop) (R : Value → Value → Value → World → Prop) (ρ : Env) (w : World) (h : F19.k5 Q R (ρ 0) (ρ 3) (ρ 4) w) : Sd P none false 48 (cR (cN 1 (cL (cL (cN 1 (cL (cN 2 (cB Tryd.f19)))))))) ρ w (thenQ (fun ρ w => R (ρ 0) (ρ 3) (ρ 4) w) (blkQ 0 (thenQ (fun ρ w => F19.k2 Q (ρ 3) w) (retQ P [.tmp 2] Q)))) :=
  pLeaf (by kernel_rfl) h
def F19.k7 (Q : Value → World → Prop) (R : Value → Value → Value → World → Prop) (v0 : Value) (v3 : Value) (v4 : Value) (v5 : Value) (w : World) : Prop :=
   eBS P 57 1 #[(0, v5)] w fun x42 w =>
   eApp P #[57, 57] #[v3, x42] w fun x43 w =>
   F19.k5 Q R v0 x43 v4 w
theorem F19.k7_ok (Q : Value → World → Prop) (R : Value → Value → Value → World → Prop) (ρ : Env) (w : World) (h : F19.k7 Q R (ρ 0) (ρ 3) (ρ 4) (ρ 5) w) : Sd P none false 48 (cR (cL (cN 1 (cL (cL (cN 1 (cL (cL (cN 1 (cL (cN 2 (cB Tryd.f19)))))))))))) ρ w (blkQ 2 (blkQ 1 (thenQ (fun ρ w => F19.k5 Q R (ρ 0) (ρ 3) (ρ 4) w) (thenQ (fun ρ w => R (ρ 0) (ρ 3) (ρ 4) w) (blkQ 0 (thenQ (fun ρ w => F19.k2 Q (ρ 3) w) (retQ P [.tmp 2] Q))))))) :=
  pLeaf (by kernel_rfl) h
def F19.k8 (Q : Value → World → Prop) (R : Value → Value → Value → World → Prop) (v0 : Value) (v3 : Value) (v4 : Value) (v5 : Value) (w : World) : Prop :=
   eBS P 57 1 #[(0, (.int .u8 92))] w fun x38 w =>
   eApp P #[57, 57] #[v3, x38] w fun x39 w =>
   F19.k7 Q R v0 x39 v4 v5 w
theorem F19.k8_ok (Q : Value → World → Prop) (R : Value → Value → Value → World → Prop) (ρ : Env) (w : World) (h : F19.k8 Q R (ρ 0) (ρ 3) (ρ 4) (ρ 5) w) : Sd P none false 48 (cR (cL (cL (cL (cN 1 (cL (cL (cN 1 (cL (cL (cN 1 (cL (cN 2 (cB Tryd.f19)))))))))))))) ρ w (blkQ 5 (thenQ (fun ρ w => F19.k7 Q R (ρ 0) (ρ 3) (ρ 4) (ρ 5) w) (blkQ 2 (blkQ 1 (thenQ (fun ρ w => F19.k5 Q R (ρ 0) (ρ 3) (ρ 4) w) (thenQ (fun ρ w => R (ρ 0) (ρ 3) (ρ 4) w) (blkQ 0 (thenQ (fun ρ w => F19.k2 Q (ρ 3) w) (retQ P [.tmp 2] Q))))))))) :=
  pLeaf (by kernel_rfl) h
def F19.k9 (Q : Value → World → Prop) (R : Value → Value → Value → World → Prop) (v0 : Value) (v3 : Value) (v4 : Value) (v5 : Value) (w : World) : Prop :=
   Dr w fun w =>
   on (xBin P .shr 5 false true v5 (.int .u64 4)) fun x30 =>
   on (xIx P 9 (.string ⟨#[48, 49, 50, 51, 52, 53, 54, 55, 56, 57, 97, 98, 99, 100, 101, 102]⟩) x30) fun x31 =>
   on (xBin P .and 5 false true v5 (.int .u8 15)) fun x33 =>
   on (xIx P 9 (.string ⟨#[48, 49, 50, 51, 52, 53, 54, 55, 56, 57, 97, 98, 99, 100, 101, 102]⟩) x33) fun x34 =>
   eBS P 57 4 #[(0, (.int .u8 92)), (1, (.int .u8 120)), (2, x31), (3, x34)] w fun x35 w =>
   eApp P #[57, 57] #[v3, x35] w fun x36 w =>
   F19.k5 Q R v0 x36 v4 w
theorem F19.k9_ok (Q : Value → World → Prop) (R : Value → Value → Value → World → Prop) (ρ : Env) (w : World) (h : F19.k9 Q R (ρ 0) (ρ 3) (ρ 4) (ρ 5) w) : Sd P none false 48 (cR (cL (cL (cL (cL (cL (cN 1 (cL (cL (cN 1 (cL (cL (cN 1 (cL (cN 2 (cB Tryd.f19)))))))))))))))) ρ w (blkQ 4 (thenQ (fun ρ w => F19.k8 Q R (ρ 0) (ρ 3) (ρ 4) (ρ 5) w) (blkQ 5 (thenQ (fun ρ w => F19.k7 Q R (ρ 0) (ρ 3) (ρ 4) (ρ 5) w) (blkQ 2 (blkQ 1 (thenQ (fun ρ w => F19.k5 Q R (ρ 0) (ρ 3) (ρ 4) w) (thenQ (fun ρ w => R (ρ 0) (ρ 3) (ρ 4) w) (blkQ 0 (thenQ (fun ρ w => F19.k2 Q (ρ 3) w) (retQ P [.tmp 2] Q))))))))))) :=
  pLeaf (by kernel_rfl) h
def F19.k10 (Q : Value → World → Prop) (R : Value → Value → Value → World → Prop) (v0 : Value) (v3 : Value) (v4 : Value) (v5 : Value) (w : World) : Prop :=
   F19.k7 Q R v0 v3 v4 v5 w
theorem F19.k10_ok (Q : Value → World → Prop) (R : Value → Value → Value → World → Prop) (ρ : Env) (w : World) (h : F19.k10 Q R (ρ 0) (ρ 3) (ρ 4) (ρ 5) w) : Sd P none false 48 (cR (cL (cL (cL (cL (cL (cL (cL (cN 1 (cL (cL (cN 1 (cL (cL (cN 1 (cL (cN 2 (cB Tryd.f19)))))))))))))))))) ρ w (blkQ 3 (thenQ (fun ρ w => F19.k9 Q R (ρ 0) (ρ 3) (ρ 4) (ρ 5) w) (blkQ 4 (thenQ (fun ρ w => F19.k8 Q R (ρ 0) (ρ 3) (ρ 4) (ρ 5) w) (blkQ 5 (thenQ (fun ρ w => F19.k7 Q R (ρ 0) (ρ 3) (ρ 4) (ρ 5) w) (blkQ 2 (blkQ 1 (thenQ (fun ρ w => F19.k5 Q R (ρ 0) (ρ 3) (ρ 4) w) (thenQ (fun ρ w => R (ρ 0) (ρ 3) (ρ 4) w) (blkQ 0 (thenQ (fun ρ w => F19.k2 Q (ρ 3) w) (retQ P [.tmp 2] Q))))))))))))) :=
  pLeaf (by kernel_rfl) h
def F19.k11 (Q : Value → World → Prop) (R : Value → Value → Value → World → Prop) (v0 : Value) (v3 : Value) (v4 : Value) (v5 : Value) (w : World) : Prop :=
   on (xBin P .eql 5 false true v5 (.int .u8 34)) fun x25 =>
   cnd x25
   (cnd x25
   (F19.k8 Q R v0 v3 v4 v5 w)
   (F19.k10 Q R v0 v3 v4 v5 w))
   (on (xBin P .eql 5 false true v5 (.int .u8 92)) fun x27 =>
   cnd x27
   (F19.k8 Q R v0 v3 v4 v5 w)
   (F19.k10 Q R v0 v3 v4 v5 w))
theorem F19.k11_ok (Q : Value → World → Prop) (R : Value → Value → Value → World → Prop) (ρ : Env) (w : World) (h : F19.k11 Q R (ρ 0) (ρ 3) (ρ 4) (ρ 5) w) : Sd P none false 48 (cN 1 (cL (cL (cL (cL (cL (cL (cL (cL (cN 1 (cL (cL (cN 1 (cL (cL (cN 1 (cL (cN 2 (cB Tryd.f19))))))))))))))))))) ρ w (thenQ (fun ρ w => F19.k10 Q R (ρ 0) (ρ 3) (ρ 4) (ρ 5) w) (blkQ 3 (thenQ (fun ρ w => F19.k9 Q R (ρ 0) (ρ 3) (ρ 4) (ρ 5) w) (blkQ 4 (thenQ (fun ρ w => F19.k8 Q R (ρ 0) (ρ 3) (ρ 4) (ρ 5) w) (blkQ 5 (thenQ (fun ρ w => F19.k7 Q R (ρ 0) (ρ 3) (ρ 4) (ρ 5) w) (blkQ 2 (blkQ 1 (thenQ (fun ρ w => F19.k5 Q R (ρ 0) (ρ 3) (ρ 4) w) (thenQ (fun ρ w => R (ρ 0) (ρ 3) (ρ 4) w) (blkQ 0 (thenQ (fun ρ w => F19.k2 Q (ρ 3) w) (retQ P [.tmp 2] Q)))))))))))))) :=
  pLeaf (by kernel_rfl) h
def F19.k6 (Q : Value → World → Prop) (R : Value → Value → Value → World → Prop) (v0 : Value) (v3 : Value) (v4 : Value) (v5 : Value) (w : World) : Prop :=
   on (xBin P .lss 5 false true v5 (.int .u8 32)) fun x18 =>
   cnd x18
   (F19.k9 Q R v0 v3 v4 v5 w)
   (on (xBin P .gtr 5 false true v5 (.int .u8 126)) fun x21 =>
   cnd x21
   (F19.k9 Q R v0 v3 v4 v5 w)
   (F19.k11 Q R v0 v3 v4 v5 w))
theorem F19.k6_ok (Q : Value → World → Prop) (R : Value → Value → Value → World → Prop) (ρ : Env) (w : World) (h : F19.k6 Q R (ρ 0) (ρ 3) (ρ 4) (ρ 5) w) : Sd P none false 48 (cN 1 (cL (cL (cN 1 (cL (cL (cN 1 (cL (cN 2 (cB Tryd.f19)))))))))) ρ w (blkQ 1 (thenQ (fun ρ w => F19.k5 Q R (ρ 0) (ρ 3) (ρ 4) w) (thenQ (fun ρ w => R (ρ 0) (ρ 3) (ρ 4) w) (blkQ 0 (thenQ (fun ρ w => F19.k2 Q (ρ 3) w) (retQ P [.tmp 2] Q)))))) :=
  pBlock 2 (by kernel_rfl) (pSeq (by kernel_rfl) (fun ρ w => F19.k7 Q R (ρ 0) (ρ 3) (ρ 4) (ρ 5) w) (fun ρ w h => F19.k7_ok Q R ρ w h) (pBlock 5 (by kernel_rfl) (pSeq (by kernel_rfl) (fun ρ w => F19.k8 Q R (ρ 0) (ρ 3) (ρ 4) (ρ 5) w) (fun ρ w h => F19.k8_ok Q R ρ w h) (pBlock 4 (by kernel_rfl) (pSeq (by kernel_rfl) (fun ρ w => F19.k9 Q R (ρ 0) (ρ 3) (ρ 4) (ρ 5) w) (fun ρ w h => F19.k9_ok Q R ρ w h) (pBlock 3 (by kernel_rfl) (pSeq (by kernel_rfl) (fun ρ w => F19.k10 Q R (ρ 0) (ρ 3) (ρ 4) (ρ 5) w) (fun ρ w h => F19.k10_ok Q R ρ w h) (pRow 1 (by kernel_rfl) (fun ρ w => F19.k11 Q R (ρ 0) (ρ 3) (ρ 4) (ρ 5) w) (by kernel_rfl) (fun ρ w h => F19.k11_ok Q R ρ w h) h))))))))
def F19.k4 (Q : Value → World → Prop) (R : Value → Value → Value → World → Prop) (v0 : Value) (v3 : Value) (v4 : Value) (w : World) : Prop :=
   on (xIx P 9 v0 v4) fun x15 =>
   F19.k6 Q R v0 v3 v4 x15 w
theorem F19.k4_ok (Q : Value → World → Prop) (R : Value → Value → Value → World → Prop) (ρ : Env) (w : World) (h : F19.k4 Q R (ρ 0) (ρ 3) (ρ 4) w) : Sd P none false 48 (cN 1 (cL (cL (cN 1 (cL (cN 2 (cB Tryd.f19))))))) ρ w (thenQ (fun ρ w => R (ρ 0) (ρ 3) (ρ 4) w) (blkQ 0 (thenQ (fun ρ w => F19.k2 Q (ρ 3) w) (retQ P [.tmp 2] Q)))) :=
  pSeq (by kernel_rfl) (fun ρ w => F19.k5 Q R (ρ 0) (ρ 3) (ρ 4) w) (fun ρ w h => F19.k5_ok Q R ρ w h) (pBlock 1 (by kernel_rfl) (pRow 1 (by kernel_rfl) (fun ρ w => F19.k6 Q R (ρ 0) (ρ 3) (ρ 4) (ρ 5) w) (by kernel_rfl) (fun ρ w h => F19.k6_ok Q R ρ w h) h))
def F19.l1.b (Q : Value → World → Prop) (R : Value → Value → Value → World → Prop) (v0 : Value) (v3 : Value) (v4 : Value) (w : World) : Prop :=
   on (xLen P w #[9] #[v0]) fun x9 =>
   on (xBin P .lss 3 false false v4 x9) fun x10 =>
   cnd x10
   (F19.k4 Q R v0 v3 v4 w)
   (F19.k2 Q v3 w)
theorem F19.l1.b_ok (Q : Value → World → Prop) (R : Value → Value → Value → World → Prop) (ρ : Env) (w : World) (h : F19.l1.b Q R (ρ 0) (ρ 3) (ρ 4) w) : Sd P none false 48 (cL (cL (cN 1 (cL (cN 2 (cB Tryd.f19)))))) ρ w (thenQ (fun ρ w => R (ρ 0) (ρ 3) (ρ 4) w) (blkQ 0 (thenQ (fun ρ w => F19.k2 Q (ρ 3) w) (retQ P [.tmp 2] Q)))) :=
  pRow 1 (by kernel_rfl) (fun ρ w => F19.k4 Q R (ρ 0) (ρ 3) (ρ 4) w) (by kernel_rfl) (fun ρ w h => F19.k4_ok Q R ρ w h) h
def F19.l1 (Q : Value → World → Prop) : Nat → Value → Value → Value → World → Prop
 | 0, _, _, _, _ => False
 | n + 1, v0, v3, v4, w => F19.l1.b Q (F19.l1 Q n) v0 v3 v4 w
theorem F19.l1_ok (Q : Value → World → Prop) (ρ : Env) (w : World) (h : ∃ n, F19.l1 Q n (ρ 0) (ρ 3) (ρ 4) w) : Sd P none false 48 (cL (cN 1 (cL (cN 2 (cB Tryd.f19))))) ρ w (blkQ 0 (thenQ (fun ρ w => F19.k2 Q (ρ 3) w) (retQ P [.tmp 2] Q))) :=
  pLoop (by kernel_rfl) (fun n ρ w => F19.l1 Q n (ρ 0) (ρ 3) (ρ 4) w) (fun _ _ h => h) (fun n ρ w h => F19.l1.b_ok Q (F19.l1 Q n) ρ w h) h
def F19.k3 (Q : Value → World → Prop) (v0 : Value) (v3 : Value) (v4 : Value) (w : World) : Prop :=
   ∃ n, F19.l1 Q n v0 v3 v4 w
theorem F19.k3_ok (Q : Value → World → Prop) (ρ : Env) (w : World) (h : F19.k3 Q (ρ 0) (ρ 3) (ρ 4) w) : Sd P none false 48 (cN 1 (cL (cN 2 (cB Tryd.f19)))) ρ w (thenQ (fun ρ w => F19.k2 Q (ρ 3) w) (retQ P [.tmp 2] Q)) :=
  pBlock 0 (by kernel_rfl) (F19.l1_ok Q _ _ h)
def F19.k1 (Q : Value → World → Prop) (v0 : Value) (v3 : Value) (w : World) : Prop :=
   F19.k3 Q v0 v3 (.int .i64 0) w
theorem F19.k1_ok (Q : Value → World → Prop) (ρ : Env) (w : World) (h : F19.k1 Q (ρ 0) (ρ 3) w) : Sd P none false 48 (cN 2 (cB Tryd.f19)) ρ w (retQ P [.tmp 2] Q) :=
  pSeq (by kernel_rfl) (fun ρ w => F19.k2 Q (ρ 3) w) (fun ρ w h => F19.k2_ok Q ρ w h) (pRow 1 (by kernel_rfl) (fun ρ w => F19.k3 Q (ρ 0) (ρ 3) (ρ 4) w) (by kernel_rfl) (fun ρ w h => F19.k3_ok Q ρ w h) h)
def F19 (a0 : Value) (w : World) (Q : Value → World → Prop) : Prop :=
   eBS P 57 1 #[(0, (.int .u8 34))] w fun x6 w =>
   F19.k1 Q a0 x6 w
theorem F19_ok (a0 : Value) (w : World) (Q : Value → World → Prop) (h : F19 a0 w Q) : Cx P 19 #[a0] w Q :=
  pFun false Tryd.f19 (by kernel_rfl) (by kernel_rfl) (by kernel_rfl) (pRow 2 (by kernel_rfl) (fun ρ w => F19.k1 Q (ρ 0) (ρ 3) w) (by kernel_rfl) (fun ρ w h => F19.k1_ok Q ρ w h) h)

/- 24 intaglio/lex.escaped -/
def F24.k2 (Q : Value → World → Prop) (w : World) : Prop :=
   Q (.tuple #[(.int .u8 0), (.int .i64 0)]) w
theorem F24.k2_ok (Q : Value → World → Prop) (ρ : Env) (w : World) (h : F24.k2 Q w) : Sd P none false 38 (cR (cN 1 (cB Tryd.f24))) ρ w (retQ P [.tmp 2, .tmp 3] Q) :=
  pLeaf (by kernel_rfl) h
def F24.k4 (Q : Value → World → Prop) (w : World) : Prop :=
   F24.k2 Q w
theorem F24.k4_ok (Q : Value → World → Prop) (ρ : Env) (w : World) (h : F24.k4 Q w) : Sd P none false 38 (cL (cN 1 (cL (cL (cN 1 (cB Tryd.f24)))))) ρ w (blkQ 0 (thenQ (fun ρ w => F24.k2 Q w) (retQ P [.tmp 2, .tmp 3] Q))) :=
  pLeaf (by kernel_rfl) h
def F24.k7 (Q : Value → World → Prop) (v0 : Value) (w : World) : Prop :=
   on (xIx P 9 v0 (.int .i64 0)) fun x17 =>
   Q (.tuple #[x17, (.int .i64 1)]) w
theorem F24.k7_ok (Q : Value → World → Prop) (ρ : Env) (w : World) (h : F24.k7 Q (ρ 0) w) : Sd P none false 38 (cL (cN 1 (cR (cN 1 (cL (cL (cN 1 (cB Tryd.f24)))))))) ρ w (blkQ 0 (thenQ (fun ρ w => F24.k2 Q w) (retQ P [.tmp 2, .tmp 3] Q))) :=
  pLeaf (by kernel_rfl) h
def F24.k9 (Q : Value → World → Prop) (v0 : Value) (v18 : Value) (w : World) : Prop :=
   cnd v18
   (on (xSl P 9 v0 none (some (.int .i64 3)) none) fun x29 =>
   on (xBin P .add 9 true false (.string ⟨#[48]⟩) x29) fun x30 =>
   Cx P 18 #[x30] w fun x31 w =>
   on (xEx P x31 0) fun x32 =>
   on (xEx P x31 1) fun x33 =>
   on (xBin P .eql 28 false true x33 (.int .i64 0)) fun x35 =>
   cnd x35
   (on (xConv P 51 5 x32) fun x37 =>
   Q (.tuple #[x37, (.int .i64 3)]) w)
   (F24.k2 Q w))
   (F24.k2 Q w)
theorem F24.k9_ok (Q : Value → World → Prop) (ρ : Env) (w : World) (h : F24.k9 Q (ρ 0) (ρ 18) w) : Sd P none false 38 (cN 1 (cR (cN 1 (cR (cN 1 (cL (cL (cN 1 (cB Tryd.f24))))))))) ρ w (blkQ 0 (thenQ (fun ρ w => F24.k2 Q w) (retQ P [.tmp 2, .tmp 3] Q))) :=
  pLeaf (by kernel_rfl) h
def F24.k8 (Q : Value → World → Prop) (v0 : Value) (w : World) : Prop :=
   on (xIx P 9 v0 (.int .i64 0)) fun x20 =>
   on (xBin P .eql 5 false true x20 (.int .u8 120)) fun x21 =>
   cnd x21
   (on (xLen P w #[9] #[v0]) fun x24 =>
   on (xBin P .geq 3 false true x24 (.int .i64 3)) fun x25 =>
   F24.k9 Q v0 x25 w)
   (F24.k9 Q v0 (.bool false) w)
theorem F24.k8_ok (Q : Value → World → Prop) (ρ : Env) (w : World) (h : F24.k8 Q (ρ 0) w) : Sd P none false 38 (cR (cN 1 (cR (cN 1 (cL (cL (cN 1 (cB Tryd.f24)))))))) ρ w (blkQ 0 (thenQ (fun ρ w => F24.k2 Q w) (retQ P [.tmp 2, .tmp 3] Q))) :=
  pRow 1 (by kernel_rfl) (fun ρ w => F24.k9 Q (ρ 0) (ρ 18) w) (by kernel_rfl) (fun ρ w h => F24.k9_ok Q ρ w h) h
def F24.k6 (Q : Value → World → Prop) (v0 : Value) (v9 : Value) (w : World) : Prop :=
   cnd v9
   (F24.k7 Q v0 w)
   (F24.k8 Q v0 w)
theorem F24.k6_ok (Q : Value → World → Prop) (ρ : Env) (w : World) (h : F24.k6 Q (ρ 0) (ρ 9) w) : Sd P none false 38 (cN 1 (cR (cN 1 (cL (cL (cN 1 (cB Tryd.f24))))))) ρ w (blkQ 0 (thenQ (fun ρ w => F24.k2 Q w) (retQ P [.tmp 2, .tmp 3] Q))) :=
  pCond (A := F24.k7 Q (ρ 0) w) (B := F24.k8 Q (ρ 0) w) (by kernel_rfl) (by kernel_rfl) (fun h => F24.k7_ok Q _ _ h) (fun h => F24.k8_ok Q _ _ h) h
def F24.k5 (Q : Value → World → Prop) (v0 : Value) (w : World) : Prop :=
   on (xIx P 9 v0 (.int .i64 0)) fun x11 =>
   on (xBin P .eql 5 false true x11 (.int .u8 34)) fun x12 =>
   cnd x12
   (F24.k6 Q v0 x12 w)
   (on (xIx P 9 v0 (.int .i64 0)) fun x14 =>
   on (xBin P .eql 5 false true x14 (.int .u8 92)) fun x15 =>
   F24.k6 Q v0 x15 w)
theorem F24.k5_ok (Q : Value → World → Prop) (ρ : Env) (w : World) (h : F24.k5 Q (ρ 0) w) : Sd P none false 38 (cR (cN 1 (cL (cL (cN 1 (cB Tryd.f24)))))) ρ w (blkQ 0 (thenQ (fun ρ w => F24.k2 Q w) (retQ P [.tmp 2, .tmp 3] Q))) :=
  pRow 1 (by kernel_rfl) (fun ρ w => F24.k6 Q (ρ 0) (ρ 9) w) (by kernel_rfl) (fun ρ w h => F24.k6_ok Q ρ w h) h
def F24.k3 (Q : Value → World → Prop) (v0 : Value) (v6 : Value) (w : World) : Prop :=
   cnd v6
   (F24.k4 Q w)
   (F24.k5 Q v0 w)
theorem F24.k3_ok (Q : Value → World → Prop) (ρ : Env) (w : World) (h : F24.k3 Q (ρ 0) (ρ 6) w) : Sd P none false 38 (cN 1 (cL (cL (cN 1 (cB Tryd.f24))))) ρ w (blkQ 0 (thenQ (fun ρ w => F24.k2 Q w) (retQ P [.tmp 2, .tmp 3] Q))) :=
  pCond (A := F24.k4 Q w) (B := F24.k5 Q (ρ 0) w) (by kernel_rfl) (by kernel_rfl) (fun h => F24.k4_ok Q _ _ h) (fun h => F24.k5_ok Q _ _ h) h
def F24.k1 (Q : Value → World → Prop) (v0 : Value) (w : World) : Prop :=
   on (xBin P .eql 9 false true v0 (.string ⟨#[]⟩)) fun x8 =>
   F24.k3 Q v0 x8 w
theorem F24.k1_ok (Q : Value → World → Prop) (ρ : Env) (w : World) (h : F24.k1 Q (ρ 0) w) : Sd P none false 38 (cN 1 (cB Tryd.f24)) ρ w (retQ P [.tmp 2, .tmp 3] Q) :=
  pSeq (by kernel_rfl) (fun ρ w => F24.k2 Q w) (fun ρ w h => F24.k2_ok Q ρ w h) (pBlock 0 (by kernel_rfl) (pRow 1 (by kernel_rfl) (fun ρ w => F24.k3 Q (ρ 0) (ρ 6) w) (by kernel_rfl) (fun ρ w h => F24.k3_ok Q ρ w h) h))
def F24 (a0 : Value) (w : World) (Q : Value → World → Prop) : Prop :=
   F24.k1 Q a0 w
theorem F24_ok (a0 : Value) (w : World) (Q : Value → World → Prop) (h : F24 a0 w Q) : Cx P 24 #[a0] w Q :=
  pFun false Tryd.f24 (by kernel_rfl) (by kernel_rfl) (by kernel_rfl) (pRow 1 (by kernel_rfl) (fun ρ w => F24.k1 Q (ρ 0) w) (by kernel_rfl) (fun ρ w h => F24.k1_ok Q ρ w h) h)

/- 26 strconv.FormatUint -/
def F26 (a0 a1 : Value) (w : World) (Q : Value → World → Prop) : Prop :=
   Cx P 37 #[a0, a1] w fun x7 w =>
   Q x7 w
theorem F26_ok (a0 a1 : Value) (w : World) (Q : Value → World → Prop) (h : F26 a0 a1 w Q) : Cx P 26 #[a0, a1] w Q :=
  pFun false Tryd.f26 (by kernel_rfl) (by kernel_rfl) (by kernel_rfl) (pLeaf (by kernel_rfl) h)

/- 37 internal/strconv.FormatUint -/
def F37 (a0 a1 : Value) (w : World) (Q : Value → World → Prop) : Prop :=
   on (xBin P .eql 3 false true a1 (.int .i64 10)) fun x10 =>
   cnd x10
   (on (xBin P .lss 69 false true a0 (.int .u64 100)) fun x12 =>
   cnd x12
   (on (xConv P 69 3 a0) fun x14 =>
   Cx P 49 #[x14] w fun x15 w =>
   Q x15 w)
   (eAlloc P 90 w fun x5 w =>
   Cx P 50 #[a0] w fun x17 w =>
   on (xSl P 90 x5 none (some x17) none) fun x19 =>
   Cx P 51 #[x19, a0] w fun x21 w =>
   on (xSl P 90 x5 none (some x17) none) fun x23 =>
   eConv P 57 9 x23 w fun x24 w =>
   Q x24 w))
   (Cx P 52 #[(.slice none 0 0), a0, a1, (.bool false), (.bool false)] w fun x28 w =>
   on (xEx P x28 0) fun x29 =>
   on (xEx P x28 1) fun x30 =>
   Q x30 w)
theorem F37_ok (a0 a1 : Value) (w : World) (Q : Value → World → Prop) (h : F37 a0 a1 w Q) : Cx P 37 #[a0, a1] w Q :=
  pFun false Tryd.f37 (by kernel_rfl) (by kernel_rfl) (by kernel_rfl) (pLeaf (by kernel_rfl) h)

/- 49 internal/strconv.small -/
def F49 (a0 : Value) (w : World) (Q : Value → World → Prop) : Prop :=
   on (xBin P .lss 3 false true a0 (.int .i64 10)) fun x4 =>
   cnd x4
   (on (xBin P .add 3 false true a0 (.int .i64 1)) fun x7 =>
   on (xSl P 9 (.string ⟨#[48, 49, 50, 51, 52, 53, 54, 55, 56, 57, 97, 98, 99, 100, 101, 102, 103, 104, 105, 106, 107, 108, 109, 110, 111, 112, 113, 114, 115, 116, 117, 118, 119, 120, 121, 122]⟩) (some a0) (some x7) none) fun x8 =>
   Q x8 w)
   (on (xBin P .mul 3 false true a0 (.int .i64 2)) fun x10 =>
   on (xBin P .mul 3 false true a0 (.int .i64 2)) fun x12 =>
   on (xBin P .add 3 false true x12 (.int .i64 2)) fun x13 =>
   on (xSl P 9 (.string ⟨#[48, 48, 48, 49, 48, 50, 48, 51, 48, 52, 48, 53, 48, 54, 48, 55, 48, 56, 48, 57, 49, 48, 49, 49, 49, 50, 49, 51, 49, 52, 49, 53, 49, 54, 49, 55, 49, 56, 49, 57, 50, 48, 50, 49, 50, 50, 50, 51, 50, 52, 50, 53, 50, 54, 50, 55, 50, 56, 50, 57, 51, 48, 51, 49, 51, 50, 51, 51, 51, 52, 51, 53, 51, 54, 51, 55, 51, 56, 51, 57, 52, 48, 52, 49, 52, 50, 52, 51, 52, 52, 52, 53, 52, 54, 52, 55, 52, 56, 52, 57, 53, 48, 53, 49, 53, 50, 53, 51, 53, 52, 53, 53, 53, 54, 53, 55, 53, 56, 53, 57, 54, 48, 54, 49, 54, 50, 54, 51, 54, 52, 54, 53, 54, 54, 54, 55, 54, 56, 54, 57, 55, 48, 55, 49, 55, 50, 55, 51, 55, 52, 55, 53, 55, 54, 55, 55, 55, 56, 55, 57, 56, 48, 56, 49, 56, 50, 56, 51, 56, 52, 56, 53, 56, 54, 56, 55, 56, 56, 56, 57, 57, 48, 57, 49, 57, 50, 57, 51, 57, 52, 57, 53, 57, 54, 57, 55, 57, 56, 57, 57]⟩) (some x10) (some x13) none) fun x14 =>
   Q x14 w)
theorem F49_ok (a0 : Value) (w : World) (Q : Value → World → Prop) (h : F49 a0 w Q) : Cx P 49 #[a0] w Q :=
  pFun false Tryd.f49 (by kernel_rfl) (by kernel_rfl) (by kernel_rfl) (pLeaf (by kernel_rfl) h)

end Go.Proofs.YtlmcppbpobnfjaaDoor
