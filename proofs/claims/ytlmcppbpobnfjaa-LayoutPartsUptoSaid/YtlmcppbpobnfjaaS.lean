/- The conditions of the functions, printed by this session's vcgen.py: each F<k> implies the contract of function k. -/
import Derived.Test.YtlmcppbpobnfjaaProg
import Derived.Test.YtlmcppbpobnfjaaVc
import Derived.KernelRfl
namespace Go.Proofs.Ytlmcppbpobnfjaa
open Go Go.Vc
set_option linter.unusedVariables false
set_option maxRecDepth 100000
noncomputable abbrev P : Program := Try.prog
/- 3 intaglio/intagliolaw05.LayoutParts -/
def F3 (a0 : Value) (w : World) (Q : Value → World → Prop) : Prop :=
   eBox P 25 a0 w fun x1 w =>
   on (xFA P 25 x1 2) fun x7 =>
   on (xLoad P w 23 x7) fun x8 =>
   on (xLen P w #[23] #[x8]) fun x9 =>
   on (xBin P .gtr 3 false true x9 (.int .i64 3000)) fun x10 =>
   cnd x10
   (Q (.bool true) w)
   (on (xLoad P w 25 x1) fun x12 =>
   Cx P 5 #[x12] w fun x13 w =>
   on (xEx P x13 0) fun x14 =>
   on (xEx P x13 1) fun x15 =>
   eAlloc P 28 w fun x3 w =>
   eAlloc P 31 w fun x4 w =>
   eStore P 28 x3 x14 w fun w =>
   eStore P 31 x4 x15 w fun w =>
   on (xLoad P w 25 x1) fun x17 =>
   Cx P 7 #[x17] w fun x18 w =>
   Cx P 6 #[x18] w fun x19 w =>
   on (xEx P x19 0) fun x20 =>
   on (xEx P x19 1) fun x21 =>
   eAlloc P 28 w fun x5 w =>
   eAlloc P 31 w fun x6 w =>
   eStore P 28 x5 x20 w fun w =>
   eStore P 31 x6 x21 w fun w =>
   on (xLoad P w 28 x5) fun x22 =>
   on (xLoad P w 28 x3) fun x23 =>
   on (xBin P .eql 28 false false x22 x23) fun x24 =>
   cnd x24
   (on (xLoad P w 31 x6) fun x26 =>
   on (xLoad P w 31 x4) fun x27 =>
   on (xBin P .eql 31 false false x26 x27) fun x28 =>
   Q x28 w)
   (Q (.bool false) w))
theorem F3_ok (a0 : Value) (w : World) (Q : Value → World → Prop) (h : F3 a0 w Q) : Cx P 3 #[a0] w Q :=
  pFun false Try.f3 (by kernel_rfl) (by kernel_rfl) (by kernel_rfl) (pLeaf (by kernel_rfl) h)

/- 5 intaglio/intaglioref05.Parts -/
def F5.k2 (Q : Value → World → Prop) (v2 : Value) (v3 : Value) (v4 : Value) (v5 : Value) (w : World) : Prop :=
   Dr w fun w =>
   on (xLoad P w 28 v4) fun x55 =>
   on (xLoad P w 31 v5) fun x56 =>
   eStore P 28 v2 x55 w fun w =>
   (xLoad P w 31 v5 = some x56) ∧ (eStore P 31 v3 x56 w fun w =>
   on (xRes P w 28 v2) fun x900 =>
   on (xRes P w 31 v3) fun x901 =>
   Q (.tuple #[x900, x901]) w)
theorem F5.k2_ok (Q : Value → World → Prop) (ρ : Env) (w : World) (h : F5.k2 Q (ρ 2) (ρ 3) (ρ 4) (ρ 5) w) : Sd P none false 57 (cR (cN 4 (cB Try.f5))) ρ w (retQ P [.cell 2 28, .cell 3 31] Q) :=
  pLeaf (by kernel_rfl) h
def F5.k5 (Q : Value → World → Prop) (R : Value → Value → Value → Value → Value → Value → World → Prop) (v1 : Value) (v2 : Value) (v3 : Value) (v4 : Value) (v5 : Value) (v6 : Value) (w : World) : Prop :=
   on (xBin P .add 3 false true v6 (.int .i64 1)) fun x20 =>
   R v1 v2 v3 v4 v5 x20 w
theorem F5.k5_ok (Q : Value → World → Prop) (R : Value → Value → Value → Value → Value → Value → World → Prop) (ρ : Env) (w : World) (h : F5.k5 Q R (ρ 1) (ρ 2) (ρ 3) (ρ 4) (ρ 5) (ρ 6) w) : Sd P none false 57 (cR (cN 1 (cL (cL (cN 1 (cL (cN 4 (cB Try.f5)))))))) ρ w (thenQ (fun ρ w => R (ρ 1) (ρ 2) (ρ 3) (ρ 4) (ρ 5) (ρ 6) w) (blkQ 0 (thenQ (fun ρ w => F5.k2 Q (ρ 2) (ρ 3) (ρ 4) (ρ 5) w) (retQ P [.cell 2 28, .cell 3 31] Q)))) :=
  pLeaf (by kernel_rfl) h
def F5.k7 (Q : Value → World → Prop) (R : Value → Value → Value → Value → Value → Value → World → Prop) (v1 : Value) (v2 : Value) (v3 : Value) (v4 : Value) (v5 : Value) (v6 : Value) (v7 : Value) (v8 : Value) (w : World) : Prop :=
   on (xBin P .add 3 false false v7 v8) fun x52 =>
   on (xBuild P 27 #[(0, v7), (1, x52)]) fun x53 =>
   on (xIA P 28 v4 v6) fun x54 =>
   eStore P 27 x54 x53 w fun w =>
   F5.k5 Q R v1 v2 v3 v4 v5 v6 w
theorem F5.k7_ok (Q : Value → World → Prop) (R : Value → Value → Value → Value → Value → Value → World → Prop) (ρ : Env) (w : World) (h : F5.k7 Q R (ρ 1) (ρ 2) (ρ 3) (ρ 4) (ρ 5) (ρ 6) (ρ 7) (ρ 8) w) : Sd P none false 57 (cR (cN 2 (cL (cL (cN 1 (cL (cL (cN 1 (cL (cN 4 (cB Try.f5))))))))))) ρ w (blkQ 1 (thenQ (fun ρ w => F5.k5 Q R (ρ 1) (ρ 2) (ρ 3) (ρ 4) (ρ 5) (ρ 6) w) (thenQ (fun ρ w => R (ρ 1) (ρ 2) (ρ 3) (ρ 4) (ρ 5) (ρ 6) w) (blkQ 0 (thenQ (fun ρ w => F5.k2 Q (ρ 2) (ρ 3) (ρ 4) (ρ 5) w) (retQ P [.cell 2 28, .cell 3 31] Q)))))) :=
  pLeaf (by kernel_rfl) h
def F5.k10 (Q : Value → World → Prop) (R : Value → Value → Value → Value → Value → Value → World → Prop) (R1 : Value → Value → Value → Value → Value → Value → Value → Value → Value → World → Prop) (v1 : Value) (v2 : Value) (v3 : Value) (v4 : Value) (v5 : Value) (v6 : Value) (v7 : Value) (v8 : Value) (v9 : Value) (w : World) : Prop :=
   on (xBin P .add 3 false true v9 (.int .i64 1)) fun x27 =>
   R1 v1 v2 v3 v4 v5 v6 v7 v8 x27 w
theorem F5.k10_ok (Q : Value → World → Prop) (R : Value → Value → Value → Value → Value → Value → World → Prop) (R1 : Value → Value → Value → Value → Value → Value → Value → Value → Value → World → Prop) (ρ : Env) (w : World) (h : F5.k10 Q R R1 (ρ 1) (ρ 2) (ρ 3) (ρ 4) (ρ 5) (ρ 6) (ρ 7) (ρ 8) (ρ 9) w) : Sd P none false 57 (cR (cN 1 (cL (cL (cN 1 (cL (cN 2 (cL (cL (cN 1 (cL (cL (cN 1 (cL (cN 4 (cB Try.f5)))))))))))))))) ρ w (thenQ (fun ρ w => R1 (ρ 1) (ρ 2) (ρ 3) (ρ 4) (ρ 5) (ρ 6) (ρ 7) (ρ 8) (ρ 9) w) (blkQ 2 (thenQ (fun ρ w => F5.k7 Q R (ρ 1) (ρ 2) (ρ 3) (ρ 4) (ρ 5) (ρ 6) (ρ 7) (ρ 8) w) (blkQ 1 (thenQ (fun ρ w => F5.k5 Q R (ρ 1) (ρ 2) (ρ 3) (ρ 4) (ρ 5) (ρ 6) w) (thenQ (fun ρ w => R (ρ 1) (ρ 2) (ρ 3) (ρ 4) (ρ 5) (ρ 6) w) (blkQ 0 (thenQ (fun ρ w => F5.k2 Q (ρ 2) (ρ 3) (ρ 4) (ρ 5) w) (retQ P [.cell 2 28, .cell 3 31] Q))))))))) :=
  pLeaf (by kernel_rfl) h
def F5.k11 (Q : Value → World → Prop) (R : Value → Value → Value → Value → Value → Value → World → Prop) (R1 : Value → Value → Value → Value → Value → Value → Value → Value → Value → World → Prop) (v1 : Value) (v2 : Value) (v3 : Value) (v4 : Value) (v5 : Value) (v6 : Value) (v7 : Value) (v8 : Value) (v9 : Value) (w : World) : Prop :=
   on (xFA P 25 v1 2) fun x38 =>
   on (xLoad P w 23 x38) fun x39 =>
   on (xIA P 23 x39 v9) fun x41 =>
   on (xLoad P w 53 x41) fun x42 =>
   Cx P 18 #[x42] w fun x43 w =>
   on (xBin P .eql 3 false false x43 v6) fun x45 =>
   cnd x45
   (on (xBin P .add 3 false true v8 (.int .i64 1)) fun x47 =>
   F5.k10 Q R R1 v1 v2 v3 v4 v5 v6 v7 x47 v9 w)
   (F5.k10 Q R R1 v1 v2 v3 v4 v5 v6 v7 v8 v9 w)
theorem F5.k11_ok (Q : Value → World → Prop) (R : Value → Value → Value → Value → Value → Value → World → Prop) (R1 : Value → Value → Value → Value → Value → Value → Value → Value → Value → World → Prop) (ρ : Env) (w : World) (h : F5.k11 Q R R1 (ρ 1) (ρ 2) (ρ 3) (ρ 4) (ρ 5) (ρ 6) (ρ 7) (ρ 8) (ρ 9) w) : Sd P none false 57 (cN 1 (cL (cL (cN 1 (cL (cL (cN 1 (cL (cN 2 (cL (cL (cN 1 (cL (cL (cN 1 (cL (cN 4 (cB Try.f5)))))))))))))))))) ρ w (blkQ 3 (thenQ (fun ρ w => F5.k10 Q R R1 (ρ 1) (ρ 2) (ρ 3) (ρ 4) (ρ 5) (ρ 6) (ρ 7) (ρ 8) (ρ 9) w) (thenQ (fun ρ w => R1 (ρ 1) (ρ 2) (ρ 3) (ρ 4) (ρ 5) (ρ 6) (ρ 7) (ρ 8) (ρ 9) w) (blkQ 2 (thenQ (fun ρ w => F5.k7 Q R (ρ 1) (ρ 2) (ρ 3) (ρ 4) (ρ 5) (ρ 6) (ρ 7) (ρ 8) w) (blkQ 1 (thenQ (fun ρ w => F5.k5 Q R (ρ 1) (ρ 2) (ρ 3) (ρ 4) (ρ 5) (ρ 6) w) (thenQ (fun ρ w => R (ρ 1) (ρ 2) (ρ 3) (ρ 4) (ρ 5) (ρ 6) w) (blkQ 0 (thenQ (fun ρ w => F5.k2 Q (ρ 2) (ρ 3) (ρ 4) (ρ 5) w) (retQ P [.cell 2 28, .cell 3 31] Q))))))))))) :=
  pLeaf (by kernel_rfl) h
def F5.k9 (Q : Value → World → Prop) (R : Value → Value → Value → Value → Value → Value → World → Prop) (R1 : Value → Value → Value → Value → Value → Value → Value → Value → Value → World → Prop) (v1 : Value) (v2 : Value) (v3 : Value) (v4 : Value) (v5 : Value) (v6 : Value) (v7 : Value) (v8 : Value) (v9 : Value) (w : World) : Prop :=
   on (xFA P 25 v1 2) fun x28 =>
   on (xLoad P w 23 x28) fun x29 =>
   on (xIA P 23 x29 v9) fun x31 =>
   on (xLoad P w 53 x31) fun x32 =>
   Cx P 18 #[x32] w fun x33 w =>
   on (xBin P .lss 3 false false x33 v6) fun x35 =>
   cnd x35
   (on (xBin P .add 3 false true v7 (.int .i64 1)) fun x37 =>
   F5.k11 Q R R1 v1 v2 v3 v4 v5 v6 x37 v8 v9 w)
   (F5.k11 Q R R1 v1 v2 v3 v4 v5 v6 v7 v8 v9 w)
theorem F5.k9_ok (Q : Value → World → Prop) (R : Value → Value → Value → Value → Value → Value → World → Prop) (R1 : Value → Value → Value → Value → Value → Value → Value → Value → Value → World → Prop) (ρ : Env) (w : World) (h : F5.k9 Q R R1 (ρ 1) (ρ 2) (ρ 3) (ρ 4) (ρ 5) (ρ 6) (ρ 7) (ρ 8) (ρ 9) w) : Sd P none false 57 (cN 1 (cL (cL (cN 1 (cL (cN 2 (cL (cL (cN 1 (cL (cL (cN 1 (cL (cN 4 (cB Try.f5))))))))))))))) ρ w (thenQ (fun ρ w => R1 (ρ 1) (ρ 2) (ρ 3) (ρ 4) (ρ 5) (ρ 6) (ρ 7) (ρ 8) (ρ 9) w) (blkQ 2 (thenQ (fun ρ w => F5.k7 Q R (ρ 1) (ρ 2) (ρ 3) (ρ 4) (ρ 5) (ρ 6) (ρ 7) (ρ 8) w) (blkQ 1 (thenQ (fun ρ w => F5.k5 Q R (ρ 1) (ρ 2) (ρ 3) (ρ 4) (ρ 5) (ρ 6) w) (thenQ (fun ρ w => R (ρ 1) (ρ 2) (ρ 3) (ρ 4) (ρ 5) (ρ 6) w) (blkQ 0 (thenQ (fun ρ w => F5.k2 Q (ρ 2) (ρ 3) (ρ 4) (ρ 5) w) (retQ P [.cell 2 28, .cell 3 31] Q))))))))) :=
  pSeq (by kernel_rfl) (fun ρ w => F5.k10 Q R R1 (ρ 1) (ρ 2) (ρ 3) (ρ 4) (ρ 5) (ρ 6) (ρ 7) (ρ 8) (ρ 9) w) (fun ρ w h => F5.k10_ok Q R R1 ρ w h) (pBlock 3 (by kernel_rfl) (pRow 1 (by kernel_rfl) (fun ρ w => F5.k11 Q R R1 (ρ 1) (ρ 2) (ρ 3) (ρ 4) (ρ 5) (ρ 6) (ρ 7) (ρ 8) (ρ 9) w) (by kernel_rfl) (fun ρ w h => F5.k11_ok Q R R1 ρ w h) h))
def F5.l2.b (Q : Value → World → Prop) (R : Value → Value → Value → Value → Value → Value → World → Prop) (R1 : Value → Value → Value → Value → Value → Value → Value → Value → Value → World → Prop) (v1 : Value) (v2 : Value) (v3 : Value) (v4 : Value) (v5 : Value) (v6 : Value) (v7 : Value) (v8 : Value) (v9 : Value) (w : World) : Prop :=
   on (xFA P 25 v1 2) fun x22 =>
   on (xLoad P w 23 x22) fun x23 =>
   on (xLen P w #[23] #[x23]) fun x24 =>
   on (xBin P .lss 3 false false v9 x24) fun x25 =>
   cnd x25
   (F5.k9 Q R R1 v1 v2 v3 v4 v5 v6 v7 v8 v9 w)
   (F5.k7 Q R v1 v2 v3 v4 v5 v6 v7 v8 w)
theorem F5.l2.b_ok (Q : Value → World → Prop) (R : Value → Value → Value → Value → Value → Value → World → Prop) (R1 : Value → Value → Value → Value → Value → Value → Value → Value → Value → World → Prop) (ρ : Env) (w : World) (h : F5.l2.b Q R R1 (ρ 1) (ρ 2) (ρ 3) (ρ 4) (ρ 5) (ρ 6) (ρ 7) (ρ 8) (ρ 9) w) : Sd P none false 57 (cL (cL (cN 1 (cL (cN 2 (cL (cL (cN 1 (cL (cL (cN 1 (cL (cN 4 (cB Try.f5)))))))))))))) ρ w (thenQ (fun ρ w => R1 (ρ 1) (ρ 2) (ρ 3) (ρ 4) (ρ 5) (ρ 6) (ρ 7) (ρ 8) (ρ 9) w) (blkQ 2 (thenQ (fun ρ w => F5.k7 Q R (ρ 1) (ρ 2) (ρ 3) (ρ 4) (ρ 5) (ρ 6) (ρ 7) (ρ 8) w) (blkQ 1 (thenQ (fun ρ w => F5.k5 Q R (ρ 1) (ρ 2) (ρ 3) (ρ 4) (ρ 5) (ρ 6) w) (thenQ (fun ρ w => R (ρ 1) (ρ 2) (ρ 3) (ρ 4) (ρ 5) (ρ 6) w) (blkQ 0 (thenQ (fun ρ w => F5.k2 Q (ρ 2) (ρ 3) (ρ 4) (ρ 5) w) (retQ P [.cell 2 28, .cell 3 31] Q))))))))) :=
  pRow 1 (by kernel_rfl) (fun ρ w => F5.k9 Q R R1 (ρ 1) (ρ 2) (ρ 3) (ρ 4) (ρ 5) (ρ 6) (ρ 7) (ρ 8) (ρ 9) w) (by kernel_rfl) (fun ρ w h => F5.k9_ok Q R R1 ρ w h) h
def F5.l2 (Q : Value → World → Prop) (R : Value → Value → Value → Value → Value → Value → World → Prop) : Nat → Value → Value → Value → Value → Value → Value → Value → Value → Value → World → Prop
 | 0, _, _, _, _, _, _, _, _, _, _ => False
 | n + 1, v1, v2, v3, v4, v5, v6, v7, v8, v9, w => F5.l2.b Q R (F5.l2 Q R n) v1 v2 v3 v4 v5 v6 v7 v8 v9 w
theorem F5.l2_ok (Q : Value → World → Prop) (R : Value → Value → Value → Value → Value → Value → World → Prop) (ρ : Env) (w : World) (h : ∃ n, F5.l2 Q R n (ρ 1) (ρ 2) (ρ 3) (ρ 4) (ρ 5) (ρ 6) (ρ 7) (ρ 8) (ρ 9) w) : Sd P none false 57 (cL (cN 1 (cL (cN 2 (cL (cL (cN 1 (cL (cL (cN 1 (cL (cN 4 (cB Try.f5))))))))))))) ρ w (blkQ 2 (thenQ (fun ρ w => F5.k7 Q R (ρ 1) (ρ 2) (ρ 3) (ρ 4) (ρ 5) (ρ 6) (ρ 7) (ρ 8) w) (blkQ 1 (thenQ (fun ρ w => F5.k5 Q R (ρ 1) (ρ 2) (ρ 3) (ρ 4) (ρ 5) (ρ 6) w) (thenQ (fun ρ w => R (ρ 1) (ρ 2) (ρ 3) (ρ 4) (ρ 5) (ρ 6) w) (blkQ 0 (thenQ (fun ρ w => F5.k2 Q (ρ 2) (ρ 3) (ρ 4) (ρ 5) w) (retQ P [.cell 2 28, .cell 3 31] Q)))))))) :=
  pLoop (by kernel_rfl) (fun n ρ w => F5.l2 Q R n (ρ 1) (ρ 2) (ρ 3) (ρ 4) (ρ 5) (ρ 6) (ρ 7) (ρ 8) (ρ 9) w) (fun _ _ h => h) (fun n ρ w h => F5.l2.b_ok Q R (F5.l2 Q R n) ρ w h) h
def F5.k8 (Q : Value → World → Prop) (R : Value → Value → Value → Value → Value → Value → World → Prop) (v1 : Value) (v2 : Value) (v3 : Value) (v4 : Value) (v5 : Value) (v6 : Value) (v7 : Value) (v8 : Value) (v9 : Value) (w : World) : Prop :=
   ∃ n, F5.l2 Q R n v1 v2 v3 v4 v5 v6 v7 v8 v9 w
theorem F5.k8_ok (Q : Value → World → Prop) (R : Value → Value → Value → Value → Value → Value → World → Prop) (ρ : Env) (w : World) (h : F5.k8 Q R (ρ 1) (ρ 2) (ρ 3) (ρ 4) (ρ 5) (ρ 6) (ρ 7) (ρ 8) (ρ 9) w) : Sd P none false 57 (cN 1 (cL (cN 2 (cL (cL (cN 1 (cL (cL (cN 1 (cL (cN 4 (cB Try.f5)))))))))))) ρ w (thenQ (fun ρ w => F5.k7 Q R (ρ 1) (ρ 2) (ρ 3) (ρ 4) (ρ 5) (ρ 6) (ρ 7) (ρ 8) w) (blkQ 1 (thenQ (fun ρ w => F5.k5 Q R (ρ 1) (ρ 2) (ρ 3) (ρ 4) (ρ 5) (ρ 6) w) (thenQ (fun ρ w => R (ρ 1) (ρ 2) (ρ 3) (ρ 4) (ρ 5) (ρ 6) w) (blkQ 0 (thenQ (fun ρ w => F5.k2 Q (ρ 2) (ρ 3) (ρ 4) (ρ 5) w) (retQ P [.cell 2 28, .cell 3 31] Q))))))) :=
  pBlock 2 (by kernel_rfl) (F5.l2_ok Q R _ _ h)
def F5.k6 (Q : Value → World → Prop) (R : Value → Value → Value → Value → Value → Value → World → Prop) (v1 : Value) (v2 : Value) (v3 : Value) (v4 : Value) (v5 : Value) (v6 : Value) (v7 : Value) (v8 : Value) (w : World) : Prop :=
   F5.k8 Q R v1 v2 v3 v4 v5 v6 v7 v8 (.int .i64 0) w
theorem F5.k6_ok (Q : Value → World → Prop) (R : Value → Value → Value → Value → Value → Value → World → Prop) (ρ : Env) (w : World) (h : F5.k6 Q R (ρ 1) (ρ 2) (ρ 3) (ρ 4) (ρ 5) (ρ 6) (ρ 7) (ρ 8) w) : Sd P none false 57 (cN 2 (cL (cL (cN 1 (cL (cL (cN 1 (cL (cN 4 (cB Try.f5)))))))))) ρ w (blkQ 1 (thenQ (fun ρ w => F5.k5 Q R (ρ 1) (ρ 2) (ρ 3) (ρ 4) (ρ 5) (ρ 6) w) (thenQ (fun ρ w => R (ρ 1) (ρ 2) (ρ 3) (ρ 4) (ρ 5) (ρ 6) w) (blkQ 0 (thenQ (fun ρ w => F5.k2 Q (ρ 2) (ρ 3) (ρ 4) (ρ 5) w) (retQ P [.cell 2 28, .cell 3 31] Q)))))) :=
  pSeq (by kernel_rfl) (fun ρ w => F5.k7 Q R (ρ 1) (ρ 2) (ρ 3) (ρ 4) (ρ 5) (ρ 6) (ρ 7) (ρ 8) w) (fun ρ w h => F5.k7_ok Q R ρ w h) (pRow 1 (by kernel_rfl) (fun ρ w => F5.k8 Q R (ρ 1) (ρ 2) (ρ 3) (ρ 4) (ρ 5) (ρ 6) (ρ 7) (ρ 8) (ρ 9) w) (by kernel_rfl) (fun ρ w h => F5.k8_ok Q R ρ w h) h)
def F5.k4 (Q : Value → World → Prop) (R : Value → Value → Value → Value → Value → Value → World → Prop) (v1 : Value) (v2 : Value) (v3 : Value) (v4 : Value) (v5 : Value) (v6 : Value) (w : World) : Prop :=
   F5.k6 Q R v1 v2 v3 v4 v5 v6 (.int .i64 0) (.int .i64 0) w
theorem F5.k4_ok (Q : Value → World → Prop) (R : Value → Value → Value → Value → Value → Value → World → Prop) (ρ : Env) (w : World) (h : F5.k4 Q R (ρ 1) (ρ 2) (ρ 3) (ρ 4) (ρ 5) (ρ 6) w) : Sd P none false 57 (cN 1 (cL (cL (cN 1 (cL (cN 4 (cB Try.f5))))))) ρ w (thenQ (fun ρ w => R (ρ 1) (ρ 2) (ρ 3) (ρ 4) (ρ 5) (ρ 6) w) (blkQ 0 (thenQ (fun ρ w => F5.k2 Q (ρ 2) (ρ 3) (ρ 4) (ρ 5) w) (retQ P [.cell 2 28, .cell 3 31] Q)))) :=
  pSeq (by kernel_rfl) (fun ρ w => F5.k5 Q R (ρ 1) (ρ 2) (ρ 3) (ρ 4) (ρ 5) (ρ 6) w) (fun ρ w h => F5.k5_ok Q R ρ w h) (pBlock 1 (by kernel_rfl) (pRow 2 (by kernel_rfl) (fun ρ w => F5.k6 Q R (ρ 1) (ρ 2) (ρ 3) (ρ 4) (ρ 5) (ρ 6) (ρ 7) (ρ 8) w) (by kernel_rfl) (fun ρ w h => F5.k6_ok Q R ρ w h) h))
def F5.l1.b (Q : Value → World → Prop) (R : Value → Value → Value → Value → Value → Value → World → Prop) (v1 : Value) (v2 : Value) (v3 : Value) (v4 : Value) (v5 : Value) (v6 : Value) (w : World) : Prop :=
   on (xBin P .lss 3 false true v6 (.int .i64 10)) fun x18 =>
   cnd x18
   (F5.k4 Q R v1 v2 v3 v4 v5 v6 w)
   (F5.k2 Q v2 v3 v4 v5 w)
theorem F5.l1.b_ok (Q : Value → World → Prop) (R : Value → Value → Value → Value → Value → Value → World → Prop) (ρ : Env) (w : World) (h : F5.l1.b Q R (ρ 1) (ρ 2) (ρ 3) (ρ 4) (ρ 5) (ρ 6) w) : Sd P none false 57 (cL (cL (cN 1 (cL (cN 4 (cB Try.f5)))))) ρ w (thenQ (fun ρ w => R (ρ 1) (ρ 2) (ρ 3) (ρ 4) (ρ 5) (ρ 6) w) (blkQ 0 (thenQ (fun ρ w => F5.k2 Q (ρ 2) (ρ 3) (ρ 4) (ρ 5) w) (retQ P [.cell 2 28, .cell 3 31] Q)))) :=
  pRow 1 (by kernel_rfl) (fun ρ w => F5.k4 Q R (ρ 1) (ρ 2) (ρ 3) (ρ 4) (ρ 5) (ρ 6) w) (by kernel_rfl) (fun ρ w h => F5.k4_ok Q R ρ w h) h
def F5.l1 (Q : Value → World → Prop) : Nat → Value → Value → Value → Value → Value → Value → World → Prop
 | 0, _, _, _, _, _, _, _ => False
 | n + 1, v1, v2, v3, v4, v5, v6, w => F5.l1.b Q (F5.l1 Q n) v1 v2 v3 v4 v5 v6 w
theorem F5.l1_ok (Q : Value → World → Prop) (ρ : Env) (w : World) (h : ∃ n, F5.l1 Q n (ρ 1) (ρ 2) (ρ 3) (ρ 4) (ρ 5) (ρ 6) w) : Sd P none false 57 (cL (cN 1 (cL (cN 4 (cB Try.f5))))) ρ w (blkQ 0 (thenQ (fun ρ w => F5.k2 Q (ρ 2) (ρ 3) (ρ 4) (ρ 5) w) (retQ P [.cell 2 28, .cell 3 31] Q))) :=
  pLoop (by kernel_rfl) (fun n ρ w => F5.l1 Q n (ρ 1) (ρ 2) (ρ 3) (ρ 4) (ρ 5) (ρ 6) w) (fun _ _ h => h) (fun n ρ w h => F5.l1.b_ok Q (F5.l1 Q n) ρ w h) h
def F5.k3 (Q : Value → World → Prop) (v1 : Value) (v2 : Value) (v3 : Value) (v4 : Value) (v5 : Value) (v6 : Value) (w : World) : Prop :=
   ∃ n, F5.l1 Q n v1 v2 v3 v4 v5 v6 w
theorem F5.k3_ok (Q : Value → World → Prop) (ρ : Env) (w : World) (h : F5.k3 Q (ρ 1) (ρ 2) (ρ 3) (ρ 4) (ρ 5) (ρ 6) w) : Sd P none false 57 (cN 1 (cL (cN 4 (cB Try.f5)))) ρ w (thenQ (fun ρ w => F5.k2 Q (ρ 2) (ρ 3) (ρ 4) (ρ 5) w) (retQ P [.cell 2 28, .cell 3 31] Q)) :=
  pBlock 0 (by kernel_rfl) (F5.l1_ok Q _ _ h)
def F5.k1 (Q : Value → World → Prop) (v1 : Value) (v2 : Value) (v3 : Value) (v4 : Value) (v5 : Value) (w : World) : Prop :=
   F5.k3 Q v1 v2 v3 v4 v5 (.int .i64 0) w
theorem F5.k1_ok (Q : Value → World → Prop) (ρ : Env) (w : World) (h : F5.k1 Q (ρ 1) (ρ 2) (ρ 3) (ρ 4) (ρ 5) w) : Sd P none false 57 (cN 4 (cB Try.f5)) ρ w (retQ P [.cell 2 28, .cell 3 31] Q) :=
  pSeq (by kernel_rfl) (fun ρ w => F5.k2 Q (ρ 2) (ρ 3) (ρ 4) (ρ 5) w) (fun ρ w h => F5.k2_ok Q ρ w h) (pRow 1 (by kernel_rfl) (fun ρ w => F5.k3 Q (ρ 1) (ρ 2) (ρ 3) (ρ 4) (ρ 5) (ρ 6) w) (by kernel_rfl) (fun ρ w h => F5.k3_ok Q ρ w h) h)
def F5 (a0 : Value) (w : World) (Q : Value → World → Prop) : Prop :=
   eBox P 25 a0 w fun x1 w =>
   eAlloc P 28 w fun x2 w =>
   eAlloc P 31 w fun x3 w =>
   eAlloc P 28 w fun x4 w =>
   on (xLoad P w 25 x1) fun x10 =>
   Cx P 17 #[x10] w fun x11 w =>
   eAlloc P 31 w fun x5 w =>
   eStore P 31 x5 x11 w fun w =>
   on (xFA P 31 x5 0) fun x12 =>
   on (xLoad P w 29 x12) fun x13 =>
   on (xBin P .neq 29 false true x13 (.int .i64 0)) fun x14 =>
   cnd x14
   (Dr w fun w =>
   on (xLoad P w 28 x4) fun x15 =>
   on (xLoad P w 31 x5) fun x16 =>
   eStore P 28 x2 x15 w fun w =>
   (xLoad P w 31 x5 = some x16) ∧ (eStore P 31 x3 x16 w fun w =>
   on (xRes P w 28 x2) fun x900 =>
   on (xRes P w 31 x3) fun x901 =>
   Q (.tuple #[x900, x901]) w))
   (F5.k1 Q x1 x2 x3 x4 x5 w)
theorem F5_ok (a0 : Value) (w : World) (Q : Value → World → Prop) (h : F5 a0 w Q) : Cx P 5 #[a0] w Q :=
  pFun false Try.f5 (by kernel_rfl) (by kernel_rfl) (by kernel_rfl) (pRow 4 (by kernel_rfl) (fun ρ w => F5.k1 Q (ρ 1) (ρ 2) (ρ 3) (ρ 4) (ρ 5) w) (by kernel_rfl) (fun ρ w h => F5.k1_ok Q ρ w h) h)

/- 6 intaglio/layout.Parts -/
def F6 (a0 : Value) (w : World) (Q : Value → World → Prop) : Prop :=
   eBox P 25 a0 w fun x1 w =>
   eAlloc P 28 w fun x2 w =>
   eAlloc P 31 w fun x3 w =>
   on (xLoad P w 25 x1) fun x7 =>
   Cx P 19 #[x7] w fun x8 w =>
   on (xEx P x8 0) fun x9 =>
   on (xEx P x8 1) fun x10 =>
   eAlloc P 31 w fun x5 w =>
   eStore P 31 x5 x10 w fun w =>
   on (xBin P .eql 54 false true x9 (.pointer none)) fun x12 =>
   cnd x12
   (Dr w fun w =>
   on (xBuild P 28 #[]) fun x13 =>
   on (xLoad P w 31 x5) fun x14 =>
   eStore P 28 x2 x13 w fun w =>
   (xLoad P w 31 x5 = some x14) ∧ (eStore P 31 x3 x14 w fun w =>
   on (xRes P w 28 x2) fun x900 =>
   on (xRes P w 31 x3) fun x901 =>
   Q (.tuple #[x900, x901]) w))
   (Dr w fun w =>
   on (xNil x9) fun x16 =>
   on (xFA P 59 x16 2) fun x17 =>
   on (xLoad P w 28 x17) fun x18 =>
   on (xLoad P w 31 x5) fun x19 =>
   eStore P 28 x2 x18 w fun w =>
   (xLoad P w 31 x5 = some x19) ∧ (eStore P 31 x3 x19 w fun w =>
   on (xRes P w 28 x2) fun x900_2 =>
   on (xRes P w 31 x3) fun x901_2 =>
   Q (.tuple #[x900_2, x901_2]) w))
theorem F6_ok (a0 : Value) (w : World) (Q : Value → World → Prop) (h : F6 a0 w Q) : Cx P 6 #[a0] w Q :=
  pFun false Try.f6 (by kernel_rfl) (by kernel_rfl) (by kernel_rfl) (pLeaf (by kernel_rfl) h)

/- 7 intaglio/intagliokit.CopyModule -/
def F7.k2 (Q : Value → World → Prop) (v1 : Value) (v2 : Value) (v3 : Value) (w : World) : Prop :=
   on (xFA P 25 v1 2) fun x26 =>
   eStore P 23 x26 v3 w fun w =>
   on (xLoad P w 25 v1) fun x27 =>
   eStore P 25 v2 x27 w fun w =>
   on (xRes P w 25 v2) fun x900 =>
   Q x900 w
theorem F7.k2_ok (Q : Value → World → Prop) (ρ : Env) (w : World) (h : F7.k2 Q (ρ 1) (ρ 2) (ρ 3) w) : Sd P none false 28 (cR (cN 2 (cB Try.f7))) ρ w (retQ P [.cell 2 25] Q) :=
  pLeaf (by kernel_rfl) h
def F7.l1 (Q : Value → World → Prop) : Nat → Value → Value → Value → Value → World → Prop
 | 0, _, _, _, _, _ => False
 | n + 1, v1, v2, v3, v4, w => on (xFA P 25 v1 2) fun x10 =>
   on (xLoad P w 23 x10) fun x11 =>
   on (xLen P w #[23] #[x11]) fun x12 =>
   on (xBin P .lss 3 false false v4 x12) fun x13 =>
   cnd x13
   (on (xFA P 25 v1 2) fun x18 =>
   on (xLoad P w 23 x18) fun x19 =>
   on (xIA P 23 x19 v4) fun x21 =>
   on (xLoad P w 53 x21) fun x22 =>
   Cx P 20 #[x22] w fun x23 w =>
   on (xIA P 23 v3 v4) fun x24 =>
   eStore P 53 x24 x23 w fun w =>
   on (xBin P .add 3 false true v4 (.int .i64 1)) fun x15 =>
   F7.l1 Q n v1 v2 v3 x15 w)
   (F7.k2 Q v1 v2 v3 w)
theorem F7.l1_ok (Q : Value → World → Prop) (ρ : Env) (w : World) (h : ∃ n, F7.l1 Q n (ρ 1) (ρ 2) (ρ 3) (ρ 4) w) : Sd P none false 28 (cL (cN 1 (cL (cN 2 (cB Try.f7))))) ρ w (blkQ 0 (thenQ (fun ρ w => F7.k2 Q (ρ 1) (ρ 2) (ρ 3) w) (retQ P [.cell 2 25] Q))) :=
  pLoop (by kernel_rfl) (fun n ρ w => F7.l1 Q n (ρ 1) (ρ 2) (ρ 3) (ρ 4) w) (fun _ _ h => h) (fun n ρ w h => pLeaf (S := F7.l1 Q (n + 1) (ρ 1) (ρ 2) (ρ 3) (ρ 4) w) (by kernel_rfl) h) h
def F7.k3 (Q : Value → World → Prop) (v1 : Value) (v2 : Value) (v3 : Value) (v4 : Value) (w : World) : Prop :=
   ∃ n, F7.l1 Q n v1 v2 v3 v4 w
theorem F7.k3_ok (Q : Value → World → Prop) (ρ : Env) (w : World) (h : F7.k3 Q (ρ 1) (ρ 2) (ρ 3) (ρ 4) w) : Sd P none false 28 (cN 1 (cL (cN 2 (cB Try.f7)))) ρ w (thenQ (fun ρ w => F7.k2 Q (ρ 1) (ρ 2) (ρ 3) w) (retQ P [.cell 2 25] Q)) :=
  pBlock 0 (by kernel_rfl) (F7.l1_ok Q _ _ h)
def F7.k1 (Q : Value → World → Prop) (v1 : Value) (v2 : Value) (v3 : Value) (w : World) : Prop :=
   F7.k3 Q v1 v2 v3 (.int .i64 0) w
theorem F7.k1_ok (Q : Value → World → Prop) (ρ : Env) (w : World) (h : F7.k1 Q (ρ 1) (ρ 2) (ρ 3) w) : Sd P none false 28 (cN 2 (cB Try.f7)) ρ w (retQ P [.cell 2 25] Q) :=
  pSeq (by kernel_rfl) (fun ρ w => F7.k2 Q (ρ 1) (ρ 2) (ρ 3) w) (fun ρ w h => F7.k2_ok Q ρ w h) (pRow 1 (by kernel_rfl) (fun ρ w => F7.k3 Q (ρ 1) (ρ 2) (ρ 3) (ρ 4) w) (by kernel_rfl) (fun ρ w h => F7.k3_ok Q ρ w h) h)
def F7 (a0 : Value) (w : World) (Q : Value → World → Prop) : Prop :=
   eBox P 25 a0 w fun x1 w =>
   eAlloc P 25 w fun x2 w =>
   on (xFA P 25 x1 2) fun x5 =>
   on (xLoad P w 23 x5) fun x6 =>
   on (xLen P w #[23] #[x6]) fun x7 =>
   eMkSl P 23 x7 x7 w fun x8 w =>
   F7.k1 Q x1 x2 x8 w
theorem F7_ok (a0 : Value) (w : World) (Q : Value → World → Prop) (h : F7 a0 w Q) : Cx P 7 #[a0] w Q :=
  pFun false Try.f7 (by kernel_rfl) (by kernel_rfl) (by kernel_rfl) (pRow 2 (by kernel_rfl) (fun ρ w => F7.k1 Q (ρ 1) (ρ 2) (ρ 3) w) (by kernel_rfl) (fun ρ w h => F7.k1_ok Q ρ w h) h)

/- 17 intaglio/intaglioref05.Check -/
def F17.k3 (Q : Value → World → Prop) (v2 : Value) (w : World) : Prop :=
   on (xBuild P 31 #[]) fun x60 =>
   eStore P 31 v2 x60 w fun w =>
   on (xRes P w 31 v2) fun x900 =>
   Q x900 w
theorem F17.k3_ok (Q : Value → World → Prop) (ρ : Env) (w : World) (h : F17.k3 Q (ρ 2) w) : Sd P none false 61 (cR (cR (cN 5 (cB Try.f17)))) ρ w (retQ P [.cell 2 31] Q) :=
  pLeaf (by kernel_rfl) h
def F17.k4 (Q : Value → World → Prop) (v2 : Value) (v4 : Value) (v56 : Value) (w : World) : Prop :=
   cnd v56
   (on (xLen P w #[23] #[v4]) fun x58 =>
   on (xBuild P 31 #[(0, (.int .i64 51)), (1, x58)]) fun x59 =>
   eStore P 31 v2 x59 w fun w =>
   on (xRes P w 31 v2) fun x900 =>
   Q x900 w)
   (F17.k3 Q v2 w)
theorem F17.k4_ok (Q : Value → World → Prop) (ρ : Env) (w : World) (h : F17.k4 Q (ρ 2) (ρ 4) (ρ 56) w) : Sd P none false 61 (cN 1 (cL (cR (cN 5 (cB Try.f17))))) ρ w (thenQ (fun ρ w => F17.k3 Q (ρ 2) w) (retQ P [.cell 2 31] Q)) :=
  pLeaf (by kernel_rfl) h
def F17.k2 (Q : Value → World → Prop) (v2 : Value) (v4 : Value) (v5 : Value) (w : World) : Prop :=
   on (xBin P .eql 3 false true v5 (.int .i64 0)) fun x36 =>
   cnd x36
   (F17.k4 Q v2 v4 (.bool true) w)
   (on (xLen P w #[23] #[v4]) fun x40 =>
   on (xBin P .sub 3 false true x40 (.int .i64 1)) fun x41 =>
   on (xIA P 23 v4 x41) fun x42 =>
   on (xLoad P w 53 x42) fun x43 =>
   Cx P 18 #[x43] w fun x44 w =>
   on (xBin P .eql 3 false true x44 (.int .i64 8)) fun x45 =>
   cnd x45
   (on (xLen P w #[23] #[v4]) fun x49 =>
   on (xBin P .sub 3 false true x49 (.int .i64 1)) fun x50 =>
   on (xIA P 23 v4 x50) fun x51 =>
   on (xFA P 53 x51 0) fun x52 =>
   on (xLoad P w 50 x52) fun x53 =>
   on (xBin P .neq 50 false true x53 (.int .u16 56)) fun x54 =>
   F17.k4 Q v2 v4 x54 w)
   (F17.k4 Q v2 v4 (.bool false) w))
theorem F17.k2_ok (Q : Value → World → Prop) (ρ : Env) (w : World) (h : F17.k2 Q (ρ 2) (ρ 4) (ρ 5) w) : Sd P none false 61 (cR (cN 5 (cB Try.f17))) ρ w (retQ P [.cell 2 31] Q) :=
  pSeq (by kernel_rfl) (fun ρ w => F17.k3 Q (ρ 2) w) (fun ρ w h => F17.k3_ok Q ρ w h) (pRow 1 (by kernel_rfl) (fun ρ w => F17.k4 Q (ρ 2) (ρ 4) (ρ 56) w) (by kernel_rfl) (fun ρ w h => F17.k4_ok Q ρ w h) h)
def F17.l1 (Q : Value → World → Prop) : Nat → Value → Value → Value → Value → World → Prop
 | 0, _, _, _, _, _ => False
 | n + 1, v2, v4, v5, v6, w => on (xLen P w #[23] #[v4]) fun x17 =>
   on (xBin P .lss 3 false false v6 x17) fun x18 =>
   cnd x18
   (Cx P 33 #[v4, v6] w fun x23 w =>
   on (xUn P .not x23) fun x24 =>
   cnd x24
   (on (xBuild P 31 #[(0, (.int .i64 50)), (1, v6)]) fun x26 =>
   eStore P 31 v2 x26 w fun w =>
   on (xRes P w 31 v2) fun x900 =>
   Q x900 w)
   (on (xIA P 23 v4 v6) fun x29 =>
   on (xLoad P w 53 x29) fun x30 =>
   Cx P 18 #[x30] w fun x31 w =>
   on (xBin P .eql 3 false true x31 (.int .i64 1)) fun x32 =>
   cnd x32
   (on (xBin P .add 3 false true v5 (.int .i64 1)) fun x34 =>
   on (xBin P .add 3 false true v6 (.int .i64 1)) fun x20 =>
   F17.l1 Q n v2 v4 x34 x20 w)
   (on (xBin P .add 3 false true v6 (.int .i64 1)) fun x20_2 =>
   F17.l1 Q n v2 v4 v5 x20_2 w)))
   (F17.k2 Q v2 v4 v5 w)
theorem F17.l1_ok (Q : Value → World → Prop) (ρ : Env) (w : World) (h : ∃ n, F17.l1 Q n (ρ 2) (ρ 4) (ρ 5) (ρ 6) w) : Sd P none false 61 (cL (cN 1 (cL (cN 5 (cB Try.f17))))) ρ w (blkQ 0 (thenQ (fun ρ w => F17.k2 Q (ρ 2) (ρ 4) (ρ 5) w) (retQ P [.cell 2 31] Q))) :=
  pLoop (by kernel_rfl) (fun n ρ w => F17.l1 Q n (ρ 2) (ρ 4) (ρ 5) (ρ 6) w) (fun _ _ h => h) (fun n ρ w h => pLeaf (S := F17.l1 Q (n + 1) (ρ 2) (ρ 4) (ρ 5) (ρ 6) w) (by kernel_rfl) h) h
def F17.k5 (Q : Value → World → Prop) (v2 : Value) (v4 : Value) (v5 : Value) (v6 : Value) (w : World) : Prop :=
   ∃ n, F17.l1 Q n v2 v4 v5 v6 w
theorem F17.k5_ok (Q : Value → World → Prop) (ρ : Env) (w : World) (h : F17.k5 Q (ρ 2) (ρ 4) (ρ 5) (ρ 6) w) : Sd P none false 61 (cN 1 (cL (cN 5 (cB Try.f17)))) ρ w (thenQ (fun ρ w => F17.k2 Q (ρ 2) (ρ 4) (ρ 5) w) (retQ P [.cell 2 31] Q)) :=
  pBlock 0 (by kernel_rfl) (F17.l1_ok Q _ _ h)
def F17.k1 (Q : Value → World → Prop) (v2 : Value) (v4 : Value) (v5 : Value) (w : World) : Prop :=
   F17.k5 Q v2 v4 v5 (.int .i64 0) w
theorem F17.k1_ok (Q : Value → World → Prop) (ρ : Env) (w : World) (h : F17.k1 Q (ρ 2) (ρ 4) (ρ 5) w) : Sd P none false 61 (cN 5 (cB Try.f17)) ρ w (retQ P [.cell 2 31] Q) :=
  pSeq (by kernel_rfl) (fun ρ w => F17.k2 Q (ρ 2) (ρ 4) (ρ 5) w) (fun ρ w h => F17.k2_ok Q ρ w h) (pRow 1 (by kernel_rfl) (fun ρ w => F17.k5 Q (ρ 2) (ρ 4) (ρ 5) (ρ 6) w) (by kernel_rfl) (fun ρ w h => F17.k5_ok Q ρ w h) h)
def F17 (a0 : Value) (w : World) (Q : Value → World → Prop) : Prop :=
   eBox P 25 a0 w fun x1 w =>
   eAlloc P 31 w fun x2 w =>
   on (xLoad P w 25 x1) fun x7 =>
   Cx P 32 #[x7] w fun x8 w =>
   eAlloc P 31 w fun x3 w =>
   eStore P 31 x3 x8 w fun w =>
   on (xFA P 31 x3 0) fun x9 =>
   on (xLoad P w 29 x9) fun x10 =>
   on (xBin P .neq 29 false true x10 (.int .i64 0)) fun x11 =>
   cnd x11
   (on (xLoad P w 31 x3) fun x12 =>
   eStore P 31 x2 x12 w fun w =>
   on (xRes P w 31 x2) fun x900_2 =>
   Q x900_2 w)
   (on (xFA P 25 x1 2) fun x13 =>
   on (xLoad P w 23 x13) fun x14 =>
   F17.k1 Q x2 x14 (.int .i64 0) w)
theorem F17_ok (a0 : Value) (w : World) (Q : Value → World → Prop) (h : F17 a0 w Q) : Cx P 17 #[a0] w Q :=
  pFun false Try.f17 (by kernel_rfl) (by kernel_rfl) (by kernel_rfl) (pRow 5 (by kernel_rfl) (fun ρ w => F17.k1 Q (ρ 2) (ρ 4) (ρ 5) w) (by kernel_rfl) (fun ρ w h => F17.k1_ok Q ρ w h) h)

/- 18 intaglio/intaglioref05.Part -/
def F18.k1 (Q : Value → World → Prop) (v1 : Value) (w : World) : Prop :=
   on (xFA P 53 v1 0) fun x23 =>
   on (xLoad P w 50 x23) fun x24 =>
   Cx P 34 #[x24] w fun x25 w =>
   on (xEx P x25 0) fun x26 =>
   on (xEx P x25 1) fun x27 =>
   eAlloc P 77 w fun x3 w =>
   eStore P 77 x3 x26 w fun w =>
   on (xFA P 77 x3 7) fun x28 =>
   on (xLoad P w 5 x28) fun x29 =>
   on (xConv P 5 3 x29) fun x30 =>
   Q x30 w
theorem F18.k1_ok (Q : Value → World → Prop) (ρ : Env) (w : World) (h : F18.k1 Q (ρ 1) w) : Sd P none false 31 (cN 2 (cB Try.f18)) ρ w (retQ P [.tmp 2] Q) :=
  pLeaf (by kernel_rfl) h
def F18 (a0 : Value) (w : World) (Q : Value → World → Prop) : Prop :=
   eBox P 53 a0 w fun x1 w =>
   on (xFA P 53 x1 0) fun x5 =>
   on (xLoad P w 50 x5) fun x6 =>
   on (xBin P .eql 50 false true x6 (.int .u16 59)) fun x7 =>
   cnd x7
   (on (xFA P 53 x1 3) fun x9 =>
   on (xLoad P w 51 x9) fun x10 =>
   on (xLen P w #[51] #[x10]) fun x11 =>
   on (xBin P .gtr 3 false true x11 (.int .i64 0)) fun x12 =>
   cnd x12
   (on (xFA P 53 x1 3) fun x15 =>
   on (xLoad P w 51 x15) fun x16 =>
   on (xIA P 51 x16 (.int .i64 0)) fun x17 =>
   on (xFA P 75 x17 1) fun x18 =>
   on (xLoad P w 22 x18) fun x19 =>
   on (xBin P .eql 22 false true x19 (.int .u32 7)) fun x20 =>
   cnd x20
   (Q (.int .i64 8) w)
   (F18.k1 Q x1 w))
   (F18.k1 Q x1 w))
   (F18.k1 Q x1 w)
theorem F18_ok (a0 : Value) (w : World) (Q : Value → World → Prop) (h : F18 a0 w Q) : Cx P 18 #[a0] w Q :=
  pFun false Try.f18 (by kernel_rfl) (by kernel_rfl) (by kernel_rfl) (pRow 2 (by kernel_rfl) (fun ρ w => F18.k1 Q (ρ 1) w) (by kernel_rfl) (fun ρ w h => F18.k1_ok Q ρ w h) h)

/- 19 intaglio/layout.read -/
def F19 (a0 : Value) (w : World) (Q : Value → World → Prop) : Prop :=
   eBox P 25 a0 w fun x1 w =>
   eAlloc P 31 w fun x3 w =>
   on (xLoad P w 25 x1) fun x6 =>
   Cx P 35 #[x6] w fun x7 w =>
   eAlloc P 31 w fun x4 w =>
   eStore P 31 x4 x7 w fun w =>
   on (xFA P 31 x4 0) fun x8 =>
   on (xLoad P w 29 x8) fun x9 =>
   on (xBin P .neq 29 false true x9 (.int .i64 0)) fun x10 =>
   cnd x10
   (Dr w fun w =>
   on (xLoad P w 31 x4) fun x11 =>
   eStore P 31 x3 x11 w fun w =>
   on (xRes P w 31 x3) fun x901 =>
   Q (.tuple #[(.pointer none), x901]) w)
   (on (xFA P 25 x1 2) fun x12 =>
   on (xLoad P w 23 x12) fun x13 =>
   on (xBuild P 59 #[(0, x13)]) fun x14 =>
   eBox P 59 x14 w fun x15 w =>
   Cx P 36 #[x15] w fun x18 w =>
   cnd x18
   (on (xBuild P 31 #[]) fun x20 =>
   eStore P 31 x3 x20 w fun w =>
   on (xRes P w 31 x3) fun x901_2 =>
   Q (.tuple #[x15, x901_2]) w)
   (Dr w fun w =>
   on (xNil x15) fun x23 =>
   on (xFA P 59 x23 1) fun x24 =>
   on (xLoad P w 3 x24) fun x25 =>
   on (xFA P 25 x1 2) fun x26 =>
   on (xLoad P w 23 x26) fun x27 =>
   on (xLen P w #[23] #[x27]) fun x28 =>
   on (xBin P .lss 3 false false x25 x28) fun x29 =>
   cnd x29
   (Dr w fun w =>
   on (xNil x15) fun x31 =>
   on (xFA P 59 x31 1) fun x32 =>
   on (xLoad P w 3 x32) fun x33 =>
   on (xBuild P 31 #[(0, (.int .i64 50)), (1, x33)]) fun x34 =>
   eStore P 31 x3 x34 w fun w =>
   on (xRes P w 31 x3) fun x901_3 =>
   Q (.tuple #[(.pointer none), x901_3]) w)
   (Dr w fun w =>
   on (xNil x15) fun x36 =>
   on (xFA P 59 x36 1) fun x37 =>
   on (xLoad P w 3 x37) fun x38 =>
   on (xBuild P 31 #[(0, (.int .i64 51)), (1, x38)]) fun x39 =>
   eStore P 31 x3 x39 w fun w =>
   on (xRes P w 31 x3) fun x901_4 =>
   Q (.tuple #[(.pointer none), x901_4]) w)))
theorem F19_ok (a0 : Value) (w : World) (Q : Value → World → Prop) (h : F19 a0 w Q) : Cx P 19 #[a0] w Q :=
  pFun false Try.f19 (by kernel_rfl) (by kernel_rfl) (by kernel_rfl) (pLeaf (by kernel_rfl) h)

/- 20 intaglio/intagliokit.CopyInst -/
def F20.k2 (Q : Value → World → Prop) (v1 : Value) (v2 : Value) (v3 : Value) (w : World) : Prop :=
   on (xFA P 53 v1 3) fun x25 =>
   eStore P 51 x25 v3 w fun w =>
   on (xLoad P w 53 v1) fun x26 =>
   eStore P 53 v2 x26 w fun w =>
   on (xRes P w 53 v2) fun x900 =>
   Q x900 w
theorem F20.k2_ok (Q : Value → World → Prop) (ρ : Env) (w : World) (h : F20.k2 Q (ρ 1) (ρ 2) (ρ 3) w) : Sd P none false 27 (cR (cN 2 (cB Try.f20))) ρ w (retQ P [.cell 2 53] Q) :=
  pLeaf (by kernel_rfl) h
def F20.l1 (Q : Value → World → Prop) : Nat → Value → Value → Value → Value → World → Prop
 | 0, _, _, _, _, _ => False
 | n + 1, v1, v2, v3, v4, w => on (xFA P 53 v1 3) fun x10 =>
   on (xLoad P w 51 x10) fun x11 =>
   on (xLen P w #[51] #[x11]) fun x12 =>
   on (xBin P .lss 3 false false v4 x12) fun x13 =>
   cnd x13
   (on (xFA P 53 v1 3) fun x18 =>
   on (xLoad P w 51 x18) fun x19 =>
   on (xIA P 51 x19 v4) fun x21 =>
   on (xLoad P w 75 x21) fun x22 =>
   on (xIA P 51 v3 v4) fun x23 =>
   eStore P 75 x23 x22 w fun w =>
   on (xBin P .add 3 false true v4 (.int .i64 1)) fun x15 =>
   F20.l1 Q n v1 v2 v3 x15 w)
   (F20.k2 Q v1 v2 v3 w)
theorem F20.l1_ok (Q : Value → World → Prop) (ρ : Env) (w : World) (h : ∃ n, F20.l1 Q n (ρ 1) (ρ 2) (ρ 3) (ρ 4) w) : Sd P none false 27 (cL (cN 1 (cL (cN 2 (cB Try.f20))))) ρ w (blkQ 0 (thenQ (fun ρ w => F20.k2 Q (ρ 1) (ρ 2) (ρ 3) w) (retQ P [.cell 2 53] Q))) :=
  pLoop (by kernel_rfl) (fun n ρ w => F20.l1 Q n (ρ 1) (ρ 2) (ρ 3) (ρ 4) w) (fun _ _ h => h) (fun n ρ w h => pLeaf (S := F20.l1 Q (n + 1) (ρ 1) (ρ 2) (ρ 3) (ρ 4) w) (by kernel_rfl) h) h
def F20.k3 (Q : Value → World → Prop) (v1 : Value) (v2 : Value) (v3 : Value) (v4 : Value) (w : World) : Prop :=
   ∃ n, F20.l1 Q n v1 v2 v3 v4 w
theorem F20.k3_ok (Q : Value → World → Prop) (ρ : Env) (w : World) (h : F20.k3 Q (ρ 1) (ρ 2) (ρ 3) (ρ 4) w) : Sd P none false 27 (cN 1 (cL (cN 2 (cB Try.f20)))) ρ w (thenQ (fun ρ w => F20.k2 Q (ρ 1) (ρ 2) (ρ 3) w) (retQ P [.cell 2 53] Q)) :=
  pBlock 0 (by kernel_rfl) (F20.l1_ok Q _ _ h)
def F20.k1 (Q : Value → World → Prop) (v1 : Value) (v2 : Value) (v3 : Value) (w : World) : Prop :=
   F20.k3 Q v1 v2 v3 (.int .i64 0) w
theorem F20.k1_ok (Q : Value → World → Prop) (ρ : Env) (w : World) (h : F20.k1 Q (ρ 1) (ρ 2) (ρ 3) w) : Sd P none false 27 (cN 2 (cB Try.f20)) ρ w (retQ P [.cell 2 53] Q) :=
  pSeq (by kernel_rfl) (fun ρ w => F20.k2 Q (ρ 1) (ρ 2) (ρ 3) w) (fun ρ w h => F20.k2_ok Q ρ w h) (pRow 1 (by kernel_rfl) (fun ρ w => F20.k3 Q (ρ 1) (ρ 2) (ρ 3) (ρ 4) w) (by kernel_rfl) (fun ρ w h => F20.k3_ok Q ρ w h) h)
def F20 (a0 : Value) (w : World) (Q : Value → World → Prop) : Prop :=
   eBox P 53 a0 w fun x1 w =>
   eAlloc P 53 w fun x2 w =>
   on (xFA P 53 x1 3) fun x5 =>
   on (xLoad P w 51 x5) fun x6 =>
   on (xLen P w #[51] #[x6]) fun x7 =>
   eMkSl P 51 x7 x7 w fun x8 w =>
   F20.k1 Q x1 x2 x8 w
theorem F20_ok (a0 : Value) (w : World) (Q : Value → World → Prop) (h : F20 a0 w Q) : Cx P 20 #[a0] w Q :=
  pFun false Try.f20 (by kernel_rfl) (by kernel_rfl) (by kernel_rfl) (pRow 2 (by kernel_rfl) (fun ρ w => F20.k1 Q (ρ 1) (ρ 2) (ρ 3) w) (by kernel_rfl) (fun ρ w h => F20.k1_ok Q ρ w h) h)

/- 32 intaglio/intaglioref04.Shape -/
def F32.k3 (Q : Value → World → Prop) (v2 : Value) (w : World) : Prop :=
   on (xBuild P 31 #[]) fun x60 =>
   eStore P 31 v2 x60 w fun w =>
   on (xRes P w 31 v2) fun x900 =>
   Q x900 w
theorem F32.k3_ok (Q : Value → World → Prop) (ρ : Env) (w : World) (h : F32.k3 Q (ρ 2) w) : Sd P none false 61 (cR (cN 1 (cN 2 (cB Try.f32)))) ρ w (retQ P [.cell 2 31] Q) :=
  pLeaf (by kernel_rfl) h
def F32.l1 (Q : Value → World → Prop) : Nat → Value → Value → Value → Value → World → Prop
 | 0, _, _, _, _, _ => False
 | n + 1, v1, v2, v3, v4, w => on (xFA P 25 v1 2) fun x18 =>
   on (xLoad P w 23 x18) fun x19 =>
   on (xLen P w #[23] #[x19]) fun x20 =>
   on (xBin P .lss 3 false false v4 x20) fun x21 =>
   cnd x21
   (Dr w fun w =>
   on (xFA P 25 v1 2) fun x24 =>
   on (xLoad P w 23 x24) fun x25 =>
   on (xIA P 23 x25 v4) fun x27 =>
   on (xLoad P w 53 x27) fun x28 =>
   on (xFA P 25 v1 1) fun x29 =>
   on (xLoad P w 22 x29) fun x30 =>
   Cx P 46 #[x28, x30] w fun x31 w =>
   on (xBin P .neq 29 false true x31 (.int .i64 0)) fun x33 =>
   cnd x33
   (on (xBuild P 31 #[(0, x31), (1, v4)]) fun x36 =>
   eStore P 31 v2 x36 w fun w =>
   on (xRes P w 31 v2) fun x900 =>
   Q x900 w)
   (on (xFA P 25 v1 2) fun x38 =>
   on (xLoad P w 23 x38) fun x39 =>
   on (xIA P 23 x39 v4) fun x41 =>
   on (xFA P 53 x41 0) fun x42 =>
   on (xLoad P w 50 x42) fun x43 =>
   Cx P 34 #[x43] w fun x44 w =>
   on (xEx P x44 0) fun x45 =>
   on (xEx P x44 1) fun x46 =>
   eAlloc P 77 w fun x6 w =>
   eStore P 77 x6 x45 w fun w =>
   Dr w fun w =>
   on (xFA P 25 v1 2) fun x48 =>
   on (xLoad P w 23 x48) fun x49 =>
   on (xIA P 23 x49 v4) fun x51 =>
   on (xLoad P w 53 x51) fun x52 =>
   on (xLoad P w 77 x6) fun x53 =>
   Cx P 47 #[x52, x53] w fun x54 w =>
   on (xBin P .add 3 false false v3 x54) fun x55 =>
   on (xBin P .gtr 3 false true x55 (.int .i64 1048576)) fun x57 =>
   cnd x57
   (on (xBuild P 31 #[(0, (.int .i64 4)), (1, v4)]) fun x59 =>
   eStore P 31 v2 x59 w fun w =>
   on (xRes P w 31 v2) fun x900_2 =>
   Q x900_2 w)
   (on (xBin P .add 3 false true v4 (.int .i64 1)) fun x23 =>
   F32.l1 Q n v1 v2 x55 x23 w)))
   (F32.k3 Q v2 w)
theorem F32.l1_ok (Q : Value → World → Prop) (ρ : Env) (w : World) (h : ∃ n, F32.l1 Q n (ρ 1) (ρ 2) (ρ 3) (ρ 4) w) : Sd P none false 61 (cL (cN 1 (cL (cN 1 (cN 2 (cB Try.f32)))))) ρ w (blkQ 0 (thenQ (fun ρ w => F32.k3 Q (ρ 2) w) (retQ P [.cell 2 31] Q))) :=
  pLoop (by kernel_rfl) (fun n ρ w => F32.l1 Q n (ρ 1) (ρ 2) (ρ 3) (ρ 4) w) (fun _ _ h => h) (fun n ρ w h => pLeaf (S := F32.l1 Q (n + 1) (ρ 1) (ρ 2) (ρ 3) (ρ 4) w) (by kernel_rfl) h) h
def F32.k4 (Q : Value → World → Prop) (v1 : Value) (v2 : Value) (v3 : Value) (v4 : Value) (w : World) : Prop :=
   ∃ n, F32.l1 Q n v1 v2 v3 v4 w
theorem F32.k4_ok (Q : Value → World → Prop) (ρ : Env) (w : World) (h : F32.k4 Q (ρ 1) (ρ 2) (ρ 3) (ρ 4) w) : Sd P none false 61 (cN 1 (cL (cN 1 (cN 2 (cB Try.f32))))) ρ w (thenQ (fun ρ w => F32.k3 Q (ρ 2) w) (retQ P [.cell 2 31] Q)) :=
  pBlock 0 (by kernel_rfl) (F32.l1_ok Q _ _ h)
def F32.k2 (Q : Value → World → Prop) (v1 : Value) (v2 : Value) (v3 : Value) (w : World) : Prop :=
   F32.k4 Q v1 v2 v3 (.int .i64 0) w
theorem F32.k2_ok (Q : Value → World → Prop) (ρ : Env) (w : World) (h : F32.k2 Q (ρ 1) (ρ 2) (ρ 3) w) : Sd P none false 61 (cN 1 (cN 2 (cB Try.f32))) ρ w (retQ P [.cell 2 31] Q) :=
  pSeq (by kernel_rfl) (fun ρ w => F32.k3 Q (ρ 2) w) (fun ρ w h => F32.k3_ok Q ρ w h) (pRow 1 (by kernel_rfl) (fun ρ w => F32.k4 Q (ρ 1) (ρ 2) (ρ 3) (ρ 4) w) (by kernel_rfl) (fun ρ w h => F32.k4_ok Q ρ w h) h)
def F32.k1 (Q : Value → World → Prop) (v1 : Value) (v2 : Value) (w : World) : Prop :=
   F32.k2 Q v1 v2 (.int .i64 5) w
theorem F32.k1_ok (Q : Value → World → Prop) (ρ : Env) (w : World) (h : F32.k1 Q (ρ 1) (ρ 2) w) : Sd P none false 61 (cN 2 (cB Try.f32)) ρ w (retQ P [.cell 2 31] Q) :=
  pRow 1 (by kernel_rfl) (fun ρ w => F32.k2 Q (ρ 1) (ρ 2) (ρ 3) w) (by kernel_rfl) (fun ρ w h => F32.k2_ok Q ρ w h) h
def F32 (a0 : Value) (w : World) (Q : Value → World → Prop) : Prop :=
   eBox P 25 a0 w fun x1 w =>
   eAlloc P 31 w fun x2 w =>
   on (xFA P 25 x1 1) fun x8 =>
   on (xLoad P w 22 x8) fun x9 =>
   on (xBin P .eql 22 false true x9 (.int .u32 0)) fun x10 =>
   cnd x10
   (on (xBuild P 31 #[(0, (.int .i64 24))]) fun x16 =>
   eStore P 31 x2 x16 w fun w =>
   on (xRes P w 31 x2) fun x900_3 =>
   Q x900_3 w)
   (on (xFA P 25 x1 1) fun x12 =>
   on (xLoad P w 22 x12) fun x13 =>
   on (xBin P .gtr 22 false true x13 (.int .u32 65536)) fun x14 =>
   cnd x14
   (on (xBuild P 31 #[(0, (.int .i64 24))]) fun x16_2 =>
   eStore P 31 x2 x16_2 w fun w =>
   on (xRes P w 31 x2) fun x900_4 =>
   Q x900_4 w)
   (F32.k1 Q x1 x2 w))
theorem F32_ok (a0 : Value) (w : World) (Q : Value → World → Prop) (h : F32 a0 w Q) : Cx P 32 #[a0] w Q :=
  pFun false Try.f32 (by kernel_rfl) (by kernel_rfl) (by kernel_rfl) (pRow 2 (by kernel_rfl) (fun ρ w => F32.k1 Q (ρ 1) (ρ 2) w) (by kernel_rfl) (fun ρ w h => F32.k1_ok Q ρ w h) h)

/- 33 intaglio/intaglioref05.May -/
def F33.k6 (Q : Value → World → Prop) (v0 : Value) (v1 : Value) (v8 : Value) (v9 : Value) (w : World) : Prop :=
   on (xBin P .eql 50 false true v8 (.int .u16 245)) fun x120 =>
   cnd x120
   (on (xBin P .eql 50 false true v9 (.int .u16 248)) fun x122 =>
   cnd x122
   (on (xBin P .sub 3 false true v1 (.int .i64 1)) fun x130 =>
   Cx P 49 #[v0, x130] w fun x131 w =>
   on (xUn P .not x131) fun x132 =>
   Q x132 w)
   (on (xBin P .eql 50 false true v9 (.int .u16 245)) fun x125 =>
   cnd x125
   (on (xBin P .sub 3 false true v1 (.int .i64 1)) fun x130_2 =>
   Cx P 49 #[v0, x130_2] w fun x131_2 w =>
   on (xUn P .not x131_2) fun x132_2 =>
   Q x132_2 w)
   (Q (.bool false) w)))
   (on (xBin P .eql 50 false true v8 (.int .u16 59)) fun x135 =>
   cnd x135
   (on (xBin P .eql 50 false true v9 (.int .u16 248)) fun x137 =>
   cnd x137
   (on (xBin P .sub 3 false true v1 (.int .i64 1)) fun x145 =>
   Cx P 49 #[v0, x145] w fun x146 w =>
   Q x146 w)
   (on (xBin P .eql 50 false true v9 (.int .u16 59)) fun x140 =>
   cnd x140
   (on (xBin P .sub 3 false true v1 (.int .i64 1)) fun x145_2 =>
   Cx P 49 #[v0, x145_2] w fun x146_2 w =>
   Q x146_2 w)
   (Q (.bool false) w)))
   (on (xBin P .eql 50 false true v9 (.int .u16 246)) fun x149 =>
   cnd x149
   (on (xBin P .eql 50 false true v8 (.int .u16 249)) fun x151 =>
   cnd x151
   (Q (.bool true) w)
   (on (xBin P .eql 50 false true v8 (.int .u16 250)) fun x154 =>
   Q x154 w))
   (on (xBin P .eql 50 false true v9 (.int .u16 247)) fun x157 =>
   cnd x157
   (on (xBin P .eql 50 false true v8 (.int .u16 250)) fun x159 =>
   cnd x159
   (Q (.bool true) w)
   (on (xBin P .eql 50 false true v8 (.int .u16 251)) fun x162 =>
   Q x162 w))
   (Q (.bool true) w))))
theorem F33.k6_ok (Q : Value → World → Prop) (ρ : Env) (w : World) (h : F33.k6 Q (ρ 0) (ρ 1) (ρ 8) (ρ 9) w) : Sd P none false 164 (cN 5 (cR (cN 3 (cN 2 (cR (cN 3 (cB Try.f33))))))) ρ w (retQ P [.tmp 4] Q) :=
  pLeaf (by kernel_rfl) h
def F33.k5 (Q : Value → World → Prop) (v0 : Value) (v1 : Value) (v8 : Value) (v9 : Value) (w : World) : Prop :=
   on (xBin P .eql 50 false true v8 (.int .u16 54)) fun x70 =>
   cnd x70
   (on (xBin P .eql 50 false true v9 (.int .u16 0)) fun x72 =>
   cnd x72
   (Q (.bool true) w)
   (on (xBin P .eql 50 false true v9 (.int .u16 56)) fun x75 =>
   Q x75 w))
   (on (xBin P .eql 50 false true v8 (.int .u16 55)) fun x78 =>
   cnd x78
   (on (xBin P .eql 50 false true v9 (.int .u16 54)) fun x80 =>
   cnd x80
   (Q (.bool true) w)
   (on (xBin P .eql 50 false true v9 (.int .u16 55)) fun x83 =>
   Q x83 w))
   (on (xBin P .eql 50 false true v8 (.int .u16 248)) fun x86 =>
   cnd x86
   (on (xBin P .eql 50 false true v9 (.int .u16 54)) fun x88 =>
   cnd x88
   (Q (.bool true) w)
   (on (xBin P .eql 50 false true v9 (.int .u16 55)) fun x91 =>
   cnd x91
   (Q (.bool true) w)
   (Cx P 48 #[v9] w fun x95 w =>
   Q x95 w)))
   (on (xBin P .eql 50 false true v8 (.int .u16 56)) fun x98 =>
   cnd x98
   (Cx P 48 #[v9] w fun x100 w =>
   Q x100 w)
   (on (xBin P .eql 50 false true v9 (.int .u16 0)) fun x102 =>
   cnd x102
   (Q (.bool false) w)
   (on (xBin P .eql 50 false true v9 (.int .u16 54)) fun x105 =>
   cnd x105
   (Q (.bool false) w)
   (on (xBin P .eql 50 false true v9 (.int .u16 55)) fun x109 =>
   cnd x109
   (Q (.bool false) w)
   (on (xBin P .eql 50 false true v9 (.int .u16 56)) fun x113 =>
   cnd x113
   (Q (.bool false) w)
   (Cx P 48 #[v9] w fun x117 w =>
   cnd x117
   (Q (.bool false) w)
   (F33.k6 Q v0 v1 v8 v9 w)))))))))
theorem F33.k5_ok (Q : Value → World → Prop) (ρ : Env) (w : World) (h : F33.k5 Q (ρ 0) (ρ 1) (ρ 8) (ρ 9) w) : Sd P none false 164 (cR (cN 3 (cN 2 (cR (cN 3 (cB Try.f33)))))) ρ w (retQ P [.tmp 4] Q) :=
  pRow 5 (by kernel_rfl) (fun ρ w => F33.k6 Q (ρ 0) (ρ 1) (ρ 8) (ρ 9) w) (by kernel_rfl) (fun ρ w h => F33.k6_ok Q ρ w h) h
def F33.k7 (Q : Value → World → Prop) (v0 : Value) (v1 : Value) (v8 : Value) (v9 : Value) (v62 : Value) (w : World) : Prop :=
   cnd v62
   (on (xBin P .sub 3 false true v1 (.int .i64 1)) fun x65 =>
   on (xIA P 23 v0 x65) fun x66 =>
   on (xFA P 53 x66 0) fun x67 =>
   on (xLoad P w 50 x67) fun x68 =>
   F33.k5 Q v0 v1 v8 x68 w)
   (F33.k5 Q v0 v1 v8 v9 w)
theorem F33.k7_ok (Q : Value → World → Prop) (ρ : Env) (w : World) (h : F33.k7 Q (ρ 0) (ρ 1) (ρ 8) (ρ 9) (ρ 62) w) : Sd P none false 164 (cN 1 (cL (cN 3 (cN 2 (cR (cN 3 (cB Try.f33))))))) ρ w (thenQ (fun ρ w => F33.k5 Q (ρ 0) (ρ 1) (ρ 8) (ρ 9) w) (retQ P [.tmp 4] Q)) :=
  pLeaf (by kernel_rfl) h
def F33.k4 (Q : Value → World → Prop) (v0 : Value) (v1 : Value) (v8 : Value) (v9 : Value) (w : World) : Prop :=
   on (xBin P .gtr 3 false true v1 (.int .i64 0)) fun x53 =>
   cnd x53
   (on (xBin P .sub 3 false true v1 (.int .i64 1)) fun x57 =>
   on (xIA P 23 v0 x57) fun x58 =>
   on (xLoad P w 53 x58) fun x59 =>
   Cx P 18 #[x59] w fun x60 w =>
   on (xBin P .eql 3 false true x60 (.int .i64 8)) fun x61 =>
   F33.k7 Q v0 v1 v8 v9 x61 w)
   (F33.k7 Q v0 v1 v8 v9 (.bool false) w)
theorem F33.k4_ok (Q : Value → World → Prop) (ρ : Env) (w : World) (h : F33.k4 Q (ρ 0) (ρ 1) (ρ 8) (ρ 9) w) : Sd P none false 164 (cN 3 (cN 2 (cR (cN 3 (cB Try.f33))))) ρ w (retQ P [.tmp 4] Q) :=
  pSeq (by kernel_rfl) (fun ρ w => F33.k5 Q (ρ 0) (ρ 1) (ρ 8) (ρ 9) w) (fun ρ w h => F33.k5_ok Q ρ w h) (pRow 1 (by kernel_rfl) (fun ρ w => F33.k7 Q (ρ 0) (ρ 1) (ρ 8) (ρ 9) (ρ 62) w) (by kernel_rfl) (fun ρ w h => F33.k7_ok Q ρ w h) h)
def F33.k3 (Q : Value → World → Prop) (v0 : Value) (v1 : Value) (v5 : Value) (w : World) : Prop :=
   on (xBin P .lss 3 false true v5 (.int .i64 8)) fun x46 =>
   cnd x46
   (Q (.bool true) w)
   (on (xIA P 23 v0 v1) fun x49 =>
   on (xFA P 53 x49 0) fun x50 =>
   on (xLoad P w 50 x50) fun x51 =>
   F33.k4 Q v0 v1 x51 (.int .u16 0) w)
theorem F33.k3_ok (Q : Value → World → Prop) (ρ : Env) (w : World) (h : F33.k3 Q (ρ 0) (ρ 1) (ρ 5) w) : Sd P none false 164 (cN 2 (cR (cN 3 (cB Try.f33)))) ρ w (retQ P [.tmp 4] Q) :=
  pRow 3 (by kernel_rfl) (fun ρ w => F33.k4 Q (ρ 0) (ρ 1) (ρ 8) (ρ 9) w) (by kernel_rfl) (fun ρ w h => F33.k4_ok Q ρ w h) h
def F33.k2 (Q : Value → World → Prop) (v0 : Value) (v1 : Value) (v5 : Value) (v6 : Value) (w : World) : Prop :=
   on (xBin P .eql 3 false true v5 (.int .i64 1)) fun x36 =>
   cnd x36
   (on (xBin P .eql 3 false true v6 (.int .i64 0)) fun x38 =>
   Q x38 w)
   (on (xBin P .gtr 3 false true v5 (.int .i64 1)) fun x40 =>
   cnd x40
   (on (xBin P .eql 3 false true v6 (.int .i64 0)) fun x43 =>
   cnd x43
   (Q (.bool false) w)
   (F33.k3 Q v0 v1 v5 w))
   (F33.k3 Q v0 v1 v5 w))
theorem F33.k2_ok (Q : Value → World → Prop) (ρ : Env) (w : World) (h : F33.k2 Q (ρ 0) (ρ 1) (ρ 5) (ρ 6) w) : Sd P none false 164 (cR (cN 3 (cB Try.f33))) ρ w (retQ P [.tmp 4] Q) :=
  pRow 2 (by kernel_rfl) (fun ρ w => F33.k3 Q (ρ 0) (ρ 1) (ρ 5) w) (by kernel_rfl) (fun ρ w h => F33.k3_ok Q ρ w h) h
def F33.l1 (Q : Value → World → Prop) : Nat → Value → Value → Value → Value → Value → World → Prop
 | 0, _, _, _, _, _, _ => False
 | n + 1, v0, v1, v5, v6, v7, w => on (xBin P .lss 3 false false v7 v1) fun x17 =>
   cnd x17
   (on (xIA P 23 v0 v7) fun x22 =>
   on (xLoad P w 53 x22) fun x23 =>
   Cx P 18 #[x23] w fun x24 w =>
   on (xBin P .gtr 3 false false x24 v5) fun x26 =>
   cnd x26
   (Q (.bool false) w)
   (on (xIA P 23 v0 v7) fun x29 =>
   on (xLoad P w 53 x29) fun x30 =>
   Cx P 18 #[x30] w fun x31 w =>
   on (xBin P .eql 3 false true x31 (.int .i64 1)) fun x32 =>
   cnd x32
   (on (xBin P .add 3 false true v6 (.int .i64 1)) fun x34 =>
   on (xBin P .add 3 false true v7 (.int .i64 1)) fun x19 =>
   F33.l1 Q n v0 v1 v5 x34 x19 w)
   (on (xBin P .add 3 false true v7 (.int .i64 1)) fun x19_2 =>
   F33.l1 Q n v0 v1 v5 v6 x19_2 w)))
   (F33.k2 Q v0 v1 v5 v6 w)
theorem F33.l1_ok (Q : Value → World → Prop) (ρ : Env) (w : World) (h : ∃ n, F33.l1 Q n (ρ 0) (ρ 1) (ρ 5) (ρ 6) (ρ 7) w) : Sd P none false 164 (cL (cN 1 (cL (cN 3 (cB Try.f33))))) ρ w (blkQ 0 (thenQ (fun ρ w => F33.k2 Q (ρ 0) (ρ 1) (ρ 5) (ρ 6) w) (retQ P [.tmp 4] Q))) :=
  pLoop (by kernel_rfl) (fun n ρ w => F33.l1 Q n (ρ 0) (ρ 1) (ρ 5) (ρ 6) (ρ 7) w) (fun _ _ h => h) (fun n ρ w h => pLeaf (S := F33.l1 Q (n + 1) (ρ 0) (ρ 1) (ρ 5) (ρ 6) (ρ 7) w) (by kernel_rfl) h) h
def F33.k8 (Q : Value → World → Prop) (v0 : Value) (v1 : Value) (v5 : Value) (v6 : Value) (v7 : Value) (w : World) : Prop :=
   ∃ n, F33.l1 Q n v0 v1 v5 v6 v7 w
theorem F33.k8_ok (Q : Value → World → Prop) (ρ : Env) (w : World) (h : F33.k8 Q (ρ 0) (ρ 1) (ρ 5) (ρ 6) (ρ 7) w) : Sd P none false 164 (cN 1 (cL (cN 3 (cB Try.f33)))) ρ w (thenQ (fun ρ w => F33.k2 Q (ρ 0) (ρ 1) (ρ 5) (ρ 6) w) (retQ P [.tmp 4] Q)) :=
  pBlock 0 (by kernel_rfl) (F33.l1_ok Q _ _ h)
def F33.k1 (Q : Value → World → Prop) (v0 : Value) (v1 : Value) (v5 : Value) (v6 : Value) (w : World) : Prop :=
   F33.k8 Q v0 v1 v5 v6 (.int .i64 0) w
theorem F33.k1_ok (Q : Value → World → Prop) (ρ : Env) (w : World) (h : F33.k1 Q (ρ 0) (ρ 1) (ρ 5) (ρ 6) w) : Sd P none false 164 (cN 3 (cB Try.f33)) ρ w (retQ P [.tmp 4] Q) :=
  pSeq (by kernel_rfl) (fun ρ w => F33.k2 Q (ρ 0) (ρ 1) (ρ 5) (ρ 6) w) (fun ρ w h => F33.k2_ok Q ρ w h) (pRow 1 (by kernel_rfl) (fun ρ w => F33.k8 Q (ρ 0) (ρ 1) (ρ 5) (ρ 6) (ρ 7) w) (by kernel_rfl) (fun ρ w h => F33.k8_ok Q ρ w h) h)
def F33 (a0 a1 : Value) (w : World) (Q : Value → World → Prop) : Prop :=
   on (xIA P 23 a0 a1) fun x12 =>
   on (xLoad P w 53 x12) fun x13 =>
   Cx P 18 #[x13] w fun x14 w =>
   F33.k1 Q a0 a1 x14 (.int .i64 0) w
theorem F33_ok (a0 a1 : Value) (w : World) (Q : Value → World → Prop) (h : F33 a0 a1 w Q) : Cx P 33 #[a0, a1] w Q :=
  pFun false Try.f33 (by kernel_rfl) (by kernel_rfl) (by kernel_rfl) (pRow 3 (by kernel_rfl) (fun ρ w => F33.k1 Q (ρ 0) (ρ 1) (ρ 5) (ρ 6) w) (by kernel_rfl) (fun ρ w h => F33.k1_ok Q ρ w h) h)

/- 34 intaglio/intaglioref03.Of -/
def F34 (a0 : Value) (w : World) (Q : Value → World → Prop) : Prop :=
   eAlloc P 77 w fun x2 w =>
   on (xBin P .eql 50 false true a0 (.int .u16 1)) fun x6 =>
   cnd x6
   (Cx P 50 #[a0, (.string ⟨#[79, 112, 85, 110, 100, 101, 102]⟩), (.bool true), (.bool true), (.string ⟨#[]⟩), (.string ⟨#[]⟩), (.int .i64 0), (.int .u8 7)] w fun x8 w =>
   eStore P 77 x2 x8 w fun w =>
   on (xRes P w 77 x2) fun x900 =>
   Q (.tuple #[x900, (.bool true)]) w)
   (on (xBin P .eql 50 false true a0 (.int .u16 3)) fun x10 =>
   cnd x10
   (Cx P 50 #[a0, (.string ⟨#[79, 112, 83, 111, 117, 114, 99, 101]⟩), (.bool false), (.bool false), (.string ⟨#[108, 110]⟩), (.string ⟨#[]⟩), (.int .i64 0), (.int .u8 4)] w fun x12 w =>
   eStore P 77 x2 x12 w fun w =>
   on (xRes P w 77 x2) fun x900_2 =>
   Q (.tuple #[x900_2, (.bool true)]) w)
   (on (xBin P .eql 50 false true a0 (.int .u16 5)) fun x14 =>
   cnd x14
   (Cx P 50 #[a0, (.string ⟨#[79, 112, 78, 97, 109, 101]⟩), (.bool false), (.bool false), (.string ⟨#[105, 115]⟩), (.string ⟨#[]⟩), (.int .i64 0), (.int .u8 5)] w fun x16 w =>
   eStore P 77 x2 x16 w fun w =>
   on (xRes P w 77 x2) fun x900_3 =>
   Q (.tuple #[x900_3, (.bool true)]) w)
   (on (xBin P .eql 50 false true a0 (.int .u16 6)) fun x18 =>
   cnd x18
   (Cx P 50 #[a0, (.string ⟨#[79, 112, 77, 101, 109, 98, 101, 114, 78, 97, 109, 101]⟩), (.bool false), (.bool false), (.string ⟨#[105, 110, 115]⟩), (.string ⟨#[]⟩), (.int .i64 0), (.int .u8 5)] w fun x20 w =>
   eStore P 77 x2 x20 w fun w =>
   on (xRes P w 77 x2) fun x900_4 =>
   Q (.tuple #[x900_4, (.bool true)]) w)
   (on (xBin P .eql 50 false true a0 (.int .u16 7)) fun x22 =>
   cnd x22
   (Cx P 50 #[a0, (.string ⟨#[79, 112, 83, 116, 114, 105, 110, 103]⟩), (.bool false), (.bool true), (.string ⟨#[115]⟩), (.string ⟨#[]⟩), (.int .i64 0), (.int .u8 4)] w fun x24 w =>
   eStore P 77 x2 x24 w fun w =>
   on (xRes P w 77 x2) fun x900_5 =>
   Q (.tuple #[x900_5, (.bool true)]) w)
   (on (xBin P .eql 50 false true a0 (.int .u16 14)) fun x26 =>
   cnd x26
   (Cx P 50 #[a0, (.string ⟨#[79, 112, 77, 101, 109, 111, 114, 121, 77, 111, 100, 101, 108]⟩), (.bool false), (.bool false), (.string ⟨#[97, 109]⟩), (.string ⟨#[]⟩), (.int .i64 0), (.int .u8 1)] w fun x28 w =>
   eStore P 77 x2 x28 w fun w =>
   on (xRes P w 77 x2) fun x900_6 =>
   Q (.tuple #[x900_6, (.bool true)]) w)
   (on (xBin P .eql 50 false true a0 (.int .u16 15)) fun x30 =>
   cnd x30
   (Cx P 50 #[a0, (.string ⟨#[79, 112, 69, 110, 116, 114, 121, 80, 111, 105, 110, 116]⟩), (.bool false), (.bool false), (.string ⟨#[101, 105, 115]⟩), (.string ⟨#[105]⟩), (.int .i64 0), (.int .u8 2)] w fun x32 w =>
   eStore P 77 x2 x32 w fun w =>
   on (xRes P w 77 x2) fun x900_7 =>
   Q (.tuple #[x900_7, (.bool true)]) w)
   (on (xBin P .eql 50 false true a0 (.int .u16 16)) fun x34 =>
   cnd x34
   (Cx P 50 #[a0, (.string ⟨#[79, 112, 69, 120, 101, 99, 117, 116, 105, 111, 110, 77, 111, 100, 101]⟩), (.bool false), (.bool false), (.string ⟨#[105, 120]⟩), (.string ⟨#[]⟩), (.int .i64 0), (.int .u8 3)] w fun x36 w =>
   eStore P 77 x2 x36 w fun w =>
   on (xRes P w 77 x2) fun x900_8 =>
   Q (.tuple #[x900_8, (.bool true)]) w)
   (on (xBin P .eql 50 false true a0 (.int .u16 17)) fun x38 =>
   cnd x38
   (Cx P 50 #[a0, (.string ⟨#[79, 112, 67, 97, 112, 97, 98, 105, 108, 105, 116, 121]⟩), (.bool false), (.bool false), (.string ⟨#[107]⟩), (.string ⟨#[]⟩), (.int .i64 0), (.int .u8 0)] w fun x40 w =>
   eStore P 77 x2 x40 w fun w =>
   on (xRes P w 77 x2) fun x900_9 =>
   Q (.tuple #[x900_9, (.bool true)]) w)
   (on (xBin P .eql 50 false true a0 (.int .u16 19)) fun x42 =>
   cnd x42
   (Cx P 50 #[a0, (.string ⟨#[79, 112, 84, 121, 112, 101, 86, 111, 105, 100]⟩), (.bool false), (.bool true), (.string ⟨#[]⟩), (.string ⟨#[]⟩), (.int .i64 0), (.int .u8 7)] w fun x44 w =>
   eStore P 77 x2 x44 w fun w =>
   on (xRes P w 77 x2) fun x900_10 =>
   Q (.tuple #[x900_10, (.bool true)]) w)
   (on (xBin P .eql 50 false true a0 (.int .u16 20)) fun x46 =>
   cnd x46
   (Cx P 50 #[a0, (.string ⟨#[79, 112, 84, 121, 112, 101, 66, 111, 111, 108]⟩), (.bool false), (.bool true), (.string ⟨#[]⟩), (.string ⟨#[]⟩), (.int .i64 0), (.int .u8 7)] w fun x48 w =>
   eStore P 77 x2 x48 w fun w =>
   on (xRes P w 77 x2) fun x900_11 =>
   Q (.tuple #[x900_11, (.bool true)]) w)
   (on (xBin P .eql 50 false true a0 (.int .u16 21)) fun x50 =>
   cnd x50
   (Cx P 50 #[a0, (.string ⟨#[79, 112, 84, 121, 112, 101, 73, 110, 116]⟩), (.bool false), (.bool true), (.string ⟨#[110, 110]⟩), (.string ⟨#[]⟩), (.int .i64 0), (.int .u8 7)] w fun x52 w =>
   eStore P 77 x2 x52 w fun w =>
   on (xRes P w 77 x2) fun x900_12 =>
   Q (.tuple #[x900_12, (.bool true)]) w)
   (on (xBin P .eql 50 false true a0 (.int .u16 23)) fun x54 =>
   cnd x54
   (Cx P 50 #[a0, (.string ⟨#[79, 112, 84, 121, 112, 101, 86, 101, 99, 116, 111, 114]⟩), (.bool false), (.bool true), (.string ⟨#[105, 110]⟩), (.string ⟨#[]⟩), (.int .i64 0), (.int .u8 7)] w fun x56 w =>
   eStore P 77 x2 x56 w fun w =>
   on (xRes P w 77 x2) fun x900_13 =>
   Q (.tuple #[x900_13, (.bool true)]) w)
   (on (xBin P .eql 50 false true a0 (.int .u16 28)) fun x58 =>
   cnd x58
   (Cx P 50 #[a0, (.string ⟨#[79, 112, 84, 121, 112, 101, 65, 114, 114, 97, 121]⟩), (.bool false), (.bool true), (.string ⟨#[105, 105]⟩), (.string ⟨#[]⟩), (.int .i64 0), (.int .u8 7)] w fun x60 w =>
   eStore P 77 x2 x60 w fun w =>
   on (xRes P w 77 x2) fun x900_14 =>
   Q (.tuple #[x900_14, (.bool true)]) w)
   (on (xBin P .eql 50 false true a0 (.int .u16 30)) fun x62 =>
   cnd x62
   (Cx P 50 #[a0, (.string ⟨#[79, 112, 84, 121, 112, 101, 83, 116, 114, 117, 99, 116]⟩), (.bool false), (.bool true), (.string ⟨#[]⟩), (.string ⟨#[105]⟩), (.int .i64 0), (.int .u8 7)] w fun x64 w =>
   eStore P 77 x2 x64 w fun w =>
   on (xRes P w 77 x2) fun x900_15 =>
   Q (.tuple #[x900_15, (.bool true)]) w)
   (on (xBin P .eql 50 false true a0 (.int .u16 32)) fun x66 =>
   cnd x66
   (Cx P 50 #[a0, (.string ⟨#[79, 112, 84, 121, 112, 101, 80, 111, 105, 110, 116, 101, 114]⟩), (.bool false), (.bool true), (.string ⟨#[99, 105]⟩), (.string ⟨#[]⟩), (.int .i64 0), (.int .u8 7)] w fun x68 w =>
   eStore P 77 x2 x68 w fun w =>
   on (xRes P w 77 x2) fun x900_16 =>
   Q (.tuple #[x900_16, (.bool true)]) w)
   (on (xBin P .eql 50 false true a0 (.int .u16 33)) fun x70 =>
   cnd x70
   (Cx P 50 #[a0, (.string ⟨#[79, 112, 84, 121, 112, 101, 70, 117, 110, 99, 116, 105, 111, 110]⟩), (.bool false), (.bool true), (.string ⟨#[105]⟩), (.string ⟨#[105]⟩), (.int .i64 0), (.int .u8 7)] w fun x72 w =>
   eStore P 77 x2 x72 w fun w =>
   on (xRes P w 77 x2) fun x900_17 =>
   Q (.tuple #[x900_17, (.bool true)]) w)
   (on (xBin P .eql 50 false true a0 (.int .u16 41)) fun x74 =>
   cnd x74
   (Cx P 50 #[a0, (.string ⟨#[79, 112, 67, 111, 110, 115, 116, 97, 110, 116, 84, 114, 117, 101]⟩), (.bool true), (.bool true), (.string ⟨#[]⟩), (.string ⟨#[]⟩), (.int .i64 0), (.int .u8 7)] w fun x76 w =>
   eStore P 77 x2 x76 w fun w =>
   on (xRes P w 77 x2) fun x900_18 =>
   Q (.tuple #[x900_18, (.bool true)]) w)
   (on (xBin P .eql 50 false true a0 (.int .u16 42)) fun x78 =>
   cnd x78
   (Cx P 50 #[a0, (.string ⟨#[79, 112, 67, 111, 110, 115, 116, 97, 110, 116, 70, 97, 108, 115, 101]⟩), (.bool true), (.bool true), (.string ⟨#[]⟩), (.string ⟨#[]⟩), (.int .i64 0), (.int .u8 7)] w fun x80 w =>
   eStore P 77 x2 x80 w fun w =>
   on (xRes P w 77 x2) fun x900_19 =>
   Q (.tuple #[x900_19, (.bool true)]) w)
   (on (xBin P .eql 50 false true a0 (.int .u16 43)) fun x82 =>
   cnd x82
   (Cx P 50 #[a0, (.string ⟨#[79, 112, 67, 111, 110, 115, 116, 97, 110, 116]⟩), (.bool true), (.bool true), (.string ⟨#[110]⟩), (.string ⟨#[]⟩), (.int .i64 0), (.int .u8 7)] w fun x84 w =>
   eStore P 77 x2 x84 w fun w =>
   on (xRes P w 77 x2) fun x900_20 =>
   Q (.tuple #[x900_20, (.bool true)]) w)
   (on (xBin P .eql 50 false true a0 (.int .u16 44)) fun x86 =>
   cnd x86
   (Cx P 50 #[a0, (.string ⟨#[79, 112, 67, 111, 110, 115, 116, 97, 110, 116, 67, 111, 109, 112, 111, 115, 105, 116, 101]⟩), (.bool true), (.bool true), (.string ⟨#[]⟩), (.string ⟨#[105]⟩), (.int .i64 0), (.int .u8 7)] w fun x88 w =>
   eStore P 77 x2 x88 w fun w =>
   on (xRes P w 77 x2) fun x900_21 =>
   Q (.tuple #[x900_21, (.bool true)]) w)
   (on (xBin P .eql 50 false true a0 (.int .u16 46)) fun x90 =>
   cnd x90
   (Cx P 50 #[a0, (.string ⟨#[79, 112, 67, 111, 110, 115, 116, 97, 110, 116, 78, 117, 108, 108]⟩), (.bool true), (.bool true), (.string ⟨#[]⟩), (.string ⟨#[]⟩), (.int .i64 0), (.int .u8 7)] w fun x92 w =>
   eStore P 77 x2 x92 w fun w =>
   on (xRes P w 77 x2) fun x900_22 =>
   Q (.tuple #[x900_22, (.bool true)]) w)
   (on (xBin P .eql 50 false true a0 (.int .u16 54)) fun x94 =>
   cnd x94
   (Cx P 50 #[a0, (.string ⟨#[79, 112, 70, 117, 110, 99, 116, 105, 111, 110]⟩), (.bool true), (.bool true), (.string ⟨#[102, 105]⟩), (.string ⟨#[]⟩), (.int .i64 0), (.int .u8 8)] w fun x96 w =>
   eStore P 77 x2 x96 w fun w =>
   on (xRes P w 77 x2) fun x900_23 =>
   Q (.tuple #[x900_23, (.bool true)]) w)
   (on (xBin P .eql 50 false true a0 (.int .u16 55)) fun x98 =>
   cnd x98
   (Cx P 50 #[a0, (.string ⟨#[79, 112, 70, 117, 110, 99, 116, 105, 111, 110, 80, 97, 114, 97, 109, 101, 116, 101, 114]⟩), (.bool true), (.bool true), (.string ⟨#[]⟩), (.string ⟨#[]⟩), (.int .i64 0), (.int .u8 8)] w fun x100 w =>
   eStore P 77 x2 x100 w fun w =>
   on (xRes P w 77 x2) fun x900_24 =>
   Q (.tuple #[x900_24, (.bool true)]) w)
   (on (xBin P .eql 50 false true a0 (.int .u16 56)) fun x102 =>
   cnd x102
   (Cx P 50 #[a0, (.string ⟨#[79, 112, 70, 117, 110, 99, 116, 105, 111, 110, 69, 110, 100]⟩), (.bool false), (.bool false), (.string ⟨#[]⟩), (.string ⟨#[]⟩), (.int .i64 0), (.int .u8 8)] w fun x104 w =>
   eStore P 77 x2 x104 w fun w =>
   on (xRes P w 77 x2) fun x900_25 =>
   Q (.tuple #[x900_25, (.bool true)]) w)
   (on (xBin P .eql 50 false true a0 (.int .u16 57)) fun x106 =>
   cnd x106
   (Cx P 50 #[a0, (.string ⟨#[79, 112, 70, 117, 110, 99, 116, 105, 111, 110, 67, 97, 108, 108]⟩), (.bool true), (.bool true), (.string ⟨#[105]⟩), (.string ⟨#[105]⟩), (.int .i64 0), (.int .u8 8)] w fun x108 w =>
   eStore P 77 x2 x108 w fun w =>
   on (xRes P w 77 x2) fun x900_26 =>
   Q (.tuple #[x900_26, (.bool true)]) w)
   (on (xBin P .eql 50 false true a0 (.int .u16 59)) fun x110 =>
   cnd x110
   (Cx P 50 #[a0, (.string ⟨#[79, 112, 86, 97, 114, 105, 97, 98, 108, 101]⟩), (.bool true), (.bool true), (.string ⟨#[99]⟩), (.string ⟨#[105]⟩), (.int .i64 1), (.int .u8 7)] w fun x112 w =>
   eStore P 77 x2 x112 w fun w =>
   on (xRes P w 77 x2) fun x900_27 =>
   Q (.tuple #[x900_27, (.bool true)]) w)
   (on (xBin P .eql 50 false true a0 (.int .u16 61)) fun x114 =>
   cnd x114
   (Cx P 50 #[a0, (.string ⟨#[79, 112, 76, 111, 97, 100]⟩), (.bool true), (.bool true), (.string ⟨#[105]⟩), (.string ⟨#[]⟩), (.int .i64 0), (.int .u8 8)] w fun x116 w =>
   eStore P 77 x2 x116 w fun w =>
   on (xRes P w 77 x2) fun x900_28 =>
   Q (.tuple #[x900_28, (.bool true)]) w)
   (on (xBin P .eql 50 false true a0 (.int .u16 62)) fun x118 =>
   cnd x118
   (Cx P 50 #[a0, (.string ⟨#[79, 112, 83, 116, 111, 114, 101]⟩), (.bool false), (.bool false), (.string ⟨#[105, 105]⟩), (.string ⟨#[]⟩), (.int .i64 0), (.int .u8 8)] w fun x120 w =>
   eStore P 77 x2 x120 w fun w =>
   on (xRes P w 77 x2) fun x900_29 =>
   Q (.tuple #[x900_29, (.bool true)]) w)
   (on (xBin P .eql 50 false true a0 (.int .u16 65)) fun x122 =>
   cnd x122
   (Cx P 50 #[a0, (.string ⟨#[79, 112, 65, 99, 99, 101, 115, 115, 67, 104, 97, 105, 110]⟩), (.bool true), (.bool true), (.string ⟨#[105]⟩), (.string ⟨#[105]⟩), (.int .i64 0), (.int .u8 8)] w fun x124 w =>
   eStore P 77 x2 x124 w fun w =>
   on (xRes P w 77 x2) fun x900_30 =>
   Q (.tuple #[x900_30, (.bool true)]) w)
   (on (xBin P .eql 50 false true a0 (.int .u16 71)) fun x126 =>
   cnd x126
   (Cx P 50 #[a0, (.string ⟨#[79, 112, 68, 101, 99, 111, 114, 97, 116, 101]⟩), (.bool false), (.bool false), (.string ⟨#[105, 100]⟩), (.string ⟨#[110]⟩), (.int .i64 0), (.int .u8 6)] w fun x128 w =>
   eStore P 77 x2 x128 w fun w =>
   on (xRes P w 77 x2) fun x900_31 =>
   Q (.tuple #[x900_31, (.bool true)]) w)
   (on (xBin P .eql 50 false true a0 (.int .u16 77)) fun x130 =>
   cnd x130
   (Cx P 50 #[a0, (.string ⟨#[79, 112, 86, 101, 99, 116, 111, 114, 69, 120, 116, 114, 97, 99, 116, 68, 121, 110, 97, 109, 105, 99]⟩), (.bool true), (.bool true), (.string ⟨#[105, 105]⟩), (.string ⟨#[]⟩), (.int .i64 0), (.int .u8 8)] w fun x132 w =>
   eStore P 77 x2 x132 w fun w =>
   on (xRes P w 77 x2) fun x900_32 =>
   Q (.tuple #[x900_32, (.bool true)]) w)
   (on (xBin P .eql 50 false true a0 (.int .u16 78)) fun x134 =>
   cnd x134
   (Cx P 50 #[a0, (.string ⟨#[79, 112, 86, 101, 99, 116, 111, 114, 73, 110, 115, 101, 114, 116, 68, 121, 110, 97, 109, 105, 99]⟩), (.bool true), (.bool true), (.string ⟨#[105, 105, 105]⟩), (.string ⟨#[]⟩), (.int .i64 0), (.int .u8 8)] w fun x136 w =>
   eStore P 77 x2 x136 w fun w =>
   on (xRes P w 77 x2) fun x900_33 =>
   Q (.tuple #[x900_33, (.bool true)]) w)
   (on (xBin P .eql 50 false true a0 (.int .u16 79)) fun x138 =>
   cnd x138
   (Cx P 50 #[a0, (.string ⟨#[79, 112, 86, 101, 99, 116, 111, 114, 83, 104, 117, 102, 102, 108, 101]⟩), (.bool true), (.bool true), (.string ⟨#[105, 105]⟩), (.string ⟨#[110]⟩), (.int .i64 0), (.int .u8 8)] w fun x140 w =>
   eStore P 77 x2 x140 w fun w =>
   on (xRes P w 77 x2) fun x900_34 =>
   Q (.tuple #[x900_34, (.bool true)]) w)
   (on (xBin P .eql 50 false true a0 (.int .u16 80)) fun x142 =>
   cnd x142
   (Cx P 50 #[a0, (.string ⟨#[79, 112, 67, 111, 109, 112, 111, 115, 105, 116, 101, 67, 111, 110, 115, 116, 114, 117, 99, 116]⟩), (.bool true), (.bool true), (.string ⟨#[]⟩), (.string ⟨#[105]⟩), (.int .i64 0), (.int .u8 8)] w fun x144 w =>
   eStore P 77 x2 x144 w fun w =>
   on (xRes P w 77 x2) fun x900_35 =>
   Q (.tuple #[x900_35, (.bool true)]) w)
   (on (xBin P .eql 50 false true a0 (.int .u16 81)) fun x146 =>
   cnd x146
   (Cx P 50 #[a0, (.string ⟨#[79, 112, 67, 111, 109, 112, 111, 115, 105, 116, 101, 69, 120, 116, 114, 97, 99, 116]⟩), (.bool true), (.bool true), (.string ⟨#[105]⟩), (.string ⟨#[110]⟩), (.int .i64 0), (.int .u8 8)] w fun x148 w =>
   eStore P 77 x2 x148 w fun w =>
   on (xRes P w 77 x2) fun x900_36 =>
   Q (.tuple #[x900_36, (.bool true)]) w)
   (on (xBin P .eql 50 false true a0 (.int .u16 82)) fun x150 =>
   cnd x150
   (Cx P 50 #[a0, (.string ⟨#[79, 112, 67, 111, 109, 112, 111, 115, 105, 116, 101, 73, 110, 115, 101, 114, 116]⟩), (.bool true), (.bool true), (.string ⟨#[105, 105]⟩), (.string ⟨#[110]⟩), (.int .i64 0), (.int .u8 8)] w fun x152 w =>
   eStore P 77 x2 x152 w fun w =>
   on (xRes P w 77 x2) fun x900_37 =>
   Q (.tuple #[x900_37, (.bool true)]) w)
   (on (xBin P .eql 50 false true a0 (.int .u16 83)) fun x154 =>
   cnd x154
   (Cx P 50 #[a0, (.string ⟨#[79, 112, 67, 111, 112, 121, 79, 98, 106, 101, 99, 116]⟩), (.bool true), (.bool true), (.string ⟨#[105]⟩), (.string ⟨#[]⟩), (.int .i64 0), (.int .u8 8)] w fun x156 w =>
   eStore P 77 x2 x156 w fun w =>
   on (xRes P w 77 x2) fun x900_38 =>
   Q (.tuple #[x900_38, (.bool true)]) w)
   (on (xBin P .eql 50 false true a0 (.int .u16 124)) fun x158 =>
   cnd x158
   (Cx P 50 #[a0, (.string ⟨#[79, 112, 66, 105, 116, 99, 97, 115, 116]⟩), (.bool true), (.bool true), (.string ⟨#[105]⟩), (.string ⟨#[]⟩), (.int .i64 0), (.int .u8 8)] w fun x160 w =>
   eStore P 77 x2 x160 w fun w =>
   on (xRes P w 77 x2) fun x900_39 =>
   Q (.tuple #[x900_39, (.bool true)]) w)
   (on (xBin P .eql 50 false true a0 (.int .u16 126)) fun x162 =>
   cnd x162
   (Cx P 50 #[a0, (.string ⟨#[79, 112, 83, 78, 101, 103, 97, 116, 101]⟩), (.bool true), (.bool true), (.string ⟨#[105]⟩), (.string ⟨#[]⟩), (.int .i64 0), (.int .u8 8)] w fun x164 w =>
   eStore P 77 x2 x164 w fun w =>
   on (xRes P w 77 x2) fun x900_40 =>
   Q (.tuple #[x900_40, (.bool true)]) w)
   (on (xBin P .eql 50 false true a0 (.int .u16 128)) fun x166 =>
   cnd x166
   (Cx P 50 #[a0, (.string ⟨#[79, 112, 73, 65, 100, 100]⟩), (.bool true), (.bool true), (.string ⟨#[105, 105]⟩), (.string ⟨#[]⟩), (.int .i64 0), (.int .u8 8)] w fun x168 w =>
   eStore P 77 x2 x168 w fun w =>
   on (xRes P w 77 x2) fun x900_41 =>
   Q (.tuple #[x900_41, (.bool true)]) w)
   (on (xBin P .eql 50 false true a0 (.int .u16 130)) fun x170 =>
   cnd x170
   (Cx P 50 #[a0, (.string ⟨#[79, 112, 73, 83, 117, 98]⟩), (.bool true), (.bool true), (.string ⟨#[105, 105]⟩), (.string ⟨#[]⟩), (.int .i64 0), (.int .u8 8)] w fun x172 w =>
   eStore P 77 x2 x172 w fun w =>
   on (xRes P w 77 x2) fun x900_42 =>
   Q (.tuple #[x900_42, (.bool true)]) w)
   (on (xBin P .eql 50 false true a0 (.int .u16 132)) fun x174 =>
   cnd x174
   (Cx P 50 #[a0, (.string ⟨#[79, 112, 73, 77, 117, 108]⟩), (.bool true), (.bool true), (.string ⟨#[105, 105]⟩), (.string ⟨#[]⟩), (.int .i64 0), (.int .u8 8)] w fun x176 w =>
   eStore P 77 x2 x176 w fun w =>
   on (xRes P w 77 x2) fun x900_43 =>
   Q (.tuple #[x900_43, (.bool true)]) w)
   (on (xBin P .eql 50 false true a0 (.int .u16 134)) fun x178 =>
   cnd x178
   (Cx P 50 #[a0, (.string ⟨#[79, 112, 85, 68, 105, 118]⟩), (.bool true), (.bool true), (.string ⟨#[105, 105]⟩), (.string ⟨#[]⟩), (.int .i64 0), (.int .u8 8)] w fun x180 w =>
   eStore P 77 x2 x180 w fun w =>
   on (xRes P w 77 x2) fun x900_44 =>
   Q (.tuple #[x900_44, (.bool true)]) w)
   (on (xBin P .eql 50 false true a0 (.int .u16 135)) fun x182 =>
   cnd x182
   (Cx P 50 #[a0, (.string ⟨#[79, 112, 83, 68, 105, 118]⟩), (.bool true), (.bool true), (.string ⟨#[105, 105]⟩), (.string ⟨#[]⟩), (.int .i64 0), (.int .u8 8)] w fun x184 w =>
   eStore P 77 x2 x184 w fun w =>
   on (xRes P w 77 x2) fun x900_45 =>
   Q (.tuple #[x900_45, (.bool true)]) w)
   (on (xBin P .eql 50 false true a0 (.int .u16 137)) fun x186 =>
   cnd x186
   (Cx P 50 #[a0, (.string ⟨#[79, 112, 85, 77, 111, 100]⟩), (.bool true), (.bool true), (.string ⟨#[105, 105]⟩), (.string ⟨#[]⟩), (.int .i64 0), (.int .u8 8)] w fun x188 w =>
   eStore P 77 x2 x188 w fun w =>
   on (xRes P w 77 x2) fun x900_46 =>
   Q (.tuple #[x900_46, (.bool true)]) w)
   (on (xBin P .eql 50 false true a0 (.int .u16 138)) fun x190 =>
   cnd x190
   (Cx P 50 #[a0, (.string ⟨#[79, 112, 83, 82, 101, 109]⟩), (.bool true), (.bool true), (.string ⟨#[105, 105]⟩), (.string ⟨#[]⟩), (.int .i64 0), (.int .u8 8)] w fun x192 w =>
   eStore P 77 x2 x192 w fun w =>
   on (xRes P w 77 x2) fun x900_47 =>
   Q (.tuple #[x900_47, (.bool true)]) w)
   (on (xBin P .eql 50 false true a0 (.int .u16 139)) fun x194 =>
   cnd x194
   (Cx P 50 #[a0, (.string ⟨#[79, 112, 83, 77, 111, 100]⟩), (.bool true), (.bool true), (.string ⟨#[105, 105]⟩), (.string ⟨#[]⟩), (.int .i64 0), (.int .u8 8)] w fun x196 w =>
   eStore P 77 x2 x196 w fun w =>
   on (xRes P w 77 x2) fun x900_48 =>
   Q (.tuple #[x900_48, (.bool true)]) w)
   (on (xBin P .eql 50 false true a0 (.int .u16 149)) fun x198 =>
   cnd x198
   (Cx P 50 #[a0, (.string ⟨#[79, 112, 73, 65, 100, 100, 67, 97, 114, 114, 121]⟩), (.bool true), (.bool true), (.string ⟨#[105, 105]⟩), (.string ⟨#[]⟩), (.int .i64 0), (.int .u8 8)] w fun x200 w =>
   eStore P 77 x2 x200 w fun w =>
   on (xRes P w 77 x2) fun x900_49 =>
   Q (.tuple #[x900_49, (.bool true)]) w)
   (on (xBin P .eql 50 false true a0 (.int .u16 150)) fun x202 =>
   cnd x202
   (Cx P 50 #[a0, (.string ⟨#[79, 112, 73, 83, 117, 98, 66, 111, 114, 114, 111, 119]⟩), (.bool true), (.bool true), (.string ⟨#[105, 105]⟩), (.string ⟨#[]⟩), (.int .i64 0), (.int .u8 8)] w fun x204 w =>
   eStore P 77 x2 x204 w fun w =>
   on (xRes P w 77 x2) fun x900_50 =>
   Q (.tuple #[x900_50, (.bool true)]) w)
   (on (xBin P .eql 50 false true a0 (.int .u16 151)) fun x206 =>
   cnd x206
   (Cx P 50 #[a0, (.string ⟨#[79, 112, 85, 77, 117, 108, 69, 120, 116, 101, 110, 100, 101, 100]⟩), (.bool true), (.bool true), (.string ⟨#[105, 105]⟩), (.string ⟨#[]⟩), (.int .i64 0), (.int .u8 8)] w fun x208 w =>
   eStore P 77 x2 x208 w fun w =>
   on (xRes P w 77 x2) fun x900_51 =>
   Q (.tuple #[x900_51, (.bool true)]) w)
   (on (xBin P .eql 50 false true a0 (.int .u16 152)) fun x210 =>
   cnd x210
   (Cx P 50 #[a0, (.string ⟨#[79, 112, 83, 77, 117, 108, 69, 120, 116, 101, 110, 100, 101, 100]⟩), (.bool true), (.bool true), (.string ⟨#[105, 105]⟩), (.string ⟨#[]⟩), (.int .i64 0), (.int .u8 8)] w fun x212 w =>
   eStore P 77 x2 x212 w fun w =>
   on (xRes P w 77 x2) fun x900_52 =>
   Q (.tuple #[x900_52, (.bool true)]) w)
   (on (xBin P .eql 50 false true a0 (.int .u16 154)) fun x214 =>
   cnd x214
   (Cx P 50 #[a0, (.string ⟨#[79, 112, 65, 110, 121]⟩), (.bool true), (.bool true), (.string ⟨#[105]⟩), (.string ⟨#[]⟩), (.int .i64 0), (.int .u8 8)] w fun x216 w =>
   eStore P 77 x2 x216 w fun w =>
   on (xRes P w 77 x2) fun x900_53 =>
   Q (.tuple #[x900_53, (.bool true)]) w)
   (on (xBin P .eql 50 false true a0 (.int .u16 155)) fun x218 =>
   cnd x218
   (Cx P 50 #[a0, (.string ⟨#[79, 112, 65, 108, 108]⟩), (.bool true), (.bool true), (.string ⟨#[105]⟩), (.string ⟨#[]⟩), (.int .i64 0), (.int .u8 8)] w fun x220 w =>
   eStore P 77 x2 x220 w fun w =>
   on (xRes P w 77 x2) fun x900_54 =>
   Q (.tuple #[x900_54, (.bool true)]) w)
   (on (xBin P .eql 50 false true a0 (.int .u16 164)) fun x222 =>
   cnd x222
   (Cx P 50 #[a0, (.string ⟨#[79, 112, 76, 111, 103, 105, 99, 97, 108, 69, 113, 117, 97, 108]⟩), (.bool true), (.bool true), (.string ⟨#[105, 105]⟩), (.string ⟨#[]⟩), (.int .i64 0), (.int .u8 8)] w fun x224 w =>
   eStore P 77 x2 x224 w fun w =>
   on (xRes P w 77 x2) fun x900_55 =>
   Q (.tuple #[x900_55, (.bool true)]) w)
   (on (xBin P .eql 50 false true a0 (.int .u16 165)) fun x226 =>
   cnd x226
   (Cx P 50 #[a0, (.string ⟨#[79, 112, 76, 111, 103, 105, 99, 97, 108, 78, 111, 116, 69, 113, 117, 97, 108]⟩), (.bool true), (.bool true), (.string ⟨#[105, 105]⟩), (.string ⟨#[]⟩), (.int .i64 0), (.int .u8 8)] w fun x228 w =>
   eStore P 77 x2 x228 w fun w =>
   on (xRes P w 77 x2) fun x900_56 =>
   Q (.tuple #[x900_56, (.bool true)]) w)
   (on (xBin P .eql 50 false true a0 (.int .u16 166)) fun x230 =>
   cnd x230
   (Cx P 50 #[a0, (.string ⟨#[79, 112, 76, 111, 103, 105, 99, 97, 108, 79, 114]⟩), (.bool true), (.bool true), (.string ⟨#[105, 105]⟩), (.string ⟨#[]⟩), (.int .i64 0), (.int .u8 8)] w fun x232 w =>
   eStore P 77 x2 x232 w fun w =>
   on (xRes P w 77 x2) fun x900_57 =>
   Q (.tuple #[x900_57, (.bool true)]) w)
   (on (xBin P .eql 50 false true a0 (.int .u16 167)) fun x234 =>
   cnd x234
   (Cx P 50 #[a0, (.string ⟨#[79, 112, 76, 111, 103, 105, 99, 97, 108, 65, 110, 100]⟩), (.bool true), (.bool true), (.string ⟨#[105, 105]⟩), (.string ⟨#[]⟩), (.int .i64 0), (.int .u8 8)] w fun x236 w =>
   eStore P 77 x2 x236 w fun w =>
   on (xRes P w 77 x2) fun x900_58 =>
   Q (.tuple #[x900_58, (.bool true)]) w)
   (on (xBin P .eql 50 false true a0 (.int .u16 168)) fun x238 =>
   cnd x238
   (Cx P 50 #[a0, (.string ⟨#[79, 112, 76, 111, 103, 105, 99, 97, 108, 78, 111, 116]⟩), (.bool true), (.bool true), (.string ⟨#[105]⟩), (.string ⟨#[]⟩), (.int .i64 0), (.int .u8 8)] w fun x240 w =>
   eStore P 77 x2 x240 w fun w =>
   on (xRes P w 77 x2) fun x900_59 =>
   Q (.tuple #[x900_59, (.bool true)]) w)
   (on (xBin P .eql 50 false true a0 (.int .u16 169)) fun x242 =>
   cnd x242
   (Cx P 50 #[a0, (.string ⟨#[79, 112, 83, 101, 108, 101, 99, 116]⟩), (.bool true), (.bool true), (.string ⟨#[105, 105, 105]⟩), (.string ⟨#[]⟩), (.int .i64 0), (.int .u8 8)] w fun x244 w =>
   eStore P 77 x2 x244 w fun w =>
   on (xRes P w 77 x2) fun x900_60 =>
   Q (.tuple #[x900_60, (.bool true)]) w)
   (on (xBin P .eql 50 false true a0 (.int .u16 170)) fun x246 =>
   cnd x246
   (Cx P 50 #[a0, (.string ⟨#[79, 112, 73, 69, 113, 117, 97, 108]⟩), (.bool true), (.bool true), (.string ⟨#[105, 105]⟩), (.string ⟨#[]⟩), (.int .i64 0), (.int .u8 8)] w fun x248 w =>
   eStore P 77 x2 x248 w fun w =>
   on (xRes P w 77 x2) fun x900_61 =>
   Q (.tuple #[x900_61, (.bool true)]) w)
   (on (xBin P .eql 50 false true a0 (.int .u16 171)) fun x250 =>
   cnd x250
   (Cx P 50 #[a0, (.string ⟨#[79, 112, 73, 78, 111, 116, 69, 113, 117, 97, 108]⟩), (.bool true), (.bool true), (.string ⟨#[105, 105]⟩), (.string ⟨#[]⟩), (.int .i64 0), (.int .u8 8)] w fun x252 w =>
   eStore P 77 x2 x252 w fun w =>
   on (xRes P w 77 x2) fun x900_62 =>
   Q (.tuple #[x900_62, (.bool true)]) w)
   (on (xBin P .eql 50 false true a0 (.int .u16 172)) fun x254 =>
   cnd x254
   (Cx P 50 #[a0, (.string ⟨#[79, 112, 85, 71, 114, 101, 97, 116, 101, 114, 84, 104, 97, 110]⟩), (.bool true), (.bool true), (.string ⟨#[105, 105]⟩), (.string ⟨#[]⟩), (.int .i64 0), (.int .u8 8)] w fun x256 w =>
   eStore P 77 x2 x256 w fun w =>
   on (xRes P w 77 x2) fun x900_63 =>
   Q (.tuple #[x900_63, (.bool true)]) w)
   (on (xBin P .eql 50 false true a0 (.int .u16 173)) fun x258 =>
   cnd x258
   (Cx P 50 #[a0, (.string ⟨#[79, 112, 83, 71, 114, 101, 97, 116, 101, 114, 84, 104, 97, 110]⟩), (.bool true), (.bool true), (.string ⟨#[105, 105]⟩), (.string ⟨#[]⟩), (.int .i64 0), (.int .u8 8)] w fun x260 w =>
   eStore P 77 x2 x260 w fun w =>
   on (xRes P w 77 x2) fun x900_64 =>
   Q (.tuple #[x900_64, (.bool true)]) w)
   (on (xBin P .eql 50 false true a0 (.int .u16 174)) fun x262 =>
   cnd x262
   (Cx P 50 #[a0, (.string ⟨#[79, 112, 85, 71, 114, 101, 97, 116, 101, 114, 84, 104, 97, 110, 69, 113, 117, 97, 108]⟩), (.bool true), (.bool true), (.string ⟨#[105, 105]⟩), (.string ⟨#[]⟩), (.int .i64 0), (.int .u8 8)] w fun x264 w =>
   eStore P 77 x2 x264 w fun w =>
   on (xRes P w 77 x2) fun x900_65 =>
   Q (.tuple #[x900_65, (.bool true)]) w)
   (on (xBin P .eql 50 false true a0 (.int .u16 175)) fun x266 =>
   cnd x266
   (Cx P 50 #[a0, (.string ⟨#[79, 112, 83, 71, 114, 101, 97, 116, 101, 114, 84, 104, 97, 110, 69, 113, 117, 97, 108]⟩), (.bool true), (.bool true), (.string ⟨#[105, 105]⟩), (.string ⟨#[]⟩), (.int .i64 0), (.int .u8 8)] w fun x268 w =>
   eStore P 77 x2 x268 w fun w =>
   on (xRes P w 77 x2) fun x900_66 =>
   Q (.tuple #[x900_66, (.bool true)]) w)
   (on (xBin P .eql 50 false true a0 (.int .u16 176)) fun x270 =>
   cnd x270
   (Cx P 50 #[a0, (.string ⟨#[79, 112, 85, 76, 101, 115, 115, 84, 104, 97, 110]⟩), (.bool true), (.bool true), (.string ⟨#[105, 105]⟩), (.string ⟨#[]⟩), (.int .i64 0), (.int .u8 8)] w fun x272 w =>
   eStore P 77 x2 x272 w fun w =>
   on (xRes P w 77 x2) fun x900_67 =>
   Q (.tuple #[x900_67, (.bool true)]) w)
   (on (xBin P .eql 50 false true a0 (.int .u16 177)) fun x274 =>
   cnd x274
   (Cx P 50 #[a0, (.string ⟨#[79, 112, 83, 76, 101, 115, 115, 84, 104, 97, 110]⟩), (.bool true), (.bool true), (.string ⟨#[105, 105]⟩), (.string ⟨#[]⟩), (.int .i64 0), (.int .u8 8)] w fun x276 w =>
   eStore P 77 x2 x276 w fun w =>
   on (xRes P w 77 x2) fun x900_68 =>
   Q (.tuple #[x900_68, (.bool true)]) w)
   (on (xBin P .eql 50 false true a0 (.int .u16 178)) fun x278 =>
   cnd x278
   (Cx P 50 #[a0, (.string ⟨#[79, 112, 85, 76, 101, 115, 115, 84, 104, 97, 110, 69, 113, 117, 97, 108]⟩), (.bool true), (.bool true), (.string ⟨#[105, 105]⟩), (.string ⟨#[]⟩), (.int .i64 0), (.int .u8 8)] w fun x280 w =>
   eStore P 77 x2 x280 w fun w =>
   on (xRes P w 77 x2) fun x900_69 =>
   Q (.tuple #[x900_69, (.bool true)]) w)
   (on (xBin P .eql 50 false true a0 (.int .u16 179)) fun x282 =>
   cnd x282
   (Cx P 50 #[a0, (.string ⟨#[79, 112, 83, 76, 101, 115, 115, 84, 104, 97, 110, 69, 113, 117, 97, 108]⟩), (.bool true), (.bool true), (.string ⟨#[105, 105]⟩), (.string ⟨#[]⟩), (.int .i64 0), (.int .u8 8)] w fun x284 w =>
   eStore P 77 x2 x284 w fun w =>
   on (xRes P w 77 x2) fun x900_70 =>
   Q (.tuple #[x900_70, (.bool true)]) w)
   (on (xBin P .eql 50 false true a0 (.int .u16 194)) fun x286 =>
   cnd x286
   (Cx P 50 #[a0, (.string ⟨#[79, 112, 83, 104, 105, 102, 116, 82, 105, 103, 104, 116, 76, 111, 103, 105, 99, 97, 108]⟩), (.bool true), (.bool true), (.string ⟨#[105, 105]⟩), (.string ⟨#[]⟩), (.int .i64 0), (.int .u8 8)] w fun x288 w =>
   eStore P 77 x2 x288 w fun w =>
   on (xRes P w 77 x2) fun x900_71 =>
   Q (.tuple #[x900_71, (.bool true)]) w)
   (on (xBin P .eql 50 false true a0 (.int .u16 195)) fun x290 =>
   cnd x290
   (Cx P 50 #[a0, (.string ⟨#[79, 112, 83, 104, 105, 102, 116, 82, 105, 103, 104, 116, 65, 114, 105, 116, 104, 109, 101, 116, 105, 99]⟩), (.bool true), (.bool true), (.string ⟨#[105, 105]⟩), (.string ⟨#[]⟩), (.int .i64 0), (.int .u8 8)] w fun x292 w =>
   eStore P 77 x2 x292 w fun w =>
   on (xRes P w 77 x2) fun x900_72 =>
   Q (.tuple #[x900_72, (.bool true)]) w)
   (on (xBin P .eql 50 false true a0 (.int .u16 196)) fun x294 =>
   cnd x294
   (Cx P 50 #[a0, (.string ⟨#[79, 112, 83, 104, 105, 102, 116, 76, 101, 102, 116, 76, 111, 103, 105, 99, 97, 108]⟩), (.bool true), (.bool true), (.string ⟨#[105, 105]⟩), (.string ⟨#[]⟩), (.int .i64 0), (.int .u8 8)] w fun x296 w =>
   eStore P 77 x2 x296 w fun w =>
   on (xRes P w 77 x2) fun x900_73 =>
   Q (.tuple #[x900_73, (.bool true)]) w)
   (on (xBin P .eql 50 false true a0 (.int .u16 197)) fun x298 =>
   cnd x298
   (Cx P 50 #[a0, (.string ⟨#[79, 112, 66, 105, 116, 119, 105, 115, 101, 79, 114]⟩), (.bool true), (.bool true), (.string ⟨#[105, 105]⟩), (.string ⟨#[]⟩), (.int .i64 0), (.int .u8 8)] w fun x300 w =>
   eStore P 77 x2 x300 w fun w =>
   on (xRes P w 77 x2) fun x900_74 =>
   Q (.tuple #[x900_74, (.bool true)]) w)
   (on (xBin P .eql 50 false true a0 (.int .u16 198)) fun x302 =>
   cnd x302
   (Cx P 50 #[a0, (.string ⟨#[79, 112, 66, 105, 116, 119, 105, 115, 101, 88, 111, 114]⟩), (.bool true), (.bool true), (.string ⟨#[105, 105]⟩), (.string ⟨#[]⟩), (.int .i64 0), (.int .u8 8)] w fun x304 w =>
   eStore P 77 x2 x304 w fun w =>
   on (xRes P w 77 x2) fun x900_75 =>
   Q (.tuple #[x900_75, (.bool true)]) w)
   (on (xBin P .eql 50 false true a0 (.int .u16 199)) fun x306 =>
   cnd x306
   (Cx P 50 #[a0, (.string ⟨#[79, 112, 66, 105, 116, 119, 105, 115, 101, 65, 110, 100]⟩), (.bool true), (.bool true), (.string ⟨#[105, 105]⟩), (.string ⟨#[]⟩), (.int .i64 0), (.int .u8 8)] w fun x308 w =>
   eStore P 77 x2 x308 w fun w =>
   on (xRes P w 77 x2) fun x900_76 =>
   Q (.tuple #[x900_76, (.bool true)]) w)
   (on (xBin P .eql 50 false true a0 (.int .u16 200)) fun x310 =>
   cnd x310
   (Cx P 50 #[a0, (.string ⟨#[79, 112, 78, 111, 116]⟩), (.bool true), (.bool true), (.string ⟨#[105]⟩), (.string ⟨#[]⟩), (.int .i64 0), (.int .u8 8)] w fun x312 w =>
   eStore P 77 x2 x312 w fun w =>
   on (xRes P w 77 x2) fun x900_77 =>
   Q (.tuple #[x900_77, (.bool true)]) w)
   (on (xBin P .eql 50 false true a0 (.int .u16 201)) fun x314 =>
   cnd x314
   (Cx P 50 #[a0, (.string ⟨#[79, 112, 66, 105, 116, 70, 105, 101, 108, 100, 73, 110, 115, 101, 114, 116]⟩), (.bool true), (.bool true), (.string ⟨#[105, 105, 105, 105]⟩), (.string ⟨#[]⟩), (.int .i64 0), (.int .u8 8)] w fun x316 w =>
   eStore P 77 x2 x316 w fun w =>
   on (xRes P w 77 x2) fun x900_78 =>
   Q (.tuple #[x900_78, (.bool true)]) w)
   (on (xBin P .eql 50 false true a0 (.int .u16 202)) fun x318 =>
   cnd x318
   (Cx P 50 #[a0, (.string ⟨#[79, 112, 66, 105, 116, 70, 105, 101, 108, 100, 83, 69, 120, 116, 114, 97, 99, 116]⟩), (.bool true), (.bool true), (.string ⟨#[105, 105, 105]⟩), (.string ⟨#[]⟩), (.int .i64 0), (.int .u8 8)] w fun x320 w =>
   eStore P 77 x2 x320 w fun w =>
   on (xRes P w 77 x2) fun x900_79 =>
   Q (.tuple #[x900_79, (.bool true)]) w)
   (on (xBin P .eql 50 false true a0 (.int .u16 203)) fun x322 =>
   cnd x322
   (Cx P 50 #[a0, (.string ⟨#[79, 112, 66, 105, 116, 70, 105, 101, 108, 100, 85, 69, 120, 116, 114, 97, 99, 116]⟩), (.bool true), (.bool true), (.string ⟨#[105, 105, 105]⟩), (.string ⟨#[]⟩), (.int .i64 0), (.int .u8 8)] w fun x324 w =>
   eStore P 77 x2 x324 w fun w =>
   on (xRes P w 77 x2) fun x900_80 =>
   Q (.tuple #[x900_80, (.bool true)]) w)
   (on (xBin P .eql 50 false true a0 (.int .u16 204)) fun x326 =>
   cnd x326
   (Cx P 50 #[a0, (.string ⟨#[79, 112, 66, 105, 116, 82, 101, 118, 101, 114, 115, 101]⟩), (.bool true), (.bool true), (.string ⟨#[105]⟩), (.string ⟨#[]⟩), (.int .i64 0), (.int .u8 8)] w fun x328 w =>
   eStore P 77 x2 x328 w fun w =>
   on (xRes P w 77 x2) fun x900_81 =>
   Q (.tuple #[x900_81, (.bool true)]) w)
   (on (xBin P .eql 50 false true a0 (.int .u16 205)) fun x330 =>
   cnd x330
   (Cx P 50 #[a0, (.string ⟨#[79, 112, 66, 105, 116, 67, 111, 117, 110, 116]⟩), (.bool true), (.bool true), (.string ⟨#[105]⟩), (.string ⟨#[]⟩), (.int .i64 0), (.int .u8 8)] w fun x332 w =>
   eStore P 77 x2 x332 w fun w =>
   on (xRes P w 77 x2) fun x900_82 =>
   Q (.tuple #[x900_82, (.bool true)]) w)
   (on (xBin P .eql 50 false true a0 (.int .u16 245)) fun x334 =>
   cnd x334
   (Cx P 50 #[a0, (.string ⟨#[79, 112, 80, 104, 105]⟩), (.bool true), (.bool true), (.string ⟨#[]⟩), (.string ⟨#[105, 105]⟩), (.int .i64 0), (.int .u8 8)] w fun x336 w =>
   eStore P 77 x2 x336 w fun w =>
   on (xRes P w 77 x2) fun x900_83 =>
   Q (.tuple #[x900_83, (.bool true)]) w)
   (on (xBin P .eql 50 false true a0 (.int .u16 246)) fun x338 =>
   cnd x338
   (Cx P 50 #[a0, (.string ⟨#[79, 112, 76, 111, 111, 112, 77, 101, 114, 103, 101]⟩), (.bool false), (.bool false), (.string ⟨#[105, 105, 103]⟩), (.string ⟨#[]⟩), (.int .i64 0), (.int .u8 8)] w fun x340 w =>
   eStore P 77 x2 x340 w fun w =>
   on (xRes P w 77 x2) fun x900_84 =>
   Q (.tuple #[x900_84, (.bool true)]) w)
   (on (xBin P .eql 50 false true a0 (.int .u16 247)) fun x342 =>
   cnd x342
   (Cx P 50 #[a0, (.string ⟨#[79, 112, 83, 101, 108, 101, 99, 116, 105, 111, 110, 77, 101, 114, 103, 101]⟩), (.bool false), (.bool false), (.string ⟨#[105, 104]⟩), (.string ⟨#[]⟩), (.int .i64 0), (.int .u8 8)] w fun x344 w =>
   eStore P 77 x2 x344 w fun w =>
   on (xRes P w 77 x2) fun x900_85 =>
   Q (.tuple #[x900_85, (.bool true)]) w)
   (on (xBin P .eql 50 false true a0 (.int .u16 248)) fun x346 =>
   cnd x346
   (Cx P 50 #[a0, (.string ⟨#[79, 112, 76, 97, 98, 101, 108]⟩), (.bool false), (.bool true), (.string ⟨#[]⟩), (.string ⟨#[]⟩), (.int .i64 0), (.int .u8 8)] w fun x348 w =>
   eStore P 77 x2 x348 w fun w =>
   on (xRes P w 77 x2) fun x900_86 =>
   Q (.tuple #[x900_86, (.bool true)]) w)
   (on (xBin P .eql 50 false true a0 (.int .u16 249)) fun x350 =>
   cnd x350
   (Cx P 50 #[a0, (.string ⟨#[79, 112, 66, 114, 97, 110, 99, 104]⟩), (.bool false), (.bool false), (.string ⟨#[105]⟩), (.string ⟨#[]⟩), (.int .i64 0), (.int .u8 8)] w fun x352 w =>
   eStore P 77 x2 x352 w fun w =>
   on (xRes P w 77 x2) fun x900_87 =>
   Q (.tuple #[x900_87, (.bool true)]) w)
   (on (xBin P .eql 50 false true a0 (.int .u16 250)) fun x354 =>
   cnd x354
   (Cx P 50 #[a0, (.string ⟨#[79, 112, 66, 114, 97, 110, 99, 104, 67, 111, 110, 100, 105, 116, 105, 111, 110, 97, 108]⟩), (.bool false), (.bool false), (.string ⟨#[105, 105, 105]⟩), (.string ⟨#[]⟩), (.int .i64 0), (.int .u8 8)] w fun x356 w =>
   eStore P 77 x2 x356 w fun w =>
   on (xRes P w 77 x2) fun x900_88 =>
   Q (.tuple #[x900_88, (.bool true)]) w)
   (on (xBin P .eql 50 false true a0 (.int .u16 251)) fun x358 =>
   cnd x358
   (Cx P 50 #[a0, (.string ⟨#[79, 112, 83, 119, 105, 116, 99, 104]⟩), (.bool false), (.bool false), (.string ⟨#[105, 105]⟩), (.string ⟨#[110, 105]⟩), (.int .i64 0), (.int .u8 8)] w fun x360 w =>
   eStore P 77 x2 x360 w fun w =>
   on (xRes P w 77 x2) fun x900_89 =>
   Q (.tuple #[x900_89, (.bool true)]) w)
   (on (xBin P .eql 50 false true a0 (.int .u16 252)) fun x362 =>
   cnd x362
   (Cx P 50 #[a0, (.string ⟨#[79, 112, 75, 105, 108, 108]⟩), (.bool false), (.bool false), (.string ⟨#[]⟩), (.string ⟨#[]⟩), (.int .i64 0), (.int .u8 8)] w fun x364 w =>
   eStore P 77 x2 x364 w fun w =>
   on (xRes P w 77 x2) fun x900_90 =>
   Q (.tuple #[x900_90, (.bool true)]) w)
   (on (xBin P .eql 50 false true a0 (.int .u16 253)) fun x366 =>
   cnd x366
   (Cx P 50 #[a0, (.string ⟨#[79, 112, 82, 101, 116, 117, 114, 110]⟩), (.bool false), (.bool false), (.string ⟨#[]⟩), (.string ⟨#[]⟩), (.int .i64 0), (.int .u8 8)] w fun x368 w =>
   eStore P 77 x2 x368 w fun w =>
   on (xRes P w 77 x2) fun x900_91 =>
   Q (.tuple #[x900_91, (.bool true)]) w)
   (on (xBin P .eql 50 false true a0 (.int .u16 254)) fun x370 =>
   cnd x370
   (Cx P 50 #[a0, (.string ⟨#[79, 112, 82, 101, 116, 117, 114, 110, 86, 97, 108, 117, 101]⟩), (.bool false), (.bool false), (.string ⟨#[105]⟩), (.string ⟨#[]⟩), (.int .i64 0), (.int .u8 8)] w fun x372 w =>
   eStore P 77 x2 x372 w fun w =>
   on (xRes P w 77 x2) fun x900_92 =>
   Q (.tuple #[x900_92, (.bool true)]) w)
   (on (xBin P .eql 50 false true a0 (.int .u16 255)) fun x374 =>
   cnd x374
   (Cx P 50 #[a0, (.string ⟨#[79, 112, 85, 110, 114, 101, 97, 99, 104, 97, 98, 108, 101]⟩), (.bool false), (.bool false), (.string ⟨#[]⟩), (.string ⟨#[]⟩), (.int .i64 0), (.int .u8 8)] w fun x376 w =>
   eStore P 77 x2 x376 w fun w =>
   on (xRes P w 77 x2) fun x900_93 =>
   Q (.tuple #[x900_93, (.bool true)]) w)
   (on (xBuild P 77 #[]) fun x377 =>
   eStore P 77 x2 x377 w fun w =>
   on (xRes P w 77 x2) fun x900_94 =>
   Q (.tuple #[x900_94, (.bool false)]) w)))))))))))))))))))))))))))))))))))))))))))))))))))))))))))))))))))))))))))))))))))))))))))))
theorem F34_ok (a0 : Value) (w : World) (Q : Value → World → Prop) (h : F34 a0 w Q) : Cx P 34 #[a0] w Q :=
  pFun false Try.f34 (by kernel_rfl) (by kernel_rfl) (by kernel_rfl) (pLeaf (by kernel_rfl) h)

/- 35 intaglio/code.Shape -/
def F35 (a0 : Value) (w : World) (Q : Value → World → Prop) : Prop :=
   eBox P 25 a0 w fun x1 w =>
   eAlloc P 31 w fun x2 w =>
   on (xLoad P w 25 x1) fun x6 =>
   Cx P 51 #[x6] w fun x7 w =>
   on (xEx P x7 0) fun x8 =>
   on (xEx P x7 1) fun x9 =>
   eAlloc P 31 w fun x4 w =>
   eStore P 31 x4 x9 w fun w =>
   on (xLoad P w 31 x4) fun x10 =>
   eStore P 31 x2 x10 w fun w =>
   on (xRes P w 31 x2) fun x900 =>
   Q x900 w
theorem F35_ok (a0 : Value) (w : World) (Q : Value → World → Prop) (h : F35 a0 w Q) : Cx P 35 #[a0] w Q :=
  pFun false Try.f35 (by kernel_rfl) (by kernel_rfl) (by kernel_rfl) (pLeaf (by kernel_rfl) h)

/- 36 (*intaglio/layout.cutter).cut -/
def F36.k5 (Q : Value → World → Prop) (G1 : Value → World → Prop) (v0 : Value) (v3 : Value) (w : World) : Prop :=
   on (xNil v0) fun x84 =>
   on (xFA P 59 x84 1) fun x85 =>
   on (xLoad P w 3 x85) fun x86 =>
   on (xFA P 96 v3 4) fun x87 =>
   eStore P 3 x87 x86 w fun w =>
   on (xNil v0) fun x89 =>
   on (xFA P 59 x89 1) fun x90 =>
   on (xLoad P w 3 x90) fun x91 =>
   on (xBin P .add 3 false true x91 (.int .i64 1)) fun x92 =>
   on (xNil v0) fun x93 =>
   on (xFA P 59 x93 1) fun x94 =>
   eStore P 3 x94 x92 w fun w =>
   Dr w fun w =>
   on (xNil v0) fun x97 =>
   on (xFA P 59 x97 3) fun x98 =>
   on (xLoad P w 57 x98) fun x99 =>
   on (xLoad P w 96 v3) fun x100 =>
   eBS P 57 1 #[(0, x100)] w fun x101 w =>
   (xLoad P w 57 x98 = some x99) ∧ (eApp P #[57, 57] #[x99, x101] w fun x102 w =>
   on (xNil v0) fun x103 =>
   on (xFA P 59 x103 3) fun x104 =>
   eStore P 57 x104 x102 w fun w =>
   G1 v0 w)
theorem F36.k5_ok (Q : Value → World → Prop) (G1 : Value → World → Prop) (ρ : Env) (w : World) (h : F36.k5 Q G1 (ρ 0) (ρ 3) w) : Sd P none false 105 (cN 1 (cR (cN 10 (cL (cN 1 (cB Try.f36)))))) ρ w (gotoL 0 (fun ρ w => G1 (ρ 0) w) (retQ P [.tmp 2] Q)) :=
  pLeaf (by kernel_rfl) h
def F36.k4 (Q : Value → World → Prop) (G1 : Value → World → Prop) (v0 : Value) (v3 : Value) (w : World) : Prop :=
   on (xFA P 96 v3 3) fun x74 =>
   on (xLoad P w 94 x74) fun x75 =>
   on (xLen P w #[94] #[x75]) fun x76 =>
   on (xBin P .eql 3 false true x76 (.int .i64 0)) fun x77 =>
   cnd x77
   (Q (.bool false) w)
   (Cx P 53 #[v0] w fun x80 w =>
   on (xBin P .neq 3 false true x80 (.int .i64 8)) fun x81 =>
   cnd x81
   (Q (.bool false) w)
   (F36.k5 Q G1 v0 v3 w))
theorem F36.k4_ok (Q : Value → World → Prop) (G1 : Value → World → Prop) (ρ : Env) (w : World) (h : F36.k4 Q G1 (ρ 0) (ρ 3) w) : Sd P none false 105 (cR (cN 10 (cL (cN 1 (cB Try.f36))))) ρ w (gotoL 0 (fun ρ w => G1 (ρ 0) w) (retQ P [.tmp 2] Q)) :=
  pRow 1 (by kernel_rfl) (fun ρ w => F36.k5 Q G1 (ρ 0) (ρ 3) w) (by kernel_rfl) (fun ρ w h => F36.k5_ok Q G1 ρ w h) h
def F36.l1 (Q : Value → World → Prop) (G1 : Value → World → Prop) : Nat → Value → Value → World → Prop
 | 0, _, _, _ => False
 | n + 1, v0, v3, w => Cx P 53 #[v0] w fun x69 w =>
   on (xBin P .eql 3 false true x69 (.int .i64 3)) fun x70 =>
   cnd x70
   (Cx P 55 #[v0, v3] w fun x72 w =>
   on (xUn P .not x72) fun x73 =>
   cnd x73
   (Q (.bool false) w)
   (F36.l1 Q G1 n v0 v3 w))
   (F36.k4 Q G1 v0 v3 w)
theorem F36.l1_ok (Q : Value → World → Prop) (G1 : Value → World → Prop) (ρ : Env) (w : World) (h : ∃ n, F36.l1 Q G1 n (ρ 0) (ρ 3) w) : Sd P none false 105 (cL (cL (cN 10 (cL (cN 1 (cB Try.f36)))))) ρ w (blkQ 0 (thenQ (fun ρ w => F36.k4 Q G1 (ρ 0) (ρ 3) w) (gotoL 0 (fun ρ w => G1 (ρ 0) w) (retQ P [.tmp 2] Q)))) :=
  pLoop (by kernel_rfl) (fun n ρ w => F36.l1 Q G1 n (ρ 0) (ρ 3) w) (fun _ _ h => h) (fun n ρ w h => pLeaf (S := F36.l1 Q G1 (n + 1) (ρ 0) (ρ 3) w) (by kernel_rfl) h) h
def F36.k3 (Q : Value → World → Prop) (G1 : Value → World → Prop) (v0 : Value) (v3 : Value) (w : World) : Prop :=
   ∃ n, F36.l1 Q G1 n v0 v3 w
theorem F36.k3_ok (Q : Value → World → Prop) (G1 : Value → World → Prop) (ρ : Env) (w : World) (h : F36.k3 Q G1 (ρ 0) (ρ 3) w) : Sd P none false 105 (cN 10 (cL (cN 1 (cB Try.f36)))) ρ w (gotoL 0 (fun ρ w => G1 (ρ 0) w) (retQ P [.tmp 2] Q)) :=
  pSeq (by kernel_rfl) (fun ρ w => F36.k4 Q G1 (ρ 0) (ρ 3) w) (fun ρ w h => F36.k4_ok Q G1 ρ w h) (pBlock 0 (by kernel_rfl) (F36.l1_ok Q G1 _ _ h))
def F36.k2 (Q : Value → World → Prop) (G1 : Value → World → Prop) (v0 : Value) (w : World) : Prop :=
   Cx P 52 #[v0] w fun x5 w =>
   on (xUn P .not x5) fun x6 =>
   cnd x6
   (Q (.bool false) w)
   (Dr w fun w =>
   on (xNil v0) fun x9 =>
   on (xFA P 59 x9 1) fun x10 =>
   on (xLoad P w 3 x10) fun x11 =>
   on (xNil v0) fun x13 =>
   on (xFA P 59 x13 0) fun x14 =>
   on (xLoad P w 23 x14) fun x15 =>
   on (xLen P w #[23] #[x15]) fun x16 =>
   on (xBuild P 27 #[(0, x11), (1, x16)]) fun x17 =>
   on (xNil v0) fun x18 =>
   on (xFA P 59 x18 2) fun x19 =>
   on (xIA P 28 x19 (.int .i64 8)) fun x20 =>
   eStore P 27 x20 x17 w fun w =>
   Dr w fun w =>
   on (xNil v0) fun x23 =>
   on (xFA P 59 x23 0) fun x24 =>
   on (xLoad P w 23 x24) fun x25 =>
   on (xLen P w #[23] #[x25]) fun x26 =>
   on (xNil v0) fun x28 =>
   on (xFA P 59 x28 0) fun x29 =>
   on (xLoad P w 23 x29) fun x30 =>
   on (xLen P w #[23] #[x30]) fun x31 =>
   on (xBuild P 27 #[(0, x26), (1, x31)]) fun x32 =>
   on (xNil v0) fun x33 =>
   on (xFA P 59 x33 2) fun x34 =>
   on (xIA P 28 x34 (.int .i64 9)) fun x35 =>
   eStore P 27 x35 x32 w fun w =>
   Cx P 53 #[v0] w fun x37 w =>
   on (xBin P .lss 3 false true x37 (.int .i64 0)) fun x38 =>
   cnd x38
   (Q (.bool true) w)
   (Cx P 53 #[v0] w fun x40 w =>
   on (xBin P .neq 3 false true x40 (.int .i64 1)) fun x41 =>
   cnd x41
   (Q (.bool false) w)
   (Dr w fun w =>
   on (xNil v0) fun x43 =>
   on (xFA P 59 x43 0) fun x44 =>
   on (xLoad P w 23 x44) fun x45 =>
   on (xNil v0) fun x47 =>
   on (xFA P 59 x47 1) fun x48 =>
   on (xLoad P w 3 x48) fun x49 =>
   on (xIA P 23 x45 x49) fun x50 =>
   on (xFA P 53 x50 2) fun x51 =>
   on (xLoad P w 22 x51) fun x52 =>
   on (xNil v0) fun x54 =>
   on (xFA P 59 x54 1) fun x55 =>
   on (xLoad P w 3 x55) fun x56 =>
   on (xBuild P 96 #[(0, x52), (1, x56)]) fun x57 =>
   eAlloc P 96 w fun x3 w =>
   (xLoad P w 3 x55 = some x56) ∧ (xLoad P w 22 x51 = some x52) ∧ (xLoad P w 3 x48 = some x49) ∧ (xLoad P w 23 x44 = some x45) ∧ (eStore P 96 x3 x57 w fun w =>
   on (xNil v0) fun x59 =>
   on (xFA P 59 x59 1) fun x60 =>
   on (xLoad P w 3 x60) fun x61 =>
   on (xBin P .add 3 false true x61 (.int .i64 1)) fun x62 =>
   on (xNil v0) fun x63 =>
   on (xFA P 59 x63 1) fun x64 =>
   eStore P 3 x64 x62 w fun w =>
   Cx P 54 #[v0, (.int .i64 2)] w fun x66 w =>
   on (xFA P 96 x3 2) fun x67 =>
   eStore P 40 x67 x66 w fun w =>
   F36.k3 Q G1 v0 x3 w))))
theorem F36.k2_ok (Q : Value → World → Prop) (G1 : Value → World → Prop) (ρ : Env) (w : World) (h : F36.k2 Q G1 (ρ 0) w) : Sd P none false 105 (cL (cN 1 (cB Try.f36))) ρ w (gotoL 0 (fun ρ w => G1 (ρ 0) w) (retQ P [.tmp 2] Q)) :=
  pRow 10 (by kernel_rfl) (fun ρ w => F36.k3 Q G1 (ρ 0) (ρ 3) w) (by kernel_rfl) (fun ρ w h => F36.k3_ok Q G1 ρ w h) h
def F36.k6 (Q : Value → World → Prop) (G1 : Value → World → Prop) (v0 : Value) (w : World) : Prop :=
   Cx P 53 #[v0] w fun x37 w =>
   on (xBin P .lss 3 false true x37 (.int .i64 0)) fun x38 =>
   cnd x38
   (Q (.bool true) w)
   (Cx P 53 #[v0] w fun x40 w =>
   on (xBin P .neq 3 false true x40 (.int .i64 1)) fun x41 =>
   cnd x41
   (Q (.bool false) w)
   (Dr w fun w =>
   on (xNil v0) fun x43 =>
   on (xFA P 59 x43 0) fun x44 =>
   on (xLoad P w 23 x44) fun x45 =>
   on (xNil v0) fun x47 =>
   on (xFA P 59 x47 1) fun x48 =>
   on (xLoad P w 3 x48) fun x49 =>
   on (xIA P 23 x45 x49) fun x50 =>
   on (xFA P 53 x50 2) fun x51 =>
   on (xLoad P w 22 x51) fun x52 =>
   on (xNil v0) fun x54 =>
   on (xFA P 59 x54 1) fun x55 =>
   on (xLoad P w 3 x55) fun x56 =>
   on (xBuild P 96 #[(0, x52), (1, x56)]) fun x57 =>
   eAlloc P 96 w fun x3 w =>
   (xLoad P w 3 x55 = some x56) ∧ (xLoad P w 22 x51 = some x52) ∧ (xLoad P w 3 x48 = some x49) ∧ (xLoad P w 23 x44 = some x45) ∧ (eStore P 96 x3 x57 w fun w =>
   on (xNil v0) fun x59 =>
   on (xFA P 59 x59 1) fun x60 =>
   on (xLoad P w 3 x60) fun x61 =>
   on (xBin P .add 3 false true x61 (.int .i64 1)) fun x62 =>
   on (xNil v0) fun x63 =>
   on (xFA P 59 x63 1) fun x64 =>
   eStore P 3 x64 x62 w fun w =>
   Cx P 54 #[v0, (.int .i64 2)] w fun x66 w =>
   on (xFA P 96 x3 2) fun x67 =>
   eStore P 40 x67 x66 w fun w =>
   F36.k3 Q G1 v0 x3 w)))
theorem F36.k6_ok (Q : Value → World → Prop) (G1 : Value → World → Prop) (ρ : Env) (w : World) (h : F36.k6 Q G1 (ρ 0) w) : Sd P none false 105 (cG (cN 1 (cB Try.f36)) 0) ρ w (gotoL 0 (fun ρ w => G1 (ρ 0) w) (retQ P [.tmp 2] Q)) :=
  pRow 7 (by kernel_rfl) (fun ρ w => F36.k3 Q G1 (ρ 0) (ρ 3) w) (by kernel_rfl) (fun ρ w h => pCast (by kernel_rfl) (F36.k3_ok Q G1 ρ w h)) h
def F36.g1 (Q : Value → World → Prop) : Nat → Value → World → Prop
 | 0, _, _ => False
 | n + 1, v0, w => F36.k6 Q (F36.g1 Q n) v0 w
def F36.k1 (Q : Value → World → Prop) (v0 : Value) (w : World) : Prop :=
   ∃ n, F36.k2 Q (F36.g1 Q n) v0 w
theorem F36.k1_ok (Q : Value → World → Prop) (ρ : Env) (w : World) (h : F36.k1 Q (ρ 0) w) : Sd P none false 105 (cN 1 (cB Try.f36)) ρ w (retQ P [.tmp 2] Q) :=
  pScope1 0 (by kernel_rfl) (by kernel_rfl) (fun n ρ w => F36.g1 Q n (ρ 0) w) (fun _ _ h => h) (fun n ρ w h => F36.k6_ok Q (F36.g1 Q n) ρ w h) (Exists.elim h fun n h => ⟨n, F36.k2_ok Q (F36.g1 Q n) _ _ h⟩)
def F36 (a0 : Value) (w : World) (Q : Value → World → Prop) : Prop :=
   F36.k1 Q a0 w
theorem F36_ok (a0 : Value) (w : World) (Q : Value → World → Prop) (h : F36 a0 w Q) : Cx P 36 #[a0] w Q :=
  pFun false Try.f36 (by kernel_rfl) (by kernel_rfl) (by kernel_rfl) (pRow 1 (by kernel_rfl) (fun ρ w => F36.k1 Q (ρ 0) w) (by kernel_rfl) (fun ρ w h => F36.k1_ok Q ρ w h) h)

/- 46 intaglio/intaglioref04.Fault -/
def F46.k2 (Q : Value → World → Prop) (v2 : Value) (v5 : Value) (w : World) : Prop :=
   on (xLoad P w 77 v5) fun x56 =>
   on (xFA P 53 v2 3) fun x57 =>
   on (xLoad P w 51 x57) fun x58 =>
   on (xLen P w #[51] #[x58]) fun x59 =>
   Cx P 64 #[x56, x59] w fun x60 w =>
   on (xUn P .not x60) fun x61 =>
   cnd x61
   (Q (.int .i64 42) w)
   (on (xLoad P w 53 v2) fun x62 =>
   on (xLoad P w 77 v5) fun x63 =>
   Cx P 47 #[x62, x63] w fun x64 w =>
   on (xBin P .gtr 3 false true x64 (.int .i64 65535)) fun x65 =>
   cnd x65
   (Q (.int .i64 25) w)
   (Q (.int .i64 0) w))
theorem F46.k2_ok (Q : Value → World → Prop) (ρ : Env) (w : World) (h : F46.k2 Q (ρ 2) (ρ 5) w) : Sd P none false 66 (cR (cN 7 (cB Try.f46))) ρ w (retQ P [.tmp 4] Q) :=
  pLeaf (by kernel_rfl) h
def F46.l1 (Q : Value → World → Prop) : Nat → Value → Value → Value → Value → World → Prop
 | 0, _, _, _, _, _ => False
 | n + 1, v1, v2, v5, v8, w => on (xFA P 53 v2 3) fun x36 =>
   on (xLoad P w 51 x36) fun x37 =>
   on (xLen P w #[51] #[x37]) fun x38 =>
   on (xBin P .lss 3 false false v8 x38) fun x39 =>
   cnd x39
   (Dr w fun w =>
   on (xFA P 53 v2 0) fun x42 =>
   on (xLoad P w 50 x42) fun x43 =>
   on (xFA P 53 v2 3) fun x46 =>
   on (xLoad P w 51 x46) fun x47 =>
   on (xIA P 51 x47 v8) fun x49 =>
   on (xLoad P w 75 x49) fun x50 =>
   Cx P 63 #[x43, v8] w fun x45 w =>
   (xLoad P w 75 x49 = some x50) ∧ (xLoad P w 51 x46 = some x47) ∧ (Cx P 62 #[x45, x50, v1] w fun x52 w =>
   on (xBin P .neq 29 false true x52 (.int .i64 0)) fun x54 =>
   cnd x54
   (Q x52 w)
   (on (xBin P .add 3 false true v8 (.int .i64 1)) fun x41 =>
   F46.l1 Q n v1 v2 v5 x41 w)))
   (F46.k2 Q v2 v5 w)
theorem F46.l1_ok (Q : Value → World → Prop) (ρ : Env) (w : World) (h : ∃ n, F46.l1 Q n (ρ 1) (ρ 2) (ρ 5) (ρ 8) w) : Sd P none false 66 (cL (cN 1 (cL (cN 7 (cB Try.f46))))) ρ w (blkQ 0 (thenQ (fun ρ w => F46.k2 Q (ρ 2) (ρ 5) w) (retQ P [.tmp 4] Q))) :=
  pLoop (by kernel_rfl) (fun n ρ w => F46.l1 Q n (ρ 1) (ρ 2) (ρ 5) (ρ 8) w) (fun _ _ h => h) (fun n ρ w h => pLeaf (S := F46.l1 Q (n + 1) (ρ 1) (ρ 2) (ρ 5) (ρ 8) w) (by kernel_rfl) h) h
def F46.k3 (Q : Value → World → Prop) (v1 : Value) (v2 : Value) (v5 : Value) (v8 : Value) (w : World) : Prop :=
   ∃ n, F46.l1 Q n v1 v2 v5 v8 w
theorem F46.k3_ok (Q : Value → World → Prop) (ρ : Env) (w : World) (h : F46.k3 Q (ρ 1) (ρ 2) (ρ 5) (ρ 8) w) : Sd P none false 66 (cN 1 (cL (cN 7 (cB Try.f46)))) ρ w (thenQ (fun ρ w => F46.k2 Q (ρ 2) (ρ 5) w) (retQ P [.tmp 4] Q)) :=
  pBlock 0 (by kernel_rfl) (F46.l1_ok Q _ _ h)
def F46.k1 (Q : Value → World → Prop) (v1 : Value) (v2 : Value) (v5 : Value) (w : World) : Prop :=
   F46.k3 Q v1 v2 v5 (.int .i64 0) w
theorem F46.k1_ok (Q : Value → World → Prop) (ρ : Env) (w : World) (h : F46.k1 Q (ρ 1) (ρ 2) (ρ 5) w) : Sd P none false 66 (cN 7 (cB Try.f46)) ρ w (retQ P [.tmp 4] Q) :=
  pSeq (by kernel_rfl) (fun ρ w => F46.k2 Q (ρ 2) (ρ 5) w) (fun ρ w h => F46.k2_ok Q ρ w h) (pRow 1 (by kernel_rfl) (fun ρ w => F46.k3 Q (ρ 1) (ρ 2) (ρ 5) (ρ 8) w) (by kernel_rfl) (fun ρ w h => F46.k3_ok Q ρ w h) h)
def F46 (a0 a1 : Value) (w : World) (Q : Value → World → Prop) : Prop :=
   eBox P 53 a0 w fun x2 w =>
   on (xFA P 53 x2 0) fun x10 =>
   on (xLoad P w 50 x10) fun x11 =>
   Cx P 34 #[x11] w fun x12 w =>
   on (xEx P x12 0) fun x13 =>
   on (xEx P x12 1) fun x14 =>
   eAlloc P 77 w fun x5 w =>
   eStore P 77 x5 x13 w fun w =>
   on (xUn P .not x14) fun x16 =>
   cnd x16
   (Q (.int .i64 30) w)
   (on (xFA P 77 x5 2) fun x17 =>
   on (xLoad P w 4 x17) fun x18 =>
   on (xFA P 53 x2 1) fun x19 =>
   on (xLoad P w 22 x19) fun x20 =>
   Cx P 61 #[x18, x20, a1, (.int .i64 40)] w fun x22 w =>
   on (xBin P .neq 29 false true x22 (.int .i64 0)) fun x24 =>
   cnd x24
   (Q x22 w)
   (on (xFA P 77 x5 3) fun x26 =>
   on (xLoad P w 4 x26) fun x27 =>
   on (xFA P 53 x2 2) fun x28 =>
   on (xLoad P w 22 x28) fun x29 =>
   Cx P 61 #[x27, x29, a1, (.int .i64 41)] w fun x31 w =>
   on (xBin P .neq 29 false true x31 (.int .i64 0)) fun x33 =>
   cnd x33
   (Q x31 w)
   (F46.k1 Q a1 x2 x5 w)))
theorem F46_ok (a0 a1 : Value) (w : World) (Q : Value → World → Prop) (h : F46 a0 a1 w Q) : Cx P 46 #[a0, a1] w Q :=
  pFun false Try.f46 (by kernel_rfl) (by kernel_rfl) (by kernel_rfl) (pRow 7 (by kernel_rfl) (fun ρ w => F46.k1 Q (ρ 1) (ρ 2) (ρ 5) w) (by kernel_rfl) (fun ρ w h => F46.k1_ok Q ρ w h) h)

/- 47 intaglio/intaglioref04.Room -/
def F47.k3 (Q : Value → World → Prop) (v5 : Value) (w : World) : Prop :=
   Q v5 w
theorem F47.k3_ok (Q : Value → World → Prop) (ρ : Env) (w : World) (h : F47.k3 Q (ρ 5) w) : Sd P none false 41 (cR (cN 1 (cN 3 (cB Try.f47)))) ρ w (retQ P [.tmp 4] Q) :=
  pLeaf (by kernel_rfl) h
def F47.l1 (Q : Value → World → Prop) : Nat → Value → Value → Value → World → Prop
 | 0, _, _, _, _ => False
 | n + 1, v2, v5, v6, w => on (xFA P 53 v2 3) fun x16 =>
   on (xLoad P w 51 x16) fun x17 =>
   on (xLen P w #[51] #[x17]) fun x18 =>
   on (xBin P .lss 3 false false v6 x18) fun x19 =>
   cnd x19
   (on (xFA P 53 v2 3) fun x22 =>
   on (xLoad P w 51 x22) fun x23 =>
   on (xIA P 51 x23 v6) fun x25 =>
   on (xFA P 75 x25 0) fun x26 =>
   on (xLoad P w 5 x26) fun x27 =>
   on (xBin P .eql 5 false true x27 (.int .u8 3)) fun x28 =>
   cnd x28
   (on (xFA P 53 v2 3) fun x30 =>
   on (xLoad P w 51 x30) fun x31 =>
   on (xIA P 51 x31 v6) fun x33 =>
   on (xFA P 75 x33 2) fun x34 =>
   on (xLoad P w 9 x34) fun x35 =>
   Cx P 65 #[x35] w fun x36 w =>
   on (xBin P .add 3 false false v5 x36) fun x37 =>
   on (xBin P .add 3 false true v6 (.int .i64 1)) fun x21 =>
   F47.l1 Q n v2 x37 x21 w)
   (on (xBin P .add 3 false true v5 (.int .i64 1)) fun x39 =>
   on (xBin P .add 3 false true v6 (.int .i64 1)) fun x21_2 =>
   F47.l1 Q n v2 x39 x21_2 w))
   (F47.k3 Q v5 w)
theorem F47.l1_ok (Q : Value → World → Prop) (ρ : Env) (w : World) (h : ∃ n, F47.l1 Q n (ρ 2) (ρ 5) (ρ 6) w) : Sd P none false 41 (cL (cN 1 (cL (cN 1 (cN 3 (cB Try.f47)))))) ρ w (blkQ 0 (thenQ (fun ρ w => F47.k3 Q (ρ 5) w) (retQ P [.tmp 4] Q))) :=
  pLoop (by kernel_rfl) (fun n ρ w => F47.l1 Q n (ρ 2) (ρ 5) (ρ 6) w) (fun _ _ h => h) (fun n ρ w h => pLeaf (S := F47.l1 Q (n + 1) (ρ 2) (ρ 5) (ρ 6) w) (by kernel_rfl) h) h
def F47.k4 (Q : Value → World → Prop) (v2 : Value) (v5 : Value) (v6 : Value) (w : World) : Prop :=
   ∃ n, F47.l1 Q n v2 v5 v6 w
theorem F47.k4_ok (Q : Value → World → Prop) (ρ : Env) (w : World) (h : F47.k4 Q (ρ 2) (ρ 5) (ρ 6) w) : Sd P none false 41 (cN 1 (cL (cN 1 (cN 3 (cB Try.f47))))) ρ w (thenQ (fun ρ w => F47.k3 Q (ρ 5) w) (retQ P [.tmp 4] Q)) :=
  pBlock 0 (by kernel_rfl) (F47.l1_ok Q _ _ h)
def F47.k2 (Q : Value → World → Prop) (v2 : Value) (v5 : Value) (w : World) : Prop :=
   F47.k4 Q v2 v5 (.int .i64 0) w
theorem F47.k2_ok (Q : Value → World → Prop) (ρ : Env) (w : World) (h : F47.k2 Q (ρ 2) (ρ 5) w) : Sd P none false 41 (cN 1 (cN 3 (cB Try.f47))) ρ w (retQ P [.tmp 4] Q) :=
  pSeq (by kernel_rfl) (fun ρ w => F47.k3 Q (ρ 5) w) (fun ρ w h => F47.k3_ok Q ρ w h) (pRow 1 (by kernel_rfl) (fun ρ w => F47.k4 Q (ρ 2) (ρ 5) (ρ 6) w) (by kernel_rfl) (fun ρ w h => F47.k4_ok Q ρ w h) h)
def F47.k1 (Q : Value → World → Prop) (v2 : Value) (v3 : Value) (v5 : Value) (w : World) : Prop :=
   on (xFA P 77 v3 3) fun x11 =>
   on (xLoad P w 4 x11) fun x12 =>
   cnd x12
   (on (xBin P .add 3 false true v5 (.int .i64 1)) fun x14 =>
   F47.k2 Q v2 x14 w)
   (F47.k2 Q v2 v5 w)
theorem F47.k1_ok (Q : Value → World → Prop) (ρ : Env) (w : World) (h : F47.k1 Q (ρ 2) (ρ 3) (ρ 5) w) : Sd P none false 41 (cN 3 (cB Try.f47)) ρ w (retQ P [.tmp 4] Q) :=
  pRow 1 (by kernel_rfl) (fun ρ w => F47.k2 Q (ρ 2) (ρ 5) w) (by kernel_rfl) (fun ρ w h => F47.k2_ok Q ρ w h) h
def F47 (a0 a1 : Value) (w : World) (Q : Value → World → Prop) : Prop :=
   eBox P 53 a0 w fun x2 w =>
   eBox P 77 a1 w fun x3 w =>
   on (xFA P 77 x3 2) fun x7 =>
   on (xLoad P w 4 x7) fun x8 =>
   cnd x8
   (on (xBin P .add 3 false true (.int .i64 1) (.int .i64 1)) fun x10 =>
   F47.k1 Q x2 x3 x10 w)
   (F47.k1 Q x2 x3 (.int .i64 1) w)
theorem F47_ok (a0 a1 : Value) (w : World) (Q : Value → World → Prop) (h : F47 a0 a1 w Q) : Cx P 47 #[a0, a1] w Q :=
  pFun false Try.f47 (by kernel_rfl) (by kernel_rfl) (by kernel_rfl) (pRow 3 (by kernel_rfl) (fun ρ w => F47.k1 Q (ρ 2) (ρ 3) (ρ 5) w) (by kernel_rfl) (fun ρ w h => F47.k1_ok Q ρ w h) h)

/- 48 intaglio/intaglioref05.Ends -/
def F48 (a0 : Value) (w : World) (Q : Value → World → Prop) : Prop :=
   on (xBin P .eql 50 false true a0 (.int .u16 249)) fun x4 =>
   cnd x4
   (Q (.bool true) w)
   (on (xBin P .eql 50 false true a0 (.int .u16 250)) fun x7 =>
   cnd x7
   (Q (.bool true) w)
   (on (xBin P .eql 50 false true a0 (.int .u16 251)) fun x11 =>
   cnd x11
   (Q (.bool true) w)
   (on (xBin P .eql 50 false true a0 (.int .u16 252)) fun x15 =>
   cnd x15
   (Q (.bool true) w)
   (on (xBin P .eql 50 false true a0 (.int .u16 253)) fun x19 =>
   cnd x19
   (Q (.bool true) w)
   (on (xBin P .eql 50 false true a0 (.int .u16 254)) fun x23 =>
   cnd x23
   (Q (.bool true) w)
   (on (xBin P .eql 50 false true a0 (.int .u16 255)) fun x27 =>
   Q x27 w))))))
theorem F48_ok (a0 : Value) (w : World) (Q : Value → World → Prop) (h : F48 a0 w Q) : Cx P 48 #[a0] w Q :=
  pFun false Try.f48 (by kernel_rfl) (by kernel_rfl) (by kernel_rfl) (pLeaf (by kernel_rfl) h)

/- 49 intaglio/intaglioref05.first -/
def F49.k2 (Q : Value → World → Prop) (v0 : Value) (v5 : Value) (w : World) : Prop :=
   on (xBin P .sub 3 false true v5 (.int .i64 1)) fun x17 =>
   on (xIA P 23 v0 x17) fun x18 =>
   on (xFA P 53 x18 0) fun x19 =>
   on (xLoad P w 50 x19) fun x20 =>
   on (xBin P .eql 50 false true x20 (.int .u16 54)) fun x21 =>
   cnd x21
   (Q (.bool true) w)
   (on (xBin P .sub 3 false true v5 (.int .i64 1)) fun x25 =>
   on (xIA P 23 v0 x25) fun x26 =>
   on (xFA P 53 x26 0) fun x27 =>
   on (xLoad P w 50 x27) fun x28 =>
   on (xBin P .eql 50 false true x28 (.int .u16 55)) fun x29 =>
   Q x29 w)
theorem F49.k2_ok (Q : Value → World → Prop) (ρ : Env) (w : World) (h : F49.k2 Q (ρ 0) (ρ 5) w) : Sd P none false 31 (cR (cN 2 (cB Try.f49))) ρ w (retQ P [.tmp 4] Q) :=
  pLeaf (by kernel_rfl) h
def F49.l1 (Q : Value → World → Prop) : Nat → Value → Value → World → Prop
 | 0, _, _, _ => False
 | n + 1, v0, v5, w => on (xIA P 23 v0 v5) fun x9 =>
   on (xFA P 53 x9 0) fun x10 =>
   on (xLoad P w 50 x10) fun x11 =>
   on (xBin P .neq 50 false true x11 (.int .u16 248)) fun x12 =>
   cnd x12
   (on (xBin P .sub 3 false true v5 (.int .i64 1)) fun x14 =>
   F49.l1 Q n v0 x14 w)
   (F49.k2 Q v0 v5 w)
theorem F49.l1_ok (Q : Value → World → Prop) (ρ : Env) (w : World) (h : ∃ n, F49.l1 Q n (ρ 0) (ρ 5) w) : Sd P none false 31 (cL (cL (cN 2 (cB Try.f49)))) ρ w (blkQ 0 (thenQ (fun ρ w => F49.k2 Q (ρ 0) (ρ 5) w) (retQ P [.tmp 4] Q))) :=
  pLoop (by kernel_rfl) (fun n ρ w => F49.l1 Q n (ρ 0) (ρ 5) w) (fun _ _ h => h) (fun n ρ w h => pLeaf (S := F49.l1 Q (n + 1) (ρ 0) (ρ 5) w) (by kernel_rfl) h) h
def F49.k1 (Q : Value → World → Prop) (v0 : Value) (v5 : Value) (w : World) : Prop :=
   ∃ n, F49.l1 Q n v0 v5 w
theorem F49.k1_ok (Q : Value → World → Prop) (ρ : Env) (w : World) (h : F49.k1 Q (ρ 0) (ρ 5) w) : Sd P none false 31 (cN 2 (cB Try.f49)) ρ w (retQ P [.tmp 4] Q) :=
  pSeq (by kernel_rfl) (fun ρ w => F49.k2 Q (ρ 0) (ρ 5) w) (fun ρ w h => F49.k2_ok Q ρ w h) (pBlock 0 (by kernel_rfl) (F49.l1_ok Q _ _ h))
def F49 (a0 a1 : Value) (w : World) (Q : Value → World → Prop) : Prop :=
   F49.k1 Q a0 a1 w
theorem F49_ok (a0 a1 : Value) (w : World) (Q : Value → World → Prop) (h : F49 a0 a1 w Q) : Cx P 49 #[a0, a1] w Q :=
  pFun false Try.f49 (by kernel_rfl) (by kernel_rfl) (by kernel_rfl) (pRow 2 (by kernel_rfl) (fun ρ w => F49.k1 Q (ρ 0) (ρ 5) w) (by kernel_rfl) (fun ρ w h => F49.k1_ok Q ρ w h) h)

/- 50 intaglio/intaglioref03.form -/
def F50 (a0 a1 a2 a3 a4 a5 a6 a7 : Value) (w : World) (Q : Value → World → Prop) : Prop :=
   eAlloc P 77 w fun x16 w =>
   on (xBuild P 77 #[(0, a0), (1, a1), (2, a2), (3, a3), (4, a4), (5, a5), (6, a6), (7, a7)]) fun x25 =>
   eStore P 77 x16 x25 w fun w =>
   on (xRes P w 77 x16) fun x900 =>
   Q x900 w
theorem F50_ok (a0 a1 a2 a3 a4 a5 a6 a7 : Value) (w : World) (Q : Value → World → Prop) (h : F50 a0 a1 a2 a3 a4 a5 a6 a7 w Q) : Cx P 50 #[a0, a1, a2, a3, a4, a5, a6, a7] w Q :=
  pFun false Try.f50 (by kernel_rfl) (by kernel_rfl) (by kernel_rfl) (pLeaf (by kernel_rfl) h)

/- 51 intaglio/code.raws -/
def F51.k4 (Q : Value → World → Prop) (v3 : Value) (v6 : Value) (w : World) : Prop :=
   on (xBuild P 31 #[]) fun x64 =>
   eStore P 31 v3 x64 w fun w =>
   on (xRes P w 31 v3) fun x901 =>
   Q (.tuple #[v6, x901]) w
theorem F51.k4_ok (Q : Value → World → Prop) (ρ : Env) (w : World) (h : F51.k4 Q (ρ 3) (ρ 6) w) : Sd P none false 65 (cR (cN 3 (cR (cN 1 (cB Try.f51))))) ρ w (retQ P [.tmp 2, .cell 3 31] Q) :=
  pLeaf (by kernel_rfl) h
def F51.l1 (Q : Value → World → Prop) : Nat → Value → Value → Value → Value → Value → Value → Value → World → Prop
 | 0, _, _, _, _, _, _, _, _ => False
 | n + 1, v1, v3, v4, v6, v27, v28, v29, w => on (xBin P .lss 3 false false v29 v28) fun x30 =>
   cnd x30
   (on (xIA P 23 v27 v29) fun x32 =>
   on (xLoad P w 53 x32) fun x33 =>
   eAlloc P 53 w fun x8 w =>
   eStore P 53 x8 x33 w fun w =>
   on (xLoad P w 53 x8) fun x35 =>
   on (xFA P 25 v1 1) fun x36 =>
   on (xLoad P w 22 x36) fun x37 =>
   Cx P 67 #[x35, x37] w fun x38 w =>
   on (xEx P x38 0) fun x39 =>
   on (xEx P x38 1) fun x40 =>
   eAlloc P 115 w fun x9 w =>
   eStore P 115 x9 x39 w fun w =>
   on (xFA P 115 x9 1) fun x42 =>
   on (xLoad P w 113 x42) fun x43 =>
   on (xLen P w #[113] #[x43]) fun x44 =>
   on (xBin P .add 3 true false (.int .i64 1) x44) fun x45 =>
   on (xBin P .sub 3 false false v4 x45) fun x46 =>
   on (xBin P .neq 29 false true x40 (.int .i64 0)) fun x49 =>
   cnd x49
   (on (xBuild P 31 #[(0, x40), (1, v29)]) fun x52 =>
   eStore P 31 v3 x52 w fun w =>
   on (xRes P w 31 v3) fun x901 =>
   Q (.tuple #[(.slice none 0 0), x901]) w)
   (on (xBin P .lss 3 false true x46 (.int .i64 0)) fun x55 =>
   cnd x55
   (on (xBuild P 31 #[(0, (.int .i64 4)), (1, v29)]) fun x57 =>
   eStore P 31 v3 x57 w fun w =>
   on (xRes P w 31 v3) fun x901_2 =>
   Q (.tuple #[(.slice none 0 0), x901_2]) w)
   (on (xLoad P w 115 x9) fun x59 =>
   eBS P 91 1 #[(0, x59)] w fun x60 w =>
   eApp P #[91, 91] #[v6, x60] w fun x61 w =>
   on (xBin P .add 3 false true v29 (.int .i64 1)) fun x62 =>
   F51.l1 Q n v1 v3 x46 x61 v27 v28 x62 w)))
   (F51.k4 Q v3 v6 w)
theorem F51.l1_ok (Q : Value → World → Prop) (ρ : Env) (w : World) (h : ∃ n, F51.l1 Q n (ρ 1) (ρ 3) (ρ 4) (ρ 6) (ρ 27) (ρ 28) (ρ 29) w) : Sd P none false 65 (cL (cN 1 (cL (cN 3 (cR (cN 1 (cB Try.f51))))))) ρ w (blkQ 0 (thenQ (fun ρ w => F51.k4 Q (ρ 3) (ρ 6) w) (retQ P [.tmp 2, .cell 3 31] Q))) :=
  pLoop (by kernel_rfl) (fun n ρ w => F51.l1 Q n (ρ 1) (ρ 3) (ρ 4) (ρ 6) (ρ 27) (ρ 28) (ρ 29) w) (fun _ _ h => h) (fun n ρ w h => pLeaf (S := F51.l1 Q (n + 1) (ρ 1) (ρ 3) (ρ 4) (ρ 6) (ρ 27) (ρ 28) (ρ 29) w) (by kernel_rfl) h) h
def F51.k5 (Q : Value → World → Prop) (v1 : Value) (v3 : Value) (v4 : Value) (v6 : Value) (v27 : Value) (v28 : Value) (v29 : Value) (w : World) : Prop :=
   ∃ n, F51.l1 Q n v1 v3 v4 v6 v27 v28 v29 w
theorem F51.k5_ok (Q : Value → World → Prop) (ρ : Env) (w : World) (h : F51.k5 Q (ρ 1) (ρ 3) (ρ 4) (ρ 6) (ρ 27) (ρ 28) (ρ 29) w) : Sd P none false 65 (cN 1 (cL (cN 3 (cR (cN 1 (cB Try.f51)))))) ρ w (thenQ (fun ρ w => F51.k4 Q (ρ 3) (ρ 6) w) (retQ P [.tmp 2, .cell 3 31] Q)) :=
  pBlock 0 (by kernel_rfl) (F51.l1_ok Q _ _ h)
def F51.k3 (Q : Value → World → Prop) (v1 : Value) (v3 : Value) (v4 : Value) (v6 : Value) (w : World) : Prop :=
   on (xFA P 25 v1 2) fun x26 =>
   on (xLoad P w 23 x26) fun x27 =>
   on (xLen P w #[23] #[x27]) fun x28 =>
   F51.k5 Q v1 v3 v4 v6 x27 x28 (.int .i64 0) w
theorem F51.k3_ok (Q : Value → World → Prop) (ρ : Env) (w : World) (h : F51.k3 Q (ρ 1) (ρ 3) (ρ 4) (ρ 6) w) : Sd P none false 65 (cN 3 (cR (cN 1 (cB Try.f51)))) ρ w (retQ P [.tmp 2, .cell 3 31] Q) :=
  pSeq (by kernel_rfl) (fun ρ w => F51.k4 Q (ρ 3) (ρ 6) w) (fun ρ w h => F51.k4_ok Q ρ w h) (pRow 1 (by kernel_rfl) (fun ρ w => F51.k5 Q (ρ 1) (ρ 3) (ρ 4) (ρ 6) (ρ 27) (ρ 28) (ρ 29) w) (by kernel_rfl) (fun ρ w h => F51.k5_ok Q ρ w h) h)
def F51.k2 (Q : Value → World → Prop) (v1 : Value) (v3 : Value) (w : World) : Prop :=
   Cx P 66 #[(.slice none 0 0)] w fun x21 w =>
   on (xEx P x21 0) fun x22 =>
   on (xEx P x21 1) fun x23 =>
   on (xBin P .sub 3 true false (.int .i64 1048576) x22) fun x25 =>
   F51.k3 Q v1 v3 x25 (.slice none 0 0) w
theorem F51.k2_ok (Q : Value → World → Prop) (ρ : Env) (w : World) (h : F51.k2 Q (ρ 1) (ρ 3) w) : Sd P none false 65 (cR (cN 1 (cB Try.f51))) ρ w (retQ P [.tmp 2, .cell 3 31] Q) :=
  pRow 3 (by kernel_rfl) (fun ρ w => F51.k3 Q (ρ 1) (ρ 3) (ρ 4) (ρ 6) w) (by kernel_rfl) (fun ρ w h => F51.k3_ok Q ρ w h) h
def F51.k6 (Q : Value → World → Prop) (v1 : Value) (v3 : Value) (v18 : Value) (w : World) : Prop :=
   cnd v18
   (on (xBuild P 31 #[(0, (.int .i64 24))]) fun x19 =>
   eStore P 31 v3 x19 w fun w =>
   on (xRes P w 31 v3) fun x901 =>
   Q (.tuple #[(.slice none 0 0), x901]) w)
   (F51.k2 Q v1 v3 w)
theorem F51.k6_ok (Q : Value → World → Prop) (ρ : Env) (w : World) (h : F51.k6 Q (ρ 1) (ρ 3) (ρ 18) w) : Sd P none false 65 (cN 1 (cL (cN 1 (cB Try.f51)))) ρ w (thenQ (fun ρ w => F51.k2 Q (ρ 1) (ρ 3) w) (retQ P [.tmp 2, .cell 3 31] Q)) :=
  pLeaf (by kernel_rfl) h
def F51.k1 (Q : Value → World → Prop) (v1 : Value) (v3 : Value) (w : World) : Prop :=
   on (xFA P 25 v1 1) fun x11 =>
   on (xLoad P w 22 x11) fun x12 =>
   on (xBin P .eql 22 false true x12 (.int .u32 0)) fun x13 =>
   cnd x13
   (F51.k6 Q v1 v3 (.bool true) w)
   (on (xFA P 25 v1 1) fun x15 =>
   on (xLoad P w 22 x15) fun x16 =>
   on (xBin P .gtr 22 false true x16 (.int .u32 65536)) fun x17 =>
   F51.k6 Q v1 v3 x17 w)
theorem F51.k1_ok (Q : Value → World → Prop) (ρ : Env) (w : World) (h : F51.k1 Q (ρ 1) (ρ 3) w) : Sd P none false 65 (cN 1 (cB Try.f51)) ρ w (retQ P [.tmp 2, .cell 3 31] Q) :=
  pSeq (by kernel_rfl) (fun ρ w => F51.k2 Q (ρ 1) (ρ 3) w) (fun ρ w h => F51.k2_ok Q ρ w h) (pRow 1 (by kernel_rfl) (fun ρ w => F51.k6 Q (ρ 1) (ρ 3) (ρ 18) w) (by kernel_rfl) (fun ρ w h => F51.k6_ok Q ρ w h) h)
def F51 (a0 : Value) (w : World) (Q : Value → World → Prop) : Prop :=
   eBox P 25 a0 w fun x1 w =>
   eAlloc P 31 w fun x3 w =>
   F51.k1 Q x1 x3 w
theorem F51_ok (a0 : Value) (w : World) (Q : Value → World → Prop) (h : F51 a0 w Q) : Cx P 51 #[a0] w Q :=
  pFun false Try.f51 (by kernel_rfl) (by kernel_rfl) (by kernel_rfl) (pRow 1 (by kernel_rfl) (fun ρ w => F51.k1 Q (ρ 1) (ρ 3) w) (by kernel_rfl) (fun ρ w h => F51.k1_ok Q ρ w h) h)

/- 52 (*intaglio/layout.cutter).top -/
def F52.k2 (Q : Value → World → Prop) (w : World) : Prop :=
   Q (.bool true) w
theorem F52.k2_ok (Q : Value → World → Prop) (ρ : Env) (w : World) (h : F52.k2 Q w) : Sd P none false 61 (cR (cN 1 (cB Try.f52))) ρ w (retQ P [.tmp 2] Q) :=
  pLeaf (by kernel_rfl) h
def F52.k5 (Q : Value → World → Prop) (R : Value → Value → World → Prop) (v0 : Value) (v5 : Value) (w : World) : Prop :=
   on (xBin P .add 5 false true v5 (.int .u8 1)) fun x60 =>
   R v0 x60 w
theorem F52.k5_ok (Q : Value → World → Prop) (R : Value → Value → World → Prop) (ρ : Env) (w : World) (h : F52.k5 Q R (ρ 0) (ρ 5) w) : Sd P none false 61 (cR (cN 2 (cL (cL (cN 1 (cL (cN 1 (cB Try.f52)))))))) ρ w (thenQ (fun ρ w => R (ρ 0) (ρ 5) w) (blkQ 0 (thenQ (fun ρ w => F52.k2 Q w) (retQ P [.tmp 2] Q)))) :=
  pLeaf (by kernel_rfl) h
def F52.k7 (Q : Value → World → Prop) (R : Value → Value → World → Prop) (v0 : Value) (v3 : Value) (v4 : Value) (v5 : Value) (w : World) : Prop :=
   Dr w fun w =>
   on (xNil v0) fun x43 =>
   on (xFA P 59 x43 1) fun x44 =>
   on (xLoad P w 3 x44) fun x45 =>
   on (xBuild P 27 #[(0, v4), (1, x45)]) fun x46 =>
   on (xNil v0) fun x47 =>
   on (xFA P 59 x47 2) fun x48 =>
   on (xIA P 28 x48 v3) fun x49 =>
   eStore P 27 x49 x46 w fun w =>
   on (xBin P .eql 5 false true v3 (.int .u8 1)) fun x51 =>
   cnd x51
   (on (xNil v0) fun x54 =>
   on (xFA P 59 x54 1) fun x55 =>
   on (xLoad P w 3 x55) fun x56 =>
   on (xBin P .eql 3 false false x56 v4) fun x58 =>
   cnd x58
   (Q (.bool false) w)
   (F52.k5 Q R v0 v5 w))
   (F52.k5 Q R v0 v5 w)
theorem F52.k7_ok (Q : Value → World → Prop) (R : Value → Value → World → Prop) (ρ : Env) (w : World) (h : F52.k7 Q R (ρ 0) (ρ 3) (ρ 4) (ρ 5) w) : Sd P none false 61 (cR (cN 2 (cL (cL (cN 2 (cL (cL (cN 1 (cL (cN 1 (cB Try.f52))))))))))) ρ w (blkQ 1 (thenQ (fun ρ w => F52.k5 Q R (ρ 0) (ρ 5) w) (thenQ (fun ρ w => R (ρ 0) (ρ 5) w) (blkQ 0 (thenQ (fun ρ w => F52.k2 Q w) (retQ P [.tmp 2] Q)))))) :=
  pLeaf (by kernel_rfl) h
def F52.k8 (Q : Value → World → Prop) (R : Value → Value → World → Prop) (R1 : Value → Value → Value → Value → World → Prop) (v0 : Value) (v3 : Value) (v4 : Value) (v5 : Value) (w : World) : Prop :=
   on (xNil v0) fun x31 =>
   on (xFA P 59 x31 1) fun x32 =>
   on (xLoad P w 3 x32) fun x33 =>
   on (xBin P .add 3 false true x33 (.int .i64 1)) fun x34 =>
   on (xNil v0) fun x35 =>
   on (xFA P 59 x35 1) fun x36 =>
   eStore P 3 x36 x34 w fun w =>
   on (xBin P .eql 5 false true v3 (.int .u8 1)) fun x38 =>
   cnd x38
   (F52.k7 Q R v0 v3 v4 v5 w)
   (R1 v0 v3 v4 v5 w)
theorem F52.k8_ok (Q : Value → World → Prop) (R : Value → Value → World → Prop) (R1 : Value → Value → Value → Value → World → Prop) (ρ : Env) (w : World) (h : F52.k8 Q R R1 (ρ 0) (ρ 3) (ρ 4) (ρ 5) w) : Sd P none false 61 (cN 1 (cL (cL (cL (cN 2 (cL (cL (cN 2 (cL (cL (cN 1 (cL (cN 1 (cB Try.f52)))))))))))))) ρ w (thenQ (fun ρ w => R1 (ρ 0) (ρ 3) (ρ 4) (ρ 5) w) (blkQ 2 (thenQ (fun ρ w => F52.k7 Q R (ρ 0) (ρ 3) (ρ 4) (ρ 5) w) (blkQ 1 (thenQ (fun ρ w => F52.k5 Q R (ρ 0) (ρ 5) w) (thenQ (fun ρ w => R (ρ 0) (ρ 5) w) (blkQ 0 (thenQ (fun ρ w => F52.k2 Q w) (retQ P [.tmp 2] Q))))))))) :=
  pLeaf (by kernel_rfl) h
def F52.l2.b (Q : Value → World → Prop) (R : Value → Value → World → Prop) (R1 : Value → Value → Value → Value → World → Prop) (v0 : Value) (v3 : Value) (v4 : Value) (v5 : Value) (w : World) : Prop :=
   Dr w fun w =>
   Cx P 53 #[v0] w fun x13 w =>
   on (xBin P .eql 3 false true x13 (.int .i64 9)) fun x14 =>
   cnd x14
   (on (xNil v0) fun x17 =>
   on (xFA P 59 x17 0) fun x18 =>
   on (xLoad P w 23 x18) fun x19 =>
   on (xNil v0) fun x21 =>
   on (xFA P 59 x21 1) fun x22 =>
   on (xLoad P w 3 x22) fun x23 =>
   on (xIA P 23 x19 x23) fun x24 =>
   on (xLoad P w 53 x24) fun x25 =>
   Cx P 68 #[x25] w fun x26 w =>
   on (xBin P .eql 5 false false x26 v3) fun x28 =>
   cnd x28
   (F52.k8 Q R R1 v0 v3 v4 v5 w)
   (F52.k7 Q R v0 v3 v4 v5 w))
   (F52.k7 Q R v0 v3 v4 v5 w)
theorem F52.l2.b_ok (Q : Value → World → Prop) (R : Value → Value → World → Prop) (R1 : Value → Value → Value → Value → World → Prop) (ρ : Env) (w : World) (h : F52.l2.b Q R R1 (ρ 0) (ρ 3) (ρ 4) (ρ 5) w) : Sd P none false 61 (cL (cL (cL (cN 2 (cL (cL (cN 2 (cL (cL (cN 1 (cL (cN 1 (cB Try.f52))))))))))))) ρ w (thenQ (fun ρ w => R1 (ρ 0) (ρ 3) (ρ 4) (ρ 5) w) (blkQ 2 (thenQ (fun ρ w => F52.k7 Q R (ρ 0) (ρ 3) (ρ 4) (ρ 5) w) (blkQ 1 (thenQ (fun ρ w => F52.k5 Q R (ρ 0) (ρ 5) w) (thenQ (fun ρ w => R (ρ 0) (ρ 5) w) (blkQ 0 (thenQ (fun ρ w => F52.k2 Q w) (retQ P [.tmp 2] Q))))))))) :=
  pRow 1 (by kernel_rfl) (fun ρ w => F52.k8 Q R R1 (ρ 0) (ρ 3) (ρ 4) (ρ 5) w) (by kernel_rfl) (fun ρ w h => F52.k8_ok Q R R1 ρ w h) h
def F52.l2 (Q : Value → World → Prop) (R : Value → Value → World → Prop) : Nat → Value → Value → Value → Value → World → Prop
 | 0, _, _, _, _, _ => False
 | n + 1, v0, v3, v4, v5, w => F52.l2.b Q R (F52.l2 Q R n) v0 v3 v4 v5 w
theorem F52.l2_ok (Q : Value → World → Prop) (R : Value → Value → World → Prop) (ρ : Env) (w : World) (h : ∃ n, F52.l2 Q R n (ρ 0) (ρ 3) (ρ 4) (ρ 5) w) : Sd P none false 61 (cL (cL (cN 2 (cL (cL (cN 2 (cL (cL (cN 1 (cL (cN 1 (cB Try.f52)))))))))))) ρ w (blkQ 2 (thenQ (fun ρ w => F52.k7 Q R (ρ 0) (ρ 3) (ρ 4) (ρ 5) w) (blkQ 1 (thenQ (fun ρ w => F52.k5 Q R (ρ 0) (ρ 5) w) (thenQ (fun ρ w => R (ρ 0) (ρ 5) w) (blkQ 0 (thenQ (fun ρ w => F52.k2 Q w) (retQ P [.tmp 2] Q)))))))) :=
  pLoop (by kernel_rfl) (fun n ρ w => F52.l2 Q R n (ρ 0) (ρ 3) (ρ 4) (ρ 5) w) (fun _ _ h => h) (fun n ρ w h => F52.l2.b_ok Q R (F52.l2 Q R n) ρ w h) h
def F52.k6 (Q : Value → World → Prop) (R : Value → Value → World → Prop) (v0 : Value) (v3 : Value) (v4 : Value) (v5 : Value) (w : World) : Prop :=
   ∃ n, F52.l2 Q R n v0 v3 v4 v5 w
theorem F52.k6_ok (Q : Value → World → Prop) (R : Value → Value → World → Prop) (ρ : Env) (w : World) (h : F52.k6 Q R (ρ 0) (ρ 3) (ρ 4) (ρ 5) w) : Sd P none false 61 (cN 2 (cL (cL (cN 2 (cL (cL (cN 1 (cL (cN 1 (cB Try.f52)))))))))) ρ w (blkQ 1 (thenQ (fun ρ w => F52.k5 Q R (ρ 0) (ρ 5) w) (thenQ (fun ρ w => R (ρ 0) (ρ 5) w) (blkQ 0 (thenQ (fun ρ w => F52.k2 Q w) (retQ P [.tmp 2] Q)))))) :=
  pSeq (by kernel_rfl) (fun ρ w => F52.k7 Q R (ρ 0) (ρ 3) (ρ 4) (ρ 5) w) (fun ρ w h => F52.k7_ok Q R ρ w h) (pBlock 2 (by kernel_rfl) (F52.l2_ok Q R _ _ h))
def F52.k4 (Q : Value → World → Prop) (R : Value → Value → World → Prop) (v0 : Value) (v5 : Value) (w : World) : Prop :=
   on (xNil v0) fun x9 =>
   on (xFA P 59 x9 1) fun x10 =>
   on (xLoad P w 3 x10) fun x11 =>
   F52.k6 Q R v0 v5 x11 v5 w
theorem F52.k4_ok (Q : Value → World → Prop) (R : Value → Value → World → Prop) (ρ : Env) (w : World) (h : F52.k4 Q R (ρ 0) (ρ 5) w) : Sd P none false 61 (cN 2 (cL (cL (cN 1 (cL (cN 1 (cB Try.f52))))))) ρ w (thenQ (fun ρ w => R (ρ 0) (ρ 5) w) (blkQ 0 (thenQ (fun ρ w => F52.k2 Q w) (retQ P [.tmp 2] Q)))) :=
  pSeq (by kernel_rfl) (fun ρ w => F52.k5 Q R (ρ 0) (ρ 5) w) (fun ρ w h => F52.k5_ok Q R ρ w h) (pBlock 1 (by kernel_rfl) (pRow 2 (by kernel_rfl) (fun ρ w => F52.k6 Q R (ρ 0) (ρ 3) (ρ 4) (ρ 5) w) (by kernel_rfl) (fun ρ w h => F52.k6_ok Q R ρ w h) h))
def F52.l1.b (Q : Value → World → Prop) (R : Value → Value → World → Prop) (v0 : Value) (v5 : Value) (w : World) : Prop :=
   on (xBin P .lss 5 false true v5 (.int .u8 8)) fun x6 =>
   cnd x6
   (F52.k4 Q R v0 v5 w)
   (F52.k2 Q w)
theorem F52.l1.b_ok (Q : Value → World → Prop) (R : Value → Value → World → Prop) (ρ : Env) (w : World) (h : F52.l1.b Q R (ρ 0) (ρ 5) w) : Sd P none false 61 (cL (cL (cN 1 (cL (cN 1 (cB Try.f52)))))) ρ w (thenQ (fun ρ w => R (ρ 0) (ρ 5) w) (blkQ 0 (thenQ (fun ρ w => F52.k2 Q w) (retQ P [.tmp 2] Q)))) :=
  pRow 2 (by kernel_rfl) (fun ρ w => F52.k4 Q R (ρ 0) (ρ 5) w) (by kernel_rfl) (fun ρ w h => F52.k4_ok Q R ρ w h) h
def F52.l1 (Q : Value → World → Prop) : Nat → Value → Value → World → Prop
 | 0, _, _, _ => False
 | n + 1, v0, v5, w => F52.l1.b Q (F52.l1 Q n) v0 v5 w
theorem F52.l1_ok (Q : Value → World → Prop) (ρ : Env) (w : World) (h : ∃ n, F52.l1 Q n (ρ 0) (ρ 5) w) : Sd P none false 61 (cL (cN 1 (cL (cN 1 (cB Try.f52))))) ρ w (blkQ 0 (thenQ (fun ρ w => F52.k2 Q w) (retQ P [.tmp 2] Q))) :=
  pLoop (by kernel_rfl) (fun n ρ w => F52.l1 Q n (ρ 0) (ρ 5) w) (fun _ _ h => h) (fun n ρ w h => F52.l1.b_ok Q (F52.l1 Q n) ρ w h) h
def F52.k3 (Q : Value → World → Prop) (v0 : Value) (v5 : Value) (w : World) : Prop :=
   ∃ n, F52.l1 Q n v0 v5 w
theorem F52.k3_ok (Q : Value → World → Prop) (ρ : Env) (w : World) (h : F52.k3 Q (ρ 0) (ρ 5) w) : Sd P none false 61 (cN 1 (cL (cN 1 (cB Try.f52)))) ρ w (thenQ (fun ρ w => F52.k2 Q w) (retQ P [.tmp 2] Q)) :=
  pBlock 0 (by kernel_rfl) (F52.l1_ok Q _ _ h)
def F52.k1 (Q : Value → World → Prop) (v0 : Value) (w : World) : Prop :=
   F52.k3 Q v0 (.int .u8 0) w
theorem F52.k1_ok (Q : Value → World → Prop) (ρ : Env) (w : World) (h : F52.k1 Q (ρ 0) w) : Sd P none false 61 (cN 1 (cB Try.f52)) ρ w (retQ P [.tmp 2] Q) :=
  pSeq (by kernel_rfl) (fun ρ w => F52.k2 Q w) (fun ρ w h => F52.k2_ok Q ρ w h) (pRow 1 (by kernel_rfl) (fun ρ w => F52.k3 Q (ρ 0) (ρ 5) w) (by kernel_rfl) (fun ρ w h => F52.k3_ok Q ρ w h) h)
def F52 (a0 : Value) (w : World) (Q : Value → World → Prop) : Prop :=
   F52.k1 Q a0 w
theorem F52_ok (a0 : Value) (w : World) (Q : Value → World → Prop) (h : F52 a0 w Q) : Cx P 52 #[a0] w Q :=
  pFun false Try.f52 (by kernel_rfl) (by kernel_rfl) (by kernel_rfl) (pRow 1 (by kernel_rfl) (fun ρ w => F52.k1 Q (ρ 0) w) (by kernel_rfl) (fun ρ w h => F52.k1_ok Q ρ w h) h)

/- 53 (*intaglio/layout.cutter).next -/
def F53 (a0 : Value) (w : World) (Q : Value → World → Prop) : Prop :=
   Dr w fun w =>
   on (xNil a0) fun x4 =>
   on (xFA P 59 x4 1) fun x5 =>
   on (xLoad P w 3 x5) fun x6 =>
   on (xNil a0) fun x8 =>
   on (xFA P 59 x8 0) fun x9 =>
   on (xLoad P w 23 x9) fun x10 =>
   on (xLen P w #[23] #[x10]) fun x11 =>
   on (xBin P .eql 3 false false x6 x11) fun x12 =>
   cnd x12
   (Q (.int .i64 (-1)) w)
   (Dr w fun w =>
   on (xNil a0) fun x14 =>
   on (xFA P 59 x14 0) fun x15 =>
   on (xLoad P w 23 x15) fun x16 =>
   on (xNil a0) fun x18 =>
   on (xFA P 59 x18 1) fun x19 =>
   on (xLoad P w 3 x19) fun x20 =>
   on (xIA P 23 x16 x20) fun x21 =>
   on (xLoad P w 53 x21) fun x22 =>
   Cx P 69 #[x22] w fun x23 w =>
   Q x23 w)
theorem F53_ok (a0 : Value) (w : World) (Q : Value → World → Prop) (h : F53 a0 w Q) : Cx P 53 #[a0] w Q :=
  pFun false Try.f53 (by kernel_rfl) (by kernel_rfl) (by kernel_rfl) (pLeaf (by kernel_rfl) h)

/- 54 (*intaglio/layout.cutter).row -/
def F54.k2 (Q : Value → World → Prop) (v5 : Value) (w : World) : Prop :=
   Q v5 w
theorem F54.k2_ok (Q : Value → World → Prop) (ρ : Env) (w : World) (h : F54.k2 Q (ρ 5) w) : Sd P none false 25 (cR (cN 2 (cB Try.f54))) ρ w (retQ P [.tmp 4] Q) :=
  pLeaf (by kernel_rfl) h
def F54.l1 (Q : Value → World → Prop) : Nat → Value → Value → Value → World → Prop
 | 0, _, _, _, _ => False
 | n + 1, v0, v1, v5, w => Cx P 53 #[v0] w fun x7 w =>
   on (xBin P .eql 3 false false x7 v1) fun x9 =>
   cnd x9
   (on (xNil v0) fun x12 =>
   on (xFA P 59 x12 1) fun x13 =>
   on (xLoad P w 3 x13) fun x14 =>
   eBS P 40 1 #[(0, x14)] w fun x15 w =>
   eApp P #[40, 40] #[v5, x15] w fun x16 w =>
   on (xNil v0) fun x18 =>
   on (xFA P 59 x18 1) fun x19 =>
   on (xLoad P w 3 x19) fun x20 =>
   on (xBin P .add 3 false true x20 (.int .i64 1)) fun x21 =>
   on (xNil v0) fun x22 =>
   on (xFA P 59 x22 1) fun x23 =>
   eStore P 3 x23 x21 w fun w =>
   F54.l1 Q n v0 v1 x16 w)
   (F54.k2 Q v5 w)
theorem F54.l1_ok (Q : Value → World → Prop) (ρ : Env) (w : World) (h : ∃ n, F54.l1 Q n (ρ 0) (ρ 1) (ρ 5) w) : Sd P none false 25 (cL (cL (cN 2 (cB Try.f54)))) ρ w (blkQ 0 (thenQ (fun ρ w => F54.k2 Q (ρ 5) w) (retQ P [.tmp 4] Q))) :=
  pLoop (by kernel_rfl) (fun n ρ w => F54.l1 Q n (ρ 0) (ρ 1) (ρ 5) w) (fun _ _ h => h) (fun n ρ w h => pLeaf (S := F54.l1 Q (n + 1) (ρ 0) (ρ 1) (ρ 5) w) (by kernel_rfl) h) h
def F54.k1 (Q : Value → World → Prop) (v0 : Value) (v1 : Value) (v5 : Value) (w : World) : Prop :=
   ∃ n, F54.l1 Q n v0 v1 v5 w
theorem F54.k1_ok (Q : Value → World → Prop) (ρ : Env) (w : World) (h : F54.k1 Q (ρ 0) (ρ 1) (ρ 5) w) : Sd P none false 25 (cN 2 (cB Try.f54)) ρ w (retQ P [.tmp 4] Q) :=
  pSeq (by kernel_rfl) (fun ρ w => F54.k2 Q (ρ 5) w) (fun ρ w h => F54.k2_ok Q ρ w h) (pBlock 0 (by kernel_rfl) (F54.l1_ok Q _ _ h))
def F54 (a0 a1 : Value) (w : World) (Q : Value → World → Prop) : Prop :=
   F54.k1 Q a0 a1 (.slice none 0 0) w
theorem F54_ok (a0 a1 : Value) (w : World) (Q : Value → World → Prop) (h : F54 a0 a1 w Q) : Cx P 54 #[a0, a1] w Q :=
  pFun false Try.f54 (by kernel_rfl) (by kernel_rfl) (by kernel_rfl) (pRow 2 (by kernel_rfl) (fun ρ w => F54.k1 Q (ρ 0) (ρ 1) (ρ 5) w) (by kernel_rfl) (fun ρ w h => F54.k1_ok Q ρ w h) h)

/- 55 (*intaglio/layout.cutter).block -/
def F55.k3 (Q : Value → World → Prop) (w : World) : Prop :=
   Q (.bool false) w
theorem F55.k3_ok (Q : Value → World → Prop) (ρ : Env) (w : World) (h : F55.k3 Q w) : Sd P none false 106 (cR (cN 1 (cN 4 (cB Try.f55)))) ρ w (retQ P [.tmp 4] Q) :=
  pLeaf (by kernel_rfl) h
def F55.k5 (Q : Value → World → Prop) (v0 : Value) (v1 : Value) (v5 : Value) (w : World) : Prop :=
   on (xNil v0) fun x85 =>
   on (xFA P 59 x85 1) fun x86 =>
   on (xLoad P w 3 x86) fun x87 =>
   on (xBin P .add 3 false true x87 (.int .i64 1)) fun x88 =>
   on (xNil v0) fun x89 =>
   on (xFA P 59 x89 1) fun x90 =>
   eStore P 3 x90 x88 w fun w =>
   on (xNil v0) fun x92 =>
   on (xFA P 59 x92 1) fun x93 =>
   on (xLoad P w 3 x93) fun x94 =>
   on (xFA P 120 v5 2) fun x95 =>
   eStore P 3 x95 x94 w fun w =>
   Dr w fun w =>
   on (xNil v1) fun x98 =>
   on (xFA P 96 x98 3) fun x99 =>
   on (xLoad P w 94 x99) fun x100 =>
   on (xLoad P w 120 v5) fun x101 =>
   eBS P 94 1 #[(0, x101)] w fun x102 w =>
   (xLoad P w 94 x99 = some x100) ∧ (eApp P #[94, 94] #[x100, x102] w fun x103 w =>
   on (xNil v1) fun x104 =>
   on (xFA P 96 x104 3) fun x105 =>
   eStore P 94 x105 x103 w fun w =>
   Q (.bool true) w)
theorem F55.k5_ok (Q : Value → World → Prop) (ρ : Env) (w : World) (h : F55.k5 Q (ρ 0) (ρ 1) (ρ 5) w) : Sd P none false 106 (cN 1 (cL (cN 1 (cL (cN 1 (cN 4 (cB Try.f55))))))) ρ w (blkQ 0 (thenQ (fun ρ w => F55.k3 Q w) (retQ P [.tmp 4] Q))) :=
  pLeaf (by kernel_rfl) h
def F55.k4 (Q : Value → World → Prop) (v0 : Value) (v1 : Value) (v5 : Value) (v42 : Value) (w : World) : Prop :=
   on (xBin P .eql 3 false true v42 (.int .i64 6)) fun x44 =>
   cnd x44
   (on (xNil v0) fun x48 =>
   on (xFA P 59 x48 1) fun x49 =>
   on (xLoad P w 3 x49) fun x50 =>
   on (xBin P .add 3 false true x50 (.int .i64 1)) fun x51 =>
   on (xNil v0) fun x52 =>
   on (xFA P 59 x52 1) fun x53 =>
   eStore P 3 x53 x51 w fun w =>
   Dr w fun w =>
   Cx P 53 #[v0] w fun x55 w =>
   on (xBin P .neq 3 false true x55 (.int .i64 7)) fun x56 =>
   cnd x56
   (Q (.bool false) w)
   (on (xNil v0) fun x59 =>
   on (xFA P 59 x59 0) fun x60 =>
   on (xLoad P w 23 x60) fun x61 =>
   on (xNil v0) fun x63 =>
   on (xFA P 59 x63 1) fun x64 =>
   on (xLoad P w 3 x64) fun x65 =>
   on (xBin P .sub 3 false true x65 (.int .i64 1)) fun x66 =>
   on (xIA P 23 x61 x66) fun x67 =>
   on (xFA P 53 x67 0) fun x68 =>
   on (xLoad P w 50 x68) fun x69 =>
   on (xNil v0) fun x71 =>
   on (xFA P 59 x71 0) fun x72 =>
   on (xLoad P w 23 x72) fun x73 =>
   on (xNil v0) fun x75 =>
   on (xFA P 59 x75 1) fun x76 =>
   on (xLoad P w 3 x76) fun x77 =>
   on (xIA P 23 x73 x77) fun x78 =>
   on (xFA P 53 x78 0) fun x79 =>
   on (xLoad P w 50 x79) fun x80 =>
   Cx P 70 #[x69, x80] w fun x81 w =>
   on (xUn P .not x81) fun x82 =>
   cnd x82
   (Q (.bool false) w)
   (F55.k5 Q v0 v1 v5 w)))
   (on (xBin P .eql 3 false true v42 (.int .i64 7)) fun x46 =>
   cnd x46
   (F55.k5 Q v0 v1 v5 w)
   (F55.k3 Q w))
theorem F55.k4_ok (Q : Value → World → Prop) (ρ : Env) (w : World) (h : F55.k4 Q (ρ 0) (ρ 1) (ρ 5) (ρ 42) w) : Sd P none false 106 (cN 1 (cL (cN 1 (cN 4 (cB Try.f55))))) ρ w (thenQ (fun ρ w => F55.k3 Q w) (retQ P [.tmp 4] Q)) :=
  pBlock 0 (by kernel_rfl) (pRow 1 (by kernel_rfl) (fun ρ w => F55.k5 Q (ρ 0) (ρ 1) (ρ 5) w) (by kernel_rfl) (fun ρ w h => F55.k5_ok Q ρ w h) h)
def F55.k2 (Q : Value → World → Prop) (v0 : Value) (v1 : Value) (v5 : Value) (w : World) : Prop :=
   Cx P 53 #[v0] w fun x42 w =>
   F55.k4 Q v0 v1 v5 x42 w
theorem F55.k2_ok (Q : Value → World → Prop) (ρ : Env) (w : World) (h : F55.k2 Q (ρ 0) (ρ 1) (ρ 5) w) : Sd P none false 106 (cN 1 (cN 4 (cB Try.f55))) ρ w (retQ P [.tmp 4] Q) :=
  pSeq (by kernel_rfl) (fun ρ w => F55.k3 Q w) (fun ρ w h => F55.k3_ok Q ρ w h) (pRow 1 (by kernel_rfl) (fun ρ w => F55.k4 Q (ρ 0) (ρ 1) (ρ 5) (ρ 42) w) (by kernel_rfl) (fun ρ w h => F55.k4_ok Q ρ w h) h)
def F55.k1 (Q : Value → World → Prop) (v0 : Value) (v1 : Value) (v5 : Value) (w : World) : Prop :=
   Cx P 54 #[v0, (.int .i64 0)] w fun x40 w =>
   F55.k2 Q v0 v1 v5 w
theorem F55.k1_ok (Q : Value → World → Prop) (ρ : Env) (w : World) (h : F55.k1 Q (ρ 0) (ρ 1) (ρ 5) w) : Sd P none false 106 (cN 4 (cB Try.f55)) ρ w (retQ P [.tmp 4] Q) :=
  pRow 1 (by kernel_rfl) (fun ρ w => F55.k2 Q (ρ 0) (ρ 1) (ρ 5) w) (by kernel_rfl) (fun ρ w h => F55.k2_ok Q ρ w h) h
def F55 (a0 a1 : Value) (w : World) (Q : Value → World → Prop) : Prop :=
   Dr w fun w =>
   on (xNil a0) fun x7 =>
   on (xFA P 59 x7 0) fun x8 =>
   on (xLoad P w 23 x8) fun x9 =>
   on (xNil a0) fun x11 =>
   on (xFA P 59 x11 1) fun x12 =>
   on (xLoad P w 3 x12) fun x13 =>
   on (xIA P 23 x9 x13) fun x14 =>
   on (xFA P 53 x14 2) fun x15 =>
   on (xLoad P w 22 x15) fun x16 =>
   on (xNil a0) fun x18 =>
   on (xFA P 59 x18 1) fun x19 =>
   on (xLoad P w 3 x19) fun x20 =>
   on (xBuild P 120 #[(0, x16), (1, x20)]) fun x21 =>
   eAlloc P 120 w fun x5 w =>
   (xLoad P w 3 x19 = some x20) ∧ (xLoad P w 22 x15 = some x16) ∧ (xLoad P w 3 x12 = some x13) ∧ (xLoad P w 23 x8 = some x9) ∧ (eStore P 120 x5 x21 w fun w =>
   on (xNil a0) fun x23 =>
   on (xFA P 59 x23 1) fun x24 =>
   on (xLoad P w 3 x24) fun x25 =>
   on (xBin P .add 3 false true x25 (.int .i64 1)) fun x26 =>
   on (xNil a0) fun x27 =>
   on (xFA P 59 x27 1) fun x28 =>
   eStore P 3 x28 x26 w fun w =>
   on (xNil a1) fun x30 =>
   on (xFA P 96 x30 3) fun x31 =>
   on (xLoad P w 94 x31) fun x32 =>
   on (xLen P w #[94] #[x32]) fun x33 =>
   on (xBin P .eql 3 false true x33 (.int .i64 0)) fun x34 =>
   cnd x34
   (Cx P 54 #[a0, (.int .i64 5)] w fun x36 w =>
   F55.k1 Q a0 a1 x5 w)
   (Cx P 54 #[a0, (.int .i64 4)] w fun x38 w =>
   F55.k1 Q a0 a1 x5 w))
theorem F55_ok (a0 a1 : Value) (w : World) (Q : Value → World → Prop) (h : F55 a0 a1 w Q) : Cx P 55 #[a0, a1] w Q :=
  pFun false Try.f55 (by kernel_rfl) (by kernel_rfl) (by kernel_rfl) (pRow 4 (by kernel_rfl) (fun ρ w => F55.k1 Q (ρ 0) (ρ 1) (ρ 5) w) (by kernel_rfl) (fun ρ w h => F55.k1_ok Q ρ w h) h)

/- 61 intaglio/intaglioref04.Id -/
def F61 (a0 a1 a2 a3 : Value) (w : World) (Q : Value → World → Prop) : Prop :=
   on (xBin P .neq 22 false true a1 (.int .u32 0)) fun x11 =>
   on (xBin P .neq 4 false false a0 x11) fun x12 =>
   cnd x12
   (Q a3 w)
   (cnd a0
   (on (xBin P .geq 22 false false a1 a2) fun x18 =>
   cnd x18
   (Q (.int .i64 43) w)
   (Q (.int .i64 0) w))
   (Q (.int .i64 0) w))
theorem F61_ok (a0 a1 a2 a3 : Value) (w : World) (Q : Value → World → Prop) (h : F61 a0 a1 a2 a3 w Q) : Cx P 61 #[a0, a1, a2, a3] w Q :=
  pFun false Try.f61 (by kernel_rfl) (by kernel_rfl) (by kernel_rfl) (pLeaf (by kernel_rfl) h)

/- 62 intaglio/intaglioref04.Wrong -/
def F62.k5 (Q : Value → World → Prop) (w : World) : Prop :=
   Q (.int .i64 0) w
theorem F62.k5_ok (Q : Value → World → Prop) (ρ : Env) (w : World) (h : F62.k5 Q w) : Sd P none false 72 (cR (cN 2 (cN 1 (cN 1 (cN 2 (cB Try.f62)))))) ρ w (retQ P [.tmp 6] Q) :=
  pLeaf (by kernel_rfl) h
def F62.l1 (Q : Value → World → Prop) : Nat → Value → Value → World → Prop
 | 0, _, _, _ => False
 | n + 1, v4, v9, w => on (xFA P 75 v4 2) fun x61 =>
   on (xLoad P w 9 x61) fun x62 =>
   on (xLen P w #[9] #[x62]) fun x63 =>
   on (xBin P .lss 3 false false v9 x63) fun x64 =>
   cnd x64
   (on (xFA P 75 v4 2) fun x67 =>
   on (xLoad P w 9 x67) fun x68 =>
   on (xIx P 9 x68 v9) fun x70 =>
   on (xBin P .eql 5 false true x70 (.int .u8 0)) fun x71 =>
   cnd x71
   (Q (.int .i64 13) w)
   (on (xBin P .add 3 false true v9 (.int .i64 1)) fun x66 =>
   F62.l1 Q n v4 x66 w))
   (F62.k5 Q w)
theorem F62.l1_ok (Q : Value → World → Prop) (ρ : Env) (w : World) (h : ∃ n, F62.l1 Q n (ρ 4) (ρ 9) w) : Sd P none false 72 (cL (cN 1 (cL (cN 2 (cN 1 (cN 1 (cN 2 (cB Try.f62)))))))) ρ w (blkQ 0 (thenQ (fun ρ w => F62.k5 Q w) (retQ P [.tmp 6] Q))) :=
  pLoop (by kernel_rfl) (fun n ρ w => F62.l1 Q n (ρ 4) (ρ 9) w) (fun _ _ h => h) (fun n ρ w h => pLeaf (S := F62.l1 Q (n + 1) (ρ 4) (ρ 9) w) (by kernel_rfl) h) h
def F62.k6 (Q : Value → World → Prop) (v4 : Value) (v9 : Value) (w : World) : Prop :=
   ∃ n, F62.l1 Q n v4 v9 w
theorem F62.k6_ok (Q : Value → World → Prop) (ρ : Env) (w : World) (h : F62.k6 Q (ρ 4) (ρ 9) w) : Sd P none false 72 (cN 1 (cL (cN 2 (cN 1 (cN 1 (cN 2 (cB Try.f62))))))) ρ w (thenQ (fun ρ w => F62.k5 Q w) (retQ P [.tmp 6] Q)) :=
  pBlock 0 (by kernel_rfl) (F62.l1_ok Q _ _ h)
def F62.k4 (Q : Value → World → Prop) (v4 : Value) (w : World) : Prop :=
   F62.k6 Q v4 (.int .i64 0) w
theorem F62.k4_ok (Q : Value → World → Prop) (ρ : Env) (w : World) (h : F62.k4 Q (ρ 4) w) : Sd P none false 72 (cN 2 (cN 1 (cN 1 (cN 2 (cB Try.f62))))) ρ w (retQ P [.tmp 6] Q) :=
  pSeq (by kernel_rfl) (fun ρ w => F62.k5 Q w) (fun ρ w h => F62.k5_ok Q ρ w h) (pRow 1 (by kernel_rfl) (fun ρ w => F62.k6 Q (ρ 4) (ρ 9) w) (by kernel_rfl) (fun ρ w h => F62.k6_ok Q ρ w h) h)
def F62.k3 (Q : Value → World → Prop) (v0 : Value) (v4 : Value) (w : World) : Prop :=
   on (xFA P 75 v4 1) fun x48 =>
   on (xLoad P w 22 x48) fun x49 =>
   Cx P 87 #[v0, x49] w fun x50 w =>
   on (xEx P x50 0) fun x51 =>
   on (xEx P x50 1) fun x52 =>
   on (xFA P 75 v4 0) fun x53 =>
   on (xLoad P w 5 x53) fun x54 =>
   on (xBin P .eql 5 false true x54 (.int .u8 4)) fun x55 =>
   cnd x55
   (on (xUn P .not x52) fun x58 =>
   cnd x58
   (Q (.int .i64 31) w)
   (F62.k4 Q v4 w))
   (F62.k4 Q v4 w)
theorem F62.k3_ok (Q : Value → World → Prop) (ρ : Env) (w : World) (h : F62.k3 Q (ρ 0) (ρ 4) w) : Sd P none false 72 (cN 1 (cN 1 (cN 2 (cB Try.f62)))) ρ w (retQ P [.tmp 6] Q) :=
  pRow 2 (by kernel_rfl) (fun ρ w => F62.k4 Q (ρ 4) w) (by kernel_rfl) (fun ρ w h => F62.k4_ok Q ρ w h) h
def F62.k2 (Q : Value → World → Prop) (v0 : Value) (v2 : Value) (v4 : Value) (w : World) : Prop :=
   on (xFA P 75 v4 0) fun x37 =>
   on (xLoad P w 5 x37) fun x38 =>
   on (xBin P .eql 5 false true x38 (.int .u8 1)) fun x39 =>
   cnd x39
   (on (xFA P 75 v4 1) fun x41 =>
   on (xLoad P w 22 x41) fun x42 =>
   Cx P 86 #[x42, v2] w fun x44 w =>
   cnd x44
   (Q (.int .i64 43) w)
   (F62.k3 Q v0 v4 w))
   (F62.k3 Q v0 v4 w)
theorem F62.k2_ok (Q : Value → World → Prop) (ρ : Env) (w : World) (h : F62.k2 Q (ρ 0) (ρ 2) (ρ 4) w) : Sd P none false 72 (cN 1 (cN 2 (cB Try.f62))) ρ w (retQ P [.tmp 6] Q) :=
  pRow 1 (by kernel_rfl) (fun ρ w => F62.k3 Q (ρ 0) (ρ 4) w) (by kernel_rfl) (fun ρ w h => F62.k3_ok Q ρ w h) h
def F62.k1 (Q : Value → World → Prop) (v0 : Value) (v2 : Value) (v4 : Value) (w : World) : Prop :=
   on (xFA P 75 v4 0) fun x19 =>
   on (xLoad P w 5 x19) fun x20 =>
   on (xBin P .eql 5 false true x20 (.int .u8 3)) fun x21 =>
   cnd x21
   (on (xFA P 75 v4 1) fun x23 =>
   on (xLoad P w 22 x23) fun x24 =>
   on (xBin P .neq 22 false true x24 (.int .u32 0)) fun x25 =>
   cnd x25
   (Q (.int .i64 42) w)
   (on (xFA P 75 v4 0) fun x28 =>
   on (xLoad P w 5 x28) fun x29 =>
   on (xBin P .neq 5 false true x29 (.int .u8 3)) fun x30 =>
   cnd x30
   (on (xFA P 75 v4 2) fun x32 =>
   on (xLoad P w 9 x32) fun x33 =>
   on (xBin P .neq 9 false true x33 (.string ⟨#[]⟩)) fun x34 =>
   cnd x34
   (Q (.int .i64 42) w)
   (F62.k2 Q v0 v2 v4 w))
   (F62.k2 Q v0 v2 v4 w)))
   (on (xFA P 75 v4 0) fun x28_2 =>
   on (xLoad P w 5 x28_2) fun x29_2 =>
   on (xBin P .neq 5 false true x29_2 (.int .u8 3)) fun x30_2 =>
   cnd x30_2
   (on (xFA P 75 v4 2) fun x32_2 =>
   on (xLoad P w 9 x32_2) fun x33_2 =>
   on (xBin P .neq 9 false true x33_2 (.string ⟨#[]⟩)) fun x34_2 =>
   cnd x34_2
   (Q (.int .i64 42) w)
   (F62.k2 Q v0 v2 v4 w))
   (F62.k2 Q v0 v2 v4 w))
theorem F62.k1_ok (Q : Value → World → Prop) (ρ : Env) (w : World) (h : F62.k1 Q (ρ 0) (ρ 2) (ρ 4) w) : Sd P none false 72 (cN 2 (cB Try.f62)) ρ w (retQ P [.tmp 6] Q) :=
  pRow 1 (by kernel_rfl) (fun ρ w => F62.k2 Q (ρ 0) (ρ 2) (ρ 4) w) (by kernel_rfl) (fun ρ w h => F62.k2_ok Q ρ w h) h
def F62 (a0 a1 a2 : Value) (w : World) (Q : Value → World → Prop) : Prop :=
   eBox P 75 a1 w fun x4 w =>
   Dr w fun w =>
   on (xBin P .eql 5 false true a0 (.int .u8 0)) fun x11 =>
   cnd x11
   (Q (.int .i64 42) w)
   (on (xFA P 75 x4 0) fun x13 =>
   on (xLoad P w 5 x13) fun x14 =>
   Cx P 85 #[a0] w fun x16 w =>
   (xLoad P w 5 x13 = some x14) ∧ (on (xBin P .neq 5 false false x14 x16) fun x17 =>
   cnd x17
   (Q (.int .i64 42) w)
   (F62.k1 Q a0 a2 x4 w)))
theorem F62_ok (a0 a1 a2 : Value) (w : World) (Q : Value → World → Prop) (h : F62 a0 a1 a2 w Q) : Cx P 62 #[a0, a1, a2] w Q :=
  pFun false Try.f62 (by kernel_rfl) (by kernel_rfl) (by kernel_rfl) (pRow 2 (by kernel_rfl) (fun ρ w => F62.k1 Q (ρ 0) (ρ 2) (ρ 4) w) (by kernel_rfl) (fun ρ w h => F62.k1_ok Q ρ w h) h)

/- 63 intaglio/intaglioref03.Letter -/
def F63.k2 (Q : Value → World → Prop) (v5 : Value) (v7 : Value) (w : World) : Prop :=
   Dr w fun w =>
   on (xFA P 77 v5 5) fun x50 =>
   on (xLoad P w 9 x50) fun x51 =>
   on (xFA P 77 v5 5) fun x53 =>
   on (xLoad P w 9 x53) fun x54 =>
   on (xLen P w #[9] #[x54]) fun x55 =>
   on (xBin P .rem 3 false false v7 x55) fun x56 =>
   on (xIx P 9 x51 x56) fun x57 =>
   Q x57 w
theorem F63.k2_ok (Q : Value → World → Prop) (ρ : Env) (w : World) (h : F63.k2 Q (ρ 5) (ρ 7) w) : Sd P none false 58 (cN 4 (cN 3 (cB Try.f63))) ρ w (retQ P [.tmp 4] Q) :=
  pLeaf (by kernel_rfl) h
def F63.k1 (Q : Value → World → Prop) (v1 : Value) (v5 : Value) (w : World) : Prop :=
   on (xFA P 77 v5 4) fun x20 =>
   on (xLoad P w 9 x20) fun x21 =>
   on (xLen P w #[9] #[x21]) fun x22 =>
   on (xBin P .lss 3 false false v1 x22) fun x23 =>
   cnd x23
   (on (xFA P 77 v5 4) fun x24 =>
   on (xLoad P w 9 x24) fun x25 =>
   on (xIx P 9 x25 v1) fun x27 =>
   Q x27 w)
   (on (xFA P 77 v5 5) fun x28 =>
   on (xLoad P w 9 x28) fun x29 =>
   on (xLen P w #[9] #[x29]) fun x30 =>
   on (xBin P .eql 3 false true x30 (.int .i64 0)) fun x31 =>
   cnd x31
   (Q (.int .u8 0) w)
   (on (xFA P 77 v5 4) fun x33 =>
   on (xLoad P w 9 x33) fun x34 =>
   on (xLen P w #[9] #[x34]) fun x35 =>
   on (xBin P .sub 3 false false v1 x35) fun x36 =>
   Dr w fun w =>
   on (xFA P 77 v5 6) fun x37 =>
   on (xLoad P w 3 x37) fun x38 =>
   on (xBin P .gtr 3 false true x38 (.int .i64 0)) fun x39 =>
   cnd x39
   (on (xFA P 77 v5 5) fun x42 =>
   on (xLoad P w 9 x42) fun x43 =>
   on (xLen P w #[9] #[x43]) fun x44 =>
   on (xBin P .quo 3 false false x36 x44) fun x45 =>
   on (xFA P 77 v5 6) fun x46 =>
   on (xLoad P w 3 x46) fun x47 =>
   on (xBin P .geq 3 false false x45 x47) fun x48 =>
   cnd x48
   (Q (.int .u8 0) w)
   (F63.k2 Q v5 x36 w))
   (F63.k2 Q v5 x36 w)))
theorem F63.k1_ok (Q : Value → World → Prop) (ρ : Env) (w : World) (h : F63.k1 Q (ρ 1) (ρ 5) w) : Sd P none false 58 (cN 3 (cB Try.f63)) ρ w (retQ P [.tmp 4] Q) :=
  pRow 4 (by kernel_rfl) (fun ρ w => F63.k2 Q (ρ 5) (ρ 7) w) (by kernel_rfl) (fun ρ w h => F63.k2_ok Q ρ w h) h
def F63 (a0 a1 : Value) (w : World) (Q : Value → World → Prop) : Prop :=
   Cx P 34 #[a0] w fun x10 w =>
   on (xEx P x10 0) fun x11 =>
   on (xEx P x10 1) fun x12 =>
   eAlloc P 77 w fun x5 w =>
   eStore P 77 x5 x11 w fun w =>
   on (xUn P .not x12) fun x14 =>
   cnd x14
   (Q (.int .u8 0) w)
   (on (xBin P .lss 3 false true a1 (.int .i64 0)) fun x17 =>
   cnd x17
   (Q (.int .u8 0) w)
   (F63.k1 Q a1 x5 w))
theorem F63_ok (a0 a1 : Value) (w : World) (Q : Value → World → Prop) (h : F63 a0 a1 w Q) : Cx P 63 #[a0, a1] w Q :=
  pFun false Try.f63 (by kernel_rfl) (by kernel_rfl) (by kernel_rfl) (pRow 3 (by kernel_rfl) (fun ρ w => F63.k1 Q (ρ 1) (ρ 5) w) (by kernel_rfl) (fun ρ w h => F63.k1_ok Q ρ w h) h)

/- 64 intaglio/intaglioref04.Whole -/
def F64 (a0 a1 : Value) (w : World) (Q : Value → World → Prop) : Prop :=
   eBox P 77 a0 w fun x2 w =>
   on (xFA P 77 x2 4) fun x6 =>
   on (xLoad P w 9 x6) fun x7 =>
   on (xLen P w #[9] #[x7]) fun x8 =>
   on (xBin P .lss 3 false false a1 x8) fun x9 =>
   cnd x9
   (Q (.bool false) w)
   (on (xFA P 77 x2 5) fun x10 =>
   on (xLoad P w 9 x10) fun x11 =>
   on (xLen P w #[9] #[x11]) fun x12 =>
   on (xBin P .eql 3 false true x12 (.int .i64 0)) fun x13 =>
   cnd x13
   (on (xFA P 77 x2 4) fun x15 =>
   on (xLoad P w 9 x15) fun x16 =>
   on (xLen P w #[9] #[x16]) fun x17 =>
   on (xBin P .eql 3 false false a1 x17) fun x18 =>
   Q x18 w)
   (on (xFA P 77 x2 4) fun x20 =>
   on (xLoad P w 9 x20) fun x21 =>
   on (xLen P w #[9] #[x21]) fun x22 =>
   on (xBin P .sub 3 false false a1 x22) fun x23 =>
   on (xFA P 77 x2 5) fun x24 =>
   on (xLoad P w 9 x24) fun x25 =>
   on (xLen P w #[9] #[x25]) fun x26 =>
   on (xBin P .rem 3 false false x23 x26) fun x27 =>
   on (xBin P .eql 3 false true x27 (.int .i64 0)) fun x28 =>
   Q x28 w))
theorem F64_ok (a0 a1 : Value) (w : World) (Q : Value → World → Prop) (h : F64 a0 a1 w Q) : Cx P 64 #[a0, a1] w Q :=
  pFun false Try.f64 (by kernel_rfl) (by kernel_rfl) (by kernel_rfl) (pLeaf (by kernel_rfl) h)

/- 65 intaglio/intaglioref01.Room -/
def F65 (a0 : Value) (w : World) (Q : Value → World → Prop) : Prop :=
   on (xLen P w #[9] #[a0]) fun x4 =>
   on (xBin P .quo 3 false true x4 (.int .i64 4)) fun x5 =>
   on (xBin P .add 3 false true x5 (.int .i64 1)) fun x6 =>
   Q x6 w
theorem F65_ok (a0 : Value) (w : World) (Q : Value → World → Prop) (h : F65 a0 w Q) : Cx P 65 #[a0] w Q :=
  pFun false Try.f65 (by kernel_rfl) (by kernel_rfl) (by kernel_rfl) (pLeaf (by kernel_rfl) h)

/- 66 intaglio/frame.Size -/
def F66 (a0 : Value) (w : World) (Q : Value → World → Prop) : Prop :=
   Cx P 88 #[a0] w fun x8 w =>
   on (xEx P x8 0) fun x9 =>
   on (xEx P x8 1) fun x10 =>
   eAlloc P 31 w fun x5 w =>
   eStore P 31 x5 x10 w fun w =>
   Dr w fun w =>
   on (xFA P 31 x5 0) fun x12 =>
   on (xLoad P w 29 x12) fun x13 =>
   Q (.tuple #[x9, x13]) w
theorem F66_ok (a0 : Value) (w : World) (Q : Value → World → Prop) (h : F66 a0 w Q) : Cx P 66 #[a0] w Q :=
  pFun false Try.f66 (by kernel_rfl) (by kernel_rfl) (by kernel_rfl) (pLeaf (by kernel_rfl) h)

/- 67 intaglio/code.Raw -/
def F67.k5 (Q : Value → World → Prop) (v2 : Value) (v4 : Value) (v8 : Value) (v9 : Value) (w : World) : Prop :=
   on (xBin P .neq 29 false true v9 (.int .i64 0)) fun x73 =>
   cnd x73
   (on (xBuild P 115 #[]) fun x74 =>
   eStore P 115 v4 x74 w fun w =>
   on (xRes P w 115 v4) fun x900 =>
   Q (.tuple #[x900, v9]) w)
   (Dr w fun w =>
   on (xFA P 53 v2 0) fun x76 =>
   on (xLoad P w 50 x76) fun x77 =>
   on (xNil v8) fun x79 =>
   on (xFA P 146 x79 2) fun x80 =>
   on (xLoad P w 113 x80) fun x81 =>
   on (xBuild P 115 #[(0, x77), (1, x81)]) fun x82 =>
   eStore P 115 v4 x82 w fun w =>
   on (xRes P w 115 v4) fun x900_2 =>
   Q (.tuple #[x900_2, (.int .i64 0)]) w)
theorem F67.k5_ok (Q : Value → World → Prop) (ρ : Env) (w : World) (h : F67.k5 Q (ρ 2) (ρ 4) (ρ 8) (ρ 9) w) : Sd P none false 83 (cN 1 (cN 1 (cR (cN 1 (cN 6 (cB Try.f67)))))) ρ w (retQ P [.cell 4 115, .tmp 5] Q) :=
  pLeaf (by kernel_rfl) h
def F67.k4 (Q : Value → World → Prop) (v2 : Value) (v4 : Value) (v8 : Value) (v9 : Value) (w : World) : Prop :=
   on (xBin P .eql 29 false true v9 (.int .i64 0)) fun x64 =>
   cnd x64
   (on (xNil v8) fun x67 =>
   on (xFA P 146 x67 3) fun x68 =>
   on (xLoad P w 3 x68) fun x69 =>
   on (xBin P .geq 3 false true x69 (.int .i64 65535)) fun x70 =>
   cnd x70
   (F67.k5 Q v2 v4 v8 (.int .i64 25) w)
   (F67.k5 Q v2 v4 v8 v9 w))
   (F67.k5 Q v2 v4 v8 v9 w)
theorem F67.k4_ok (Q : Value → World → Prop) (ρ : Env) (w : World) (h : F67.k4 Q (ρ 2) (ρ 4) (ρ 8) (ρ 9) w) : Sd P none false 83 (cN 1 (cR (cN 1 (cN 6 (cB Try.f67))))) ρ w (retQ P [.cell 4 115, .tmp 5] Q) :=
  pRow 1 (by kernel_rfl) (fun ρ w => F67.k5 Q (ρ 2) (ρ 4) (ρ 8) (ρ 9) w) (by kernel_rfl) (fun ρ w h => F67.k5_ok Q ρ w h) h
def F67.k3 (Q : Value → World → Prop) (v2 : Value) (v4 : Value) (v6 : Value) (v8 : Value) (v9 : Value) (w : World) : Prop :=
   on (xBin P .eql 29 false true v9 (.int .i64 0)) fun x58 =>
   cnd x58
   (on (xLoad P w 77 v6) fun x59 =>
   on (xFA P 53 v2 3) fun x60 =>
   on (xLoad P w 51 x60) fun x61 =>
   Cx P 92 #[x59, x61] w fun x62 w =>
   F67.k4 Q v2 v4 v8 x62 w)
   (F67.k4 Q v2 v4 v8 v9 w)
theorem F67.k3_ok (Q : Value → World → Prop) (ρ : Env) (w : World) (h : F67.k3 Q (ρ 2) (ρ 4) (ρ 6) (ρ 8) (ρ 9) w) : Sd P none false 83 (cR (cN 1 (cN 6 (cB Try.f67)))) ρ w (retQ P [.cell 4 115, .tmp 5] Q) :=
  pRow 1 (by kernel_rfl) (fun ρ w => F67.k4 Q (ρ 2) (ρ 4) (ρ 8) (ρ 9) w) (by kernel_rfl) (fun ρ w h => F67.k4_ok Q ρ w h) h
def F67.l1 (Q : Value → World → Prop) : Nat → Value → Value → Value → Value → Value → Value → Value → Value → Value → World → Prop
 | 0, _, _, _, _, _, _, _, _, _, _ => False
 | n + 1, v2, v4, v6, v8, v9, v10, v43, v44, v45, w => on (xBin P .lss 3 false false v45 v44) fun x46 =>
   cnd x46
   (on (xIA P 51 v43 v45) fun x48 =>
   on (xLoad P w 75 x48) fun x49 =>
   eAlloc P 75 w fun x12 w =>
   eStore P 75 x12 x49 w fun w =>
   on (xBin P .eql 29 false true v9 (.int .i64 0)) fun x51 =>
   cnd x51
   (on (xLoad P w 75 x12) fun x54 =>
   callV P v10 #[v45, x54] w fun x55 w =>
   on (xBin P .add 3 false true v45 (.int .i64 1)) fun x56 =>
   F67.l1 Q n v2 v4 v6 v8 x55 v10 v43 v44 x56 w)
   (on (xBin P .add 3 false true v45 (.int .i64 1)) fun x56_2 =>
   F67.l1 Q n v2 v4 v6 v8 v9 v10 v43 v44 x56_2 w))
   (F67.k3 Q v2 v4 v6 v8 v9 w)
theorem F67.l1_ok (Q : Value → World → Prop) (ρ : Env) (w : World) (h : ∃ n, F67.l1 Q n (ρ 2) (ρ 4) (ρ 6) (ρ 8) (ρ 9) (ρ 10) (ρ 43) (ρ 44) (ρ 45) w) : Sd P none false 83 (cL (cN 1 (cL (cN 1 (cN 6 (cB Try.f67)))))) ρ w (blkQ 0 (thenQ (fun ρ w => F67.k3 Q (ρ 2) (ρ 4) (ρ 6) (ρ 8) (ρ 9) w) (retQ P [.cell 4 115, .tmp 5] Q))) :=
  pLoop (by kernel_rfl) (fun n ρ w => F67.l1 Q n (ρ 2) (ρ 4) (ρ 6) (ρ 8) (ρ 9) (ρ 10) (ρ 43) (ρ 44) (ρ 45) w) (fun _ _ h => h) (fun n ρ w h => pLeaf (S := F67.l1 Q (n + 1) (ρ 2) (ρ 4) (ρ 6) (ρ 8) (ρ 9) (ρ 10) (ρ 43) (ρ 44) (ρ 45) w) (by kernel_rfl) h) h
def F67.k6 (Q : Value → World → Prop) (v2 : Value) (v4 : Value) (v6 : Value) (v8 : Value) (v9 : Value) (v10 : Value) (v43 : Value) (v44 : Value) (v45 : Value) (w : World) : Prop :=
   ∃ n, F67.l1 Q n v2 v4 v6 v8 v9 v10 v43 v44 v45 w
theorem F67.k6_ok (Q : Value → World → Prop) (ρ : Env) (w : World) (h : F67.k6 Q (ρ 2) (ρ 4) (ρ 6) (ρ 8) (ρ 9) (ρ 10) (ρ 43) (ρ 44) (ρ 45) w) : Sd P none false 83 (cN 1 (cL (cN 1 (cN 6 (cB Try.f67))))) ρ w (thenQ (fun ρ w => F67.k3 Q (ρ 2) (ρ 4) (ρ 6) (ρ 8) (ρ 9) w) (retQ P [.cell 4 115, .tmp 5] Q)) :=
  pBlock 0 (by kernel_rfl) (F67.l1_ok Q _ _ h)
def F67.k2 (Q : Value → World → Prop) (v2 : Value) (v4 : Value) (v6 : Value) (v8 : Value) (v9 : Value) (v10 : Value) (w : World) : Prop :=
   on (xFA P 53 v2 3) fun x42 =>
   on (xLoad P w 51 x42) fun x43 =>
   on (xLen P w #[51] #[x43]) fun x44 =>
   F67.k6 Q v2 v4 v6 v8 v9 v10 x43 x44 (.int .i64 0) w
theorem F67.k2_ok (Q : Value → World → Prop) (ρ : Env) (w : World) (h : F67.k2 Q (ρ 2) (ρ 4) (ρ 6) (ρ 8) (ρ 9) (ρ 10) w) : Sd P none false 83 (cN 1 (cN 6 (cB Try.f67))) ρ w (retQ P [.cell 4 115, .tmp 5] Q) :=
  pSeq (by kernel_rfl) (fun ρ w => F67.k3 Q (ρ 2) (ρ 4) (ρ 6) (ρ 8) (ρ 9) w) (fun ρ w h => F67.k3_ok Q ρ w h) (pRow 1 (by kernel_rfl) (fun ρ w => F67.k6 Q (ρ 2) (ρ 4) (ρ 6) (ρ 8) (ρ 9) (ρ 10) (ρ 43) (ρ 44) (ρ 45) w) (by kernel_rfl) (fun ρ w h => F67.k6_ok Q ρ w h) h)
def F67.k1 (Q : Value → World → Prop) (v2 : Value) (v4 : Value) (v6 : Value) (v8 : Value) (v9 : Value) (w : World) : Prop :=
   F67.k2 Q v2 v4 v6 v8 v9 (.func (.func 91) #[v8] #[]) w
theorem F67.k1_ok (Q : Value → World → Prop) (ρ : Env) (w : World) (h : F67.k1 Q (ρ 2) (ρ 4) (ρ 6) (ρ 8) (ρ 9) w) : Sd P none false 83 (cN 6 (cB Try.f67)) ρ w (retQ P [.cell 4 115, .tmp 5] Q) :=
  pRow 1 (by kernel_rfl) (fun ρ w => F67.k2 Q (ρ 2) (ρ 4) (ρ 6) (ρ 8) (ρ 9) (ρ 10) w) (by kernel_rfl) (fun ρ w h => F67.k2_ok Q ρ w h) h
def F67 (a0 a1 : Value) (w : World) (Q : Value → World → Prop) : Prop :=
   eBox P 53 a0 w fun x2 w =>
   eAlloc P 115 w fun x4 w =>
   on (xFA P 53 x2 0) fun x14 =>
   on (xLoad P w 50 x14) fun x15 =>
   Cx P 89 #[x15] w fun x16 w =>
   on (xEx P x16 0) fun x17 =>
   on (xEx P x16 1) fun x18 =>
   eAlloc P 77 w fun x6 w =>
   eStore P 77 x6 x17 w fun w =>
   on (xUn P .not x18) fun x20 =>
   cnd x20
   (on (xBuild P 115 #[]) fun x21 =>
   eStore P 115 x4 x21 w fun w =>
   on (xRes P w 115 x4) fun x900 =>
   Q (.tuple #[x900, (.int .i64 30)]) w)
   (on (xLoad P w 77 x6) fun x22 =>
   on (xBuild P 146 #[(0, x22), (1, a1)]) fun x24 =>
   eBox P 146 x24 w fun x25 w =>
   on (xFA P 77 x6 2) fun x27 =>
   on (xLoad P w 4 x27) fun x28 =>
   on (xFA P 53 x2 1) fun x29 =>
   on (xLoad P w 22 x29) fun x30 =>
   Cx P 90 #[x25, x28, x30, (.int .i64 40)] w fun x31 w =>
   on (xBin P .eql 29 false true x31 (.int .i64 0)) fun x33 =>
   cnd x33
   (on (xFA P 77 x6 3) fun x35 =>
   on (xLoad P w 4 x35) fun x36 =>
   on (xFA P 53 x2 2) fun x37 =>
   on (xLoad P w 22 x37) fun x38 =>
   Cx P 90 #[x25, x36, x38, (.int .i64 41)] w fun x39 w =>
   F67.k1 Q x2 x4 x6 x25 x39 w)
   (F67.k1 Q x2 x4 x6 x25 x31 w))
theorem F67_ok (a0 a1 : Value) (w : World) (Q : Value → World → Prop) (h : F67 a0 a1 w Q) : Cx P 67 #[a0, a1] w Q :=
  pFun false Try.f67 (by kernel_rfl) (by kernel_rfl) (by kernel_rfl) (pRow 6 (by kernel_rfl) (fun ρ w => F67.k1 Q (ρ 2) (ρ 4) (ρ 6) (ρ 8) (ρ 9) w) (by kernel_rfl) (fun ρ w h => F67.k1_ok Q ρ w h) h)

/- 68 intaglio/layout.part -/
def F68 (a0 : Value) (w : World) (Q : Value → World → Prop) : Prop :=
   eBox P 53 a0 w fun x1 w =>
   on (xLoad P w 53 x1) fun x5 =>
   Cx P 93 #[x5] w fun x6 w =>
   cnd x6
   (Q (.int .u8 8) w)
   (on (xFA P 53 x1 0) fun x8 =>
   on (xLoad P w 50 x8) fun x9 =>
   Cx P 89 #[x9] w fun x10 w =>
   on (xEx P x10 0) fun x11 =>
   on (xEx P x10 1) fun x12 =>
   eAlloc P 77 w fun x3 w =>
   eStore P 77 x3 x11 w fun w =>
   on (xFA P 77 x3 7) fun x13 =>
   on (xLoad P w 5 x13) fun x14 =>
   Q x14 w)
theorem F68_ok (a0 : Value) (w : World) (Q : Value → World → Prop) (h : F68 a0 w Q) : Cx P 68 #[a0] w Q :=
  pFun false Try.f68 (by kernel_rfl) (by kernel_rfl) (by kernel_rfl) (pLeaf (by kernel_rfl) h)

/- 69 intaglio/layout.kind -/
def F69 (a0 : Value) (w : World) (Q : Value → World → Prop) : Prop :=
   eBox P 53 a0 w fun x1 w =>
   on (xLoad P w 53 x1) fun x3 =>
   Cx P 68 #[x3] w fun x4 w =>
   on (xBin P .neq 5 false true x4 (.int .u8 8)) fun x5 =>
   cnd x5
   (Q (.int .i64 9) w)
   (on (xFA P 53 x1 0) fun x6 =>
   on (xLoad P w 50 x6) fun x7 =>
   on (xBin P .eql 50 false true x7 (.int .u16 54)) fun x9 =>
   cnd x9
   (Q (.int .i64 1) w)
   (on (xBin P .eql 50 false true x7 (.int .u16 55)) fun x11 =>
   cnd x11
   (Q (.int .i64 2) w)
   (on (xBin P .eql 50 false true x7 (.int .u16 56)) fun x13 =>
   cnd x13
   (Q (.int .i64 8) w)
   (on (xBin P .eql 50 false true x7 (.int .u16 248)) fun x15 =>
   cnd x15
   (Q (.int .i64 3) w)
   (on (xBin P .eql 50 false true x7 (.int .u16 245)) fun x17 =>
   cnd x17
   (Q (.int .i64 4) w)
   (on (xBin P .eql 50 false true x7 (.int .u16 59)) fun x19 =>
   cnd x19
   (Q (.int .i64 5) w)
   (on (xBin P .eql 50 false true x7 (.int .u16 246)) fun x21 =>
   cnd x21
   (Q (.int .i64 6) w)
   (on (xBin P .eql 50 false true x7 (.int .u16 247)) fun x23 =>
   cnd x23
   (Q (.int .i64 6) w)
   (on (xFA P 53 x1 0) fun x24 =>
   on (xLoad P w 50 x24) fun x25 =>
   Cx P 94 #[x25] w fun x26 w =>
   cnd x26
   (Q (.int .i64 7) w)
   (Q (.int .i64 0) w))))))))))
theorem F69_ok (a0 : Value) (w : World) (Q : Value → World → Prop) (h : F69 a0 w Q) : Cx P 69 #[a0] w Q :=
  pFun false Try.f69 (by kernel_rfl) (by kernel_rfl) (by kernel_rfl) (pLeaf (by kernel_rfl) h)

/- 70 intaglio/layout.may -/
def F70 (a0 a1 : Value) (w : World) (Q : Value → World → Prop) : Prop :=
   on (xBin P .eql 50 false true a1 (.int .u16 251)) fun x7 =>
   cnd x7
   (on (xBin P .eql 50 false true a0 (.int .u16 247)) fun x9 =>
   Q x9 w)
   (on (xBin P .eql 50 false true a1 (.int .u16 249)) fun x11 =>
   cnd x11
   (on (xBin P .eql 50 false true a0 (.int .u16 246)) fun x13 =>
   Q x13 w)
   (on (xBin P .eql 50 false true a1 (.int .u16 250)) fun x15 =>
   cnd x15
   (Q (.bool true) w)
   (Q (.bool false) w)))
theorem F70_ok (a0 a1 : Value) (w : World) (Q : Value → World → Prop) (h : F70 a0 a1 w Q) : Cx P 70 #[a0, a1] w Q :=
  pFun false Try.f70 (by kernel_rfl) (by kernel_rfl) (by kernel_rfl) (pLeaf (by kernel_rfl) h)

/- 85 intaglio/intaglioref03.Kind -/
def F85.k2 (Q : Value → World → Prop) (w : World) : Prop :=
   Q (.int .u8 0) w
theorem F85.k2_ok (Q : Value → World → Prop) (ρ : Env) (w : World) (h : F85.k2 Q w) : Sd P none false 25 (cR (cN 5 (cB Try.f85))) ρ w (retQ P [.tmp 2] Q) :=
  pLeaf (by kernel_rfl) h
def F85.l1 (Q : Value → World → Prop) : Nat → Value → Value → Value → World → Prop
 | 0, _, _, _, _ => False
 | n + 1, v0, v3, v4, w => on (xLen P w #[157] #[v3]) fun x14 =>
   on (xBin P .lss 3 false false v4 x14) fun x15 =>
   cnd x15
   (on (xIA P 157 v3 v4) fun x20 =>
   on (xFA P 160 x20 0) fun x21 =>
   on (xLoad P w 5 x21) fun x22 =>
   on (xBin P .eql 5 false false x22 v0) fun x24 =>
   cnd x24
   (Q (.int .u8 4) w)
   (on (xBin P .add 3 false true v4 (.int .i64 1)) fun x17 =>
   F85.l1 Q n v0 v3 x17 w))
   (F85.k2 Q w)
theorem F85.l1_ok (Q : Value → World → Prop) (ρ : Env) (w : World) (h : ∃ n, F85.l1 Q n (ρ 0) (ρ 3) (ρ 4) w) : Sd P none false 25 (cL (cN 1 (cL (cN 5 (cB Try.f85))))) ρ w (blkQ 0 (thenQ (fun ρ w => F85.k2 Q w) (retQ P [.tmp 2] Q))) :=
  pLoop (by kernel_rfl) (fun n ρ w => F85.l1 Q n (ρ 0) (ρ 3) (ρ 4) w) (fun _ _ h => h) (fun n ρ w h => pLeaf (S := F85.l1 Q (n + 1) (ρ 0) (ρ 3) (ρ 4) w) (by kernel_rfl) h) h
def F85.k3 (Q : Value → World → Prop) (v0 : Value) (v3 : Value) (v4 : Value) (w : World) : Prop :=
   ∃ n, F85.l1 Q n v0 v3 v4 w
theorem F85.k3_ok (Q : Value → World → Prop) (ρ : Env) (w : World) (h : F85.k3 Q (ρ 0) (ρ 3) (ρ 4) w) : Sd P none false 25 (cN 1 (cL (cN 5 (cB Try.f85)))) ρ w (thenQ (fun ρ w => F85.k2 Q w) (retQ P [.tmp 2] Q)) :=
  pBlock 0 (by kernel_rfl) (F85.l1_ok Q _ _ h)
def F85.k1 (Q : Value → World → Prop) (v0 : Value) (v3 : Value) (w : World) : Prop :=
   F85.k3 Q v0 v3 (.int .i64 0) w
theorem F85.k1_ok (Q : Value → World → Prop) (ρ : Env) (w : World) (h : F85.k1 Q (ρ 0) (ρ 3) w) : Sd P none false 25 (cN 5 (cB Try.f85)) ρ w (retQ P [.tmp 2] Q) :=
  pSeq (by kernel_rfl) (fun ρ w => F85.k2 Q w) (fun ρ w h => F85.k2_ok Q ρ w h) (pRow 1 (by kernel_rfl) (fun ρ w => F85.k3 Q (ρ 0) (ρ 3) (ρ 4) w) (by kernel_rfl) (fun ρ w h => F85.k3_ok Q ρ w h) h)
def F85 (a0 : Value) (w : World) (Q : Value → World → Prop) : Prop :=
   on (xBin P .eql 5 false true a0 (.int .u8 105)) fun x6 =>
   cnd x6
   (Q (.int .u8 1) w)
   (on (xBin P .eql 5 false true a0 (.int .u8 110)) fun x8 =>
   cnd x8
   (Q (.int .u8 2) w)
   (on (xBin P .eql 5 false true a0 (.int .u8 115)) fun x10 =>
   cnd x10
   (Q (.int .u8 3) w)
   (Cx P 101 #[] w fun x11 w =>
   F85.k1 Q a0 x11 w)))
theorem F85_ok (a0 : Value) (w : World) (Q : Value → World → Prop) (h : F85 a0 w Q) : Cx P 85 #[a0] w Q :=
  pFun false Try.f85 (by kernel_rfl) (by kernel_rfl) (by kernel_rfl) (pRow 5 (by kernel_rfl) (fun ρ w => F85.k1 Q (ρ 0) (ρ 3) w) (by kernel_rfl) (fun ρ w h => F85.k1_ok Q ρ w h) h)

/- 86 intaglio/intaglioref04.None -/
def F86 (a0 a1 : Value) (w : World) (Q : Value → World → Prop) : Prop :=
   on (xBin P .eql 22 false true a0 (.int .u32 0)) fun x6 =>
   cnd x6
   (Q (.bool true) w)
   (on (xBin P .geq 22 false false a0 a1) fun x10 =>
   Q x10 w)
theorem F86_ok (a0 a1 : Value) (w : World) (Q : Value → World → Prop) (h : F86 a0 a1 w Q) : Cx P 86 #[a0, a1] w Q :=
  pFun false Try.f86 (by kernel_rfl) (by kernel_rfl) (by kernel_rfl) (pLeaf (by kernel_rfl) h)

/- 87 intaglio/intaglioref03.Enum -/
def F87.k2 (Q : Value → World → Prop) (w : World) : Prop :=
   Q (.tuple #[(.string ⟨#[]⟩), (.bool false)]) w
theorem F87.k2_ok (Q : Value → World → Prop) (ρ : Env) (w : World) (h : F87.k2 Q w) : Sd P none false 36 (cR (cN 2 (cB Try.f87))) ρ w (retQ P [.tmp 4, .tmp 5] Q) :=
  pLeaf (by kernel_rfl) h
def F87.k5 (Q : Value → World → Prop) (R : Value → Value → Value → Value → World → Prop) (v0 : Value) (v1 : Value) (v6 : Value) (v7 : Value) (w : World) : Prop :=
   on (xBin P .add 3 false true v7 (.int .i64 1)) fun x14 =>
   R v0 v1 v6 x14 w
theorem F87.k5_ok (Q : Value → World → Prop) (R : Value → Value → Value → Value → World → Prop) (ρ : Env) (w : World) (h : F87.k5 Q R (ρ 0) (ρ 1) (ρ 6) (ρ 7) w) : Sd P none false 36 (cR (cN 1 (cL (cL (cN 1 (cL (cN 2 (cB Try.f87)))))))) ρ w (thenQ (fun ρ w => R (ρ 0) (ρ 1) (ρ 6) (ρ 7) w) (blkQ 0 (thenQ (fun ρ w => F87.k2 Q w) (retQ P [.tmp 4, .tmp 5] Q)))) :=
  pLeaf (by kernel_rfl) h
def F87.k6 (Q : Value → World → Prop) (R : Value → Value → Value → Value → World → Prop) (v0 : Value) (v1 : Value) (v6 : Value) (v7 : Value) (v30 : Value) (w : World) : Prop :=
   cnd v30
   (on (xIA P 157 v6 v7) fun x33 =>
   on (xFA P 160 x33 2) fun x34 =>
   on (xLoad P w 9 x34) fun x35 =>
   Q (.tuple #[x35, (.bool true)]) w)
   (F87.k5 Q R v0 v1 v6 v7 w)
theorem F87.k6_ok (Q : Value → World → Prop) (R : Value → Value → Value → Value → World → Prop) (ρ : Env) (w : World) (h : F87.k6 Q R (ρ 0) (ρ 1) (ρ 6) (ρ 7) (ρ 30) w) : Sd P none false 36 (cN 1 (cL (cL (cN 1 (cL (cL (cN 1 (cL (cN 2 (cB Try.f87)))))))))) ρ w (blkQ 1 (thenQ (fun ρ w => F87.k5 Q R (ρ 0) (ρ 1) (ρ 6) (ρ 7) w) (thenQ (fun ρ w => R (ρ 0) (ρ 1) (ρ 6) (ρ 7) w) (blkQ 0 (thenQ (fun ρ w => F87.k2 Q w) (retQ P [.tmp 4, .tmp 5] Q)))))) :=
  pLeaf (by kernel_rfl) h
def F87.k4 (Q : Value → World → Prop) (R : Value → Value → Value → Value → World → Prop) (v0 : Value) (v1 : Value) (v6 : Value) (v7 : Value) (w : World) : Prop :=
   on (xIA P 157 v6 v7) fun x17 =>
   on (xFA P 160 x17 0) fun x18 =>
   on (xLoad P w 5 x18) fun x19 =>
   on (xBin P .eql 5 false false x19 v0) fun x21 =>
   cnd x21
   (on (xIA P 157 v6 v7) fun x25 =>
   on (xFA P 160 x25 1) fun x26 =>
   on (xLoad P w 22 x26) fun x27 =>
   on (xBin P .eql 22 false false x27 v1) fun x29 =>
   F87.k6 Q R v0 v1 v6 v7 x29 w)
   (F87.k6 Q R v0 v1 v6 v7 (.bool false) w)
theorem F87.k4_ok (Q : Value → World → Prop) (R : Value → Value → Value → Value → World → Prop) (ρ : Env) (w : World) (h : F87.k4 Q R (ρ 0) (ρ 1) (ρ 6) (ρ 7) w) : Sd P none false 36 (cN 1 (cL (cL (cN 1 (cL (cN 2 (cB Try.f87))))))) ρ w (thenQ (fun ρ w => R (ρ 0) (ρ 1) (ρ 6) (ρ 7) w) (blkQ 0 (thenQ (fun ρ w => F87.k2 Q w) (retQ P [.tmp 4, .tmp 5] Q)))) :=
  pSeq (by kernel_rfl) (fun ρ w => F87.k5 Q R (ρ 0) (ρ 1) (ρ 6) (ρ 7) w) (fun ρ w h => F87.k5_ok Q R ρ w h) (pBlock 1 (by kernel_rfl) (pRow 1 (by kernel_rfl) (fun ρ w => F87.k6 Q R (ρ 0) (ρ 1) (ρ 6) (ρ 7) (ρ 30) w) (by kernel_rfl) (fun ρ w h => F87.k6_ok Q R ρ w h) h))
def F87.l1.b (Q : Value → World → Prop) (R : Value → Value → Value → Value → World → Prop) (v0 : Value) (v1 : Value) (v6 : Value) (v7 : Value) (w : World) : Prop :=
   on (xLen P w #[157] #[v6]) fun x11 =>
   on (xBin P .lss 3 false false v7 x11) fun x12 =>
   cnd x12
   (F87.k4 Q R v0 v1 v6 v7 w)
   (F87.k2 Q w)
theorem F87.l1.b_ok (Q : Value → World → Prop) (R : Value → Value → Value → Value → World → Prop) (ρ : Env) (w : World) (h : F87.l1.b Q R (ρ 0) (ρ 1) (ρ 6) (ρ 7) w) : Sd P none false 36 (cL (cL (cN 1 (cL (cN 2 (cB Try.f87)))))) ρ w (thenQ (fun ρ w => R (ρ 0) (ρ 1) (ρ 6) (ρ 7) w) (blkQ 0 (thenQ (fun ρ w => F87.k2 Q w) (retQ P [.tmp 4, .tmp 5] Q)))) :=
  pRow 1 (by kernel_rfl) (fun ρ w => F87.k4 Q R (ρ 0) (ρ 1) (ρ 6) (ρ 7) w) (by kernel_rfl) (fun ρ w h => F87.k4_ok Q R ρ w h) h
def F87.l1 (Q : Value → World → Prop) : Nat → Value → Value → Value → Value → World → Prop
 | 0, _, _, _, _, _ => False
 | n + 1, v0, v1, v6, v7, w => F87.l1.b Q (F87.l1 Q n) v0 v1 v6 v7 w
theorem F87.l1_ok (Q : Value → World → Prop) (ρ : Env) (w : World) (h : ∃ n, F87.l1 Q n (ρ 0) (ρ 1) (ρ 6) (ρ 7) w) : Sd P none false 36 (cL (cN 1 (cL (cN 2 (cB Try.f87))))) ρ w (blkQ 0 (thenQ (fun ρ w => F87.k2 Q w) (retQ P [.tmp 4, .tmp 5] Q))) :=
  pLoop (by kernel_rfl) (fun n ρ w => F87.l1 Q n (ρ 0) (ρ 1) (ρ 6) (ρ 7) w) (fun _ _ h => h) (fun n ρ w h => F87.l1.b_ok Q (F87.l1 Q n) ρ w h) h
def F87.k3 (Q : Value → World → Prop) (v0 : Value) (v1 : Value) (v6 : Value) (v7 : Value) (w : World) : Prop :=
   ∃ n, F87.l1 Q n v0 v1 v6 v7 w
theorem F87.k3_ok (Q : Value → World → Prop) (ρ : Env) (w : World) (h : F87.k3 Q (ρ 0) (ρ 1) (ρ 6) (ρ 7) w) : Sd P none false 36 (cN 1 (cL (cN 2 (cB Try.f87)))) ρ w (thenQ (fun ρ w => F87.k2 Q w) (retQ P [.tmp 4, .tmp 5] Q)) :=
  pBlock 0 (by kernel_rfl) (F87.l1_ok Q _ _ h)
def F87.k1 (Q : Value → World → Prop) (v0 : Value) (v1 : Value) (v6 : Value) (w : World) : Prop :=
   F87.k3 Q v0 v1 v6 (.int .i64 0) w
theorem F87.k1_ok (Q : Value → World → Prop) (ρ : Env) (w : World) (h : F87.k1 Q (ρ 0) (ρ 1) (ρ 6) w) : Sd P none false 36 (cN 2 (cB Try.f87)) ρ w (retQ P [.tmp 4, .tmp 5] Q) :=
  pSeq (by kernel_rfl) (fun ρ w => F87.k2 Q w) (fun ρ w h => F87.k2_ok Q ρ w h) (pRow 1 (by kernel_rfl) (fun ρ w => F87.k3 Q (ρ 0) (ρ 1) (ρ 6) (ρ 7) w) (by kernel_rfl) (fun ρ w h => F87.k3_ok Q ρ w h) h)
def F87 (a0 a1 : Value) (w : World) (Q : Value → World → Prop) : Prop :=
   Cx P 101 #[] w fun x8 w =>
   F87.k1 Q a0 a1 x8 w
theorem F87_ok (a0 a1 : Value) (w : World) (Q : Value → World → Prop) (h : F87 a0 a1 w Q) : Cx P 87 #[a0, a1] w Q :=
  pFun false Try.f87 (by kernel_rfl) (by kernel_rfl) (by kernel_rfl) (pRow 2 (by kernel_rfl) (fun ρ w => F87.k1 Q (ρ 0) (ρ 1) (ρ 6) w) (by kernel_rfl) (fun ρ w h => F87.k1_ok Q ρ w h) h)

/- 88 intaglio/frame.counted -/
def F88.k2 (Q : Value → World → Prop) (v3 : Value) (v4 : Value) (w : World) : Prop :=
   on (xBuild P 31 #[]) fun x34 =>
   eStore P 31 v3 x34 w fun w =>
   on (xRes P w 31 v3) fun x901 =>
   Q (.tuple #[v4, x901]) w
theorem F88.k2_ok (Q : Value → World → Prop) (ρ : Env) (w : World) (h : F88.k2 Q (ρ 3) (ρ 4) w) : Sd P none false 35 (cR (cN 2 (cB Try.f88))) ρ w (retQ P [.tmp 2, .cell 3 31] Q) :=
  pLeaf (by kernel_rfl) h
def F88.l1 (Q : Value → World → Prop) : Nat → Value → Value → Value → Value → Value → World → Prop
 | 0, _, _, _, _, _, _ => False
 | n + 1, v3, v4, v7, v8, v9, w => on (xBin P .lss 3 false false v9 v8) fun x10 =>
   cnd x10
   (on (xIA P 91 v7 v9) fun x12 =>
   on (xLoad P w 115 x12) fun x13 =>
   eAlloc P 115 w fun x6 w =>
   eStore P 115 x6 x13 w fun w =>
   on (xFA P 115 x6 1) fun x15 =>
   on (xLoad P w 113 x15) fun x16 =>
   on (xLen P w #[113] #[x16]) fun x17 =>
   on (xBin P .add 3 true false (.int .i64 1) x17) fun x18 =>
   on (xBin P .add 3 false false v4 x18) fun x19 =>
   on (xFA P 115 x6 1) fun x21 =>
   on (xLoad P w 113 x21) fun x22 =>
   on (xLen P w #[113] #[x22]) fun x23 =>
   on (xBin P .geq 3 false true x23 (.int .i64 65535)) fun x24 =>
   cnd x24
   (on (xBuild P 31 #[(0, (.int .i64 25)), (1, v9)]) fun x26 =>
   eStore P 31 v3 x26 w fun w =>
   on (xRes P w 31 v3) fun x901 =>
   Q (.tuple #[(.int .i64 0), x901]) w)
   (on (xBin P .gtr 3 false true x19 (.int .i64 1048576)) fun x29 =>
   cnd x29
   (on (xBuild P 31 #[(0, (.int .i64 4)), (1, v9)]) fun x31 =>
   eStore P 31 v3 x31 w fun w =>
   on (xRes P w 31 v3) fun x901_2 =>
   Q (.tuple #[(.int .i64 0), x901_2]) w)
   (on (xBin P .add 3 false true v9 (.int .i64 1)) fun x32 =>
   F88.l1 Q n v3 x19 v7 v8 x32 w)))
   (F88.k2 Q v3 v4 w)
theorem F88.l1_ok (Q : Value → World → Prop) (ρ : Env) (w : World) (h : ∃ n, F88.l1 Q n (ρ 3) (ρ 4) (ρ 7) (ρ 8) (ρ 9) w) : Sd P none false 35 (cL (cN 1 (cL (cN 2 (cB Try.f88))))) ρ w (blkQ 0 (thenQ (fun ρ w => F88.k2 Q (ρ 3) (ρ 4) w) (retQ P [.tmp 2, .cell 3 31] Q))) :=
  pLoop (by kernel_rfl) (fun n ρ w => F88.l1 Q n (ρ 3) (ρ 4) (ρ 7) (ρ 8) (ρ 9) w) (fun _ _ h => h) (fun n ρ w h => pLeaf (S := F88.l1 Q (n + 1) (ρ 3) (ρ 4) (ρ 7) (ρ 8) (ρ 9) w) (by kernel_rfl) h) h
def F88.k3 (Q : Value → World → Prop) (v3 : Value) (v4 : Value) (v7 : Value) (v8 : Value) (v9 : Value) (w : World) : Prop :=
   ∃ n, F88.l1 Q n v3 v4 v7 v8 v9 w
theorem F88.k3_ok (Q : Value → World → Prop) (ρ : Env) (w : World) (h : F88.k3 Q (ρ 3) (ρ 4) (ρ 7) (ρ 8) (ρ 9) w) : Sd P none false 35 (cN 1 (cL (cN 2 (cB Try.f88)))) ρ w (thenQ (fun ρ w => F88.k2 Q (ρ 3) (ρ 4) w) (retQ P [.tmp 2, .cell 3 31] Q)) :=
  pBlock 0 (by kernel_rfl) (F88.l1_ok Q _ _ h)
def F88.k1 (Q : Value → World → Prop) (v0 : Value) (v3 : Value) (v4 : Value) (w : World) : Prop :=
   on (xLen P w #[91] #[v0]) fun x8 =>
   F88.k3 Q v3 v4 v0 x8 (.int .i64 0) w
theorem F88.k1_ok (Q : Value → World → Prop) (ρ : Env) (w : World) (h : F88.k1 Q (ρ 0) (ρ 3) (ρ 4) w) : Sd P none false 35 (cN 2 (cB Try.f88)) ρ w (retQ P [.tmp 2, .cell 3 31] Q) :=
  pSeq (by kernel_rfl) (fun ρ w => F88.k2 Q (ρ 3) (ρ 4) w) (fun ρ w h => F88.k2_ok Q ρ w h) (pRow 1 (by kernel_rfl) (fun ρ w => F88.k3 Q (ρ 3) (ρ 4) (ρ 7) (ρ 8) (ρ 9) w) (by kernel_rfl) (fun ρ w h => F88.k3_ok Q ρ w h) h)
def F88 (a0 : Value) (w : World) (Q : Value → World → Prop) : Prop :=
   eAlloc P 31 w fun x3 w =>
   F88.k1 Q a0 x3 (.int .i64 5) w
theorem F88_ok (a0 : Value) (w : World) (Q : Value → World → Prop) (h : F88 a0 w Q) : Cx P 88 #[a0] w Q :=
  pFun false Try.f88 (by kernel_rfl) (by kernel_rfl) (by kernel_rfl) (pRow 2 (by kernel_rfl) (fun ρ w => F88.k1 Q (ρ 0) (ρ 3) (ρ 4) w) (by kernel_rfl) (fun ρ w h => F88.k1_ok Q ρ w h) h)

/- 89 intaglio/grammar.Of -/
def F89.k2 (Q : Value → World → Prop) (v2 : Value) (v5 : Value) (v6 : Value) (w : World) : Prop :=
   on (xIA P 162 v5 (.int .i64 4)) fun x48 =>
   on (xLoad P w 9 x48) fun x49 =>
   on (xBin P .neq 9 false true x49 (.string ⟨#[]⟩)) fun x50 =>
   cnd x50
   (on (xIA P 162 v5 (.int .i64 4)) fun x51 =>
   on (xLoad P w 9 x51) fun x52 =>
   on (xIx P 9 x52 (.int .i64 0)) fun x53 =>
   on (xBin P .sub 5 false true x53 (.int .u8 48)) fun x54 =>
   on (xConv P 5 3 x54) fun x55 =>
   on (xFA P 77 v6 6) fun x56 =>
   eStore P 3 x56 x55 w fun w =>
   on (xLoad P w 77 v6) fun x57 =>
   eStore P 77 v2 x57 w fun w =>
   on (xRes P w 77 v2) fun x900 =>
   Q (.tuple #[x900, (.bool true)]) w)
   (on (xLoad P w 77 v6) fun x57_2 =>
   eStore P 77 v2 x57_2 w fun w =>
   on (xRes P w 77 v2) fun x900_2 =>
   Q (.tuple #[x900_2, (.bool true)]) w)
theorem F89.k2_ok (Q : Value → World → Prop) (ρ : Env) (w : World) (h : F89.k2 Q (ρ 2) (ρ 5) (ρ 6) w) : Sd P none false 58 (cR (cN 5 (cB Try.f89))) ρ w (retQ P [.cell 2 77, .tmp 3] Q) :=
  pLeaf (by kernel_rfl) h
def F89.k5 (Q : Value → World → Prop) (R : Value → Value → Value → Value → World → Prop) (v2 : Value) (v5 : Value) (v6 : Value) (v8 : Value) (v30 : Value) (w : World) : Prop :=
   on (xFA P 77 v6 3) fun x41 =>
   on (xLoad P w 4 x41) fun x42 =>
   cnd x42
   (on (xFA P 77 v6 3) fun x47 =>
   eStore P 4 x47 (.bool true) w fun w =>
   R v2 v5 v6 v30 w)
   (on (xBin P .eql 21 false true v8 (.int .i32 82)) fun x45 =>
   on (xFA P 77 v6 3) fun x47_2 =>
   eStore P 4 x47_2 x45 w fun w =>
   R v2 v5 v6 v30 w)
theorem F89.k5_ok (Q : Value → World → Prop) (R : Value → Value → Value → Value → World → Prop) (ρ : Env) (w : World) (h : F89.k5 Q R (ρ 2) (ρ 5) (ρ 6) (ρ 8) (ρ 30) w) : Sd P none false 58 (cN 2 (cL (cN 2 (cL (cL (cN 1 (cL (cN 5 (cB Try.f89))))))))) ρ w (blkQ 1 (thenQ (fun ρ w => R (ρ 2) (ρ 5) (ρ 6) (ρ 30) w) (blkQ 0 (thenQ (fun ρ w => F89.k2 Q (ρ 2) (ρ 5) (ρ 6) w) (retQ P [.cell 2 77, .tmp 3] Q))))) :=
  pLeaf (by kernel_rfl) h
def F89.k4 (Q : Value → World → Prop) (R : Value → Value → Value → Value → World → Prop) (v2 : Value) (v5 : Value) (v6 : Value) (v30 : Value) (v31 : Value) (w : World) : Prop :=
   on (xEx P v31 2) fun x33 =>
   on (xFA P 77 v6 2) fun x34 =>
   on (xLoad P w 4 x34) fun x35 =>
   cnd x35
   (on (xFA P 77 v6 2) fun x40 =>
   eStore P 4 x40 (.bool true) w fun w =>
   F89.k5 Q R v2 v5 v6 x33 v30 w)
   (on (xBin P .eql 21 false true x33 (.int .i32 84)) fun x38 =>
   on (xFA P 77 v6 2) fun x40_2 =>
   eStore P 4 x40_2 x38 w fun w =>
   F89.k5 Q R v2 v5 v6 x33 v30 w)
theorem F89.k4_ok (Q : Value → World → Prop) (R : Value → Value → Value → Value → World → Prop) (ρ : Env) (w : World) (h : F89.k4 Q R (ρ 2) (ρ 5) (ρ 6) (ρ 30) (ρ 31) w) : Sd P none false 58 (cN 2 (cL (cL (cN 1 (cL (cN 5 (cB Try.f89))))))) ρ w (thenQ (fun ρ w => R (ρ 2) (ρ 5) (ρ 6) (ρ 30) w) (blkQ 0 (thenQ (fun ρ w => F89.k2 Q (ρ 2) (ρ 5) (ρ 6) w) (retQ P [.cell 2 77, .tmp 3] Q)))) :=
  pBlock 1 (by kernel_rfl) (pRow 2 (by kernel_rfl) (fun ρ w => F89.k5 Q R (ρ 2) (ρ 5) (ρ 6) (ρ 8) (ρ 30) w) (by kernel_rfl) (fun ρ w h => F89.k5_ok Q R ρ w h) h)
def F89.l1.b (Q : Value → World → Prop) (R : Value → Value → Value → Value → World → Prop) (v2 : Value) (v5 : Value) (v6 : Value) (v30 : Value) (w : World) : Prop :=
   eNext P v30 true w fun x31 w =>
   on (xEx P x31 0) fun x32 =>
   cnd x32
   (F89.k4 Q R v2 v5 v6 v30 x31 w)
   (F89.k2 Q v2 v5 v6 w)
theorem F89.l1.b_ok (Q : Value → World → Prop) (R : Value → Value → Value → Value → World → Prop) (ρ : Env) (w : World) (h : F89.l1.b Q R (ρ 2) (ρ 5) (ρ 6) (ρ 30) w) : Sd P none false 58 (cL (cL (cN 1 (cL (cN 5 (cB Try.f89)))))) ρ w (thenQ (fun ρ w => R (ρ 2) (ρ 5) (ρ 6) (ρ 30) w) (blkQ 0 (thenQ (fun ρ w => F89.k2 Q (ρ 2) (ρ 5) (ρ 6) w) (retQ P [.cell 2 77, .tmp 3] Q)))) :=
  pRow 2 (by kernel_rfl) (fun ρ w => F89.k4 Q R (ρ 2) (ρ 5) (ρ 6) (ρ 30) (ρ 31) w) (by kernel_rfl) (fun ρ w h => F89.k4_ok Q R ρ w h) h
def F89.l1 (Q : Value → World → Prop) : Nat → Value → Value → Value → Value → World → Prop
 | 0, _, _, _, _, _ => False
 | n + 1, v2, v5, v6, v30, w => F89.l1.b Q (F89.l1 Q n) v2 v5 v6 v30 w
theorem F89.l1_ok (Q : Value → World → Prop) (ρ : Env) (w : World) (h : ∃ n, F89.l1 Q n (ρ 2) (ρ 5) (ρ 6) (ρ 30) w) : Sd P none false 58 (cL (cN 1 (cL (cN 5 (cB Try.f89))))) ρ w (blkQ 0 (thenQ (fun ρ w => F89.k2 Q (ρ 2) (ρ 5) (ρ 6) w) (retQ P [.cell 2 77, .tmp 3] Q))) :=
  pLoop (by kernel_rfl) (fun n ρ w => F89.l1 Q n (ρ 2) (ρ 5) (ρ 6) (ρ 30) w) (fun _ _ h => h) (fun n ρ w h => F89.l1.b_ok Q (F89.l1 Q n) ρ w h) h
def F89.k3 (Q : Value → World → Prop) (v2 : Value) (v5 : Value) (v6 : Value) (v30 : Value) (w : World) : Prop :=
   ∃ n, F89.l1 Q n v2 v5 v6 v30 w
theorem F89.k3_ok (Q : Value → World → Prop) (ρ : Env) (w : World) (h : F89.k3 Q (ρ 2) (ρ 5) (ρ 6) (ρ 30) w) : Sd P none false 58 (cN 1 (cL (cN 5 (cB Try.f89)))) ρ w (thenQ (fun ρ w => F89.k2 Q (ρ 2) (ρ 5) (ρ 6) w) (retQ P [.cell 2 77, .tmp 3] Q)) :=
  pBlock 0 (by kernel_rfl) (F89.l1_ok Q _ _ h)
def F89.k1 (Q : Value → World → Prop) (v2 : Value) (v5 : Value) (v6 : Value) (w : World) : Prop :=
   on (xIA P 162 v5 (.int .i64 1)) fun x28 =>
   on (xLoad P w 9 x28) fun x29 =>
   eRange P 9 x29 w fun x30 w =>
   F89.k3 Q v2 v5 v6 x30 w
theorem F89.k1_ok (Q : Value → World → Prop) (ρ : Env) (w : World) (h : F89.k1 Q (ρ 2) (ρ 5) (ρ 6) w) : Sd P none false 58 (cN 5 (cB Try.f89)) ρ w (retQ P [.cell 2 77, .tmp 3] Q) :=
  pSeq (by kernel_rfl) (fun ρ w => F89.k2 Q (ρ 2) (ρ 5) (ρ 6) w) (fun ρ w h => F89.k2_ok Q ρ w h) (pRow 1 (by kernel_rfl) (fun ρ w => F89.k3 Q (ρ 2) (ρ 5) (ρ 6) (ρ 30) w) (by kernel_rfl) (fun ρ w h => F89.k3_ok Q ρ w h) h)
def F89 (a0 : Value) (w : World) (Q : Value → World → Prop) : Prop :=
   eAlloc P 77 w fun x2 w =>
   Cx P 102 #[a0] w fun x10 w =>
   on (xBin P .eql 9 false true x10 (.string ⟨#[]⟩)) fun x12 =>
   cnd x12
   (on (xBuild P 77 #[]) fun x13 =>
   eStore P 77 x2 x13 w fun w =>
   on (xRes P w 77 x2) fun x900 =>
   Q (.tuple #[x900, (.bool false)]) w)
   (Cx P 103 #[x10] w fun x15 w =>
   eAlloc P 162 w fun x5 w =>
   eStore P 162 x5 x15 w fun w =>
   Dr w fun w =>
   on (xIA P 162 x5 (.int .i64 0)) fun x17 =>
   on (xLoad P w 9 x17) fun x18 =>
   on (xIA P 162 x5 (.int .i64 2)) fun x19 =>
   on (xLoad P w 9 x19) fun x20 =>
   on (xIA P 162 x5 (.int .i64 3)) fun x21 =>
   on (xLoad P w 9 x21) fun x22 =>
   on (xIA P 162 x5 (.int .i64 5)) fun x23 =>
   on (xLoad P w 9 x23) fun x24 =>
   on (xIx P 9 x24 (.int .i64 0)) fun x25 =>
   on (xBin P .sub 5 false true x25 (.int .u8 48)) fun x26 =>
   on (xBuild P 77 #[(0, a0), (1, x18), (4, x20), (5, x22), (7, x26)]) fun x27 =>
   eAlloc P 77 w fun x6 w =>
   (xLoad P w 9 x23 = some x24) ∧ (xLoad P w 9 x21 = some x22) ∧ (xLoad P w 9 x19 = some x20) ∧ (xLoad P w 9 x17 = some x18) ∧ (eStore P 77 x6 x27 w fun w =>
   F89.k1 Q x2 x5 x6 w))
theorem F89_ok (a0 : Value) (w : World) (Q : Value → World → Prop) (h : F89 a0 w Q) : Cx P 89 #[a0] w Q :=
  pFun false Try.f89 (by kernel_rfl) (by kernel_rfl) (by kernel_rfl) (pRow 5 (by kernel_rfl) (fun ρ w => F89.k1 Q (ρ 2) (ρ 5) (ρ 6) w) (by kernel_rfl) (fun ρ w h => F89.k1_ok Q ρ w h) h)

/- 90 (*intaglio/code.writer).head -/
def F90 (a0 a1 a2 a3 : Value) (w : World) (Q : Value → World → Prop) : Prop :=
   on (xBin P .neq 22 false true a2 (.int .u32 0)) fun x12 =>
   on (xBin P .neq 4 false false a1 x12) fun x13 =>
   cnd x13
   (Q a3 w)
   (on (xUn P .not a1) fun x17 =>
   cnd x17
   (Q (.int .i64 0) w)
   (Cx P 104 #[a0, a2] w fun x20 w =>
   on (xNil a0) fun x23 =>
   on (xFA P 146 x23 1) fun x24 =>
   on (xLoad P w 22 x24) fun x25 =>
   Cx P 105 #[a2, x25] w fun x26 w =>
   Q x26 w))
theorem F90_ok (a0 a1 a2 a3 : Value) (w : World) (Q : Value → World → Prop) (h : F90 a0 a1 a2 a3 w Q) : Cx P 90 #[a0, a1, a2, a3] w Q :=
  pFun false Try.f90 (by kernel_rfl) (by kernel_rfl) (by kernel_rfl) (pLeaf (by kernel_rfl) h)

/- 91 (*intaglio/code.writer).arg -/
def F91.k2 (Q : Value → World → Prop) (v0 : Value) (v5 : Value) (v7 : Value) (w : World) : Prop :=
   on (xFA P 75 v5 1) fun x53 =>
   on (xLoad P w 22 x53) fun x54 =>
   Cx P 104 #[v0, x54] w fun x55 w =>
   on (xFA P 75 v5 0) fun x56 =>
   on (xLoad P w 5 x56) fun x57 =>
   on (xBin P .eql 5 false true x57 (.int .u8 1)) fun x59 =>
   cnd x59
   (Dr w fun w =>
   on (xFA P 75 v5 1) fun x60 =>
   on (xLoad P w 22 x60) fun x61 =>
   on (xNil v0) fun x63 =>
   on (xFA P 146 x63 1) fun x64 =>
   on (xLoad P w 22 x64) fun x65 =>
   Cx P 105 #[x61, x65] w fun x66 w =>
   Q x66 w)
   (on (xBin P .eql 5 false true x57 (.int .u8 4)) fun x68 =>
   cnd x68
   (on (xFA P 75 v5 1) fun x70 =>
   on (xLoad P w 22 x70) fun x71 =>
   Cx P 109 #[v7, x71] w fun x72 w =>
   Q x72 w)
   (Q (.int .i64 0) w))
theorem F91.k2_ok (Q : Value → World → Prop) (ρ : Env) (w : World) (h : F91.k2 Q (ρ 0) (ρ 5) (ρ 7) w) : Sd P none false 73 (cR (cN 3 (cB Try.f91))) ρ w (retQ P [.tmp 6] Q) :=
  pLeaf (by kernel_rfl) h
def F91.k3 (Q : Value → World → Prop) (v0 : Value) (v5 : Value) (v7 : Value) (v8 : Value) (v19 : Value) (w : World) : Prop :=
   cnd v19
   (Q (.int .i64 42) w)
   (cnd v8
   (on (xFA P 75 v5 2) fun x49 =>
   on (xLoad P w 9 x49) fun x50 =>
   Cx P 108 #[v0, x50] w fun x51 w =>
   Q x51 w)
   (F91.k2 Q v0 v5 v7 w))
theorem F91.k3_ok (Q : Value → World → Prop) (ρ : Env) (w : World) (h : F91.k3 Q (ρ 0) (ρ 5) (ρ 7) (ρ 8) (ρ 19) w) : Sd P none false 73 (cN 1 (cL (cL (cN 3 (cB Try.f91))))) ρ w (blkQ 0 (thenQ (fun ρ w => F91.k2 Q (ρ 0) (ρ 5) (ρ 7) w) (retQ P [.tmp 6] Q))) :=
  pLeaf (by kernel_rfl) h
def F91.k1 (Q : Value → World → Prop) (v0 : Value) (v5 : Value) (v7 : Value) (v8 : Value) (w : World) : Prop :=
   Dr w fun w =>
   on (xBin P .eql 5 false true v7 (.int .u8 0)) fun x21 =>
   cnd x21
   (F91.k3 Q v0 v5 v7 v8 (.bool true) w)
   (on (xFA P 75 v5 0) fun x23 =>
   on (xLoad P w 5 x23) fun x24 =>
   Cx P 107 #[v7] w fun x26 w =>
   (xLoad P w 5 x23 = some x24) ∧ (on (xBin P .neq 5 false false x24 x26) fun x27 =>
   cnd x27
   (F91.k3 Q v0 v5 v7 v8 (.bool true) w)
   (cnd v8
   (on (xFA P 75 v5 1) fun x32 =>
   on (xLoad P w 22 x32) fun x33 =>
   on (xBin P .neq 22 false true x33 (.int .u32 0)) fun x34 =>
   cnd x34
   (F91.k3 Q v0 v5 v7 v8 (.bool true) w)
   (on (xUn P .not v8) fun x39 =>
   cnd x39
   (on (xFA P 75 v5 2) fun x41 =>
   on (xLoad P w 9 x41) fun x42 =>
   on (xBin P .neq 9 false true x42 (.string ⟨#[]⟩)) fun x43 =>
   F91.k3 Q v0 v5 v7 v8 x43 w)
   (F91.k3 Q v0 v5 v7 v8 (.bool false) w)))
   (on (xUn P .not v8) fun x39_2 =>
   cnd x39_2
   (on (xFA P 75 v5 2) fun x41_2 =>
   on (xLoad P w 9 x41_2) fun x42_2 =>
   on (xBin P .neq 9 false true x42_2 (.string ⟨#[]⟩)) fun x43_2 =>
   F91.k3 Q v0 v5 v7 v8 x43_2 w)
   (F91.k3 Q v0 v5 v7 v8 (.bool false) w)))))
theorem F91.k1_ok (Q : Value → World → Prop) (ρ : Env) (w : World) (h : F91.k1 Q (ρ 0) (ρ 5) (ρ 7) (ρ 8) w) : Sd P none false 73 (cN 3 (cB Try.f91)) ρ w (retQ P [.tmp 6] Q) :=
  pSeq (by kernel_rfl) (fun ρ w => F91.k2 Q (ρ 0) (ρ 5) (ρ 7) w) (fun ρ w h => F91.k2_ok Q ρ w h) (pBlock 0 (by kernel_rfl) (pRow 1 (by kernel_rfl) (fun ρ w => F91.k3 Q (ρ 0) (ρ 5) (ρ 7) (ρ 8) (ρ 19) w) (by kernel_rfl) (fun ρ w h => F91.k3_ok Q ρ w h) h))
def F91 (a0 a1 a2 : Value) (w : World) (Q : Value → World → Prop) : Prop :=
   eBox P 75 a2 w fun x5 w =>
   on (xNil a0) fun x10 =>
   on (xFA P 146 x10 0) fun x11 =>
   on (xFA P 77 x11 0) fun x12 =>
   on (xLoad P w 50 x12) fun x13 =>
   Cx P 106 #[x13, a1] w fun x15 w =>
   on (xFA P 75 x5 0) fun x16 =>
   on (xLoad P w 5 x16) fun x17 =>
   on (xBin P .eql 5 false true x17 (.int .u8 3)) fun x18 =>
   F91.k1 Q a0 x5 x15 x18 w
theorem F91_ok (a0 a1 a2 : Value) (w : World) (Q : Value → World → Prop) (h : F91 a0 a1 a2 w Q) : Cx P 91 #[a0, a1, a2] w Q :=
  pFun false Try.f91 (by kernel_rfl) (by kernel_rfl) (by kernel_rfl) (pRow 3 (by kernel_rfl) (fun ρ w => F91.k1 Q (ρ 0) (ρ 5) (ρ 7) (ρ 8) w) (by kernel_rfl) (fun ρ w h => F91.k1_ok Q ρ w h) h)

/- 92 intaglio/code.whole -/
def F92.k2 (Q : Value → World → Prop) (v2 : Value) (v5 : Value) (w : World) : Prop :=
   on (xFA P 77 v2 0) fun x23 =>
   on (xLoad P w 50 x23) fun x24 =>
   Cx P 110 #[x24, v5] w fun x26 w =>
   on (xEx P x26 0) fun x27 =>
   on (xEx P x26 1) fun x28 =>
   on (xUn P .not x28) fun x30 =>
   cnd x30
   (Q (.int .i64 42) w)
   (Q (.int .i64 0) w)
theorem F92.k2_ok (Q : Value → World → Prop) (ρ : Env) (w : World) (h : F92.k2 Q (ρ 2) (ρ 5) w) : Sd P none false 31 (cR (cN 2 (cB Try.f92))) ρ w (retQ P [.tmp 4] Q) :=
  pLeaf (by kernel_rfl) h
def F92.l1 (Q : Value → World → Prop) : Nat → Value → Value → Value → Value → Value → World → Prop
 | 0, _, _, _, _, _, _ => False
 | n + 1, v2, v5, v10, v11, v12, w => on (xBin P .lss 3 false false v12 v11) fun x13 =>
   cnd x13
   (on (xIA P 51 v10 v12) fun x14 =>
   on (xLoad P w 75 x14) fun x15 =>
   eAlloc P 75 w fun x7 w =>
   eStore P 75 x7 x15 w fun w =>
   on (xFA P 75 x7 0) fun x17 =>
   on (xLoad P w 5 x17) fun x18 =>
   eBS P 168 1 #[(0, x18)] w fun x19 w =>
   eApp P #[168, 168] #[v5, x19] w fun x20 w =>
   on (xBin P .add 3 false true v12 (.int .i64 1)) fun x21 =>
   F92.l1 Q n v2 x20 v10 v11 x21 w)
   (F92.k2 Q v2 v5 w)
theorem F92.l1_ok (Q : Value → World → Prop) (ρ : Env) (w : World) (h : ∃ n, F92.l1 Q n (ρ 2) (ρ 5) (ρ 10) (ρ 11) (ρ 12) w) : Sd P none false 31 (cL (cN 1 (cL (cN 2 (cB Try.f92))))) ρ w (blkQ 0 (thenQ (fun ρ w => F92.k2 Q (ρ 2) (ρ 5) w) (retQ P [.tmp 4] Q))) :=
  pLoop (by kernel_rfl) (fun n ρ w => F92.l1 Q n (ρ 2) (ρ 5) (ρ 10) (ρ 11) (ρ 12) w) (fun _ _ h => h) (fun n ρ w h => pLeaf (S := F92.l1 Q (n + 1) (ρ 2) (ρ 5) (ρ 10) (ρ 11) (ρ 12) w) (by kernel_rfl) h) h
def F92.k3 (Q : Value → World → Prop) (v2 : Value) (v5 : Value) (v10 : Value) (v11 : Value) (v12 : Value) (w : World) : Prop :=
   ∃ n, F92.l1 Q n v2 v5 v10 v11 v12 w
theorem F92.k3_ok (Q : Value → World → Prop) (ρ : Env) (w : World) (h : F92.k3 Q (ρ 2) (ρ 5) (ρ 10) (ρ 11) (ρ 12) w) : Sd P none false 31 (cN 1 (cL (cN 2 (cB Try.f92)))) ρ w (thenQ (fun ρ w => F92.k2 Q (ρ 2) (ρ 5) w) (retQ P [.tmp 4] Q)) :=
  pBlock 0 (by kernel_rfl) (F92.l1_ok Q _ _ h)
def F92.k1 (Q : Value → World → Prop) (v1 : Value) (v2 : Value) (v5 : Value) (w : World) : Prop :=
   on (xLen P w #[51] #[v1]) fun x11 =>
   F92.k3 Q v2 v5 v1 x11 (.int .i64 0) w
theorem F92.k1_ok (Q : Value → World → Prop) (ρ : Env) (w : World) (h : F92.k1 Q (ρ 1) (ρ 2) (ρ 5) w) : Sd P none false 31 (cN 2 (cB Try.f92)) ρ w (retQ P [.tmp 4] Q) :=
  pSeq (by kernel_rfl) (fun ρ w => F92.k2 Q (ρ 2) (ρ 5) w) (fun ρ w h => F92.k2_ok Q ρ w h) (pRow 1 (by kernel_rfl) (fun ρ w => F92.k3 Q (ρ 2) (ρ 5) (ρ 10) (ρ 11) (ρ 12) w) (by kernel_rfl) (fun ρ w h => F92.k3_ok Q ρ w h) h)
def F92 (a0 a1 : Value) (w : World) (Q : Value → World → Prop) : Prop :=
   eBox P 77 a0 w fun x2 w =>
   F92.k1 Q a1 x2 (.slice none 0 0) w
theorem F92_ok (a0 a1 : Value) (w : World) (Q : Value → World → Prop) (h : F92 a0 a1 w Q) : Cx P 92 #[a0, a1] w Q :=
  pFun false Try.f92 (by kernel_rfl) (by kernel_rfl) (by kernel_rfl) (pRow 2 (by kernel_rfl) (fun ρ w => F92.k1 Q (ρ 1) (ρ 2) (ρ 5) w) (by kernel_rfl) (fun ρ w h => F92.k1_ok Q ρ w h) h)

/- 93 intaglio/layout.variable -/
def F93 (a0 : Value) (w : World) (Q : Value → World → Prop) : Prop :=
   eBox P 53 a0 w fun x1 w =>
   on (xFA P 53 x1 0) fun x3 =>
   on (xLoad P w 50 x3) fun x4 =>
   on (xBin P .eql 50 false true x4 (.int .u16 59)) fun x5 =>
   cnd x5
   (on (xFA P 53 x1 3) fun x7 =>
   on (xLoad P w 51 x7) fun x8 =>
   on (xLen P w #[51] #[x8]) fun x9 =>
   on (xBin P .gtr 3 false true x9 (.int .i64 0)) fun x10 =>
   cnd x10
   (on (xFA P 53 x1 3) fun x13 =>
   on (xLoad P w 51 x13) fun x14 =>
   on (xIA P 51 x14 (.int .i64 0)) fun x15 =>
   on (xFA P 75 x15 1) fun x16 =>
   on (xLoad P w 22 x16) fun x17 =>
   on (xBin P .eql 22 false true x17 (.int .u32 7)) fun x18 =>
   Q x18 w)
   (Q (.bool false) w))
   (Q (.bool false) w)
theorem F93_ok (a0 : Value) (w : World) (Q : Value → World → Prop) (h : F93 a0 w Q) : Cx P 93 #[a0] w Q :=
  pFun false Try.f93 (by kernel_rfl) (by kernel_rfl) (by kernel_rfl) (pLeaf (by kernel_rfl) h)

/- 94 intaglio/layout.Ends -/
def F94 (a0 : Value) (w : World) (Q : Value → World → Prop) : Prop :=
   on (xBin P .geq 50 false true a0 (.int .u16 249)) fun x4 =>
   cnd x4
   (on (xBin P .leq 50 false true a0 (.int .u16 255)) fun x7 =>
   Q x7 w)
   (Q (.bool false) w)
theorem F94_ok (a0 : Value) (w : World) (Q : Value → World → Prop) (h : F94 a0 w Q) : Cx P 94 #[a0] w Q :=
  pFun false Try.f94 (by kernel_rfl) (by kernel_rfl) (by kernel_rfl) (pLeaf (by kernel_rfl) h)

/- 101 intaglio/intaglioref03.Names -/
def F101 (w : World) (Q : Value → World → Prop) : Prop :=
   on (xBuild P 160 #[(0, (.int .u8 107)), (1, (.int .u32 0)), (2, (.string ⟨#[77, 97, 116, 114, 105, 120]⟩))]) fun x3 =>
   eBS P 157 1 #[(0, x3)] w fun x4 w =>
   eApp P #[157, 157] #[(.slice none 0 0), x4] w fun x5 w =>
   on (xBuild P 160 #[(0, (.int .u8 107)), (1, (.int .u32 1)), (2, (.string ⟨#[83, 104, 97, 100, 101, 114]⟩))]) fun x7 =>
   eBS P 157 1 #[(0, x7)] w fun x8 w =>
   eApp P #[157, 157] #[x5, x8] w fun x9 w =>
   on (xBuild P 160 #[(0, (.int .u8 97)), (1, (.int .u32 0)), (2, (.string ⟨#[76, 111, 103, 105, 99, 97, 108]⟩))]) fun x11 =>
   eBS P 157 1 #[(0, x11)] w fun x12 w =>
   eApp P #[157, 157] #[x9, x12] w fun x13 w =>
   on (xBuild P 160 #[(0, (.int .u8 109)), (1, (.int .u32 0)), (2, (.string ⟨#[83, 105, 109, 112, 108, 101]⟩))]) fun x15 =>
   eBS P 157 1 #[(0, x15)] w fun x16 w =>
   eApp P #[157, 157] #[x13, x16] w fun x17 w =>
   on (xBuild P 160 #[(0, (.int .u8 109)), (1, (.int .u32 1)), (2, (.string ⟨#[71, 76, 83, 76, 52, 53, 48]⟩))]) fun x19 =>
   eBS P 157 1 #[(0, x19)] w fun x20 w =>
   eApp P #[157, 157] #[x17, x20] w fun x21 w =>
   on (xBuild P 160 #[(0, (.int .u8 101)), (1, (.int .u32 0)), (2, (.string ⟨#[86, 101, 114, 116, 101, 120]⟩))]) fun x23 =>
   eBS P 157 1 #[(0, x23)] w fun x24 w =>
   eApp P #[157, 157] #[x21, x24] w fun x25 w =>
   on (xBuild P 160 #[(0, (.int .u8 101)), (1, (.int .u32 4)), (2, (.string ⟨#[70, 114, 97, 103, 109, 101, 110, 116]⟩))]) fun x27 =>
   eBS P 157 1 #[(0, x27)] w fun x28 w =>
   eApp P #[157, 157] #[x25, x28] w fun x29 w =>
   on (xBuild P 160 #[(0, (.int .u8 120)), (1, (.int .u32 7)), (2, (.string ⟨#[79, 114, 105, 103, 105, 110, 85, 112, 112, 101, 114, 76, 101, 102, 116]⟩))]) fun x31 =>
   eBS P 157 1 #[(0, x31)] w fun x32 w =>
   eApp P #[157, 157] #[x29, x32] w fun x33 w =>
   on (xBuild P 160 #[(0, (.int .u8 108)), (1, (.int .u32 0)), (2, (.string ⟨#[85, 110, 107, 110, 111, 119, 110]⟩))]) fun x35 =>
   eBS P 157 1 #[(0, x35)] w fun x36 w =>
   eApp P #[157, 157] #[x33, x36] w fun x37 w =>
   on (xBuild P 160 #[(0, (.int .u8 108)), (1, (.int .u32 1)), (2, (.string ⟨#[69, 83, 83, 76]⟩))]) fun x39 =>
   eBS P 157 1 #[(0, x39)] w fun x40 w =>
   eApp P #[157, 157] #[x37, x40] w fun x41 w =>
   on (xBuild P 160 #[(0, (.int .u8 108)), (1, (.int .u32 2)), (2, (.string ⟨#[71, 76, 83, 76]⟩))]) fun x43 =>
   eBS P 157 1 #[(0, x43)] w fun x44 w =>
   eApp P #[157, 157] #[x41, x44] w fun x45 w =>
   on (xBuild P 160 #[(0, (.int .u8 99)), (1, (.int .u32 1)), (2, (.string ⟨#[73, 110, 112, 117, 116]⟩))]) fun x47 =>
   eBS P 157 1 #[(0, x47)] w fun x48 w =>
   eApp P #[157, 157] #[x45, x48] w fun x49 w =>
   on (xBuild P 160 #[(0, (.int .u8 99)), (1, (.int .u32 3)), (2, (.string ⟨#[79, 117, 116, 112, 117, 116]⟩))]) fun x51 =>
   eBS P 157 1 #[(0, x51)] w fun x52 w =>
   eApp P #[157, 157] #[x49, x52] w fun x53 w =>
   on (xBuild P 160 #[(0, (.int .u8 99)), (1, (.int .u32 6)), (2, (.string ⟨#[80, 114, 105, 118, 97, 116, 101]⟩))]) fun x55 =>
   eBS P 157 1 #[(0, x55)] w fun x56 w =>
   eApp P #[157, 157] #[x53, x56] w fun x57 w =>
   on (xBuild P 160 #[(0, (.int .u8 99)), (1, (.int .u32 7)), (2, (.string ⟨#[70, 117, 110, 99, 116, 105, 111, 110]⟩))]) fun x59 =>
   eBS P 157 1 #[(0, x59)] w fun x60 w =>
   eApp P #[157, 157] #[x57, x60] w fun x61 w =>
   on (xBuild P 160 #[(0, (.int .u8 100)), (1, (.int .u32 0)), (2, (.string ⟨#[82, 101, 108, 97, 120, 101, 100, 80, 114, 101, 99, 105, 115, 105, 111, 110]⟩))]) fun x63 =>
   eBS P 157 1 #[(0, x63)] w fun x64 w =>
   eApp P #[157, 157] #[x61, x64] w fun x65 w =>
   on (xBuild P 160 #[(0, (.int .u8 100)), (1, (.int .u32 11)), (2, (.string ⟨#[66, 117, 105, 108, 116, 73, 110]⟩))]) fun x67 =>
   eBS P 157 1 #[(0, x67)] w fun x68 w =>
   eApp P #[157, 157] #[x65, x68] w fun x69 w =>
   on (xBuild P 160 #[(0, (.int .u8 100)), (1, (.int .u32 14)), (2, (.string ⟨#[70, 108, 97, 116]⟩))]) fun x71 =>
   eBS P 157 1 #[(0, x71)] w fun x72 w =>
   eApp P #[157, 157] #[x69, x72] w fun x73 w =>
   on (xBuild P 160 #[(0, (.int .u8 100)), (1, (.int .u32 30)), (2, (.string ⟨#[76, 111, 99, 97, 116, 105, 111, 110]⟩))]) fun x75 =>
   eBS P 157 1 #[(0, x75)] w fun x76 w =>
   eApp P #[157, 157] #[x73, x76] w fun x77 w =>
   on (xBuild P 160 #[(0, (.int .u8 102)), (1, (.int .u32 0)), (2, (.string ⟨#[78, 111, 110, 101]⟩))]) fun x79 =>
   eBS P 157 1 #[(0, x79)] w fun x80 w =>
   eApp P #[157, 157] #[x77, x80] w fun x81 w =>
   on (xBuild P 160 #[(0, (.int .u8 102)), (1, (.int .u32 1)), (2, (.string ⟨#[73, 110, 108, 105, 110, 101]⟩))]) fun x83 =>
   eBS P 157 1 #[(0, x83)] w fun x84 w =>
   eApp P #[157, 157] #[x81, x84] w fun x85 w =>
   on (xBuild P 160 #[(0, (.int .u8 102)), (1, (.int .u32 2)), (2, (.string ⟨#[68, 111, 110, 116, 73, 110, 108, 105, 110, 101]⟩))]) fun x87 =>
   eBS P 157 1 #[(0, x87)] w fun x88 w =>
   eApp P #[157, 157] #[x85, x88] w fun x89 w =>
   on (xBuild P 160 #[(0, (.int .u8 102)), (1, (.int .u32 4)), (2, (.string ⟨#[80, 117, 114, 101]⟩))]) fun x91 =>
   eBS P 157 1 #[(0, x91)] w fun x92 w =>
   eApp P #[157, 157] #[x89, x92] w fun x93 w =>
   on (xBuild P 160 #[(0, (.int .u8 102)), (1, (.int .u32 8)), (2, (.string ⟨#[67, 111, 110, 115, 116]⟩))]) fun x95 =>
   eBS P 157 1 #[(0, x95)] w fun x96 w =>
   eApp P #[157, 157] #[x93, x96] w fun x97 w =>
   on (xBuild P 160 #[(0, (.int .u8 104)), (1, (.int .u32 0)), (2, (.string ⟨#[78, 111, 110, 101]⟩))]) fun x99 =>
   eBS P 157 1 #[(0, x99)] w fun x100 w =>
   eApp P #[157, 157] #[x97, x100] w fun x101 w =>
   on (xBuild P 160 #[(0, (.int .u8 104)), (1, (.int .u32 1)), (2, (.string ⟨#[70, 108, 97, 116, 116, 101, 110]⟩))]) fun x103 =>
   eBS P 157 1 #[(0, x103)] w fun x104 w =>
   eApp P #[157, 157] #[x101, x104] w fun x105 w =>
   on (xBuild P 160 #[(0, (.int .u8 104)), (1, (.int .u32 2)), (2, (.string ⟨#[68, 111, 110, 116, 70, 108, 97, 116, 116, 101, 110]⟩))]) fun x107 =>
   eBS P 157 1 #[(0, x107)] w fun x108 w =>
   eApp P #[157, 157] #[x105, x108] w fun x109 w =>
   on (xBuild P 160 #[(0, (.int .u8 103)), (1, (.int .u32 0)), (2, (.string ⟨#[78, 111, 110, 101]⟩))]) fun x111 =>
   eBS P 157 1 #[(0, x111)] w fun x112 w =>
   eApp P #[157, 157] #[x109, x112] w fun x113 w =>
   on (xBuild P 160 #[(0, (.int .u8 103)), (1, (.int .u32 1)), (2, (.string ⟨#[85, 110, 114, 111, 108, 108]⟩))]) fun x115 =>
   eBS P 157 1 #[(0, x115)] w fun x116 w =>
   eApp P #[157, 157] #[x113, x116] w fun x117 w =>
   on (xBuild P 160 #[(0, (.int .u8 103)), (1, (.int .u32 2)), (2, (.string ⟨#[68, 111, 110, 116, 85, 110, 114, 111, 108, 108]⟩))]) fun x119 =>
   eBS P 157 1 #[(0, x119)] w fun x120 w =>
   eApp P #[157, 157] #[x117, x120] w fun x121 w =>
   Q x121 w
theorem F101_ok (w : World) (Q : Value → World → Prop) (h : F101  w Q) : Cx P 101 #[] w Q :=
  pFun false Try.f101 (by kernel_rfl) (by kernel_rfl) (by kernel_rfl) (pLeaf (by kernel_rfl) h)

/- 102 intaglio/grammar.row -/
def F102 (a0 : Value) (w : World) (Q : Value → World → Prop) : Prop :=
   on (xBin P .leq 50 false true a0 (.int .u16 71)) fun x5 =>
   cnd x5
   (Cx P 112 #[a0] w fun x7 w =>
   Q x7 w)
   (on (xBin P .leq 50 false true a0 (.int .u16 171)) fun x10 =>
   cnd x10
   (Cx P 113 #[a0] w fun x12 w =>
   Q x12 w)
   (Cx P 114 #[a0] w fun x14 w =>
   Q x14 w))
theorem F102_ok (a0 : Value) (w : World) (Q : Value → World → Prop) (h : F102 a0 w Q) : Cx P 102 #[a0] w Q :=
  pFun false Try.f102 (by kernel_rfl) (by kernel_rfl) (by kernel_rfl) (pLeaf (by kernel_rfl) h)

/- 103 intaglio/grammar.fields -/
def F103.k2 (Q : Value → World → Prop) (v2 : Value) (v3 : Value) (w : World) : Prop :=
   on (xLoad P w 162 v3) fun x23 =>
   eStore P 162 v2 x23 w fun w =>
   on (xRes P w 162 v2) fun x900 =>
   Q x900 w
theorem F103.k2_ok (Q : Value → World → Prop) (ρ : Env) (w : World) (h : F103.k2 Q (ρ 2) (ρ 3) w) : Sd P none false 24 (cR (cN 3 (cB Try.f103))) ρ w (retQ P [.cell 2 162] Q) :=
  pLeaf (by kernel_rfl) h
def F103.l1 (Q : Value → World → Prop) : Nat → Value → Value → Value → Value → World → Prop
 | 0, _, _, _, _, _ => False
 | n + 1, v2, v3, v4, v8, w => eNext P v8 true w fun x9 w =>
   on (xEx P x9 0) fun x10 =>
   cnd x10
   (on (xEx P x9 2) fun x11 =>
   on (xBin P .eql 21 false true x11 (.int .i32 32)) fun x13 =>
   cnd x13
   (on (xBin P .add 3 false true v4 (.int .i64 1)) fun x15 =>
   F103.l1 Q n v2 v3 x15 v8 w)
   (on (xIA P 162 v3 v4) fun x17 =>
   on (xLoad P w 9 x17) fun x18 =>
   eConv P 21 9 x11 w fun x20 w =>
   on (xBin P .add 9 false false x18 x20) fun x21 =>
   on (xIA P 162 v3 v4) fun x22 =>
   eStore P 9 x22 x21 w fun w =>
   F103.l1 Q n v2 v3 v4 v8 w))
   (F103.k2 Q v2 v3 w)
theorem F103.l1_ok (Q : Value → World → Prop) (ρ : Env) (w : World) (h : ∃ n, F103.l1 Q n (ρ 2) (ρ 3) (ρ 4) (ρ 8) w) : Sd P none false 24 (cL (cN 1 (cL (cN 3 (cB Try.f103))))) ρ w (blkQ 0 (thenQ (fun ρ w => F103.k2 Q (ρ 2) (ρ 3) w) (retQ P [.cell 2 162] Q))) :=
  pLoop (by kernel_rfl) (fun n ρ w => F103.l1 Q n (ρ 2) (ρ 3) (ρ 4) (ρ 8) w) (fun _ _ h => h) (fun n ρ w h => pLeaf (S := F103.l1 Q (n + 1) (ρ 2) (ρ 3) (ρ 4) (ρ 8) w) (by kernel_rfl) h) h
def F103.k3 (Q : Value → World → Prop) (v2 : Value) (v3 : Value) (v4 : Value) (v8 : Value) (w : World) : Prop :=
   ∃ n, F103.l1 Q n v2 v3 v4 v8 w
theorem F103.k3_ok (Q : Value → World → Prop) (ρ : Env) (w : World) (h : F103.k3 Q (ρ 2) (ρ 3) (ρ 4) (ρ 8) w) : Sd P none false 24 (cN 1 (cL (cN 3 (cB Try.f103)))) ρ w (thenQ (fun ρ w => F103.k2 Q (ρ 2) (ρ 3) w) (retQ P [.cell 2 162] Q)) :=
  pBlock 0 (by kernel_rfl) (F103.l1_ok Q _ _ h)
def F103.k1 (Q : Value → World → Prop) (v0 : Value) (v2 : Value) (v3 : Value) (v4 : Value) (w : World) : Prop :=
   eRange P 9 v0 w fun x8 w =>
   F103.k3 Q v2 v3 v4 x8 w
theorem F103.k1_ok (Q : Value → World → Prop) (ρ : Env) (w : World) (h : F103.k1 Q (ρ 0) (ρ 2) (ρ 3) (ρ 4) w) : Sd P none false 24 (cN 3 (cB Try.f103)) ρ w (retQ P [.cell 2 162] Q) :=
  pSeq (by kernel_rfl) (fun ρ w => F103.k2 Q (ρ 2) (ρ 3) w) (fun ρ w h => F103.k2_ok Q ρ w h) (pRow 1 (by kernel_rfl) (fun ρ w => F103.k3 Q (ρ 2) (ρ 3) (ρ 4) (ρ 8) w) (by kernel_rfl) (fun ρ w h => F103.k3_ok Q ρ w h) h)
def F103 (a0 : Value) (w : World) (Q : Value → World → Prop) : Prop :=
   eAlloc P 162 w fun x2 w =>
   eAlloc P 162 w fun x3 w =>
   F103.k1 Q a0 x2 x3 (.int .i64 0) w
theorem F103_ok (a0 : Value) (w : World) (Q : Value → World → Prop) (h : F103 a0 w Q) : Cx P 103 #[a0] w Q :=
  pFun false Try.f103 (by kernel_rfl) (by kernel_rfl) (by kernel_rfl) (pRow 3 (by kernel_rfl) (fun ρ w => F103.k1 Q (ρ 0) (ρ 2) (ρ 3) (ρ 4) w) (by kernel_rfl) (fun ρ w h => F103.k1_ok Q ρ w h) h)

/- 104 (*intaglio/code.writer).put -/
def F104 (a0 a1 : Value) (w : World) (Q : Value → World → Prop) : Prop :=
   on (xNil a0) fun x6 =>
   on (xFA P 146 x6 2) fun x7 =>
   on (xLoad P w 113 x7) fun x8 =>
   eBS P 113 1 #[(0, a1)] w fun x10 w =>
   eApp P #[113, 113] #[x8, x10] w fun x11 w =>
   on (xNil a0) fun x12 =>
   on (xFA P 146 x12 2) fun x13 =>
   eStore P 113 x13 x11 w fun w =>
   on (xNil a0) fun x15 =>
   on (xFA P 146 x15 3) fun x16 =>
   on (xLoad P w 3 x16) fun x17 =>
   on (xBin P .add 3 false true x17 (.int .i64 1)) fun x18 =>
   on (xNil a0) fun x19 =>
   on (xFA P 146 x19 3) fun x20 =>
   eStore P 3 x20 x18 w fun w =>
   Q (.tuple #[]) w
theorem F104_ok (a0 a1 : Value) (w : World) (Q : Value → World → Prop) (h : F104 a0 a1 w Q) : Cx P 104 #[a0, a1] w Q :=
  pFun false Try.f104 (by kernel_rfl) (by kernel_rfl) (by kernel_rfl) (pLeaf (by kernel_rfl) h)

/- 105 intaglio/code.id -/
def F105 (a0 a1 : Value) (w : World) (Q : Value → World → Prop) : Prop :=
   on (xBin P .eql 22 false true a0 (.int .u32 0)) fun x6 =>
   cnd x6
   (Q (.int .i64 43) w)
   (on (xBin P .geq 22 false false a0 a1) fun x10 =>
   cnd x10
   (Q (.int .i64 43) w)
   (Q (.int .i64 0) w))
theorem F105_ok (a0 a1 : Value) (w : World) (Q : Value → World → Prop) (h : F105 a0 a1 w Q) : Cx P 105 #[a0, a1] w Q :=
  pFun false Try.f105 (by kernel_rfl) (by kernel_rfl) (by kernel_rfl) (pLeaf (by kernel_rfl) h)

/- 106 intaglio/grammar.Letter -/
def F106 (a0 a1 : Value) (w : World) (Q : Value → World → Prop) : Prop :=
   Cx P 89 #[a0] w fun x9 w =>
   on (xEx P x9 0) fun x10 =>
   on (xEx P x9 1) fun x11 =>
   eAlloc P 77 w fun x5 w =>
   eStore P 77 x5 x10 w fun w =>
   on (xLoad P w 77 x5) fun x12 =>
   on (xBuild P 174 #[(0, x12)]) fun x13 =>
   Cx P 115 #[x13, a1] w fun x15 w =>
   Q x15 w
theorem F106_ok (a0 a1 : Value) (w : World) (Q : Value → World → Prop) (h : F106 a0 a1 w Q) : Cx P 106 #[a0, a1] w Q :=
  pFun false Try.f106 (by kernel_rfl) (by kernel_rfl) (by kernel_rfl) (pLeaf (by kernel_rfl) h)

/- 107 intaglio/grammar.Kind -/
def F107 (a0 : Value) (w : World) (Q : Value → World → Prop) : Prop :=
   on (xBin P .eql 5 false true a0 (.int .u8 105)) fun x5 =>
   cnd x5
   (Q (.int .u8 1) w)
   (on (xBin P .eql 5 false true a0 (.int .u8 110)) fun x7 =>
   cnd x7
   (Q (.int .u8 2) w)
   (on (xBin P .eql 5 false true a0 (.int .u8 115)) fun x9 =>
   cnd x9
   (Q (.int .u8 3) w)
   (Cx P 116 #[a0] w fun x11 w =>
   on (xBin P .neq 9 false true x11 (.string ⟨#[]⟩)) fun x12 =>
   cnd x12
   (Q (.int .u8 4) w)
   (Q (.int .u8 0) w))))
theorem F107_ok (a0 : Value) (w : World) (Q : Value → World → Prop) (h : F107 a0 w Q) : Cx P 107 #[a0] w Q :=
  pFun false Try.f107 (by kernel_rfl) (by kernel_rfl) (by kernel_rfl) (pLeaf (by kernel_rfl) h)

/- 108 (*intaglio/code.writer).text -/
def F108 (a0 a1 : Value) (w : World) (Q : Value → World → Prop) : Prop :=
   Cx P 117 #[a1, (.int .u8 0)] w fun x8 w =>
   on (xBin P .geq 3 false true x8 (.int .i64 0)) fun x9 =>
   cnd x9
   (Q (.int .i64 13) w)
   (Cx P 118 #[a1] w fun x12 w =>
   on (xEx P x12 0) fun x13 =>
   on (xEx P x12 1) fun x14 =>
   on (xBin P .neq 29 false true x14 (.int .i64 0)) fun x16 =>
   cnd x16
   (Dr w fun w =>
   on (xNil a0) fun x18 =>
   on (xFA P 146 x18 3) fun x19 =>
   on (xLoad P w 3 x19) fun x20 =>
   Cx P 119 #[a1] w fun x22 w =>
   (xLoad P w 3 x19 = some x20) ∧ (on (xBin P .add 3 false false x20 x22) fun x23 =>
   on (xNil a0) fun x24 =>
   on (xFA P 146 x24 3) fun x25 =>
   eStore P 3 x25 x23 w fun w =>
   Q (.int .i64 0) w))
   (on (xNil a0) fun x28 =>
   on (xFA P 146 x28 2) fun x29 =>
   on (xLoad P w 113 x29) fun x30 =>
   eApp P #[113, 113] #[x30, x13] w fun x32 w =>
   on (xNil a0) fun x33 =>
   on (xFA P 146 x33 2) fun x34 =>
   eStore P 113 x34 x32 w fun w =>
   on (xNil a0) fun x36 =>
   on (xFA P 146 x36 3) fun x37 =>
   on (xLoad P w 3 x37) fun x38 =>
   on (xLen P w #[113] #[x13]) fun x40 =>
   on (xBin P .add 3 false false x38 x40) fun x41 =>
   on (xNil a0) fun x42 =>
   on (xFA P 146 x42 3) fun x43 =>
   eStore P 3 x43 x41 w fun w =>
   Q (.int .i64 0) w))
theorem F108_ok (a0 a1 : Value) (w : World) (Q : Value → World → Prop) (h : F108 a0 a1 w Q) : Cx P 108 #[a0, a1] w Q :=
  pFun false Try.f108 (by kernel_rfl) (by kernel_rfl) (by kernel_rfl) (pLeaf (by kernel_rfl) h)

/- 109 intaglio/code.named -/
def F109 (a0 a1 : Value) (w : World) (Q : Value → World → Prop) : Prop :=
   Cx P 120 #[a0, a1] w fun x10 w =>
   on (xEx P x10 0) fun x11 =>
   on (xEx P x10 1) fun x12 =>
   on (xUn P .not x12) fun x14 =>
   cnd x14
   (Q (.int .i64 31) w)
   (Q (.int .i64 0) w)
theorem F109_ok (a0 a1 : Value) (w : World) (Q : Value → World → Prop) (h : F109 a0 a1 w Q) : Cx P 109 #[a0, a1] w Q :=
  pFun false Try.f109 (by kernel_rfl) (by kernel_rfl) (by kernel_rfl) (pLeaf (by kernel_rfl) h)

/- 110 intaglio/grammar.Fits -/
def F110.k4 (Q : Value → World → Prop) (w : World) : Prop :=
   Q (.tuple #[(.int .i64 0), (.bool true)]) w
theorem F110.k4_ok (Q : Value → World → Prop) (ρ : Env) (w : World) (h : F110.k4 Q w) : Sd P none false 66 (cR (cN 1 (cR (cN 4 (cB Try.f110))))) ρ w (retQ P [.tmp 4, .tmp 5] Q) :=
  pLeaf (by kernel_rfl) h
def F110.k5 (Q : Value → World → Prop) (v1 : Value) (v63 : Value) (w : World) : Prop :=
   cnd v63
   (on (xLen P w #[168] #[v1]) fun x65 =>
   Q (.tuple #[x65, (.bool false)]) w)
   (F110.k4 Q w)
theorem F110.k5_ok (Q : Value → World → Prop) (ρ : Env) (w : World) (h : F110.k5 Q (ρ 1) (ρ 63) w) : Sd P none false 66 (cN 1 (cL (cN 1 (cR (cN 4 (cB Try.f110)))))) ρ w (thenQ (fun ρ w => F110.k4 Q w) (retQ P [.tmp 4, .tmp 5] Q)) :=
  pLeaf (by kernel_rfl) h
def F110.k3 (Q : Value → World → Prop) (v1 : Value) (v8 : Value) (v11 : Value) (w : World) : Prop :=
   on (xBin P .lss 3 false true v11 (.int .i64 0)) fun x48 =>
   cnd x48
   (F110.k5 Q v1 (.bool true) w)
   (on (xFA P 174 v8 0) fun x50 =>
   on (xFA P 77 x50 5) fun x51 =>
   on (xLoad P w 9 x51) fun x52 =>
   on (xBin P .neq 9 false true x52 (.string ⟨#[]⟩)) fun x53 =>
   cnd x53
   (on (xFA P 174 v8 0) fun x56 =>
   on (xFA P 77 x56 5) fun x57 =>
   on (xLoad P w 9 x57) fun x58 =>
   on (xLen P w #[9] #[x58]) fun x59 =>
   on (xBin P .rem 3 false false v11 x59) fun x60 =>
   on (xBin P .neq 3 false true x60 (.int .i64 0)) fun x61 =>
   F110.k5 Q v1 x61 w)
   (F110.k5 Q v1 (.bool false) w))
theorem F110.k3_ok (Q : Value → World → Prop) (ρ : Env) (w : World) (h : F110.k3 Q (ρ 1) (ρ 8) (ρ 11) w) : Sd P none false 66 (cN 1 (cR (cN 4 (cB Try.f110)))) ρ w (retQ P [.tmp 4, .tmp 5] Q) :=
  pSeq (by kernel_rfl) (fun ρ w => F110.k4 Q w) (fun ρ w h => F110.k4_ok Q ρ w h) (pRow 1 (by kernel_rfl) (fun ρ w => F110.k5 Q (ρ 1) (ρ 63) w) (by kernel_rfl) (fun ρ w h => F110.k5_ok Q ρ w h) h)
def F110.k2 (Q : Value → World → Prop) (v1 : Value) (v8 : Value) (w : World) : Prop :=
   on (xLen P w #[168] #[v1]) fun x41 =>
   on (xFA P 174 v8 0) fun x42 =>
   on (xFA P 77 x42 4) fun x43 =>
   on (xLoad P w 9 x43) fun x44 =>
   on (xLen P w #[9] #[x44]) fun x45 =>
   on (xBin P .sub 3 false false x41 x45) fun x46 =>
   F110.k3 Q v1 v8 x46 w
theorem F110.k2_ok (Q : Value → World → Prop) (ρ : Env) (w : World) (h : F110.k2 Q (ρ 1) (ρ 8) w) : Sd P none false 66 (cR (cN 4 (cB Try.f110))) ρ w (retQ P [.tmp 4, .tmp 5] Q) :=
  pRow 1 (by kernel_rfl) (fun ρ w => F110.k3 Q (ρ 1) (ρ 8) (ρ 11) w) (by kernel_rfl) (fun ρ w h => F110.k3_ok Q ρ w h) h
def F110.k8 (Q : Value → World → Prop) (R : Value → Value → Value → Value → Value → World → Prop) (v1 : Value) (v8 : Value) (v21 : Value) (v22 : Value) (v23 : Value) (w : World) : Prop :=
   on (xBin P .add 3 false true v23 (.int .i64 1)) fun x39 =>
   R v1 v8 v21 v22 x39 w
theorem F110.k8_ok (Q : Value → World → Prop) (R : Value → Value → Value → Value → Value → World → Prop) (ρ : Env) (w : World) (h : F110.k8 Q R (ρ 1) (ρ 8) (ρ 21) (ρ 22) (ρ 23) w) : Sd P none false 66 (cR (cN 2 (cL (cL (cN 1 (cL (cN 4 (cB Try.f110)))))))) ρ w (thenQ (fun ρ w => R (ρ 1) (ρ 8) (ρ 21) (ρ 22) (ρ 23) w) (blkQ 0 (thenQ (fun ρ w => F110.k2 Q (ρ 1) (ρ 8) w) (retQ P [.tmp 4, .tmp 5] Q)))) :=
  pLeaf (by kernel_rfl) h
def F110.k9 (Q : Value → World → Prop) (R : Value → Value → Value → Value → Value → World → Prop) (v1 : Value) (v8 : Value) (v9 : Value) (v21 : Value) (v22 : Value) (v23 : Value) (v37 : Value) (w : World) : Prop :=
   cnd v37
   (Q (.tuple #[v9, (.bool false)]) w)
   (F110.k8 Q R v1 v8 v21 v22 v23 w)
theorem F110.k9_ok (Q : Value → World → Prop) (R : Value → Value → Value → Value → Value → World → Prop) (ρ : Env) (w : World) (h : F110.k9 Q R (ρ 1) (ρ 8) (ρ 9) (ρ 21) (ρ 22) (ρ 23) (ρ 37) w) : Sd P none false 66 (cN 2 (cL (cL (cN 2 (cL (cL (cN 1 (cL (cN 4 (cB Try.f110)))))))))) ρ w (blkQ 1 (thenQ (fun ρ w => F110.k8 Q R (ρ 1) (ρ 8) (ρ 21) (ρ 22) (ρ 23) w) (thenQ (fun ρ w => R (ρ 1) (ρ 8) (ρ 21) (ρ 22) (ρ 23) w) (blkQ 0 (thenQ (fun ρ w => F110.k2 Q (ρ 1) (ρ 8) w) (retQ P [.tmp 4, .tmp 5] Q)))))) :=
  pLeaf (by kernel_rfl) h
def F110.k7 (Q : Value → World → Prop) (R : Value → Value → Value → Value → Value → World → Prop) (v1 : Value) (v8 : Value) (v21 : Value) (v22 : Value) (v23 : Value) (w : World) : Prop :=
   on (xIA P 168 v21 v23) fun x26 =>
   on (xLoad P w 5 x26) fun x27 =>
   on (xBin P .eql 5 false true x27 (.int .u8 0)) fun x29 =>
   cnd x29
   (F110.k9 Q R v1 v8 v23 v21 v22 v23 (.bool true) w)
   (on (xLoad P w 174 v8) fun x31 =>
   Cx P 115 #[x31, v23] w fun x33 w =>
   Cx P 107 #[x33] w fun x34 w =>
   on (xBin P .neq 5 false false x34 x27) fun x36 =>
   F110.k9 Q R v1 v8 v23 v21 v22 v23 x36 w)
theorem F110.k7_ok (Q : Value → World → Prop) (R : Value → Value → Value → Value → Value → World → Prop) (ρ : Env) (w : World) (h : F110.k7 Q R (ρ 1) (ρ 8) (ρ 21) (ρ 22) (ρ 23) w) : Sd P none false 66 (cN 2 (cL (cL (cN 1 (cL (cN 4 (cB Try.f110))))))) ρ w (thenQ (fun ρ w => R (ρ 1) (ρ 8) (ρ 21) (ρ 22) (ρ 23) w) (blkQ 0 (thenQ (fun ρ w => F110.k2 Q (ρ 1) (ρ 8) w) (retQ P [.tmp 4, .tmp 5] Q)))) :=
  pSeq (by kernel_rfl) (fun ρ w => F110.k8 Q R (ρ 1) (ρ 8) (ρ 21) (ρ 22) (ρ 23) w) (fun ρ w h => F110.k8_ok Q R ρ w h) (pBlock 1 (by kernel_rfl) (pRow 2 (by kernel_rfl) (fun ρ w => F110.k9 Q R (ρ 1) (ρ 8) (ρ 9) (ρ 21) (ρ 22) (ρ 23) (ρ 37) w) (by kernel_rfl) (fun ρ w h => F110.k9_ok Q R ρ w h) h))
def F110.l1.b (Q : Value → World → Prop) (R : Value → Value → Value → Value → Value → World → Prop) (v1 : Value) (v8 : Value) (v21 : Value) (v22 : Value) (v23 : Value) (w : World) : Prop :=
   on (xBin P .lss 3 false false v23 v22) fun x24 =>
   cnd x24
   (F110.k7 Q R v1 v8 v21 v22 v23 w)
   (F110.k2 Q v1 v8 w)
theorem F110.l1.b_ok (Q : Value → World → Prop) (R : Value → Value → Value → Value → Value → World → Prop) (ρ : Env) (w : World) (h : F110.l1.b Q R (ρ 1) (ρ 8) (ρ 21) (ρ 22) (ρ 23) w) : Sd P none false 66 (cL (cL (cN 1 (cL (cN 4 (cB Try.f110)))))) ρ w (thenQ (fun ρ w => R (ρ 1) (ρ 8) (ρ 21) (ρ 22) (ρ 23) w) (blkQ 0 (thenQ (fun ρ w => F110.k2 Q (ρ 1) (ρ 8) w) (retQ P [.tmp 4, .tmp 5] Q)))) :=
  pRow 2 (by kernel_rfl) (fun ρ w => F110.k7 Q R (ρ 1) (ρ 8) (ρ 21) (ρ 22) (ρ 23) w) (by kernel_rfl) (fun ρ w h => F110.k7_ok Q R ρ w h) h
def F110.l1 (Q : Value → World → Prop) : Nat → Value → Value → Value → Value → Value → World → Prop
 | 0, _, _, _, _, _, _ => False
 | n + 1, v1, v8, v21, v22, v23, w => F110.l1.b Q (F110.l1 Q n) v1 v8 v21 v22 v23 w
theorem F110.l1_ok (Q : Value → World → Prop) (ρ : Env) (w : World) (h : ∃ n, F110.l1 Q n (ρ 1) (ρ 8) (ρ 21) (ρ 22) (ρ 23) w) : Sd P none false 66 (cL (cN 1 (cL (cN 4 (cB Try.f110))))) ρ w (blkQ 0 (thenQ (fun ρ w => F110.k2 Q (ρ 1) (ρ 8) w) (retQ P [.tmp 4, .tmp 5] Q))) :=
  pLoop (by kernel_rfl) (fun n ρ w => F110.l1 Q n (ρ 1) (ρ 8) (ρ 21) (ρ 22) (ρ 23) w) (fun _ _ h => h) (fun n ρ w h => F110.l1.b_ok Q (F110.l1 Q n) ρ w h) h
def F110.k6 (Q : Value → World → Prop) (v1 : Value) (v8 : Value) (v21 : Value) (v22 : Value) (v23 : Value) (w : World) : Prop :=
   ∃ n, F110.l1 Q n v1 v8 v21 v22 v23 w
theorem F110.k6_ok (Q : Value → World → Prop) (ρ : Env) (w : World) (h : F110.k6 Q (ρ 1) (ρ 8) (ρ 21) (ρ 22) (ρ 23) w) : Sd P none false 66 (cN 1 (cL (cN 4 (cB Try.f110)))) ρ w (thenQ (fun ρ w => F110.k2 Q (ρ 1) (ρ 8) w) (retQ P [.tmp 4, .tmp 5] Q)) :=
  pBlock 0 (by kernel_rfl) (F110.l1_ok Q _ _ h)
def F110.k1 (Q : Value → World → Prop) (v1 : Value) (v8 : Value) (w : World) : Prop :=
   on (xLen P w #[168] #[v1]) fun x22 =>
   F110.k6 Q v1 v8 v1 x22 (.int .i64 0) w
theorem F110.k1_ok (Q : Value → World → Prop) (ρ : Env) (w : World) (h : F110.k1 Q (ρ 1) (ρ 8) w) : Sd P none false 66 (cN 4 (cB Try.f110)) ρ w (retQ P [.tmp 4, .tmp 5] Q) :=
  pSeq (by kernel_rfl) (fun ρ w => F110.k2 Q (ρ 1) (ρ 8) w) (fun ρ w h => F110.k2_ok Q ρ w h) (pRow 1 (by kernel_rfl) (fun ρ w => F110.k6 Q (ρ 1) (ρ 8) (ρ 21) (ρ 22) (ρ 23) w) (by kernel_rfl) (fun ρ w h => F110.k6_ok Q ρ w h) h)
def F110 (a0 a1 : Value) (w : World) (Q : Value → World → Prop) : Prop :=
   Cx P 89 #[a0] w fun x14 w =>
   on (xEx P x14 0) fun x15 =>
   on (xEx P x14 1) fun x16 =>
   eAlloc P 77 w fun x6 w =>
   eStore P 77 x6 x15 w fun w =>
   on (xUn P .not x16) fun x18 =>
   cnd x18
   (Q (.tuple #[(.int .i64 0), (.bool false)]) w)
   (on (xLoad P w 77 x6) fun x19 =>
   on (xBuild P 174 #[(0, x19)]) fun x20 =>
   eAlloc P 174 w fun x8 w =>
   eStore P 174 x8 x20 w fun w =>
   F110.k1 Q a1 x8 w)
theorem F110_ok (a0 a1 : Value) (w : World) (Q : Value → World → Prop) (h : F110 a0 a1 w Q) : Cx P 110 #[a0, a1] w Q :=
  pFun false Try.f110 (by kernel_rfl) (by kernel_rfl) (by kernel_rfl) (pRow 4 (by kernel_rfl) (fun ρ w => F110.k1 Q (ρ 1) (ρ 8) w) (by kernel_rfl) (fun ρ w h => F110.k1_ok Q ρ w h) h)

/- 112 intaglio/grammar.first -/
def F112 (a0 : Value) (w : World) (Q : Value → World → Prop) : Prop :=
   on (xBin P .eql 50 false true a0 (.int .u16 1)) fun x5 =>
   cnd x5
   (Q (.string ⟨#[79, 112, 85, 110, 100, 101, 102, 32, 84, 82, 32, 32, 32, 32, 55]⟩) w)
   (on (xBin P .eql 50 false true a0 (.int .u16 3)) fun x7 =>
   cnd x7
   (Q (.string ⟨#[79, 112, 83, 111, 117, 114, 99, 101, 32, 32, 108, 110, 32, 32, 32, 52]⟩) w)
   (on (xBin P .eql 50 false true a0 (.int .u16 5)) fun x9 =>
   cnd x9
   (Q (.string ⟨#[79, 112, 78, 97, 109, 101, 32, 32, 105, 115, 32, 32, 32, 53]⟩) w)
   (on (xBin P .eql 50 false true a0 (.int .u16 6)) fun x11 =>
   cnd x11
   (Q (.string ⟨#[79, 112, 77, 101, 109, 98, 101, 114, 78, 97, 109, 101, 32, 32, 105, 110, 115, 32, 32, 32, 53]⟩) w)
   (on (xBin P .eql 50 false true a0 (.int .u16 7)) fun x13 =>
   cnd x13
   (Q (.string ⟨#[79, 112, 83, 116, 114, 105, 110, 103, 32, 82, 32, 115, 32, 32, 32, 52]⟩) w)
   (on (xBin P .eql 50 false true a0 (.int .u16 14)) fun x15 =>
   cnd x15
   (Q (.string ⟨#[79, 112, 77, 101, 109, 111, 114, 121, 77, 111, 100, 101, 108, 32, 32, 97, 109, 32, 32, 32, 49]⟩) w)
   (on (xBin P .eql 50 false true a0 (.int .u16 15)) fun x17 =>
   cnd x17
   (Q (.string ⟨#[79, 112, 69, 110, 116, 114, 121, 80, 111, 105, 110, 116, 32, 32, 101, 105, 115, 32, 105, 32, 32, 50]⟩) w)
   (on (xBin P .eql 50 false true a0 (.int .u16 16)) fun x19 =>
   cnd x19
   (Q (.string ⟨#[79, 112, 69, 120, 101, 99, 117, 116, 105, 111, 110, 77, 111, 100, 101, 32, 32, 105, 120, 32, 32, 32, 51]⟩) w)
   (on (xBin P .eql 50 false true a0 (.int .u16 17)) fun x21 =>
   cnd x21
   (Q (.string ⟨#[79, 112, 67, 97, 112, 97, 98, 105, 108, 105, 116, 121, 32, 32, 107, 32, 32, 32, 48]⟩) w)
   (on (xBin P .eql 50 false true a0 (.int .u16 19)) fun x23 =>
   cnd x23
   (Q (.string ⟨#[79, 112, 84, 121, 112, 101, 86, 111, 105, 100, 32, 82, 32, 32, 32, 32, 55]⟩) w)
   (on (xBin P .eql 50 false true a0 (.int .u16 20)) fun x25 =>
   cnd x25
   (Q (.string ⟨#[79, 112, 84, 121, 112, 101, 66, 111, 111, 108, 32, 82, 32, 32, 32, 32, 55]⟩) w)
   (on (xBin P .eql 50 false true a0 (.int .u16 21)) fun x27 =>
   cnd x27
   (Q (.string ⟨#[79, 112, 84, 121, 112, 101, 73, 110, 116, 32, 82, 32, 110, 110, 32, 32, 32, 55]⟩) w)
   (on (xBin P .eql 50 false true a0 (.int .u16 23)) fun x29 =>
   cnd x29
   (Q (.string ⟨#[79, 112, 84, 121, 112, 101, 86, 101, 99, 116, 111, 114, 32, 82, 32, 105, 110, 32, 32, 32, 55]⟩) w)
   (on (xBin P .eql 50 false true a0 (.int .u16 28)) fun x31 =>
   cnd x31
   (Q (.string ⟨#[79, 112, 84, 121, 112, 101, 65, 114, 114, 97, 121, 32, 82, 32, 105, 105, 32, 32, 32, 55]⟩) w)
   (on (xBin P .eql 50 false true a0 (.int .u16 30)) fun x33 =>
   cnd x33
   (Q (.string ⟨#[79, 112, 84, 121, 112, 101, 83, 116, 114, 117, 99, 116, 32, 82, 32, 32, 105, 32, 32, 55]⟩) w)
   (on (xBin P .eql 50 false true a0 (.int .u16 32)) fun x35 =>
   cnd x35
   (Q (.string ⟨#[79, 112, 84, 121, 112, 101, 80, 111, 105, 110, 116, 101, 114, 32, 82, 32, 99, 105, 32, 32, 32, 55]⟩) w)
   (on (xBin P .eql 50 false true a0 (.int .u16 33)) fun x37 =>
   cnd x37
   (Q (.string ⟨#[79, 112, 84, 121, 112, 101, 70, 117, 110, 99, 116, 105, 111, 110, 32, 82, 32, 105, 32, 105, 32, 32, 55]⟩) w)
   (on (xBin P .eql 50 false true a0 (.int .u16 41)) fun x39 =>
   cnd x39
   (Q (.string ⟨#[79, 112, 67, 111, 110, 115, 116, 97, 110, 116, 84, 114, 117, 101, 32, 84, 82, 32, 32, 32, 32, 55]⟩) w)
   (on (xBin P .eql 50 false true a0 (.int .u16 42)) fun x41 =>
   cnd x41
   (Q (.string ⟨#[79, 112, 67, 111, 110, 115, 116, 97, 110, 116, 70, 97, 108, 115, 101, 32, 84, 82, 32, 32, 32, 32, 55]⟩) w)
   (on (xBin P .eql 50 false true a0 (.int .u16 43)) fun x43 =>
   cnd x43
   (Q (.string ⟨#[79, 112, 67, 111, 110, 115, 116, 97, 110, 116, 32, 84, 82, 32, 110, 32, 32, 32, 55]⟩) w)
   (on (xBin P .eql 50 false true a0 (.int .u16 44)) fun x45 =>
   cnd x45
   (Q (.string ⟨#[79, 112, 67, 111, 110, 115, 116, 97, 110, 116, 67, 111, 109, 112, 111, 115, 105, 116, 101, 32, 84, 82, 32, 32, 105, 32, 32, 55]⟩) w)
   (on (xBin P .eql 50 false true a0 (.int .u16 46)) fun x47 =>
   cnd x47
   (Q (.string ⟨#[79, 112, 67, 111, 110, 115, 116, 97, 110, 116, 78, 117, 108, 108, 32, 84, 82, 32, 32, 32, 32, 55]⟩) w)
   (on (xBin P .eql 50 false true a0 (.int .u16 54)) fun x49 =>
   cnd x49
   (Q (.string ⟨#[79, 112, 70, 117, 110, 99, 116, 105, 111, 110, 32, 84, 82, 32, 102, 105, 32, 32, 32, 56]⟩) w)
   (on (xBin P .eql 50 false true a0 (.int .u16 55)) fun x51 =>
   cnd x51
   (Q (.string ⟨#[79, 112, 70, 117, 110, 99, 116, 105, 111, 110, 80, 97, 114, 97, 109, 101, 116, 101, 114, 32, 84, 82, 32, 32, 32, 32, 56]⟩) w)
   (on (xBin P .eql 50 false true a0 (.int .u16 56)) fun x53 =>
   cnd x53
   (Q (.string ⟨#[79, 112, 70, 117, 110, 99, 116, 105, 111, 110, 69, 110, 100, 32, 32, 32, 32, 32, 56]⟩) w)
   (on (xBin P .eql 50 false true a0 (.int .u16 57)) fun x55 =>
   cnd x55
   (Q (.string ⟨#[79, 112, 70, 117, 110, 99, 116, 105, 111, 110, 67, 97, 108, 108, 32, 84, 82, 32, 105, 32, 105, 32, 32, 56]⟩) w)
   (on (xBin P .eql 50 false true a0 (.int .u16 59)) fun x57 =>
   cnd x57
   (Q (.string ⟨#[79, 112, 86, 97, 114, 105, 97, 98, 108, 101, 32, 84, 82, 32, 99, 32, 105, 32, 49, 32, 55]⟩) w)
   (on (xBin P .eql 50 false true a0 (.int .u16 61)) fun x59 =>
   cnd x59
   (Q (.string ⟨#[79, 112, 76, 111, 97, 100, 32, 84, 82, 32, 105, 32, 32, 32, 56]⟩) w)
   (on (xBin P .eql 50 false true a0 (.int .u16 62)) fun x61 =>
   cnd x61
   (Q (.string ⟨#[79, 112, 83, 116, 111, 114, 101, 32, 32, 105, 105, 32, 32, 32, 56]⟩) w)
   (on (xBin P .eql 50 false true a0 (.int .u16 65)) fun x63 =>
   cnd x63
   (Q (.string ⟨#[79, 112, 65, 99, 99, 101, 115, 115, 67, 104, 97, 105, 110, 32, 84, 82, 32, 105, 32, 105, 32, 32, 56]⟩) w)
   (on (xBin P .eql 50 false true a0 (.int .u16 71)) fun x65 =>
   cnd x65
   (Q (.string ⟨#[79, 112, 68, 101, 99, 111, 114, 97, 116, 101, 32, 32, 105, 100, 32, 110, 32, 32, 54]⟩) w)
   (Q (.string ⟨#[]⟩) w)))))))))))))))))))))))))))))))
theorem F112_ok (a0 : Value) (w : World) (Q : Value → World → Prop) (h : F112 a0 w Q) : Cx P 112 #[a0] w Q :=
  pFun false Try.f112 (by kernel_rfl) (by kernel_rfl) (by kernel_rfl) (pLeaf (by kernel_rfl) h)

/- 113 intaglio/grammar.second -/
def F113 (a0 : Value) (w : World) (Q : Value → World → Prop) : Prop :=
   on (xBin P .eql 50 false true a0 (.int .u16 77)) fun x5 =>
   cnd x5
   (Q (.string ⟨#[79, 112, 86, 101, 99, 116, 111, 114, 69, 120, 116, 114, 97, 99, 116, 68, 121, 110, 97, 109, 105, 99, 32, 84, 82, 32, 105, 105, 32, 32, 32, 56]⟩) w)
   (on (xBin P .eql 50 false true a0 (.int .u16 78)) fun x7 =>
   cnd x7
   (Q (.string ⟨#[79, 112, 86, 101, 99, 116, 111, 114, 73, 110, 115, 101, 114, 116, 68, 121, 110, 97, 109, 105, 99, 32, 84, 82, 32, 105, 105, 105, 32, 32, 32, 56]⟩) w)
   (on (xBin P .eql 50 false true a0 (.int .u16 79)) fun x9 =>
   cnd x9
   (Q (.string ⟨#[79, 112, 86, 101, 99, 116, 111, 114, 83, 104, 117, 102, 102, 108, 101, 32, 84, 82, 32, 105, 105, 32, 110, 32, 32, 56]⟩) w)
   (on (xBin P .eql 50 false true a0 (.int .u16 80)) fun x11 =>
   cnd x11
   (Q (.string ⟨#[79, 112, 67, 111, 109, 112, 111, 115, 105, 116, 101, 67, 111, 110, 115, 116, 114, 117, 99, 116, 32, 84, 82, 32, 32, 105, 32, 32, 56]⟩) w)
   (on (xBin P .eql 50 false true a0 (.int .u16 81)) fun x13 =>
   cnd x13
   (Q (.string ⟨#[79, 112, 67, 111, 109, 112, 111, 115, 105, 116, 101, 69, 120, 116, 114, 97, 99, 116, 32, 84, 82, 32, 105, 32, 110, 32, 32, 56]⟩) w)
   (on (xBin P .eql 50 false true a0 (.int .u16 82)) fun x15 =>
   cnd x15
   (Q (.string ⟨#[79, 112, 67, 111, 109, 112, 111, 115, 105, 116, 101, 73, 110, 115, 101, 114, 116, 32, 84, 82, 32, 105, 105, 32, 110, 32, 32, 56]⟩) w)
   (on (xBin P .eql 50 false true a0 (.int .u16 83)) fun x17 =>
   cnd x17
   (Q (.string ⟨#[79, 112, 67, 111, 112, 121, 79, 98, 106, 101, 99, 116, 32, 84, 82, 32, 105, 32, 32, 32, 56]⟩) w)
   (on (xBin P .eql 50 false true a0 (.int .u16 124)) fun x19 =>
   cnd x19
   (Q (.string ⟨#[79, 112, 66, 105, 116, 99, 97, 115, 116, 32, 84, 82, 32, 105, 32, 32, 32, 56]⟩) w)
   (on (xBin P .eql 50 false true a0 (.int .u16 126)) fun x21 =>
   cnd x21
   (Q (.string ⟨#[79, 112, 83, 78, 101, 103, 97, 116, 101, 32, 84, 82, 32, 105, 32, 32, 32, 56]⟩) w)
   (on (xBin P .eql 50 false true a0 (.int .u16 128)) fun x23 =>
   cnd x23
   (Q (.string ⟨#[79, 112, 73, 65, 100, 100, 32, 84, 82, 32, 105, 105, 32, 32, 32, 56]⟩) w)
   (on (xBin P .eql 50 false true a0 (.int .u16 130)) fun x25 =>
   cnd x25
   (Q (.string ⟨#[79, 112, 73, 83, 117, 98, 32, 84, 82, 32, 105, 105, 32, 32, 32, 56]⟩) w)
   (on (xBin P .eql 50 false true a0 (.int .u16 132)) fun x27 =>
   cnd x27
   (Q (.string ⟨#[79, 112, 73, 77, 117, 108, 32, 84, 82, 32, 105, 105, 32, 32, 32, 56]⟩) w)
   (on (xBin P .eql 50 false true a0 (.int .u16 134)) fun x29 =>
   cnd x29
   (Q (.string ⟨#[79, 112, 85, 68, 105, 118, 32, 84, 82, 32, 105, 105, 32, 32, 32, 56]⟩) w)
   (on (xBin P .eql 50 false true a0 (.int .u16 135)) fun x31 =>
   cnd x31
   (Q (.string ⟨#[79, 112, 83, 68, 105, 118, 32, 84, 82, 32, 105, 105, 32, 32, 32, 56]⟩) w)
   (on (xBin P .eql 50 false true a0 (.int .u16 137)) fun x33 =>
   cnd x33
   (Q (.string ⟨#[79, 112, 85, 77, 111, 100, 32, 84, 82, 32, 105, 105, 32, 32, 32, 56]⟩) w)
   (on (xBin P .eql 50 false true a0 (.int .u16 138)) fun x35 =>
   cnd x35
   (Q (.string ⟨#[79, 112, 83, 82, 101, 109, 32, 84, 82, 32, 105, 105, 32, 32, 32, 56]⟩) w)
   (on (xBin P .eql 50 false true a0 (.int .u16 139)) fun x37 =>
   cnd x37
   (Q (.string ⟨#[79, 112, 83, 77, 111, 100, 32, 84, 82, 32, 105, 105, 32, 32, 32, 56]⟩) w)
   (on (xBin P .eql 50 false true a0 (.int .u16 149)) fun x39 =>
   cnd x39
   (Q (.string ⟨#[79, 112, 73, 65, 100, 100, 67, 97, 114, 114, 121, 32, 84, 82, 32, 105, 105, 32, 32, 32, 56]⟩) w)
   (on (xBin P .eql 50 false true a0 (.int .u16 150)) fun x41 =>
   cnd x41
   (Q (.string ⟨#[79, 112, 73, 83, 117, 98, 66, 111, 114, 114, 111, 119, 32, 84, 82, 32, 105, 105, 32, 32, 32, 56]⟩) w)
   (on (xBin P .eql 50 false true a0 (.int .u16 151)) fun x43 =>
   cnd x43
   (Q (.string ⟨#[79, 112, 85, 77, 117, 108, 69, 120, 116, 101, 110, 100, 101, 100, 32, 84, 82, 32, 105, 105, 32, 32, 32, 56]⟩) w)
   (on (xBin P .eql 50 false true a0 (.int .u16 152)) fun x45 =>
   cnd x45
   (Q (.string ⟨#[79, 112, 83, 77, 117, 108, 69, 120, 116, 101, 110, 100, 101, 100, 32, 84, 82, 32, 105, 105, 32, 32, 32, 56]⟩) w)
   (on (xBin P .eql 50 false true a0 (.int .u16 154)) fun x47 =>
   cnd x47
   (Q (.string ⟨#[79, 112, 65, 110, 121, 32, 84, 82, 32, 105, 32, 32, 32, 56]⟩) w)
   (on (xBin P .eql 50 false true a0 (.int .u16 155)) fun x49 =>
   cnd x49
   (Q (.string ⟨#[79, 112, 65, 108, 108, 32, 84, 82, 32, 105, 32, 32, 32, 56]⟩) w)
   (on (xBin P .eql 50 false true a0 (.int .u16 164)) fun x51 =>
   cnd x51
   (Q (.string ⟨#[79, 112, 76, 111, 103, 105, 99, 97, 108, 69, 113, 117, 97, 108, 32, 84, 82, 32, 105, 105, 32, 32, 32, 56]⟩) w)
   (on (xBin P .eql 50 false true a0 (.int .u16 165)) fun x53 =>
   cnd x53
   (Q (.string ⟨#[79, 112, 76, 111, 103, 105, 99, 97, 108, 78, 111, 116, 69, 113, 117, 97, 108, 32, 84, 82, 32, 105, 105, 32, 32, 32, 56]⟩) w)
   (on (xBin P .eql 50 false true a0 (.int .u16 166)) fun x55 =>
   cnd x55
   (Q (.string ⟨#[79, 112, 76, 111, 103, 105, 99, 97, 108, 79, 114, 32, 84, 82, 32, 105, 105, 32, 32, 32, 56]⟩) w)
   (on (xBin P .eql 50 false true a0 (.int .u16 167)) fun x57 =>
   cnd x57
   (Q (.string ⟨#[79, 112, 76, 111, 103, 105, 99, 97, 108, 65, 110, 100, 32, 84, 82, 32, 105, 105, 32, 32, 32, 56]⟩) w)
   (on (xBin P .eql 50 false true a0 (.int .u16 168)) fun x59 =>
   cnd x59
   (Q (.string ⟨#[79, 112, 76, 111, 103, 105, 99, 97, 108, 78, 111, 116, 32, 84, 82, 32, 105, 32, 32, 32, 56]⟩) w)
   (on (xBin P .eql 50 false true a0 (.int .u16 169)) fun x61 =>
   cnd x61
   (Q (.string ⟨#[79, 112, 83, 101, 108, 101, 99, 116, 32, 84, 82, 32, 105, 105, 105, 32, 32, 32, 56]⟩) w)
   (on (xBin P .eql 50 false true a0 (.int .u16 170)) fun x63 =>
   cnd x63
   (Q (.string ⟨#[79, 112, 73, 69, 113, 117, 97, 108, 32, 84, 82, 32, 105, 105, 32, 32, 32, 56]⟩) w)
   (on (xBin P .eql 50 false true a0 (.int .u16 171)) fun x65 =>
   cnd x65
   (Q (.string ⟨#[79, 112, 73, 78, 111, 116, 69, 113, 117, 97, 108, 32, 84, 82, 32, 105, 105, 32, 32, 32, 56]⟩) w)
   (Q (.string ⟨#[]⟩) w)))))))))))))))))))))))))))))))
theorem F113_ok (a0 : Value) (w : World) (Q : Value → World → Prop) (h : F113 a0 w Q) : Cx P 113 #[a0] w Q :=
  pFun false Try.f113 (by kernel_rfl) (by kernel_rfl) (by kernel_rfl) (pLeaf (by kernel_rfl) h)

/- 114 intaglio/grammar.third -/
def F114 (a0 : Value) (w : World) (Q : Value → World → Prop) : Prop :=
   on (xBin P .eql 50 false true a0 (.int .u16 172)) fun x5 =>
   cnd x5
   (Q (.string ⟨#[79, 112, 85, 71, 114, 101, 97, 116, 101, 114, 84, 104, 97, 110, 32, 84, 82, 32, 105, 105, 32, 32, 32, 56]⟩) w)
   (on (xBin P .eql 50 false true a0 (.int .u16 173)) fun x7 =>
   cnd x7
   (Q (.string ⟨#[79, 112, 83, 71, 114, 101, 97, 116, 101, 114, 84, 104, 97, 110, 32, 84, 82, 32, 105, 105, 32, 32, 32, 56]⟩) w)
   (on (xBin P .eql 50 false true a0 (.int .u16 174)) fun x9 =>
   cnd x9
   (Q (.string ⟨#[79, 112, 85, 71, 114, 101, 97, 116, 101, 114, 84, 104, 97, 110, 69, 113, 117, 97, 108, 32, 84, 82, 32, 105, 105, 32, 32, 32, 56]⟩) w)
   (on (xBin P .eql 50 false true a0 (.int .u16 175)) fun x11 =>
   cnd x11
   (Q (.string ⟨#[79, 112, 83, 71, 114, 101, 97, 116, 101, 114, 84, 104, 97, 110, 69, 113, 117, 97, 108, 32, 84, 82, 32, 105, 105, 32, 32, 32, 56]⟩) w)
   (on (xBin P .eql 50 false true a0 (.int .u16 176)) fun x13 =>
   cnd x13
   (Q (.string ⟨#[79, 112, 85, 76, 101, 115, 115, 84, 104, 97, 110, 32, 84, 82, 32, 105, 105, 32, 32, 32, 56]⟩) w)
   (on (xBin P .eql 50 false true a0 (.int .u16 177)) fun x15 =>
   cnd x15
   (Q (.string ⟨#[79, 112, 83, 76, 101, 115, 115, 84, 104, 97, 110, 32, 84, 82, 32, 105, 105, 32, 32, 32, 56]⟩) w)
   (on (xBin P .eql 50 false true a0 (.int .u16 178)) fun x17 =>
   cnd x17
   (Q (.string ⟨#[79, 112, 85, 76, 101, 115, 115, 84, 104, 97, 110, 69, 113, 117, 97, 108, 32, 84, 82, 32, 105, 105, 32, 32, 32, 56]⟩) w)
   (on (xBin P .eql 50 false true a0 (.int .u16 179)) fun x19 =>
   cnd x19
   (Q (.string ⟨#[79, 112, 83, 76, 101, 115, 115, 84, 104, 97, 110, 69, 113, 117, 97, 108, 32, 84, 82, 32, 105, 105, 32, 32, 32, 56]⟩) w)
   (on (xBin P .eql 50 false true a0 (.int .u16 194)) fun x21 =>
   cnd x21
   (Q (.string ⟨#[79, 112, 83, 104, 105, 102, 116, 82, 105, 103, 104, 116, 76, 111, 103, 105, 99, 97, 108, 32, 84, 82, 32, 105, 105, 32, 32, 32, 56]⟩) w)
   (on (xBin P .eql 50 false true a0 (.int .u16 195)) fun x23 =>
   cnd x23
   (Q (.string ⟨#[79, 112, 83, 104, 105, 102, 116, 82, 105, 103, 104, 116, 65, 114, 105, 116, 104, 109, 101, 116, 105, 99, 32, 84, 82, 32, 105, 105, 32, 32, 32, 56]⟩) w)
   (on (xBin P .eql 50 false true a0 (.int .u16 196)) fun x25 =>
   cnd x25
   (Q (.string ⟨#[79, 112, 83, 104, 105, 102, 116, 76, 101, 102, 116, 76, 111, 103, 105, 99, 97, 108, 32, 84, 82, 32, 105, 105, 32, 32, 32, 56]⟩) w)
   (on (xBin P .eql 50 false true a0 (.int .u16 197)) fun x27 =>
   cnd x27
   (Q (.string ⟨#[79, 112, 66, 105, 116, 119, 105, 115, 101, 79, 114, 32, 84, 82, 32, 105, 105, 32, 32, 32, 56]⟩) w)
   (on (xBin P .eql 50 false true a0 (.int .u16 198)) fun x29 =>
   cnd x29
   (Q (.string ⟨#[79, 112, 66, 105, 116, 119, 105, 115, 101, 88, 111, 114, 32, 84, 82, 32, 105, 105, 32, 32, 32, 56]⟩) w)
   (on (xBin P .eql 50 false true a0 (.int .u16 199)) fun x31 =>
   cnd x31
   (Q (.string ⟨#[79, 112, 66, 105, 116, 119, 105, 115, 101, 65, 110, 100, 32, 84, 82, 32, 105, 105, 32, 32, 32, 56]⟩) w)
   (on (xBin P .eql 50 false true a0 (.int .u16 200)) fun x33 =>
   cnd x33
   (Q (.string ⟨#[79, 112, 78, 111, 116, 32, 84, 82, 32, 105, 32, 32, 32, 56]⟩) w)
   (on (xBin P .eql 50 false true a0 (.int .u16 201)) fun x35 =>
   cnd x35
   (Q (.string ⟨#[79, 112, 66, 105, 116, 70, 105, 101, 108, 100, 73, 110, 115, 101, 114, 116, 32, 84, 82, 32, 105, 105, 105, 105, 32, 32, 32, 56]⟩) w)
   (on (xBin P .eql 50 false true a0 (.int .u16 202)) fun x37 =>
   cnd x37
   (Q (.string ⟨#[79, 112, 66, 105, 116, 70, 105, 101, 108, 100, 83, 69, 120, 116, 114, 97, 99, 116, 32, 84, 82, 32, 105, 105, 105, 32, 32, 32, 56]⟩) w)
   (on (xBin P .eql 50 false true a0 (.int .u16 203)) fun x39 =>
   cnd x39
   (Q (.string ⟨#[79, 112, 66, 105, 116, 70, 105, 101, 108, 100, 85, 69, 120, 116, 114, 97, 99, 116, 32, 84, 82, 32, 105, 105, 105, 32, 32, 32, 56]⟩) w)
   (on (xBin P .eql 50 false true a0 (.int .u16 204)) fun x41 =>
   cnd x41
   (Q (.string ⟨#[79, 112, 66, 105, 116, 82, 101, 118, 101, 114, 115, 101, 32, 84, 82, 32, 105, 32, 32, 32, 56]⟩) w)
   (on (xBin P .eql 50 false true a0 (.int .u16 205)) fun x43 =>
   cnd x43
   (Q (.string ⟨#[79, 112, 66, 105, 116, 67, 111, 117, 110, 116, 32, 84, 82, 32, 105, 32, 32, 32, 56]⟩) w)
   (on (xBin P .eql 50 false true a0 (.int .u16 245)) fun x45 =>
   cnd x45
   (Q (.string ⟨#[79, 112, 80, 104, 105, 32, 84, 82, 32, 32, 105, 105, 32, 32, 56]⟩) w)
   (on (xBin P .eql 50 false true a0 (.int .u16 246)) fun x47 =>
   cnd x47
   (Q (.string ⟨#[79, 112, 76, 111, 111, 112, 77, 101, 114, 103, 101, 32, 32, 105, 105, 103, 32, 32, 32, 56]⟩) w)
   (on (xBin P .eql 50 false true a0 (.int .u16 247)) fun x49 =>
   cnd x49
   (Q (.string ⟨#[79, 112, 83, 101, 108, 101, 99, 116, 105, 111, 110, 77, 101, 114, 103, 101, 32, 32, 105, 104, 32, 32, 32, 56]⟩) w)
   (on (xBin P .eql 50 false true a0 (.int .u16 248)) fun x51 =>
   cnd x51
   (Q (.string ⟨#[79, 112, 76, 97, 98, 101, 108, 32, 82, 32, 32, 32, 32, 56]⟩) w)
   (on (xBin P .eql 50 false true a0 (.int .u16 249)) fun x53 =>
   cnd x53
   (Q (.string ⟨#[79, 112, 66, 114, 97, 110, 99, 104, 32, 32, 105, 32, 32, 32, 56]⟩) w)
   (on (xBin P .eql 50 false true a0 (.int .u16 250)) fun x55 =>
   cnd x55
   (Q (.string ⟨#[79, 112, 66, 114, 97, 110, 99, 104, 67, 111, 110, 100, 105, 116, 105, 111, 110, 97, 108, 32, 32, 105, 105, 105, 32, 32, 32, 56]⟩) w)
   (on (xBin P .eql 50 false true a0 (.int .u16 251)) fun x57 =>
   cnd x57
   (Q (.string ⟨#[79, 112, 83, 119, 105, 116, 99, 104, 32, 32, 105, 105, 32, 110, 105, 32, 32, 56]⟩) w)
   (on (xBin P .eql 50 false true a0 (.int .u16 252)) fun x59 =>
   cnd x59
   (Q (.string ⟨#[79, 112, 75, 105, 108, 108, 32, 32, 32, 32, 32, 56]⟩) w)
   (on (xBin P .eql 50 false true a0 (.int .u16 253)) fun x61 =>
   cnd x61
   (Q (.string ⟨#[79, 112, 82, 101, 116, 117, 114, 110, 32, 32, 32, 32, 32, 56]⟩) w)
   (on (xBin P .eql 50 false true a0 (.int .u16 254)) fun x63 =>
   cnd x63
   (Q (.string ⟨#[79, 112, 82, 101, 116, 117, 114, 110, 86, 97, 108, 117, 101, 32, 32, 105, 32, 32, 32, 56]⟩) w)
   (on (xBin P .eql 50 false true a0 (.int .u16 255)) fun x65 =>
   cnd x65
   (Q (.string ⟨#[79, 112, 85, 110, 114, 101, 97, 99, 104, 97, 98, 108, 101, 32, 32, 32, 32, 32, 56]⟩) w)
   (Q (.string ⟨#[]⟩) w)))))))))))))))))))))))))))))))
theorem F114_ok (a0 : Value) (w : World) (Q : Value → World → Prop) (h : F114 a0 w Q) : Cx P 114 #[a0] w Q :=
  pFun false Try.f114 (by kernel_rfl) (by kernel_rfl) (by kernel_rfl) (pLeaf (by kernel_rfl) h)

/- 115 (intaglio/grammar.form).letter -/
def F115.k2 (Q : Value → World → Prop) (w : World) : Prop :=
   Q (.int .u8 0) w
theorem F115.k2_ok (Q : Value → World → Prop) (ρ : Env) (w : World) (h : F115.k2 Q w) : Sd P none false 27 (cR (cN 2 (cB Try.f115))) ρ w (retQ P [.tmp 4] Q) :=
  pLeaf (by kernel_rfl) h
def F115.l1 (Q : Value → World → Prop) : Nat → Value → Value → Value → Value → World → Prop
 | 0, _, _, _, _, _ => False
 | n + 1, v1, v14, v15, v16, w => on (xBin P .lss 3 false false v16 v15) fun x17 =>
   cnd x17
   (on (xIA P 180 v14 v16) fun x18 =>
   on (xLoad P w 175 x18) fun x19 =>
   callV P x19 #[v1] w fun x22 w =>
   on (xBin P .neq 5 false true x22 (.int .u8 0)) fun x24 =>
   cnd x24
   (Q x22 w)
   (on (xBin P .add 3 false true v16 (.int .i64 1)) fun x26 =>
   F115.l1 Q n v1 v14 v15 x26 w))
   (F115.k2 Q w)
theorem F115.l1_ok (Q : Value → World → Prop) (ρ : Env) (w : World) (h : ∃ n, F115.l1 Q n (ρ 1) (ρ 14) (ρ 15) (ρ 16) w) : Sd P none false 27 (cL (cN 1 (cL (cN 2 (cB Try.f115))))) ρ w (blkQ 0 (thenQ (fun ρ w => F115.k2 Q w) (retQ P [.tmp 4] Q))) :=
  pLoop (by kernel_rfl) (fun n ρ w => F115.l1 Q n (ρ 1) (ρ 14) (ρ 15) (ρ 16) w) (fun _ _ h => h) (fun n ρ w h => pLeaf (S := F115.l1 Q (n + 1) (ρ 1) (ρ 14) (ρ 15) (ρ 16) w) (by kernel_rfl) h) h
def F115.k3 (Q : Value → World → Prop) (v1 : Value) (v14 : Value) (v15 : Value) (v16 : Value) (w : World) : Prop :=
   ∃ n, F115.l1 Q n v1 v14 v15 v16 w
theorem F115.k3_ok (Q : Value → World → Prop) (ρ : Env) (w : World) (h : F115.k3 Q (ρ 1) (ρ 14) (ρ 15) (ρ 16) w) : Sd P none false 27 (cN 1 (cL (cN 2 (cB Try.f115)))) ρ w (thenQ (fun ρ w => F115.k2 Q w) (retQ P [.tmp 4] Q)) :=
  pBlock 0 (by kernel_rfl) (F115.l1_ok Q _ _ h)
def F115.k1 (Q : Value → World → Prop) (v1 : Value) (v2 : Value) (w : World) : Prop :=
   on (xLoad P w 174 v2) fun x10 =>
   on (xLoad P w 174 v2) fun x12 =>
   eBS P 180 2 #[(0, (.func (.func 121) #[x10] #[])), (1, (.func (.func 122) #[x12] #[]))] w fun x14 w =>
   on (xLen P w #[180] #[x14]) fun x15 =>
   F115.k3 Q v1 x14 x15 (.int .i64 0) w
theorem F115.k1_ok (Q : Value → World → Prop) (ρ : Env) (w : World) (h : F115.k1 Q (ρ 1) (ρ 2) w) : Sd P none false 27 (cN 2 (cB Try.f115)) ρ w (retQ P [.tmp 4] Q) :=
  pSeq (by kernel_rfl) (fun ρ w => F115.k2 Q w) (fun ρ w h => F115.k2_ok Q ρ w h) (pRow 1 (by kernel_rfl) (fun ρ w => F115.k3 Q (ρ 1) (ρ 14) (ρ 15) (ρ 16) w) (by kernel_rfl) (fun ρ w h => F115.k3_ok Q ρ w h) h)
def F115 (a0 a1 : Value) (w : World) (Q : Value → World → Prop) : Prop :=
   eBox P 174 a0 w fun x2 w =>
   on (xBin P .lss 3 false true a1 (.int .i64 0)) fun x9 =>
   cnd x9
   (Q (.int .u8 0) w)
   (F115.k1 Q a1 x2 w)
theorem F115_ok (a0 a1 : Value) (w : World) (Q : Value → World → Prop) (h : F115 a0 a1 w Q) : Cx P 115 #[a0, a1] w Q :=
  pFun false Try.f115 (by kernel_rfl) (by kernel_rfl) (by kernel_rfl) (pRow 2 (by kernel_rfl) (fun ρ w => F115.k1 Q (ρ 1) (ρ 2) w) (by kernel_rfl) (fun ρ w h => F115.k1_ok Q ρ w h) h)

/- 116 intaglio/grammar.names -/
def F116 (a0 : Value) (w : World) (Q : Value → World → Prop) : Prop :=
   on (xBin P .eql 5 false true a0 (.int .u8 107)) fun x5 =>
   cnd x5
   (Q (.string ⟨#[48, 32, 77, 97, 116, 114, 105, 120, 32, 49, 32, 83, 104, 97, 100, 101, 114, 32]⟩) w)
   (on (xBin P .eql 5 false true a0 (.int .u8 97)) fun x7 =>
   cnd x7
   (Q (.string ⟨#[48, 32, 76, 111, 103, 105, 99, 97, 108, 32]⟩) w)
   (on (xBin P .eql 5 false true a0 (.int .u8 109)) fun x9 =>
   cnd x9
   (Q (.string ⟨#[48, 32, 83, 105, 109, 112, 108, 101, 32, 49, 32, 71, 76, 83, 76, 52, 53, 48, 32]⟩) w)
   (on (xBin P .eql 5 false true a0 (.int .u8 101)) fun x11 =>
   cnd x11
   (Q (.string ⟨#[48, 32, 86, 101, 114, 116, 101, 120, 32, 52, 32, 70, 114, 97, 103, 109, 101, 110, 116, 32]⟩) w)
   (on (xBin P .eql 5 false true a0 (.int .u8 120)) fun x13 =>
   cnd x13
   (Q (.string ⟨#[55, 32, 79, 114, 105, 103, 105, 110, 85, 112, 112, 101, 114, 76, 101, 102, 116, 32]⟩) w)
   (on (xBin P .eql 5 false true a0 (.int .u8 108)) fun x15 =>
   cnd x15
   (Q (.string ⟨#[48, 32, 85, 110, 107, 110, 111, 119, 110, 32, 49, 32, 69, 83, 83, 76, 32, 50, 32, 71, 76, 83, 76, 32]⟩) w)
   (on (xBin P .eql 5 false true a0 (.int .u8 99)) fun x17 =>
   cnd x17
   (Q (.string ⟨#[49, 32, 73, 110, 112, 117, 116, 32, 51, 32, 79, 117, 116, 112, 117, 116, 32, 54, 32, 80, 114, 105, 118, 97, 116, 101, 32, 55, 32, 70, 117, 110, 99, 116, 105, 111, 110, 32]⟩) w)
   (on (xBin P .eql 5 false true a0 (.int .u8 100)) fun x19 =>
   cnd x19
   (Q (.string ⟨#[48, 32, 82, 101, 108, 97, 120, 101, 100, 80, 114, 101, 99, 105, 115, 105, 111, 110, 32, 49, 49, 32, 66, 117, 105, 108, 116, 73, 110, 32, 49, 52, 32, 70, 108, 97, 116, 32, 51, 48, 32, 76, 111, 99, 97, 116, 105, 111, 110, 32]⟩) w)
   (on (xBin P .eql 5 false true a0 (.int .u8 102)) fun x21 =>
   cnd x21
   (Q (.string ⟨#[48, 32, 78, 111, 110, 101, 32, 49, 32, 73, 110, 108, 105, 110, 101, 32, 50, 32, 68, 111, 110, 116, 73, 110, 108, 105, 110, 101, 32, 52, 32, 80, 117, 114, 101, 32, 56, 32, 67, 111, 110, 115, 116, 32]⟩) w)
   (on (xBin P .eql 5 false true a0 (.int .u8 104)) fun x23 =>
   cnd x23
   (Q (.string ⟨#[48, 32, 78, 111, 110, 101, 32, 49, 32, 70, 108, 97, 116, 116, 101, 110, 32, 50, 32, 68, 111, 110, 116, 70, 108, 97, 116, 116, 101, 110, 32]⟩) w)
   (on (xBin P .eql 5 false true a0 (.int .u8 103)) fun x25 =>
   cnd x25
   (Q (.string ⟨#[48, 32, 78, 111, 110, 101, 32, 49, 32, 85, 110, 114, 111, 108, 108, 32, 50, 32, 68, 111, 110, 116, 85, 110, 114, 111, 108, 108, 32]⟩) w)
   (Q (.string ⟨#[]⟩) w)))))))))))
theorem F116_ok (a0 : Value) (w : World) (Q : Value → World → Prop) (h : F116 a0 w Q) : Cx P 116 #[a0] w Q :=
  pFun false Try.f116 (by kernel_rfl) (by kernel_rfl) (by kernel_rfl) (pLeaf (by kernel_rfl) h)

/- 118 intaglio/words.OfText -/
def F118.k4 (Q : Value → World → Prop) (v5 : Value) (w : World) : Prop :=
   Q (.tuple #[v5, (.int .i64 0)]) w
theorem F118.k4_ok (Q : Value → World → Prop) (ρ : Env) (w : World) (h : F118.k4 Q (ρ 5) w) : Sd P none false 45 (cR (cN 2 (cR (cN 1 (cB Try.f118))))) ρ w (retQ P [.tmp 2, .tmp 3] Q) :=
  pLeaf (by kernel_rfl) h
def F118.l1 (Q : Value → World → Prop) : Nat → Value → Value → Value → Value → World → Prop
 | 0, _, _, _, _, _ => False
 | n + 1, v0, v5, v24, v25, w => on (xBin P .lss 3 false false v25 v24) fun x26 =>
   cnd x26
   (Dr w fun w =>
   on (xBin P .quo 3 false true v25 (.int .i64 4)) fun x30 =>
   on (xIA P 113 v5 x30) fun x31 =>
   on (xLoad P w 22 x31) fun x32 =>
   on (xIx P 9 v0 v25) fun x35 =>
   on (xConv P 5 22 x35) fun x36 =>
   on (xBin P .rem 3 false true v25 (.int .i64 4)) fun x38 =>
   on (xBin P .mul 3 true false (.int .i64 8) x38) fun x39 =>
   on (xBin P .shl 22 false false x36 x39) fun x40 =>
   on (xBin P .or 22 false false x32 x40) fun x41 =>
   on (xIA P 113 v5 x30) fun x42 =>
   eStore P 22 x42 x41 w fun w =>
   on (xBin P .add 3 false true v25 (.int .i64 1)) fun x43 =>
   F118.l1 Q n v0 v5 v24 x43 w)
   (F118.k4 Q v5 w)
theorem F118.l1_ok (Q : Value → World → Prop) (ρ : Env) (w : World) (h : ∃ n, F118.l1 Q n (ρ 0) (ρ 5) (ρ 24) (ρ 25) w) : Sd P none false 45 (cL (cN 1 (cL (cN 2 (cR (cN 1 (cB Try.f118))))))) ρ w (blkQ 2 (thenQ (fun ρ w => F118.k4 Q (ρ 5) w) (retQ P [.tmp 2, .tmp 3] Q))) :=
  pLoop (by kernel_rfl) (fun n ρ w => F118.l1 Q n (ρ 0) (ρ 5) (ρ 24) (ρ 25) w) (fun _ _ h => h) (fun n ρ w h => pLeaf (S := F118.l1 Q (n + 1) (ρ 0) (ρ 5) (ρ 24) (ρ 25) w) (by kernel_rfl) h) h
def F118.k5 (Q : Value → World → Prop) (v0 : Value) (v5 : Value) (v24 : Value) (v25 : Value) (w : World) : Prop :=
   ∃ n, F118.l1 Q n v0 v5 v24 v25 w
theorem F118.k5_ok (Q : Value → World → Prop) (ρ : Env) (w : World) (h : F118.k5 Q (ρ 0) (ρ 5) (ρ 24) (ρ 25) w) : Sd P none false 45 (cN 1 (cL (cN 2 (cR (cN 1 (cB Try.f118)))))) ρ w (thenQ (fun ρ w => F118.k4 Q (ρ 5) w) (retQ P [.tmp 2, .tmp 3] Q)) :=
  pBlock 2 (by kernel_rfl) (F118.l1_ok Q _ _ h)
def F118.k3 (Q : Value → World → Prop) (v0 : Value) (v5 : Value) (w : World) : Prop :=
   on (xLen P w #[9] #[v0]) fun x24 =>
   F118.k5 Q v0 v5 x24 (.int .i64 0) w
theorem F118.k3_ok (Q : Value → World → Prop) (ρ : Env) (w : World) (h : F118.k3 Q (ρ 0) (ρ 5) w) : Sd P none false 45 (cN 2 (cR (cN 1 (cB Try.f118)))) ρ w (retQ P [.tmp 2, .tmp 3] Q) :=
  pSeq (by kernel_rfl) (fun ρ w => F118.k4 Q (ρ 5) w) (fun ρ w h => F118.k4_ok Q ρ w h) (pRow 1 (by kernel_rfl) (fun ρ w => F118.k5 Q (ρ 0) (ρ 5) (ρ 24) (ρ 25) w) (by kernel_rfl) (fun ρ w h => F118.k5_ok Q ρ w h) h)
def F118.k2 (Q : Value → World → Prop) (v0 : Value) (w : World) : Prop :=
   Cx P 119 #[v0] w fun x18 w =>
   on (xBin P .gtr 3 false true x18 (.int .i64 65535)) fun x19 =>
   cnd x19
   (Q (.tuple #[(.slice none 0 0), (.int .i64 4)]) w)
   (Cx P 119 #[v0] w fun x21 w =>
   eMkSl P 113 x21 x21 w fun x22 w =>
   F118.k3 Q v0 x22 w)
theorem F118.k2_ok (Q : Value → World → Prop) (ρ : Env) (w : World) (h : F118.k2 Q (ρ 0) w) : Sd P none false 45 (cR (cN 1 (cB Try.f118))) ρ w (retQ P [.tmp 2, .tmp 3] Q) :=
  pRow 2 (by kernel_rfl) (fun ρ w => F118.k3 Q (ρ 0) (ρ 5) w) (by kernel_rfl) (fun ρ w h => F118.k3_ok Q ρ w h) h
def F118.l2 (Q : Value → World → Prop) : Nat → Value → Value → Value → World → Prop
 | 0, _, _, _, _ => False
 | n + 1, v0, v8, v9, w => on (xBin P .lss 3 false false v9 v8) fun x10 =>
   cnd x10
   (on (xIx P 9 v0 v9) fun x14 =>
   on (xBin P .eql 5 false true x14 (.int .u8 0)) fun x15 =>
   cnd x15
   (Q (.tuple #[(.slice none 0 0), (.int .i64 13)]) w)
   (on (xBin P .add 3 false true v9 (.int .i64 1)) fun x16 =>
   F118.l2 Q n v0 v8 x16 w))
   (F118.k2 Q v0 w)
theorem F118.l2_ok (Q : Value → World → Prop) (ρ : Env) (w : World) (h : ∃ n, F118.l2 Q n (ρ 0) (ρ 8) (ρ 9) w) : Sd P none false 45 (cL (cN 1 (cL (cN 1 (cB Try.f118))))) ρ w (blkQ 0 (thenQ (fun ρ w => F118.k2 Q (ρ 0) w) (retQ P [.tmp 2, .tmp 3] Q))) :=
  pLoop (by kernel_rfl) (fun n ρ w => F118.l2 Q n (ρ 0) (ρ 8) (ρ 9) w) (fun _ _ h => h) (fun n ρ w h => pLeaf (S := F118.l2 Q (n + 1) (ρ 0) (ρ 8) (ρ 9) w) (by kernel_rfl) h) h
def F118.k6 (Q : Value → World → Prop) (v0 : Value) (v8 : Value) (v9 : Value) (w : World) : Prop :=
   ∃ n, F118.l2 Q n v0 v8 v9 w
theorem F118.k6_ok (Q : Value → World → Prop) (ρ : Env) (w : World) (h : F118.k6 Q (ρ 0) (ρ 8) (ρ 9) w) : Sd P none false 45 (cN 1 (cL (cN 1 (cB Try.f118)))) ρ w (thenQ (fun ρ w => F118.k2 Q (ρ 0) w) (retQ P [.tmp 2, .tmp 3] Q)) :=
  pBlock 0 (by kernel_rfl) (F118.l2_ok Q _ _ h)
def F118.k1 (Q : Value → World → Prop) (v0 : Value) (w : World) : Prop :=
   on (xLen P w #[9] #[v0]) fun x8 =>
   F118.k6 Q v0 x8 (.int .i64 0) w
theorem F118.k1_ok (Q : Value → World → Prop) (ρ : Env) (w : World) (h : F118.k1 Q (ρ 0) w) : Sd P none false 45 (cN 1 (cB Try.f118)) ρ w (retQ P [.tmp 2, .tmp 3] Q) :=
  pSeq (by kernel_rfl) (fun ρ w => F118.k2 Q (ρ 0) w) (fun ρ w h => F118.k2_ok Q ρ w h) (pRow 1 (by kernel_rfl) (fun ρ w => F118.k6 Q (ρ 0) (ρ 8) (ρ 9) w) (by kernel_rfl) (fun ρ w h => F118.k6_ok Q ρ w h) h)
def F118 (a0 : Value) (w : World) (Q : Value → World → Prop) : Prop :=
   F118.k1 Q a0 w
theorem F118_ok (a0 : Value) (w : World) (Q : Value → World → Prop) (h : F118 a0 w Q) : Cx P 118 #[a0] w Q :=
  pFun false Try.f118 (by kernel_rfl) (by kernel_rfl) (by kernel_rfl) (pRow 1 (by kernel_rfl) (fun ρ w => F118.k1 Q (ρ 0) w) (by kernel_rfl) (fun ρ w h => F118.k1_ok Q ρ w h) h)

/- 119 intaglio/words.Room -/
def F119 (a0 : Value) (w : World) (Q : Value → World → Prop) : Prop :=
   on (xLen P w #[9] #[a0]) fun x4 =>
   on (xBin P .quo 3 false true x4 (.int .i64 4)) fun x5 =>
   on (xBin P .add 3 false true x5 (.int .i64 1)) fun x6 =>
   Q x6 w
theorem F119_ok (a0 : Value) (w : World) (Q : Value → World → Prop) (h : F119 a0 w Q) : Cx P 119 #[a0] w Q :=
  pFun false Try.f119 (by kernel_rfl) (by kernel_rfl) (by kernel_rfl) (pLeaf (by kernel_rfl) h)

/- 120 intaglio/grammar.Enum -/
def F120.k2 (Q : Value → World → Prop) (ds : List Nat) (v4 : Value) (v5 : Value) (w : World) : Prop :=
   eStore P 9 v4 (.string ⟨#[]⟩) w fun w =>
   eStore P 4 v5 (.bool false) w fun w =>
   unw ds w fun w =>
   on (xRes P w 9 v4) fun x900 =>
   on (xRes P w 4 v5) fun x901 =>
   Q (.tuple #[x900, x901]) w
theorem F120.k2_ok (Q : Value → World → Prop) (ρ : Env) (w : World) (h : F120.k2 Q ρ.d (ρ 4) (ρ 5) w) : Sd P none true 16 (cR (cN 1 (cB Try.f120))) ρ w (retM P [.cell 4 9, .cell 5 4] Q) :=
  pLeaf (by kernel_rfl) h
def F120.k4 (Q : Value → World → Prop) (l : Nat) (v3 : Value) (v4 : Value) (v5 : Value) (v6 : Value) (v7 : Value) (w : World) : Prop :=
   on (xLoad P w 22 v3) fun x13 =>
   on (xBin P .eql 22 false false v6 x13) fun x14 =>
   cnd x14
   (eStore P 9 v4 v7 w fun w =>
   eStore P 4 v5 (.bool true) w fun w =>
   rEnd l (some .ret) w fun w =>
   Q (.bool false) w)
   (rEnd l none w fun w =>
   Q (.bool true) w)
theorem F120.k4_ok (Q : Value → World → Prop) (l : Nat) (ρ : Env) (w : World) (h : F120.k4 Q l (ρ 3) (ρ 4) (ρ 5) (ρ 6) (ρ 7) w) : Sd P (some l) false 16 (cR (cL (cN 1 (cL (cN 1 (cB Try.f120)))))) ρ w (rndQ l Q) :=
  pLeaf (by kernel_rfl) h
def F120.r1 (Q : Value → World → Prop) (l : Nat) (v3 : Value) (v4 : Value) (v5 : Value) (v10 : Value) (v11 : Value) (w : World) : Prop :=
   rBeg l w fun w =>
   F120.k4 Q l v3 v4 v5 v10 v11 w
theorem F120.r1_ok (Q : Value → World → Prop) (l : Nat) {st : LoopState} {pend : Option Code} {w : World} {v3 v4 v5 : Value} (a10 a11 : Value) (hr : LRec 16 #[10, 11] (cL (cL (cN 1 (cL (cN 1 (cB Try.f120)))))) (cR (cL (cN 1 (cL (cN 1 (cB Try.f120)))))) [(3, v3), (4, v4), (5, v5)] l .ready pend w) (h : F120.r1 Q l v3 v4 v5 a10 a11 w) : callV P (.func (.yield l) #[] #[]) #[a10, a11] w Q :=
  yield_ok (ps := [10, 11]) (args := [a10, a11]) hr rfl (fun ρ w => F120.r1 Q l (ρ 3) (ρ 4) (ρ 5) (ρ 10) (ρ 11) w) (fun ρ w => F120.k4 Q l (ρ 3) (ρ 4) (ρ 5) (ρ 6) (ρ 7) w) (fun ρ w h => pLeaf (S := F120.r1 Q l (ρ 3) (ρ 4) (ρ 5) (ρ 10) (ρ 11) w) (by kernel_rfl) h) (fun ρ w h => F120.k4_ok Q l ρ w h) (by intro f hf; obtain ⟨e3, e4, e5, _⟩ := hf; dsimp only at e3 e4 e5; subst e3 e4 e5; exact h)
def F120.k3 (Q : Value → World → Prop) (ds : List Nat) (v3 : Value) (v4 : Value) (v5 : Value) (v9 : Value) (w : World) : Prop :=
   RFo 16 #[10, 11] (cL (cL (cN 1 (cL (cN 1 (cB Try.f120)))))) (cR (cL (cN 1 (cL (cN 1 (cB Try.f120)))))) [(3, v3), (4, v4), (5, v5)] w fun d l w =>
   callF P v9 #[.func (.yield l) #[] #[]] w fun _ w =>
   rfEnd l w fun j w =>
   jm j w (fun w => F120.k2 Q (d :: ds) v4 v5 w) (fun w => unw (d :: ds) w fun w =>
   on (xRes P w 9 v4) fun x900 =>
   on (xRes P w 4 v5) fun x901 =>
   Q (.tuple #[x900, x901]) w) []
theorem F120.k3_ok (Q : Value → World → Prop) (ρ : Env) (w : World) (h : F120.k3 Q ρ.d (ρ 3) (ρ 4) (ρ 5) (ρ 9) w) : Sd P none true 16 (cN 1 (cL (cN 1 (cB Try.f120)))) ρ w (thenQ (fun ρ w => F120.k2 Q ρ.d (ρ 4) (ρ 5) w) (retM P [.cell 4 9, .cell 5 4] Q)) :=
  pBlock 0 (by kernel_rfl) (pRFo (.tmp 9) #[10, 11] (by kernel_rfl) [(3, (ρ 3)), (4, (ρ 4)), (5, (ρ 5))] ⟨rfl, rfl, rfl, trivial⟩ (fun d w => F120.k2 Q (d :: ρ.d) (ρ 4) (ρ 5) w) (fun d w => unw (d :: ρ.d) w fun w =>
on (xRes P w 9 (ρ 4)) fun x900_2 =>
on (xRes P w 4 (ρ 5)) fun x901_2 =>
Q (.tuple #[x900_2, x901_2]) w) (fun d => []) (fun d w => by kernel_rfl) (fun d w => by kernel_rfl) (fun d => trivial) h)
def F120.k1 (Q : Value → World → Prop) (ds : List Nat) (v0 : Value) (v3 : Value) (v4 : Value) (v5 : Value) (w : World) : Prop :=
   Cx P 124 #[v0] w fun x9 w =>
   F120.k3 Q ds v3 v4 v5 x9 w
theorem F120.k1_ok (Q : Value → World → Prop) (ρ : Env) (w : World) (h : F120.k1 Q ρ.d (ρ 0) (ρ 3) (ρ 4) (ρ 5) w) : Sd P none true 16 (cN 1 (cB Try.f120)) ρ w (retM P [.cell 4 9, .cell 5 4] Q) :=
  pSeq (by kernel_rfl) (fun ρ w => F120.k2 Q ρ.d (ρ 4) (ρ 5) w) (fun ρ w h => F120.k2_ok Q ρ w h) (pRow 1 (by kernel_rfl) (fun ρ w => F120.k3 Q ρ.d (ρ 3) (ρ 4) (ρ 5) (ρ 9) w) (by kernel_rfl) (fun ρ w h => F120.k3_ok Q ρ w h) h)
def F120 (a0 a1 : Value) (w : World) (Q : Value → World → Prop) : Prop :=
   eBox P 22 a1 w fun x3 w =>
   eAlloc P 9 w fun x4 w =>
   eAlloc P 4 w fun x5 w =>
   F120.k1 Q [] a0 x3 x4 x5 w
theorem F120_ok (a0 a1 : Value) (w : World) (Q : Value → World → Prop) (h : F120 a0 a1 w Q) : Cx P 120 #[a0, a1] w Q :=
  pFun true Try.f120 (by kernel_rfl) (by kernel_rfl) (by kernel_rfl) (pRow 1 (by kernel_rfl) (fun ρ w => F120.k1 Q ρ.d (ρ 0) (ρ 3) (ρ 4) (ρ 5) w) (by kernel_rfl) (fun ρ w h => F120.k1_ok Q ρ w h) h)

/- 121 (intaglio/grammar.form).fixed -/
def F121.k1 (Q : Value → World → Prop) (v1 : Value) (v2 : Value) (w : World) : Prop :=
   on (xFA P 174 v2 0) fun x15 =>
   on (xFA P 77 x15 4) fun x16 =>
   on (xLoad P w 9 x16) fun x17 =>
   on (xIx P 9 x17 v1) fun x19 =>
   Q x19 w
theorem F121.k1_ok (Q : Value → World → Prop) (ρ : Env) (w : World) (h : F121.k1 Q (ρ 1) (ρ 2) w) : Sd P none false 20 (cN 2 (cB Try.f121)) ρ w (retQ P [.tmp 4] Q) :=
  pLeaf (by kernel_rfl) h
def F121 (a0 a1 : Value) (w : World) (Q : Value → World → Prop) : Prop :=
   eBox P 174 a0 w fun x2 w =>
   on (xBin P .lss 3 false true a1 (.int .i64 0)) fun x6 =>
   cnd x6
   (Q (.int .u8 0) w)
   (on (xFA P 174 x2 0) fun x9 =>
   on (xFA P 77 x9 4) fun x10 =>
   on (xLoad P w 9 x10) fun x11 =>
   on (xLen P w #[9] #[x11]) fun x12 =>
   on (xBin P .geq 3 false false a1 x12) fun x13 =>
   cnd x13
   (Q (.int .u8 0) w)
   (F121.k1 Q a1 x2 w))
theorem F121_ok (a0 a1 : Value) (w : World) (Q : Value → World → Prop) (h : F121 a0 a1 w Q) : Cx P 121 #[a0, a1] w Q :=
  pFun false Try.f121 (by kernel_rfl) (by kernel_rfl) (by kernel_rfl) (pRow 2 (by kernel_rfl) (fun ρ w => F121.k1 Q (ρ 1) (ρ 2) w) (by kernel_rfl) (fun ρ w h => F121.k1_ok Q ρ w h) h)

/- 122 (intaglio/grammar.form).rest -/
def F122.k1 (Q : Value → World → Prop) (v1 : Value) (v2 : Value) (w : World) : Prop :=
   Dr w fun w =>
   on (xFA P 174 v2 0) fun x37 =>
   on (xFA P 77 x37 5) fun x38 =>
   on (xLoad P w 9 x38) fun x39 =>
   on (xFA P 174 v2 0) fun x41 =>
   on (xFA P 77 x41 5) fun x42 =>
   on (xLoad P w 9 x42) fun x43 =>
   on (xLen P w #[9] #[x43]) fun x44 =>
   on (xBin P .rem 3 false false v1 x44) fun x45 =>
   on (xIx P 9 x39 x45) fun x46 =>
   Q x46 w
theorem F122.k1_ok (Q : Value → World → Prop) (ρ : Env) (w : World) (h : F122.k1 Q (ρ 1) (ρ 2) w) : Sd P none false 47 (cN 3 (cB Try.f122)) ρ w (retQ P [.tmp 4] Q) :=
  pLeaf (by kernel_rfl) h
def F122 (a0 a1 : Value) (w : World) (Q : Value → World → Prop) : Prop :=
   eBox P 174 a0 w fun x2 w =>
   on (xFA P 174 x2 0) fun x6 =>
   on (xFA P 77 x6 4) fun x7 =>
   on (xLoad P w 9 x7) fun x8 =>
   on (xLen P w #[9] #[x8]) fun x9 =>
   on (xBin P .sub 3 false false a1 x9) fun x10 =>
   on (xBin P .lss 3 false true x10 (.int .i64 0)) fun x12 =>
   cnd x12
   (Q (.int .u8 0) w)
   (on (xFA P 174 x2 0) fun x14 =>
   on (xFA P 77 x14 5) fun x15 =>
   on (xLoad P w 9 x15) fun x16 =>
   on (xBin P .eql 9 false true x16 (.string ⟨#[]⟩)) fun x17 =>
   cnd x17
   (Q (.int .u8 0) w)
   (on (xFA P 174 x2 0) fun x20 =>
   on (xFA P 77 x20 6) fun x21 =>
   on (xLoad P w 3 x21) fun x22 =>
   on (xBin P .gtr 3 false true x22 (.int .i64 0)) fun x23 =>
   cnd x23
   (on (xFA P 174 x2 0) fun x26 =>
   on (xFA P 77 x26 6) fun x27 =>
   on (xLoad P w 3 x27) fun x28 =>
   on (xFA P 174 x2 0) fun x29 =>
   on (xFA P 77 x29 5) fun x30 =>
   on (xLoad P w 9 x30) fun x31 =>
   on (xLen P w #[9] #[x31]) fun x32 =>
   on (xBin P .mul 3 false false x28 x32) fun x33 =>
   on (xBin P .geq 3 false false x10 x33) fun x34 =>
   cnd x34
   (Q (.int .u8 0) w)
   (F122.k1 Q x10 x2 w))
   (F122.k1 Q x10 x2 w)))
theorem F122_ok (a0 a1 : Value) (w : World) (Q : Value → World → Prop) (h : F122 a0 a1 w Q) : Cx P 122 #[a0, a1] w Q :=
  pFun false Try.f122 (by kernel_rfl) (by kernel_rfl) (by kernel_rfl) (pRow 3 (by kernel_rfl) (fun ρ w => F122.k1 Q (ρ 1) (ρ 2) w) (by kernel_rfl) (fun ρ w h => F122.k1_ok Q ρ w h) h)

/- 124 intaglio/grammar.Enums -/
def F124 (a0 : Value) (w : World) (Q : Value → World → Prop) : Prop :=
   eBox P 5 a0 w fun x1 w =>
   Q (.func (.func 126) #[] #[x1]) w
theorem F124_ok (a0 : Value) (w : World) (Q : Value → World → Prop) (h : F124 a0 w Q) : Cx P 124 #[a0] w Q :=
  pFun false Try.f124 (by kernel_rfl) (by kernel_rfl) (by kernel_rfl) (pLeaf (by kernel_rfl) h)

/- 126 intaglio/grammar.Enums$1 -/
def F126.l1 (Q : Value → World → Prop) : Nat → Value → Value → Value → Value → Value → World → Prop
 | 0, _, _, _, _, _, _ => False
 | n + 1, v0, v3, v5, v6, v11, w => eNext P v11 true w fun x12 w =>
   on (xEx P x12 0) fun x13 =>
   cnd x13
   (on (xEx P x12 2) fun x14 =>
   on (xBin P .neq 21 false true x14 (.int .i32 32)) fun x23 =>
   cnd x23
   (eConv P 21 9 x14 w fun x26 w =>
   on (xBin P .add 9 false false v5 x26) fun x27 =>
   F126.l1 Q n v0 v3 x27 v6 v11 w)
   (on (xUn P .not v6) fun x30 =>
   cnd x30
   (Cx P 127 #[v5] w fun x32 w =>
   on (xUn P .not v6) fun x34 =>
   F126.l1 Q n v0 x32 (.string ⟨#[]⟩) x34 v11 w)
   (callV P v0 #[v3, v5] w fun x19 w =>
   on (xUn P .not x19) fun x20 =>
   cnd x20
   (Q (.tuple #[]) w)
   (on (xUn P .not v6) fun x34_2 =>
   F126.l1 Q n v0 v3 (.string ⟨#[]⟩) x34_2 v11 w))))
   (Q (.tuple #[]) w)
theorem F126.l1_ok (Q : Value → World → Prop) (ρ : Env) (w : World) (h : ∃ n, F126.l1 Q n (ρ 0) (ρ 3) (ρ 5) (ρ 6) (ρ 11) w) : Sd P none false 35 (cL (cN 4 (cB Try.f126))) ρ w (blkQ 0 (retQ P [] Q)) :=
  pLoop (by kernel_rfl) (fun n ρ w => F126.l1 Q n (ρ 0) (ρ 3) (ρ 5) (ρ 6) (ρ 11) w) (fun _ _ h => h) (fun n ρ w h => pLeaf (S := F126.l1 Q (n + 1) (ρ 0) (ρ 3) (ρ 5) (ρ 6) (ρ 11) w) (by kernel_rfl) h) h
def F126.k1 (Q : Value → World → Prop) (v0 : Value) (v3 : Value) (v5 : Value) (v6 : Value) (v11 : Value) (w : World) : Prop :=
   ∃ n, F126.l1 Q n v0 v3 v5 v6 v11 w
theorem F126.k1_ok (Q : Value → World → Prop) (ρ : Env) (w : World) (h : F126.k1 Q (ρ 0) (ρ 3) (ρ 5) (ρ 6) (ρ 11) w) : Sd P none false 35 (cN 4 (cB Try.f126)) ρ w (retQ P [] Q) :=
  pBlock 0 (by kernel_rfl) (F126.l1_ok Q _ _ h)
def F126 (a0 a1 : Value) (w : World) (Q : Value → World → Prop) : Prop :=
   on (xLoad P w 5 a1) fun x9 =>
   Cx P 116 #[x9] w fun x10 w =>
   eRange P 9 x10 w fun x11 w =>
   F126.k1 Q a0 (.int .u32 0) (.string ⟨#[]⟩) (.bool false) x11 w
theorem F126_ok (a0 a1 : Value) (w : World) (Q : Value → World → Prop) (h : F126 a0 a1 w Q) : Cx P 126 #[a0, a1] w Q :=
  pFun false Try.f126 (by kernel_rfl) (by kernel_rfl) (by kernel_rfl) (pRow 4 (by kernel_rfl) (fun ρ w => F126.k1 Q (ρ 0) (ρ 3) (ρ 5) (ρ 6) (ρ 11) w) (by kernel_rfl) (fun ρ w h => F126.k1_ok Q ρ w h) h)

/- 127 intaglio/grammar.number -/
def F127.k2 (Q : Value → World → Prop) (v3 : Value) (w : World) : Prop :=
   Q v3 w
theorem F127.k2_ok (Q : Value → World → Prop) (ρ : Env) (w : World) (h : F127.k2 Q (ρ 3) w) : Sd P none false 18 (cR (cN 2 (cB Try.f127))) ρ w (retQ P [.tmp 2] Q) :=
  pLeaf (by kernel_rfl) h
def F127.l1 (Q : Value → World → Prop) : Nat → Value → Value → World → Prop
 | 0, _, _, _ => False
 | n + 1, v3, v7, w => eNext P v7 true w fun x8 w =>
   on (xEx P x8 0) fun x9 =>
   cnd x9
   (on (xEx P x8 2) fun x10 =>
   on (xBin P .mul 22 true false (.int .u32 10) v3) fun x12 =>
   on (xBin P .sub 21 false true x10 (.int .i32 48)) fun x14 =>
   on (xConv P 21 22 x14) fun x15 =>
   on (xBin P .add 22 false false x12 x15) fun x16 =>
   F127.l1 Q n x16 v7 w)
   (F127.k2 Q v3 w)
theorem F127.l1_ok (Q : Value → World → Prop) (ρ : Env) (w : World) (h : ∃ n, F127.l1 Q n (ρ 3) (ρ 7) w) : Sd P none false 18 (cL (cN 1 (cL (cN 2 (cB Try.f127))))) ρ w (blkQ 0 (thenQ (fun ρ w => F127.k2 Q (ρ 3) w) (retQ P [.tmp 2] Q))) :=
  pLoop (by kernel_rfl) (fun n ρ w => F127.l1 Q n (ρ 3) (ρ 7) w) (fun _ _ h => h) (fun n ρ w h => pLeaf (S := F127.l1 Q (n + 1) (ρ 3) (ρ 7) w) (by kernel_rfl) h) h
def F127.k3 (Q : Value → World → Prop) (v3 : Value) (v7 : Value) (w : World) : Prop :=
   ∃ n, F127.l1 Q n v3 v7 w
theorem F127.k3_ok (Q : Value → World → Prop) (ρ : Env) (w : World) (h : F127.k3 Q (ρ 3) (ρ 7) w) : Sd P none false 18 (cN 1 (cL (cN 2 (cB Try.f127)))) ρ w (thenQ (fun ρ w => F127.k2 Q (ρ 3) w) (retQ P [.tmp 2] Q)) :=
  pBlock 0 (by kernel_rfl) (F127.l1_ok Q _ _ h)
def F127.k1 (Q : Value → World → Prop) (v0 : Value) (v3 : Value) (w : World) : Prop :=
   eRange P 9 v0 w fun x7 w =>
   F127.k3 Q v3 x7 w
theorem F127.k1_ok (Q : Value → World → Prop) (ρ : Env) (w : World) (h : F127.k1 Q (ρ 0) (ρ 3) w) : Sd P none false 18 (cN 2 (cB Try.f127)) ρ w (retQ P [.tmp 2] Q) :=
  pSeq (by kernel_rfl) (fun ρ w => F127.k2 Q (ρ 3) w) (fun ρ w h => F127.k2_ok Q ρ w h) (pRow 1 (by kernel_rfl) (fun ρ w => F127.k3 Q (ρ 3) (ρ 7) w) (by kernel_rfl) (fun ρ w h => F127.k3_ok Q ρ w h) h)
def F127 (a0 : Value) (w : World) (Q : Value → World → Prop) : Prop :=
   F127.k1 Q a0 (.int .u32 0) w
theorem F127_ok (a0 : Value) (w : World) (Q : Value → World → Prop) (h : F127 a0 w Q) : Cx P 127 #[a0] w Q :=
  pFun false Try.f127 (by kernel_rfl) (by kernel_rfl) (by kernel_rfl) (pRow 2 (by kernel_rfl) (fun ρ w => F127.k1 Q (ρ 0) (ρ 3) w) (by kernel_rfl) (fun ρ w h => F127.k1_ok Q ρ w h) h)

end Go.Proofs.Ytlmcppbpobnfjaa
