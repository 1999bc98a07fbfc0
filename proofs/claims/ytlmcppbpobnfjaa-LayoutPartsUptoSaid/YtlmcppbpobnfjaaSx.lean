/-
  The library's functions, by the shelf's contracts.
-/
import Derived.Test.YtlmcppbpobnfjaaTg
import Derived.Shelf.Small.Strs
namespace Go.Proofs.Ytlmcppbpobnfjaa
open Go Go.Vc
set_option linter.unusedSimpArgs false
set_option linter.unusedVariables false
set_option maxRecDepth 20000

def renS : Shelf.Ren := ⟨fun x => if x = 137 then 117 else if x = 217 then 123 else 125, fun x => if x = 3 then 3 else if x = 5 then 5 else 9, fun x => x⟩
theorem lays_ib : Lays.n137 P renS :=
  { mixed := by kernel_rfl
    f137 := by kernel_rfl
    f217 := by kernel_rfl
    f266 := by kernel_rfl
    t3 := by kernel_rfl
    a3 := fun w => by kernel_rfl
    z3 := fun w => by kernel_rfl
    v3 := fun w => by kernel_rfl
    t5 := by kernel_rfl
    a5 := fun w => by kernel_rfl
    z5 := fun w => by kernel_rfl
    v5 := fun w => by kernel_rfl
    t9 := by kernel_rfl
    a9 := fun w => by kernel_rfl
    z9 := fun w => by kernel_rfl
    v9 := fun w => by kernel_rfl }
theorem c_indexByte (s : ByteArray) (c : Int) (w : World) : Cx P 117 #[.string s, .int .u8 c] w fun v w' => v = .int .i64 (Lib.indexByte s.data.toList c.toNat.toUInt8) ∧ w' = w :=
  Cx.of (Any.strings_IndexByte lays_ib s c w) fun e w' ⟨h1, h2⟩ => ⟨_, h1, rfl, h2⟩
end Go.Proofs.Ytlmcppbpobnfjaa

