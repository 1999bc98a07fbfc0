/-
  The data of the program as plain structures: arguments, instructions, modules, forms.
-/
import Derived.Test.YtlmcppbpobnfjaaTf
namespace Go.Proofs.Ytlmcppbpobnfjaa
open Go Go.Vc
set_option linter.unusedSimpArgs false
set_option linter.unusedVariables false
set_option maxRecDepth 20000

structure Arg where
  kind : Int
  n : Int
  s : ByteArray
structure Inst where
  op : Int
  ty : Int
  res : Int
  av : Value
  args : List Arg
def Arg.c (a : Arg) : List Value := [.int .u8 a.kind, .int .u32 a.n, .string a.s]
def Inst.c (i : Inst) : List Value := [.int .u16 i.op, .int .u32 i.ty, .int .u32 i.res, i.av]
def Inst.v (i : Inst) : Value := .agg #[.int .u16 i.op, .int .u32 i.ty, .int .u32 i.res, i.av]
/-- The arguments of an instruction lie in the world. -/
def ArgsAt (w : World) (i : Inst) : Prop := Sl w 3 i.av (i.args.map Arg.c)
/-- Instructions, and their arguments, lie in the world. -/
def InstsAt (w : World) (v : Value) (l : List Inst) : Prop := Sl w 4 v (l.map Inst.c) ∧ ∀ i ∈ l, ArgsAt w i
end Go.Proofs.Ytlmcppbpobnfjaa

