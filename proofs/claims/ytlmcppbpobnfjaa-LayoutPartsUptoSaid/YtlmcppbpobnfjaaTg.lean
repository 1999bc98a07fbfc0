/-
  The tables of the operations as plain data: rows (texts) and forms; printed by this session's tabgen.py.
-/
import Derived.Test.YtlmcppbpobnfjaaDa
import Derived.Test.YtlmcppbpobnfjaaVs
namespace Go.Proofs.Ytlmcppbpobnfjaa
open Go Go.Vc
set_option linter.unusedSimpArgs false
set_option linter.unusedVariables false
set_option maxRecDepth 20000
set_option maxRecDepth 100000

/-- What an operation may have. -/
structure Form where
  name : List UInt8
  ty : Bool
  res : Bool
  fixed : List UInt8
  rest : List UInt8
  most : Int
  part : Int
/-- The form as the program's value. -/
def Form.v (op : Int) (f : Form) : Value := .agg #[.int .u16 op, .string (bs f.name), .bool f.ty, .bool f.res, .string (bs f.fixed), .string (bs f.rest), .int .i64 f.most, .int .u8 f.part]
def noForm : Value := .agg #[.int .u16 0, .string (bs []), .bool false, .bool false, .string (bs []), .string (bs []), .int .i64 0, .int .u8 0]
def look {α : Type} (d : α) : List (Int × α) → Int → α
  | [], _ => d
  | (a, x) :: l, b => if b = a then x else look d l b
def rows1 : List (Int × List UInt8) := (1, [79, 112, 85, 110, 100, 101, 102, 32, 84, 82, 32, 32, 32, 32, 55]) ::
  (3, [79, 112, 83, 111, 117, 114, 99, 101, 32, 32, 108, 110, 32, 32, 32, 52]) ::
  (5, [79, 112, 78, 97, 109, 101, 32, 32, 105, 115, 32, 32, 32, 53]) ::
  (6, [79, 112, 77, 101, 109, 98, 101, 114, 78, 97, 109, 101, 32, 32, 105, 110, 115, 32, 32, 32, 53]) ::
  (7, [79, 112, 83, 116, 114, 105, 110, 103, 32, 82, 32, 115, 32, 32, 32, 52]) ::
  (14, [79, 112, 77, 101, 109, 111, 114, 121, 77, 111, 100, 101, 108, 32, 32, 97, 109, 32, 32, 32, 49]) ::
  (15, [79, 112, 69, 110, 116, 114, 121, 80, 111, 105, 110, 116, 32, 32, 101, 105, 115, 32, 105, 32, 32, 50]) ::
  (16, [79, 112, 69, 120, 101, 99, 117, 116, 105, 111, 110, 77, 111, 100, 101, 32, 32, 105, 120, 32, 32, 32, 51]) ::
  (17, [79, 112, 67, 97, 112, 97, 98, 105, 108, 105, 116, 121, 32, 32, 107, 32, 32, 32, 48]) ::
  (19, [79, 112, 84, 121, 112, 101, 86, 111, 105, 100, 32, 82, 32, 32, 32, 32, 55]) ::
  (20, [79, 112, 84, 121, 112, 101, 66, 111, 111, 108, 32, 82, 32, 32, 32, 32, 55]) ::
  (21, [79, 112, 84, 121, 112, 101, 73, 110, 116, 32, 82, 32, 110, 110, 32, 32, 32, 55]) ::
  (23, [79, 112, 84, 121, 112, 101, 86, 101, 99, 116, 111, 114, 32, 82, 32, 105, 110, 32, 32, 32, 55]) ::
  (28, [79, 112, 84, 121, 112, 101, 65, 114, 114, 97, 121, 32, 82, 32, 105, 105, 32, 32, 32, 55]) ::
  (30, [79, 112, 84, 121, 112, 101, 83, 116, 114, 117, 99, 116, 32, 82, 32, 32, 105, 32, 32, 55]) ::
  (32, [79, 112, 84, 121, 112, 101, 80, 111, 105, 110, 116, 101, 114, 32, 82, 32, 99, 105, 32, 32, 32, 55]) ::
  (33, [79, 112, 84, 121, 112, 101, 70, 117, 110, 99, 116, 105, 111, 110, 32, 82, 32, 105, 32, 105, 32, 32, 55]) ::
  (41, [79, 112, 67, 111, 110, 115, 116, 97, 110, 116, 84, 114, 117, 101, 32, 84, 82, 32, 32, 32, 32, 55]) ::
  (42, [79, 112, 67, 111, 110, 115, 116, 97, 110, 116, 70, 97, 108, 115, 101, 32, 84, 82, 32, 32, 32, 32, 55]) ::
  (43, [79, 112, 67, 111, 110, 115, 116, 97, 110, 116, 32, 84, 82, 32, 110, 32, 32, 32, 55]) ::
  (44, [79, 112, 67, 111, 110, 115, 116, 97, 110, 116, 67, 111, 109, 112, 111, 115, 105, 116, 101, 32, 84, 82, 32, 32, 105, 32, 32, 55]) ::
  (46, [79, 112, 67, 111, 110, 115, 116, 97, 110, 116, 78, 117, 108, 108, 32, 84, 82, 32, 32, 32, 32, 55]) ::
  (54, [79, 112, 70, 117, 110, 99, 116, 105, 111, 110, 32, 84, 82, 32, 102, 105, 32, 32, 32, 56]) ::
  (55, [79, 112, 70, 117, 110, 99, 116, 105, 111, 110, 80, 97, 114, 97, 109, 101, 116, 101, 114, 32, 84, 82, 32, 32, 32, 32, 56]) ::
  (56, [79, 112, 70, 117, 110, 99, 116, 105, 111, 110, 69, 110, 100, 32, 32, 32, 32, 32, 56]) ::
  (57, [79, 112, 70, 117, 110, 99, 116, 105, 111, 110, 67, 97, 108, 108, 32, 84, 82, 32, 105, 32, 105, 32, 32, 56]) ::
  (59, [79, 112, 86, 97, 114, 105, 97, 98, 108, 101, 32, 84, 82, 32, 99, 32, 105, 32, 49, 32, 55]) ::
  (61, [79, 112, 76, 111, 97, 100, 32, 84, 82, 32, 105, 32, 32, 32, 56]) ::
  (62, [79, 112, 83, 116, 111, 114, 101, 32, 32, 105, 105, 32, 32, 32, 56]) ::
  (65, [79, 112, 65, 99, 99, 101, 115, 115, 67, 104, 97, 105, 110, 32, 84, 82, 32, 105, 32, 105, 32, 32, 56]) ::
  (71, [79, 112, 68, 101, 99, 111, 114, 97, 116, 101, 32, 32, 105, 100, 32, 110, 32, 32, 54]) :: []
def rows2 : List (Int × List UInt8) := (77, [79, 112, 86, 101, 99, 116, 111, 114, 69, 120, 116, 114, 97, 99, 116, 68, 121, 110, 97, 109, 105, 99, 32, 84, 82, 32, 105, 105, 32, 32, 32, 56]) ::
  (78, [79, 112, 86, 101, 99, 116, 111, 114, 73, 110, 115, 101, 114, 116, 68, 121, 110, 97, 109, 105, 99, 32, 84, 82, 32, 105, 105, 105, 32, 32, 32, 56]) ::
  (79, [79, 112, 86, 101, 99, 116, 111, 114, 83, 104, 117, 102, 102, 108, 101, 32, 84, 82, 32, 105, 105, 32, 110, 32, 32, 56]) ::
  (80, [79, 112, 67, 111, 109, 112, 111, 115, 105, 116, 101, 67, 111, 110, 115, 116, 114, 117, 99, 116, 32, 84, 82, 32, 32, 105, 32, 32, 56]) ::
  (81, [79, 112, 67, 111, 109, 112, 111, 115, 105, 116, 101, 69, 120, 116, 114, 97, 99, 116, 32, 84, 82, 32, 105, 32, 110, 32, 32, 56]) ::
  (82, [79, 112, 67, 111, 109, 112, 111, 115, 105, 116, 101, 73, 110, 115, 101, 114, 116, 32, 84, 82, 32, 105, 105, 32, 110, 32, 32, 56]) ::
  (83, [79, 112, 67, 111, 112, 121, 79, 98, 106, 101, 99, 116, 32, 84, 82, 32, 105, 32, 32, 32, 56]) ::
  (124, [79, 112, 66, 105, 116, 99, 97, 115, 116, 32, 84, 82, 32, 105, 32, 32, 32, 56]) ::
  (126, [79, 112, 83, 78, 101, 103, 97, 116, 101, 32, 84, 82, 32, 105, 32, 32, 32, 56]) ::
  (128, [79, 112, 73, 65, 100, 100, 32, 84, 82, 32, 105, 105, 32, 32, 32, 56]) ::
  (130, [79, 112, 73, 83, 117, 98, 32, 84, 82, 32, 105, 105, 32, 32, 32, 56]) ::
  (132, [79, 112, 73, 77, 117, 108, 32, 84, 82, 32, 105, 105, 32, 32, 32, 56]) ::
  (134, [79, 112, 85, 68, 105, 118, 32, 84, 82, 32, 105, 105, 32, 32, 32, 56]) ::
  (135, [79, 112, 83, 68, 105, 118, 32, 84, 82, 32, 105, 105, 32, 32, 32, 56]) ::
  (137, [79, 112, 85, 77, 111, 100, 32, 84, 82, 32, 105, 105, 32, 32, 32, 56]) ::
  (138, [79, 112, 83, 82, 101, 109, 32, 84, 82, 32, 105, 105, 32, 32, 32, 56]) ::
  (139, [79, 112, 83, 77, 111, 100, 32, 84, 82, 32, 105, 105, 32, 32, 32, 56]) ::
  (149, [79, 112, 73, 65, 100, 100, 67, 97, 114, 114, 121, 32, 84, 82, 32, 105, 105, 32, 32, 32, 56]) ::
  (150, [79, 112, 73, 83, 117, 98, 66, 111, 114, 114, 111, 119, 32, 84, 82, 32, 105, 105, 32, 32, 32, 56]) ::
  (151, [79, 112, 85, 77, 117, 108, 69, 120, 116, 101, 110, 100, 101, 100, 32, 84, 82, 32, 105, 105, 32, 32, 32, 56]) ::
  (152, [79, 112, 83, 77, 117, 108, 69, 120, 116, 101, 110, 100, 101, 100, 32, 84, 82, 32, 105, 105, 32, 32, 32, 56]) ::
  (154, [79, 112, 65, 110, 121, 32, 84, 82, 32, 105, 32, 32, 32, 56]) ::
  (155, [79, 112, 65, 108, 108, 32, 84, 82, 32, 105, 32, 32, 32, 56]) ::
  (164, [79, 112, 76, 111, 103, 105, 99, 97, 108, 69, 113, 117, 97, 108, 32, 84, 82, 32, 105, 105, 32, 32, 32, 56]) ::
  (165, [79, 112, 76, 111, 103, 105, 99, 97, 108, 78, 111, 116, 69, 113, 117, 97, 108, 32, 84, 82, 32, 105, 105, 32, 32, 32, 56]) ::
  (166, [79, 112, 76, 111, 103, 105, 99, 97, 108, 79, 114, 32, 84, 82, 32, 105, 105, 32, 32, 32, 56]) ::
  (167, [79, 112, 76, 111, 103, 105, 99, 97, 108, 65, 110, 100, 32, 84, 82, 32, 105, 105, 32, 32, 32, 56]) ::
  (168, [79, 112, 76, 111, 103, 105, 99, 97, 108, 78, 111, 116, 32, 84, 82, 32, 105, 32, 32, 32, 56]) ::
  (169, [79, 112, 83, 101, 108, 101, 99, 116, 32, 84, 82, 32, 105, 105, 105, 32, 32, 32, 56]) ::
  (170, [79, 112, 73, 69, 113, 117, 97, 108, 32, 84, 82, 32, 105, 105, 32, 32, 32, 56]) ::
  (171, [79, 112, 73, 78, 111, 116, 69, 113, 117, 97, 108, 32, 84, 82, 32, 105, 105, 32, 32, 32, 56]) :: []
def rows3 : List (Int × List UInt8) := (172, [79, 112, 85, 71, 114, 101, 97, 116, 101, 114, 84, 104, 97, 110, 32, 84, 82, 32, 105, 105, 32, 32, 32, 56]) ::
  (173, [79, 112, 83, 71, 114, 101, 97, 116, 101, 114, 84, 104, 97, 110, 32, 84, 82, 32, 105, 105, 32, 32, 32, 56]) ::
  (174, [79, 112, 85, 71, 114, 101, 97, 116, 101, 114, 84, 104, 97, 110, 69, 113, 117, 97, 108, 32, 84, 82, 32, 105, 105, 32, 32, 32, 56]) ::
  (175, [79, 112, 83, 71, 114, 101, 97, 116, 101, 114, 84, 104, 97, 110, 69, 113, 117, 97, 108, 32, 84, 82, 32, 105, 105, 32, 32, 32, 56]) ::
  (176, [79, 112, 85, 76, 101, 115, 115, 84, 104, 97, 110, 32, 84, 82, 32, 105, 105, 32, 32, 32, 56]) ::
  (177, [79, 112, 83, 76, 101, 115, 115, 84, 104, 97, 110, 32, 84, 82, 32, 105, 105, 32, 32, 32, 56]) ::
  (178, [79, 112, 85, 76, 101, 115, 115, 84, 104, 97, 110, 69, 113, 117, 97, 108, 32, 84, 82, 32, 105, 105, 32, 32, 32, 56]) ::
  (179, [79, 112, 83, 76, 101, 115, 115, 84, 104, 97, 110, 69, 113, 117, 97, 108, 32, 84, 82, 32, 105, 105, 32, 32, 32, 56]) ::
  (194, [79, 112, 83, 104, 105, 102, 116, 82, 105, 103, 104, 116, 76, 111, 103, 105, 99, 97, 108, 32, 84, 82, 32, 105, 105, 32, 32, 32, 56]) ::
  (195, [79, 112, 83, 104, 105, 102, 116, 82, 105, 103, 104, 116, 65, 114, 105, 116, 104, 109, 101, 116, 105, 99, 32, 84, 82, 32, 105, 105, 32, 32, 32, 56]) ::
  (196, [79, 112, 83, 104, 105, 102, 116, 76, 101, 102, 116, 76, 111, 103, 105, 99, 97, 108, 32, 84, 82, 32, 105, 105, 32, 32, 32, 56]) ::
  (197, [79, 112, 66, 105, 116, 119, 105, 115, 101, 79, 114, 32, 84, 82, 32, 105, 105, 32, 32, 32, 56]) ::
  (198, [79, 112, 66, 105, 116, 119, 105, 115, 101, 88, 111, 114, 32, 84, 82, 32, 105, 105, 32, 32, 32, 56]) ::
  (199, [79, 112, 66, 105, 116, 119, 105, 115, 101, 65, 110, 100, 32, 84, 82, 32, 105, 105, 32, 32, 32, 56]) ::
  (200, [79, 112, 78, 111, 116, 32, 84, 82, 32, 105, 32, 32, 32, 56]) ::
  (201, [79, 112, 66, 105, 116, 70, 105, 101, 108, 100, 73, 110, 115, 101, 114, 116, 32, 84, 82, 32, 105, 105, 105, 105, 32, 32, 32, 56]) ::
  (202, [79, 112, 66, 105, 116, 70, 105, 101, 108, 100, 83, 69, 120, 116, 114, 97, 99, 116, 32, 84, 82, 32, 105, 105, 105, 32, 32, 32, 56]) ::
  (203, [79, 112, 66, 105, 116, 70, 105, 101, 108, 100, 85, 69, 120, 116, 114, 97, 99, 116, 32, 84, 82, 32, 105, 105, 105, 32, 32, 32, 56]) ::
  (204, [79, 112, 66, 105, 116, 82, 101, 118, 101, 114, 115, 101, 32, 84, 82, 32, 105, 32, 32, 32, 56]) ::
  (205, [79, 112, 66, 105, 116, 67, 111, 117, 110, 116, 32, 84, 82, 32, 105, 32, 32, 32, 56]) ::
  (245, [79, 112, 80, 104, 105, 32, 84, 82, 32, 32, 105, 105, 32, 32, 56]) ::
  (246, [79, 112, 76, 111, 111, 112, 77, 101, 114, 103, 101, 32, 32, 105, 105, 103, 32, 32, 32, 56]) ::
  (247, [79, 112, 83, 101, 108, 101, 99, 116, 105, 111, 110, 77, 101, 114, 103, 101, 32, 32, 105, 104, 32, 32, 32, 56]) ::
  (248, [79, 112, 76, 97, 98, 101, 108, 32, 82, 32, 32, 32, 32, 56]) ::
  (249, [79, 112, 66, 114, 97, 110, 99, 104, 32, 32, 105, 32, 32, 32, 56]) ::
  (250, [79, 112, 66, 114, 97, 110, 99, 104, 67, 111, 110, 100, 105, 116, 105, 111, 110, 97, 108, 32, 32, 105, 105, 105, 32, 32, 32, 56]) ::
  (251, [79, 112, 83, 119, 105, 116, 99, 104, 32, 32, 105, 105, 32, 110, 105, 32, 32, 56]) ::
  (252, [79, 112, 75, 105, 108, 108, 32, 32, 32, 32, 32, 56]) ::
  (253, [79, 112, 82, 101, 116, 117, 114, 110, 32, 32, 32, 32, 32, 56]) ::
  (254, [79, 112, 82, 101, 116, 117, 114, 110, 86, 97, 108, 117, 101, 32, 32, 105, 32, 32, 32, 56]) ::
  (255, [79, 112, 85, 110, 114, 101, 97, 99, 104, 97, 98, 108, 101, 32, 32, 32, 32, 32, 56]) :: []
def forms : List (Int × Option Form) := (1, some ⟨[79, 112, 85, 110, 100, 101, 102], true, true, [], [], 0, 7⟩) ::
  (3, some ⟨[79, 112, 83, 111, 117, 114, 99, 101], false, false, [108, 110], [], 0, 4⟩) ::
  (5, some ⟨[79, 112, 78, 97, 109, 101], false, false, [105, 115], [], 0, 5⟩) ::
  (6, some ⟨[79, 112, 77, 101, 109, 98, 101, 114, 78, 97, 109, 101], false, false, [105, 110, 115], [], 0, 5⟩) ::
  (7, some ⟨[79, 112, 83, 116, 114, 105, 110, 103], false, true, [115], [], 0, 4⟩) ::
  (14, some ⟨[79, 112, 77, 101, 109, 111, 114, 121, 77, 111, 100, 101, 108], false, false, [97, 109], [], 0, 1⟩) ::
  (15, some ⟨[79, 112, 69, 110, 116, 114, 121, 80, 111, 105, 110, 116], false, false, [101, 105, 115], [105], 0, 2⟩) ::
  (16, some ⟨[79, 112, 69, 120, 101, 99, 117, 116, 105, 111, 110, 77, 111, 100, 101], false, false, [105, 120], [], 0, 3⟩) ::
  (17, some ⟨[79, 112, 67, 97, 112, 97, 98, 105, 108, 105, 116, 121], false, false, [107], [], 0, 0⟩) ::
  (19, some ⟨[79, 112, 84, 121, 112, 101, 86, 111, 105, 100], false, true, [], [], 0, 7⟩) ::
  (20, some ⟨[79, 112, 84, 121, 112, 101, 66, 111, 111, 108], false, true, [], [], 0, 7⟩) ::
  (21, some ⟨[79, 112, 84, 121, 112, 101, 73, 110, 116], false, true, [110, 110], [], 0, 7⟩) ::
  (23, some ⟨[79, 112, 84, 121, 112, 101, 86, 101, 99, 116, 111, 114], false, true, [105, 110], [], 0, 7⟩) ::
  (28, some ⟨[79, 112, 84, 121, 112, 101, 65, 114, 114, 97, 121], false, true, [105, 105], [], 0, 7⟩) ::
  (30, some ⟨[79, 112, 84, 121, 112, 101, 83, 116, 114, 117, 99, 116], false, true, [], [105], 0, 7⟩) ::
  (32, some ⟨[79, 112, 84, 121, 112, 101, 80, 111, 105, 110, 116, 101, 114], false, true, [99, 105], [], 0, 7⟩) ::
  (33, some ⟨[79, 112, 84, 121, 112, 101, 70, 117, 110, 99, 116, 105, 111, 110], false, true, [105], [105], 0, 7⟩) ::
  (41, some ⟨[79, 112, 67, 111, 110, 115, 116, 97, 110, 116, 84, 114, 117, 101], true, true, [], [], 0, 7⟩) ::
  (42, some ⟨[79, 112, 67, 111, 110, 115, 116, 97, 110, 116, 70, 97, 108, 115, 101], true, true, [], [], 0, 7⟩) ::
  (43, some ⟨[79, 112, 67, 111, 110, 115, 116, 97, 110, 116], true, true, [110], [], 0, 7⟩) ::
  (44, some ⟨[79, 112, 67, 111, 110, 115, 116, 97, 110, 116, 67, 111, 109, 112, 111, 115, 105, 116, 101], true, true, [], [105], 0, 7⟩) ::
  (46, some ⟨[79, 112, 67, 111, 110, 115, 116, 97, 110, 116, 78, 117, 108, 108], true, true, [], [], 0, 7⟩) ::
  (54, some ⟨[79, 112, 70, 117, 110, 99, 116, 105, 111, 110], true, true, [102, 105], [], 0, 8⟩) ::
  (55, some ⟨[79, 112, 70, 117, 110, 99, 116, 105, 111, 110, 80, 97, 114, 97, 109, 101, 116, 101, 114], true, true, [], [], 0, 8⟩) ::
  (56, some ⟨[79, 112, 70, 117, 110, 99, 116, 105, 111, 110, 69, 110, 100], false, false, [], [], 0, 8⟩) ::
  (57, some ⟨[79, 112, 70, 117, 110, 99, 116, 105, 111, 110, 67, 97, 108, 108], true, true, [105], [105], 0, 8⟩) ::
  (59, some ⟨[79, 112, 86, 97, 114, 105, 97, 98, 108, 101], true, true, [99], [105], 1, 7⟩) ::
  (61, some ⟨[79, 112, 76, 111, 97, 100], true, true, [105], [], 0, 8⟩) ::
  (62, some ⟨[79, 112, 83, 116, 111, 114, 101], false, false, [105, 105], [], 0, 8⟩) ::
  (65, some ⟨[79, 112, 65, 99, 99, 101, 115, 115, 67, 104, 97, 105, 110], true, true, [105], [105], 0, 8⟩) ::
  (71, some ⟨[79, 112, 68, 101, 99, 111, 114, 97, 116, 101], false, false, [105, 100], [110], 0, 6⟩) ::
  (77, some ⟨[79, 112, 86, 101, 99, 116, 111, 114, 69, 120, 116, 114, 97, 99, 116, 68, 121, 110, 97, 109, 105, 99], true, true, [105, 105], [], 0, 8⟩) ::
  (78, some ⟨[79, 112, 86, 101, 99, 116, 111, 114, 73, 110, 115, 101, 114, 116, 68, 121, 110, 97, 109, 105, 99], true, true, [105, 105, 105], [], 0, 8⟩) ::
  (79, some ⟨[79, 112, 86, 101, 99, 116, 111, 114, 83, 104, 117, 102, 102, 108, 101], true, true, [105, 105], [110], 0, 8⟩) ::
  (80, some ⟨[79, 112, 67, 111, 109, 112, 111, 115, 105, 116, 101, 67, 111, 110, 115, 116, 114, 117, 99, 116], true, true, [], [105], 0, 8⟩) ::
  (81, some ⟨[79, 112, 67, 111, 109, 112, 111, 115, 105, 116, 101, 69, 120, 116, 114, 97, 99, 116], true, true, [105], [110], 0, 8⟩) ::
  (82, some ⟨[79, 112, 67, 111, 109, 112, 111, 115, 105, 116, 101, 73, 110, 115, 101, 114, 116], true, true, [105, 105], [110], 0, 8⟩) ::
  (83, some ⟨[79, 112, 67, 111, 112, 121, 79, 98, 106, 101, 99, 116], true, true, [105], [], 0, 8⟩) ::
  (124, some ⟨[79, 112, 66, 105, 116, 99, 97, 115, 116], true, true, [105], [], 0, 8⟩) ::
  (126, some ⟨[79, 112, 83, 78, 101, 103, 97, 116, 101], true, true, [105], [], 0, 8⟩) ::
  (128, some ⟨[79, 112, 73, 65, 100, 100], true, true, [105, 105], [], 0, 8⟩) ::
  (130, some ⟨[79, 112, 73, 83, 117, 98], true, true, [105, 105], [], 0, 8⟩) ::
  (132, some ⟨[79, 112, 73, 77, 117, 108], true, true, [105, 105], [], 0, 8⟩) ::
  (134, some ⟨[79, 112, 85, 68, 105, 118], true, true, [105, 105], [], 0, 8⟩) ::
  (135, some ⟨[79, 112, 83, 68, 105, 118], true, true, [105, 105], [], 0, 8⟩) ::
  (137, some ⟨[79, 112, 85, 77, 111, 100], true, true, [105, 105], [], 0, 8⟩) ::
  (138, some ⟨[79, 112, 83, 82, 101, 109], true, true, [105, 105], [], 0, 8⟩) ::
  (139, some ⟨[79, 112, 83, 77, 111, 100], true, true, [105, 105], [], 0, 8⟩) ::
  (149, some ⟨[79, 112, 73, 65, 100, 100, 67, 97, 114, 114, 121], true, true, [105, 105], [], 0, 8⟩) ::
  (150, some ⟨[79, 112, 73, 83, 117, 98, 66, 111, 114, 114, 111, 119], true, true, [105, 105], [], 0, 8⟩) ::
  (151, some ⟨[79, 112, 85, 77, 117, 108, 69, 120, 116, 101, 110, 100, 101, 100], true, true, [105, 105], [], 0, 8⟩) ::
  (152, some ⟨[79, 112, 83, 77, 117, 108, 69, 120, 116, 101, 110, 100, 101, 100], true, true, [105, 105], [], 0, 8⟩) ::
  (154, some ⟨[79, 112, 65, 110, 121], true, true, [105], [], 0, 8⟩) ::
  (155, some ⟨[79, 112, 65, 108, 108], true, true, [105], [], 0, 8⟩) ::
  (164, some ⟨[79, 112, 76, 111, 103, 105, 99, 97, 108, 69, 113, 117, 97, 108], true, true, [105, 105], [], 0, 8⟩) ::
  (165, some ⟨[79, 112, 76, 111, 103, 105, 99, 97, 108, 78, 111, 116, 69, 113, 117, 97, 108], true, true, [105, 105], [], 0, 8⟩) ::
  (166, some ⟨[79, 112, 76, 111, 103, 105, 99, 97, 108, 79, 114], true, true, [105, 105], [], 0, 8⟩) ::
  (167, some ⟨[79, 112, 76, 111, 103, 105, 99, 97, 108, 65, 110, 100], true, true, [105, 105], [], 0, 8⟩) ::
  (168, some ⟨[79, 112, 76, 111, 103, 105, 99, 97, 108, 78, 111, 116], true, true, [105], [], 0, 8⟩) ::
  (169, some ⟨[79, 112, 83, 101, 108, 101, 99, 116], true, true, [105, 105, 105], [], 0, 8⟩) ::
  (170, some ⟨[79, 112, 73, 69, 113, 117, 97, 108], true, true, [105, 105], [], 0, 8⟩) ::
  (171, some ⟨[79, 112, 73, 78, 111, 116, 69, 113, 117, 97, 108], true, true, [105, 105], [], 0, 8⟩) ::
  (172, some ⟨[79, 112, 85, 71, 114, 101, 97, 116, 101, 114, 84, 104, 97, 110], true, true, [105, 105], [], 0, 8⟩) ::
  (173, some ⟨[79, 112, 83, 71, 114, 101, 97, 116, 101, 114, 84, 104, 97, 110], true, true, [105, 105], [], 0, 8⟩) ::
  (174, some ⟨[79, 112, 85, 71, 114, 101, 97, 116, 101, 114, 84, 104, 97, 110, 69, 113, 117, 97, 108], true, true, [105, 105], [], 0, 8⟩) ::
  (175, some ⟨[79, 112, 83, 71, 114, 101, 97, 116, 101, 114, 84, 104, 97, 110, 69, 113, 117, 97, 108], true, true, [105, 105], [], 0, 8⟩) ::
  (176, some ⟨[79, 112, 85, 76, 101, 115, 115, 84, 104, 97, 110], true, true, [105, 105], [], 0, 8⟩) ::
  (177, some ⟨[79, 112, 83, 76, 101, 115, 115, 84, 104, 97, 110], true, true, [105, 105], [], 0, 8⟩) ::
  (178, some ⟨[79, 112, 85, 76, 101, 115, 115, 84, 104, 97, 110, 69, 113, 117, 97, 108], true, true, [105, 105], [], 0, 8⟩) ::
  (179, some ⟨[79, 112, 83, 76, 101, 115, 115, 84, 104, 97, 110, 69, 113, 117, 97, 108], true, true, [105, 105], [], 0, 8⟩) ::
  (194, some ⟨[79, 112, 83, 104, 105, 102, 116, 82, 105, 103, 104, 116, 76, 111, 103, 105, 99, 97, 108], true, true, [105, 105], [], 0, 8⟩) ::
  (195, some ⟨[79, 112, 83, 104, 105, 102, 116, 82, 105, 103, 104, 116, 65, 114, 105, 116, 104, 109, 101, 116, 105, 99], true, true, [105, 105], [], 0, 8⟩) ::
  (196, some ⟨[79, 112, 83, 104, 105, 102, 116, 76, 101, 102, 116, 76, 111, 103, 105, 99, 97, 108], true, true, [105, 105], [], 0, 8⟩) ::
  (197, some ⟨[79, 112, 66, 105, 116, 119, 105, 115, 101, 79, 114], true, true, [105, 105], [], 0, 8⟩) ::
  (198, some ⟨[79, 112, 66, 105, 116, 119, 105, 115, 101, 88, 111, 114], true, true, [105, 105], [], 0, 8⟩) ::
  (199, some ⟨[79, 112, 66, 105, 116, 119, 105, 115, 101, 65, 110, 100], true, true, [105, 105], [], 0, 8⟩) ::
  (200, some ⟨[79, 112, 78, 111, 116], true, true, [105], [], 0, 8⟩) ::
  (201, some ⟨[79, 112, 66, 105, 116, 70, 105, 101, 108, 100, 73, 110, 115, 101, 114, 116], true, true, [105, 105, 105, 105], [], 0, 8⟩) ::
  (202, some ⟨[79, 112, 66, 105, 116, 70, 105, 101, 108, 100, 83, 69, 120, 116, 114, 97, 99, 116], true, true, [105, 105, 105], [], 0, 8⟩) ::
  (203, some ⟨[79, 112, 66, 105, 116, 70, 105, 101, 108, 100, 85, 69, 120, 116, 114, 97, 99, 116], true, true, [105, 105, 105], [], 0, 8⟩) ::
  (204, some ⟨[79, 112, 66, 105, 116, 82, 101, 118, 101, 114, 115, 101], true, true, [105], [], 0, 8⟩) ::
  (205, some ⟨[79, 112, 66, 105, 116, 67, 111, 117, 110, 116], true, true, [105], [], 0, 8⟩) ::
  (245, some ⟨[79, 112, 80, 104, 105], true, true, [], [105, 105], 0, 8⟩) ::
  (246, some ⟨[79, 112, 76, 111, 111, 112, 77, 101, 114, 103, 101], false, false, [105, 105, 103], [], 0, 8⟩) ::
  (247, some ⟨[79, 112, 83, 101, 108, 101, 99, 116, 105, 111, 110, 77, 101, 114, 103, 101], false, false, [105, 104], [], 0, 8⟩) ::
  (248, some ⟨[79, 112, 76, 97, 98, 101, 108], false, true, [], [], 0, 8⟩) ::
  (249, some ⟨[79, 112, 66, 114, 97, 110, 99, 104], false, false, [105], [], 0, 8⟩) ::
  (250, some ⟨[79, 112, 66, 114, 97, 110, 99, 104, 67, 111, 110, 100, 105, 116, 105, 111, 110, 97, 108], false, false, [105, 105, 105], [], 0, 8⟩) ::
  (251, some ⟨[79, 112, 83, 119, 105, 116, 99, 104], false, false, [105, 105], [110, 105], 0, 8⟩) ::
  (252, some ⟨[79, 112, 75, 105, 108, 108], false, false, [], [], 0, 8⟩) ::
  (253, some ⟨[79, 112, 82, 101, 116, 117, 114, 110], false, false, [], [], 0, 8⟩) ::
  (254, some ⟨[79, 112, 82, 101, 116, 117, 114, 110, 86, 97, 108, 117, 101], false, false, [105], [], 0, 8⟩) ::
  (255, some ⟨[79, 112, 85, 110, 114, 101, 97, 99, 104, 97, 98, 108, 101], false, false, [], [], 0, 8⟩) :: []
def rowOf (op : Int) : List UInt8 := if op ≤ 71 then look [] rows1 op else if op ≤ 171 then look [] rows2 op else look [] rows3 op
def formOf (op : Int) : Option Form := look none forms op
theorem look_pos {α : Type} {d x : α} {a b : Int} {l : List (Int × α)} (h : b = a) : look d ((a, x) :: l) b = x := if_pos h
theorem look_neg {α : Type} {d x : α} {a b : Int} {l : List (Int × α)} (h : ¬ b = a) : look d ((a, x) :: l) b = look d l b := if_neg h

theorem c_first {w0 w : World} {L : List (Nat × Obj)} (h : So w0 w L) (op : Int) : Cx P 112 #[.int .u16 op] w fun v w => v = .string (bs (look [] rows1 op)) ∧ So w0 w L := by
  apply F112_ok
  unfold F112 rows1
  refine case_int (fun e => ⟨by rw [look_pos e], h⟩) fun e => ?_
  rw [look_neg e]
  clear e
  refine case_int (fun e => ⟨by rw [look_pos e], h⟩) fun e => ?_
  rw [look_neg e]
  clear e
  refine case_int (fun e => ⟨by rw [look_pos e], h⟩) fun e => ?_
  rw [look_neg e]
  clear e
  refine case_int (fun e => ⟨by rw [look_pos e], h⟩) fun e => ?_
  rw [look_neg e]
  clear e
  refine case_int (fun e => ⟨by rw [look_pos e], h⟩) fun e => ?_
  rw [look_neg e]
  clear e
  refine case_int (fun e => ⟨by rw [look_pos e], h⟩) fun e => ?_
  rw [look_neg e]
  clear e
  refine case_int (fun e => ⟨by rw [look_pos e], h⟩) fun e => ?_
  rw [look_neg e]
  clear e
  refine case_int (fun e => ⟨by rw [look_pos e], h⟩) fun e => ?_
  rw [look_neg e]
  clear e
  refine case_int (fun e => ⟨by rw [look_pos e], h⟩) fun e => ?_
  rw [look_neg e]
  clear e
  refine case_int (fun e => ⟨by rw [look_pos e], h⟩) fun e => ?_
  rw [look_neg e]
  clear e
  refine case_int (fun e => ⟨by rw [look_pos e], h⟩) fun e => ?_
  rw [look_neg e]
  clear e
  refine case_int (fun e => ⟨by rw [look_pos e], h⟩) fun e => ?_
  rw [look_neg e]
  clear e
  refine case_int (fun e => ⟨by rw [look_pos e], h⟩) fun e => ?_
  rw [look_neg e]
  clear e
  refine case_int (fun e => ⟨by rw [look_pos e], h⟩) fun e => ?_
  rw [look_neg e]
  clear e
  refine case_int (fun e => ⟨by rw [look_pos e], h⟩) fun e => ?_
  rw [look_neg e]
  clear e
  refine case_int (fun e => ⟨by rw [look_pos e], h⟩) fun e => ?_
  rw [look_neg e]
  clear e
  refine case_int (fun e => ⟨by rw [look_pos e], h⟩) fun e => ?_
  rw [look_neg e]
  clear e
  refine case_int (fun e => ⟨by rw [look_pos e], h⟩) fun e => ?_
  rw [look_neg e]
  clear e
  refine case_int (fun e => ⟨by rw [look_pos e], h⟩) fun e => ?_
  rw [look_neg e]
  clear e
  refine case_int (fun e => ⟨by rw [look_pos e], h⟩) fun e => ?_
  rw [look_neg e]
  clear e
  refine case_int (fun e => ⟨by rw [look_pos e], h⟩) fun e => ?_
  rw [look_neg e]
  clear e
  refine case_int (fun e => ⟨by rw [look_pos e], h⟩) fun e => ?_
  rw [look_neg e]
  clear e
  refine case_int (fun e => ⟨by rw [look_pos e], h⟩) fun e => ?_
  rw [look_neg e]
  clear e
  refine case_int (fun e => ⟨by rw [look_pos e], h⟩) fun e => ?_
  rw [look_neg e]
  clear e
  refine case_int (fun e => ⟨by rw [look_pos e], h⟩) fun e => ?_
  rw [look_neg e]
  clear e
  refine case_int (fun e => ⟨by rw [look_pos e], h⟩) fun e => ?_
  rw [look_neg e]
  clear e
  refine case_int (fun e => ⟨by rw [look_pos e], h⟩) fun e => ?_
  rw [look_neg e]
  clear e
  refine case_int (fun e => ⟨by rw [look_pos e], h⟩) fun e => ?_
  rw [look_neg e]
  clear e
  refine case_int (fun e => ⟨by rw [look_pos e], h⟩) fun e => ?_
  rw [look_neg e]
  clear e
  refine case_int (fun e => ⟨by rw [look_pos e], h⟩) fun e => ?_
  rw [look_neg e]
  clear e
  refine case_int (fun e => ⟨by rw [look_pos e], h⟩) fun e => ?_
  rw [look_neg e]
  clear e
  exact ⟨rfl, h⟩
theorem c_second {w0 w : World} {L : List (Nat × Obj)} (h : So w0 w L) (op : Int) : Cx P 113 #[.int .u16 op] w fun v w => v = .string (bs (look [] rows2 op)) ∧ So w0 w L := by
  apply F113_ok
  unfold F113 rows2
  refine case_int (fun e => ⟨by rw [look_pos e], h⟩) fun e => ?_
  rw [look_neg e]
  clear e
  refine case_int (fun e => ⟨by rw [look_pos e], h⟩) fun e => ?_
  rw [look_neg e]
  clear e
  refine case_int (fun e => ⟨by rw [look_pos e], h⟩) fun e => ?_
  rw [look_neg e]
  clear e
  refine case_int (fun e => ⟨by rw [look_pos e], h⟩) fun e => ?_
  rw [look_neg e]
  clear e
  refine case_int (fun e => ⟨by rw [look_pos e], h⟩) fun e => ?_
  rw [look_neg e]
  clear e
  refine case_int (fun e => ⟨by rw [look_pos e], h⟩) fun e => ?_
  rw [look_neg e]
  clear e
  refine case_int (fun e => ⟨by rw [look_pos e], h⟩) fun e => ?_
  rw [look_neg e]
  clear e
  refine case_int (fun e => ⟨by rw [look_pos e], h⟩) fun e => ?_
  rw [look_neg e]
  clear e
  refine case_int (fun e => ⟨by rw [look_pos e], h⟩) fun e => ?_
  rw [look_neg e]
  clear e
  refine case_int (fun e => ⟨by rw [look_pos e], h⟩) fun e => ?_
  rw [look_neg e]
  clear e
  refine case_int (fun e => ⟨by rw [look_pos e], h⟩) fun e => ?_
  rw [look_neg e]
  clear e
  refine case_int (fun e => ⟨by rw [look_pos e], h⟩) fun e => ?_
  rw [look_neg e]
  clear e
  refine case_int (fun e => ⟨by rw [look_pos e], h⟩) fun e => ?_
  rw [look_neg e]
  clear e
  refine case_int (fun e => ⟨by rw [look_pos e], h⟩) fun e => ?_
  rw [look_neg e]
  clear e
  refine case_int (fun e => ⟨by rw [look_pos e], h⟩) fun e => ?_
  rw [look_neg e]
  clear e
  refine case_int (fun e => ⟨by rw [look_pos e], h⟩) fun e => ?_
  rw [look_neg e]
  clear e
  refine case_int (fun e => ⟨by rw [look_pos e], h⟩) fun e => ?_
  rw [look_neg e]
  clear e
  refine case_int (fun e => ⟨by rw [look_pos e], h⟩) fun e => ?_
  rw [look_neg e]
  clear e
  refine case_int (fun e => ⟨by rw [look_pos e], h⟩) fun e => ?_
  rw [look_neg e]
  clear e
  refine case_int (fun e => ⟨by rw [look_pos e], h⟩) fun e => ?_
  rw [look_neg e]
  clear e
  refine case_int (fun e => ⟨by rw [look_pos e], h⟩) fun e => ?_
  rw [look_neg e]
  clear e
  refine case_int (fun e => ⟨by rw [look_pos e], h⟩) fun e => ?_
  rw [look_neg e]
  clear e
  refine case_int (fun e => ⟨by rw [look_pos e], h⟩) fun e => ?_
  rw [look_neg e]
  clear e
  refine case_int (fun e => ⟨by rw [look_pos e], h⟩) fun e => ?_
  rw [look_neg e]
  clear e
  refine case_int (fun e => ⟨by rw [look_pos e], h⟩) fun e => ?_
  rw [look_neg e]
  clear e
  refine case_int (fun e => ⟨by rw [look_pos e], h⟩) fun e => ?_
  rw [look_neg e]
  clear e
  refine case_int (fun e => ⟨by rw [look_pos e], h⟩) fun e => ?_
  rw [look_neg e]
  clear e
  refine case_int (fun e => ⟨by rw [look_pos e], h⟩) fun e => ?_
  rw [look_neg e]
  clear e
  refine case_int (fun e => ⟨by rw [look_pos e], h⟩) fun e => ?_
  rw [look_neg e]
  clear e
  refine case_int (fun e => ⟨by rw [look_pos e], h⟩) fun e => ?_
  rw [look_neg e]
  clear e
  refine case_int (fun e => ⟨by rw [look_pos e], h⟩) fun e => ?_
  rw [look_neg e]
  clear e
  exact ⟨rfl, h⟩
theorem c_third {w0 w : World} {L : List (Nat × Obj)} (h : So w0 w L) (op : Int) : Cx P 114 #[.int .u16 op] w fun v w => v = .string (bs (look [] rows3 op)) ∧ So w0 w L := by
  apply F114_ok
  unfold F114 rows3
  refine case_int (fun e => ⟨by rw [look_pos e], h⟩) fun e => ?_
  rw [look_neg e]
  clear e
  refine case_int (fun e => ⟨by rw [look_pos e], h⟩) fun e => ?_
  rw [look_neg e]
  clear e
  refine case_int (fun e => ⟨by rw [look_pos e], h⟩) fun e => ?_
  rw [look_neg e]
  clear e
  refine case_int (fun e => ⟨by rw [look_pos e], h⟩) fun e => ?_
  rw [look_neg e]
  clear e
  refine case_int (fun e => ⟨by rw [look_pos e], h⟩) fun e => ?_
  rw [look_neg e]
  clear e
  refine case_int (fun e => ⟨by rw [look_pos e], h⟩) fun e => ?_
  rw [look_neg e]
  clear e
  refine case_int (fun e => ⟨by rw [look_pos e], h⟩) fun e => ?_
  rw [look_neg e]
  clear e
  refine case_int (fun e => ⟨by rw [look_pos e], h⟩) fun e => ?_
  rw [look_neg e]
  clear e
  refine case_int (fun e => ⟨by rw [look_pos e], h⟩) fun e => ?_
  rw [look_neg e]
  clear e
  refine case_int (fun e => ⟨by rw [look_pos e], h⟩) fun e => ?_
  rw [look_neg e]
  clear e
  refine case_int (fun e => ⟨by rw [look_pos e], h⟩) fun e => ?_
  rw [look_neg e]
  clear e
  refine case_int (fun e => ⟨by rw [look_pos e], h⟩) fun e => ?_
  rw [look_neg e]
  clear e
  refine case_int (fun e => ⟨by rw [look_pos e], h⟩) fun e => ?_
  rw [look_neg e]
  clear e
  refine case_int (fun e => ⟨by rw [look_pos e], h⟩) fun e => ?_
  rw [look_neg e]
  clear e
  refine case_int (fun e => ⟨by rw [look_pos e], h⟩) fun e => ?_
  rw [look_neg e]
  clear e
  refine case_int (fun e => ⟨by rw [look_pos e], h⟩) fun e => ?_
  rw [look_neg e]
  clear e
  refine case_int (fun e => ⟨by rw [look_pos e], h⟩) fun e => ?_
  rw [look_neg e]
  clear e
  refine case_int (fun e => ⟨by rw [look_pos e], h⟩) fun e => ?_
  rw [look_neg e]
  clear e
  refine case_int (fun e => ⟨by rw [look_pos e], h⟩) fun e => ?_
  rw [look_neg e]
  clear e
  refine case_int (fun e => ⟨by rw [look_pos e], h⟩) fun e => ?_
  rw [look_neg e]
  clear e
  refine case_int (fun e => ⟨by rw [look_pos e], h⟩) fun e => ?_
  rw [look_neg e]
  clear e
  refine case_int (fun e => ⟨by rw [look_pos e], h⟩) fun e => ?_
  rw [look_neg e]
  clear e
  refine case_int (fun e => ⟨by rw [look_pos e], h⟩) fun e => ?_
  rw [look_neg e]
  clear e
  refine case_int (fun e => ⟨by rw [look_pos e], h⟩) fun e => ?_
  rw [look_neg e]
  clear e
  refine case_int (fun e => ⟨by rw [look_pos e], h⟩) fun e => ?_
  rw [look_neg e]
  clear e
  refine case_int (fun e => ⟨by rw [look_pos e], h⟩) fun e => ?_
  rw [look_neg e]
  clear e
  refine case_int (fun e => ⟨by rw [look_pos e], h⟩) fun e => ?_
  rw [look_neg e]
  clear e
  refine case_int (fun e => ⟨by rw [look_pos e], h⟩) fun e => ?_
  rw [look_neg e]
  clear e
  refine case_int (fun e => ⟨by rw [look_pos e], h⟩) fun e => ?_
  rw [look_neg e]
  clear e
  refine case_int (fun e => ⟨by rw [look_pos e], h⟩) fun e => ?_
  rw [look_neg e]
  clear e
  refine case_int (fun e => ⟨by rw [look_pos e], h⟩) fun e => ?_
  rw [look_neg e]
  clear e
  exact ⟨rfl, h⟩
theorem c_form {w0 w : World} {L : List (Nat × Obj)} (h : So w0 w L) (op : Int) (nm fx rs : List UInt8) (t r : Bool) (m p : Int) :
    Cx P 50 #[.int .u16 op, .string (bs nm), .bool t, .bool r, .string (bs fx), .string (bs rs), .int .i64 m, .int .u8 p] w fun v w => v = Form.v op ⟨nm, t, r, fx, rs, m, p⟩ ∧ So w0 w L := by
  apply F50_ok
  unfold F50
  refine al77 h fun b w h => ?_
  try simp only [Facts, and_true, Value.cells, List.setIfInBounds_toArray, List.set_cons_zero, List.set_cons_succ, splice, Nat.zero_add, Nat.reduceAdd, List.cons_append, List.nil_append] at h
  have hf := h.facts
  simp only [Facts, and_true, Value.cells, List.setIfInBounds_toArray, List.set_cons_zero, List.set_cons_succ, splice, Nat.zero_add, Nat.reduceAdd, List.cons_append, List.nil_append] at hf
  try simp (disch := omega) only [cnd_bool, on_some_eq, Dr_eq, xNil_ptr, xNil_func, xNil_yield, xPick_bool, unw_nil, xRes_ptr, xUn_not, xUn_neg, xEx_tuple, xBin_add, xBin_sub, xBin_mul, xBin_eql, xBin_neq, xBin_lss, xBin_leq, xBin_gtr, xBin_geq, xBin_eqls, xBin_neqs, wI64, oCell_some, List.getElem?_toArray, List.getElem?_cons_zero, List.getElem?_cons_succ, Nat.zero_add, Bool.not_true, Bool.not_false, if_true, if_false, ite_true, ite_false, beq_iff_eq, bne_iff_ne, decide_eq_true_eq, ne_eq, Bool.false_eq_true, Bool.true_eq_false, reduceIte, Option.some.injEq, Int.toNat_natCast, beq_self_eq_true, bne_self_eq_false, Value.cells, splice, List.setIfInBounds_toArray, List.set_cons_zero, List.set_cons_succ, List.size_toArray, List.length_cons, List.length_nil, and_self, Nat.reduceLeDiff, Nat.reduceAdd, Nat.reduceMul, Int.reduceToNat, Int.reduceLT, Int.reduceLE, Int.reduceGT, Int.reduceGE, Int.reduceAdd, Int.reduceSub, Int.reduceMul, Int.reduceNeg, Int.reduceEq, Int.reduceNe, true_and, and_true, Int.cast_ofNat_Int, Nat.le_refl, hf, ld50, ld77, fa77_0, fa77_2, fa77_3, fa77_4, fa77_5, fa77_6, fa77_7, bd77, bd77_0_1_2_3_4_5_6_7, bd77_0_1_4_5_7, ld113, ln113, ia113, ow2, ow3, ow4, ow5, ow6, ow8, ow11, ow20, ow23]
  refine soStoreA ty77 0 h (fun w h => ?_) rfl rfl rfl rfl
  try simp only [Facts, and_true, Value.cells, List.setIfInBounds_toArray, List.set_cons_zero, List.set_cons_succ, splice, Nat.zero_add, Nat.reduceAdd, List.cons_append, List.nil_append] at h
  have hf := h.facts
  simp only [Facts, and_true, Value.cells, List.setIfInBounds_toArray, List.set_cons_zero, List.set_cons_succ, splice, Nat.zero_add, Nat.reduceAdd, List.cons_append, List.nil_append] at hf
  try simp (disch := omega) only [cnd_bool, on_some_eq, Dr_eq, xNil_ptr, xNil_func, xNil_yield, xPick_bool, unw_nil, xRes_ptr, xUn_not, xUn_neg, xEx_tuple, xBin_add, xBin_sub, xBin_mul, xBin_eql, xBin_neq, xBin_lss, xBin_leq, xBin_gtr, xBin_geq, xBin_eqls, xBin_neqs, wI64, oCell_some, List.getElem?_toArray, List.getElem?_cons_zero, List.getElem?_cons_succ, Nat.zero_add, Bool.not_true, Bool.not_false, if_true, if_false, ite_true, ite_false, beq_iff_eq, bne_iff_ne, decide_eq_true_eq, ne_eq, Bool.false_eq_true, Bool.true_eq_false, reduceIte, Option.some.injEq, Int.toNat_natCast, beq_self_eq_true, bne_self_eq_false, Value.cells, splice, List.setIfInBounds_toArray, List.set_cons_zero, List.set_cons_succ, List.size_toArray, List.length_cons, List.length_nil, and_self, Nat.reduceLeDiff, Nat.reduceAdd, Nat.reduceMul, Int.reduceToNat, Int.reduceLT, Int.reduceLE, Int.reduceGT, Int.reduceGE, Int.reduceAdd, Int.reduceSub, Int.reduceMul, Int.reduceNeg, Int.reduceEq, Int.reduceNe, true_and, and_true, Int.cast_ofNat_Int, Nat.le_refl, hf, ld50, ld77, fa77_0, fa77_2, fa77_3, fa77_4, fa77_5, fa77_6, fa77_7, bd77, bd77_0_1_2_3_4_5_6_7, bd77_0_1_4_5_7, ld113, ln113, ia113, ow2, ow3, ow4, ow5, ow6, ow8, ow11, ow20, ow23, oRow_all]
  exact ⟨rfl, h.drop⟩
theorem of_leaf {w0 w : World} {L : List (Nat × Obj)} {b : Nat} {c : Array Value} (h : So w0 w ((b, cl c 77) :: L)) (hc : c.size = 8) (op : Int) (nm fx rs : List UInt8) (t r : Bool) (m p : Int) {y0 : Value} (hq : y0 = .tuple #[Form.v op ⟨nm, t, r, fx, rs, m, p⟩, .bool true]) :
    Cx P 50 #[.int .u16 op, .string (bs nm), .bool t, .bool r, .string (bs fx), .string (bs rs), .int .i64 m, .int .u8 p] w fun x w => eStore P 77 (.pointer (some ⟨b, 0, none⟩)) x w fun w => on (xRes P w 77 (.pointer (some ⟨b, 0, none⟩))) fun y => .tuple #[y, .bool true] = y0 ∧ So w0 w L := by
  refine Cx.mono (c_form h op nm fx rs t r m p) fun v w hv => ?_
  obtain ⟨rfl, h⟩ := hv
  unfold Form.v
  refine soStoreA ty77 0 h (fun w h => ?_) rfl rfl hc rfl
  have hf := h.facts
  simp only [Facts, List.set_cons_zero] at hf
  try simp (disch := omega) only [cnd_bool, on_some_eq, Dr_eq, xNil_ptr, xNil_func, xNil_yield, xPick_bool, unw_nil, xRes_ptr, xUn_not, xUn_neg, xEx_tuple, xBin_add, xBin_sub, xBin_mul, xBin_eql, xBin_neq, xBin_lss, xBin_leq, xBin_gtr, xBin_geq, xBin_eqls, xBin_neqs, wI64, oCell_some, List.getElem?_toArray, List.getElem?_cons_zero, List.getElem?_cons_succ, Nat.zero_add, Bool.not_true, Bool.not_false, if_true, if_false, ite_true, ite_false, beq_iff_eq, bne_iff_ne, decide_eq_true_eq, ne_eq, Bool.false_eq_true, Bool.true_eq_false, reduceIte, Option.some.injEq, Int.toNat_natCast, beq_self_eq_true, bne_self_eq_false, Value.cells, splice, List.setIfInBounds_toArray, List.set_cons_zero, List.set_cons_succ, List.size_toArray, List.length_cons, List.length_nil, and_self, Nat.reduceLeDiff, Nat.reduceAdd, Nat.reduceMul, Int.reduceToNat, Int.reduceLT, Int.reduceLE, Int.reduceGT, Int.reduceGE, Int.reduceAdd, Int.reduceSub, Int.reduceMul, Int.reduceNeg, Int.reduceEq, Int.reduceNe, true_and, and_true, Int.cast_ofNat_Int, Nat.le_refl, hf, ld50, ld77, fa77_0, fa77_2, fa77_3, fa77_4, fa77_5, fa77_6, fa77_7, bd77, bd77_0_1_2_3_4_5_6_7, bd77_0_1_4_5_7, ld113, ln113, ia113, ow2, ow3, ow4, ow5, ow6, ow8, ow11, ow20, ow23, oRow_all]
  exact ⟨hq.symm, h.drop⟩
/-- What ref03.Of answers. -/
def ofV (op : Int) : Value := match formOf op with
  | some f => .tuple #[f.v op, .bool true]
  | none => .tuple #[noForm, .bool false]
theorem c_refOf {w0 w : World} {L : List (Nat × Obj)} (h : So w0 w L) (op : Int) : Cx P 34 #[.int .u16 op] w fun v w => v = ofV op ∧ So w0 w L := by
  apply F34_ok
  unfold F34
  have hl : formOf op = look none forms op := rfl
  unfold forms at hl
  refine al77 h fun b w h => ?_
  try simp only [Facts, and_true, Value.cells, List.setIfInBounds_toArray, List.set_cons_zero, List.set_cons_succ, splice, Nat.zero_add, Nat.reduceAdd, List.cons_append, List.nil_append] at h
  have hf := h.facts
  simp only [Facts, and_true, Value.cells, List.setIfInBounds_toArray, List.set_cons_zero, List.set_cons_succ, splice, Nat.zero_add, Nat.reduceAdd, List.cons_append, List.nil_append] at hf
  refine case_int (fun e => of_leaf h rfl op [79, 112, 85, 110, 100, 101, 102] [] [] true true 0 7 (by unfold ofV; rw [hl, look_pos e])) fun e => ?_
  rw [look_neg e] at hl
  clear e
  refine case_int (fun e => of_leaf h rfl op [79, 112, 83, 111, 117, 114, 99, 101] [108, 110] [] false false 0 4 (by unfold ofV; rw [hl, look_pos e])) fun e => ?_
  rw [look_neg e] at hl
  clear e
  refine case_int (fun e => of_leaf h rfl op [79, 112, 78, 97, 109, 101] [105, 115] [] false false 0 5 (by unfold ofV; rw [hl, look_pos e])) fun e => ?_
  rw [look_neg e] at hl
  clear e
  refine case_int (fun e => of_leaf h rfl op [79, 112, 77, 101, 109, 98, 101, 114, 78, 97, 109, 101] [105, 110, 115] [] false false 0 5 (by unfold ofV; rw [hl, look_pos e])) fun e => ?_
  rw [look_neg e] at hl
  clear e
  refine case_int (fun e => of_leaf h rfl op [79, 112, 83, 116, 114, 105, 110, 103] [115] [] false true 0 4 (by unfold ofV; rw [hl, look_pos e])) fun e => ?_
  rw [look_neg e] at hl
  clear e
  refine case_int (fun e => of_leaf h rfl op [79, 112, 77, 101, 109, 111, 114, 121, 77, 111, 100, 101, 108] [97, 109] [] false false 0 1 (by unfold ofV; rw [hl, look_pos e])) fun e => ?_
  rw [look_neg e] at hl
  clear e
  refine case_int (fun e => of_leaf h rfl op [79, 112, 69, 110, 116, 114, 121, 80, 111, 105, 110, 116] [101, 105, 115] [105] false false 0 2 (by unfold ofV; rw [hl, look_pos e])) fun e => ?_
  rw [look_neg e] at hl
  clear e
  refine case_int (fun e => of_leaf h rfl op [79, 112, 69, 120, 101, 99, 117, 116, 105, 111, 110, 77, 111, 100, 101] [105, 120] [] false false 0 3 (by unfold ofV; rw [hl, look_pos e])) fun e => ?_
  rw [look_neg e] at hl
  clear e
  refine case_int (fun e => of_leaf h rfl op [79, 112, 67, 97, 112, 97, 98, 105, 108, 105, 116, 121] [107] [] false false 0 0 (by unfold ofV; rw [hl, look_pos e])) fun e => ?_
  rw [look_neg e] at hl
  clear e
  refine case_int (fun e => of_leaf h rfl op [79, 112, 84, 121, 112, 101, 86, 111, 105, 100] [] [] false true 0 7 (by unfold ofV; rw [hl, look_pos e])) fun e => ?_
  rw [look_neg e] at hl
  clear e
  refine case_int (fun e => of_leaf h rfl op [79, 112, 84, 121, 112, 101, 66, 111, 111, 108] [] [] false true 0 7 (by unfold ofV; rw [hl, look_pos e])) fun e => ?_
  rw [look_neg e] at hl
  clear e
  refine case_int (fun e => of_leaf h rfl op [79, 112, 84, 121, 112, 101, 73, 110, 116] [110, 110] [] false true 0 7 (by unfold ofV; rw [hl, look_pos e])) fun e => ?_
  rw [look_neg e] at hl
  clear e
  refine case_int (fun e => of_leaf h rfl op [79, 112, 84, 121, 112, 101, 86, 101, 99, 116, 111, 114] [105, 110] [] false true 0 7 (by unfold ofV; rw [hl, look_pos e])) fun e => ?_
  rw [look_neg e] at hl
  clear e
  refine case_int (fun e => of_leaf h rfl op [79, 112, 84, 121, 112, 101, 65, 114, 114, 97, 121] [105, 105] [] false true 0 7 (by unfold ofV; rw [hl, look_pos e])) fun e => ?_
  rw [look_neg e] at hl
  clear e
  refine case_int (fun e => of_leaf h rfl op [79, 112, 84, 121, 112, 101, 83, 116, 114, 117, 99, 116] [] [105] false true 0 7 (by unfold ofV; rw [hl, look_pos e])) fun e => ?_
  rw [look_neg e] at hl
  clear e
  refine case_int (fun e => of_leaf h rfl op [79, 112, 84, 121, 112, 101, 80, 111, 105, 110, 116, 101, 114] [99, 105] [] false true 0 7 (by unfold ofV; rw [hl, look_pos e])) fun e => ?_
  rw [look_neg e] at hl
  clear e
  refine case_int (fun e => of_leaf h rfl op [79, 112, 84, 121, 112, 101, 70, 117, 110, 99, 116, 105, 111, 110] [105] [105] false true 0 7 (by unfold ofV; rw [hl, look_pos e])) fun e => ?_
  rw [look_neg e] at hl
  clear e
  refine case_int (fun e => of_leaf h rfl op [79, 112, 67, 111, 110, 115, 116, 97, 110, 116, 84, 114, 117, 101] [] [] true true 0 7 (by unfold ofV; rw [hl, look_pos e])) fun e => ?_
  rw [look_neg e] at hl
  clear e
  refine case_int (fun e => of_leaf h rfl op [79, 112, 67, 111, 110, 115, 116, 97, 110, 116, 70, 97, 108, 115, 101] [] [] true true 0 7 (by unfold ofV; rw [hl, look_pos e])) fun e => ?_
  rw [look_neg e] at hl
  clear e
  refine case_int (fun e => of_leaf h rfl op [79, 112, 67, 111, 110, 115, 116, 97, 110, 116] [110] [] true true 0 7 (by unfold ofV; rw [hl, look_pos e])) fun e => ?_
  rw [look_neg e] at hl
  clear e
  refine case_int (fun e => of_leaf h rfl op [79, 112, 67, 111, 110, 115, 116, 97, 110, 116, 67, 111, 109, 112, 111, 115, 105, 116, 101] [] [105] true true 0 7 (by unfold ofV; rw [hl, look_pos e])) fun e => ?_
  rw [look_neg e] at hl
  clear e
  refine case_int (fun e => of_leaf h rfl op [79, 112, 67, 111, 110, 115, 116, 97, 110, 116, 78, 117, 108, 108] [] [] true true 0 7 (by unfold ofV; rw [hl, look_pos e])) fun e => ?_
  rw [look_neg e] at hl
  clear e
  refine case_int (fun e => of_leaf h rfl op [79, 112, 70, 117, 110, 99, 116, 105, 111, 110] [102, 105] [] true true 0 8 (by unfold ofV; rw [hl, look_pos e])) fun e => ?_
  rw [look_neg e] at hl
  clear e
  refine case_int (fun e => of_leaf h rfl op [79, 112, 70, 117, 110, 99, 116, 105, 111, 110, 80, 97, 114, 97, 109, 101, 116, 101, 114] [] [] true true 0 8 (by unfold ofV; rw [hl, look_pos e])) fun e => ?_
  rw [look_neg e] at hl
  clear e
  refine case_int (fun e => of_leaf h rfl op [79, 112, 70, 117, 110, 99, 116, 105, 111, 110, 69, 110, 100] [] [] false false 0 8 (by unfold ofV; rw [hl, look_pos e])) fun e => ?_
  rw [look_neg e] at hl
  clear e
  refine case_int (fun e => of_leaf h rfl op [79, 112, 70, 117, 110, 99, 116, 105, 111, 110, 67, 97, 108, 108] [105] [105] true true 0 8 (by unfold ofV; rw [hl, look_pos e])) fun e => ?_
  rw [look_neg e] at hl
  clear e
  refine case_int (fun e => of_leaf h rfl op [79, 112, 86, 97, 114, 105, 97, 98, 108, 101] [99] [105] true true 1 7 (by unfold ofV; rw [hl, look_pos e])) fun e => ?_
  rw [look_neg e] at hl
  clear e
  refine case_int (fun e => of_leaf h rfl op [79, 112, 76, 111, 97, 100] [105] [] true true 0 8 (by unfold ofV; rw [hl, look_pos e])) fun e => ?_
  rw [look_neg e] at hl
  clear e
  refine case_int (fun e => of_leaf h rfl op [79, 112, 83, 116, 111, 114, 101] [105, 105] [] false false 0 8 (by unfold ofV; rw [hl, look_pos e])) fun e => ?_
  rw [look_neg e] at hl
  clear e
  refine case_int (fun e => of_leaf h rfl op [79, 112, 65, 99, 99, 101, 115, 115, 67, 104, 97, 105, 110] [105] [105] true true 0 8 (by unfold ofV; rw [hl, look_pos e])) fun e => ?_
  rw [look_neg e] at hl
  clear e
  refine case_int (fun e => of_leaf h rfl op [79, 112, 68, 101, 99, 111, 114, 97, 116, 101] [105, 100] [110] false false 0 6 (by unfold ofV; rw [hl, look_pos e])) fun e => ?_
  rw [look_neg e] at hl
  clear e
  refine case_int (fun e => of_leaf h rfl op [79, 112, 86, 101, 99, 116, 111, 114, 69, 120, 116, 114, 97, 99, 116, 68, 121, 110, 97, 109, 105, 99] [105, 105] [] true true 0 8 (by unfold ofV; rw [hl, look_pos e])) fun e => ?_
  rw [look_neg e] at hl
  clear e
  refine case_int (fun e => of_leaf h rfl op [79, 112, 86, 101, 99, 116, 111, 114, 73, 110, 115, 101, 114, 116, 68, 121, 110, 97, 109, 105, 99] [105, 105, 105] [] true true 0 8 (by unfold ofV; rw [hl, look_pos e])) fun e => ?_
  rw [look_neg e] at hl
  clear e
  refine case_int (fun e => of_leaf h rfl op [79, 112, 86, 101, 99, 116, 111, 114, 83, 104, 117, 102, 102, 108, 101] [105, 105] [110] true true 0 8 (by unfold ofV; rw [hl, look_pos e])) fun e => ?_
  rw [look_neg e] at hl
  clear e
  refine case_int (fun e => of_leaf h rfl op [79, 112, 67, 111, 109, 112, 111, 115, 105, 116, 101, 67, 111, 110, 115, 116, 114, 117, 99, 116] [] [105] true true 0 8 (by unfold ofV; rw [hl, look_pos e])) fun e => ?_
  rw [look_neg e] at hl
  clear e
  refine case_int (fun e => of_leaf h rfl op [79, 112, 67, 111, 109, 112, 111, 115, 105, 116, 101, 69, 120, 116, 114, 97, 99, 116] [105] [110] true true 0 8 (by unfold ofV; rw [hl, look_pos e])) fun e => ?_
  rw [look_neg e] at hl
  clear e
  refine case_int (fun e => of_leaf h rfl op [79, 112, 67, 111, 109, 112, 111, 115, 105, 116, 101, 73, 110, 115, 101, 114, 116] [105, 105] [110] true true 0 8 (by unfold ofV; rw [hl, look_pos e])) fun e => ?_
  rw [look_neg e] at hl
  clear e
  refine case_int (fun e => of_leaf h rfl op [79, 112, 67, 111, 112, 121, 79, 98, 106, 101, 99, 116] [105] [] true true 0 8 (by unfold ofV; rw [hl, look_pos e])) fun e => ?_
  rw [look_neg e] at hl
  clear e
  refine case_int (fun e => of_leaf h rfl op [79, 112, 66, 105, 116, 99, 97, 115, 116] [105] [] true true 0 8 (by unfold ofV; rw [hl, look_pos e])) fun e => ?_
  rw [look_neg e] at hl
  clear e
  refine case_int (fun e => of_leaf h rfl op [79, 112, 83, 78, 101, 103, 97, 116, 101] [105] [] true true 0 8 (by unfold ofV; rw [hl, look_pos e])) fun e => ?_
  rw [look_neg e] at hl
  clear e
  refine case_int (fun e => of_leaf h rfl op [79, 112, 73, 65, 100, 100] [105, 105] [] true true 0 8 (by unfold ofV; rw [hl, look_pos e])) fun e => ?_
  rw [look_neg e] at hl
  clear e
  refine case_int (fun e => of_leaf h rfl op [79, 112, 73, 83, 117, 98] [105, 105] [] true true 0 8 (by unfold ofV; rw [hl, look_pos e])) fun e => ?_
  rw [look_neg e] at hl
  clear e
  refine case_int (fun e => of_leaf h rfl op [79, 112, 73, 77, 117, 108] [105, 105] [] true true 0 8 (by unfold ofV; rw [hl, look_pos e])) fun e => ?_
  rw [look_neg e] at hl
  clear e
  refine case_int (fun e => of_leaf h rfl op [79, 112, 85, 68, 105, 118] [105, 105] [] true true 0 8 (by unfold ofV; rw [hl, look_pos e])) fun e => ?_
  rw [look_neg e] at hl
  clear e
  refine case_int (fun e => of_leaf h rfl op [79, 112, 83, 68, 105, 118] [105, 105] [] true true 0 8 (by unfold ofV; rw [hl, look_pos e])) fun e => ?_
  rw [look_neg e] at hl
  clear e
  refine case_int (fun e => of_leaf h rfl op [79, 112, 85, 77, 111, 100] [105, 105] [] true true 0 8 (by unfold ofV; rw [hl, look_pos e])) fun e => ?_
  rw [look_neg e] at hl
  clear e
  refine case_int (fun e => of_leaf h rfl op [79, 112, 83, 82, 101, 109] [105, 105] [] true true 0 8 (by unfold ofV; rw [hl, look_pos e])) fun e => ?_
  rw [look_neg e] at hl
  clear e
  refine case_int (fun e => of_leaf h rfl op [79, 112, 83, 77, 111, 100] [105, 105] [] true true 0 8 (by unfold ofV; rw [hl, look_pos e])) fun e => ?_
  rw [look_neg e] at hl
  clear e
  refine case_int (fun e => of_leaf h rfl op [79, 112, 73, 65, 100, 100, 67, 97, 114, 114, 121] [105, 105] [] true true 0 8 (by unfold ofV; rw [hl, look_pos e])) fun e => ?_
  rw [look_neg e] at hl
  clear e
  refine case_int (fun e => of_leaf h rfl op [79, 112, 73, 83, 117, 98, 66, 111, 114, 114, 111, 119] [105, 105] [] true true 0 8 (by unfold ofV; rw [hl, look_pos e])) fun e => ?_
  rw [look_neg e] at hl
  clear e
  refine case_int (fun e => of_leaf h rfl op [79, 112, 85, 77, 117, 108, 69, 120, 116, 101, 110, 100, 101, 100] [105, 105] [] true true 0 8 (by unfold ofV; rw [hl, look_pos e])) fun e => ?_
  rw [look_neg e] at hl
  clear e
  refine case_int (fun e => of_leaf h rfl op [79, 112, 83, 77, 117, 108, 69, 120, 116, 101, 110, 100, 101, 100] [105, 105] [] true true 0 8 (by unfold ofV; rw [hl, look_pos e])) fun e => ?_
  rw [look_neg e] at hl
  clear e
  refine case_int (fun e => of_leaf h rfl op [79, 112, 65, 110, 121] [105] [] true true 0 8 (by unfold ofV; rw [hl, look_pos e])) fun e => ?_
  rw [look_neg e] at hl
  clear e
  refine case_int (fun e => of_leaf h rfl op [79, 112, 65, 108, 108] [105] [] true true 0 8 (by unfold ofV; rw [hl, look_pos e])) fun e => ?_
  rw [look_neg e] at hl
  clear e
  refine case_int (fun e => of_leaf h rfl op [79, 112, 76, 111, 103, 105, 99, 97, 108, 69, 113, 117, 97, 108] [105, 105] [] true true 0 8 (by unfold ofV; rw [hl, look_pos e])) fun e => ?_
  rw [look_neg e] at hl
  clear e
  refine case_int (fun e => of_leaf h rfl op [79, 112, 76, 111, 103, 105, 99, 97, 108, 78, 111, 116, 69, 113, 117, 97, 108] [105, 105] [] true true 0 8 (by unfold ofV; rw [hl, look_pos e])) fun e => ?_
  rw [look_neg e] at hl
  clear e
  refine case_int (fun e => of_leaf h rfl op [79, 112, 76, 111, 103, 105, 99, 97, 108, 79, 114] [105, 105] [] true true 0 8 (by unfold ofV; rw [hl, look_pos e])) fun e => ?_
  rw [look_neg e] at hl
  clear e
  refine case_int (fun e => of_leaf h rfl op [79, 112, 76, 111, 103, 105, 99, 97, 108, 65, 110, 100] [105, 105] [] true true 0 8 (by unfold ofV; rw [hl, look_pos e])) fun e => ?_
  rw [look_neg e] at hl
  clear e
  refine case_int (fun e => of_leaf h rfl op [79, 112, 76, 111, 103, 105, 99, 97, 108, 78, 111, 116] [105] [] true true 0 8 (by unfold ofV; rw [hl, look_pos e])) fun e => ?_
  rw [look_neg e] at hl
  clear e
  refine case_int (fun e => of_leaf h rfl op [79, 112, 83, 101, 108, 101, 99, 116] [105, 105, 105] [] true true 0 8 (by unfold ofV; rw [hl, look_pos e])) fun e => ?_
  rw [look_neg e] at hl
  clear e
  refine case_int (fun e => of_leaf h rfl op [79, 112, 73, 69, 113, 117, 97, 108] [105, 105] [] true true 0 8 (by unfold ofV; rw [hl, look_pos e])) fun e => ?_
  rw [look_neg e] at hl
  clear e
  refine case_int (fun e => of_leaf h rfl op [79, 112, 73, 78, 111, 116, 69, 113, 117, 97, 108] [105, 105] [] true true 0 8 (by unfold ofV; rw [hl, look_pos e])) fun e => ?_
  rw [look_neg e] at hl
  clear e
  refine case_int (fun e => of_leaf h rfl op [79, 112, 85, 71, 114, 101, 97, 116, 101, 114, 84, 104, 97, 110] [105, 105] [] true true 0 8 (by unfold ofV; rw [hl, look_pos e])) fun e => ?_
  rw [look_neg e] at hl
  clear e
  refine case_int (fun e => of_leaf h rfl op [79, 112, 83, 71, 114, 101, 97, 116, 101, 114, 84, 104, 97, 110] [105, 105] [] true true 0 8 (by unfold ofV; rw [hl, look_pos e])) fun e => ?_
  rw [look_neg e] at hl
  clear e
  refine case_int (fun e => of_leaf h rfl op [79, 112, 85, 71, 114, 101, 97, 116, 101, 114, 84, 104, 97, 110, 69, 113, 117, 97, 108] [105, 105] [] true true 0 8 (by unfold ofV; rw [hl, look_pos e])) fun e => ?_
  rw [look_neg e] at hl
  clear e
  refine case_int (fun e => of_leaf h rfl op [79, 112, 83, 71, 114, 101, 97, 116, 101, 114, 84, 104, 97, 110, 69, 113, 117, 97, 108] [105, 105] [] true true 0 8 (by unfold ofV; rw [hl, look_pos e])) fun e => ?_
  rw [look_neg e] at hl
  clear e
  refine case_int (fun e => of_leaf h rfl op [79, 112, 85, 76, 101, 115, 115, 84, 104, 97, 110] [105, 105] [] true true 0 8 (by unfold ofV; rw [hl, look_pos e])) fun e => ?_
  rw [look_neg e] at hl
  clear e
  refine case_int (fun e => of_leaf h rfl op [79, 112, 83, 76, 101, 115, 115, 84, 104, 97, 110] [105, 105] [] true true 0 8 (by unfold ofV; rw [hl, look_pos e])) fun e => ?_
  rw [look_neg e] at hl
  clear e
  refine case_int (fun e => of_leaf h rfl op [79, 112, 85, 76, 101, 115, 115, 84, 104, 97, 110, 69, 113, 117, 97, 108] [105, 105] [] true true 0 8 (by unfold ofV; rw [hl, look_pos e])) fun e => ?_
  rw [look_neg e] at hl
  clear e
  refine case_int (fun e => of_leaf h rfl op [79, 112, 83, 76, 101, 115, 115, 84, 104, 97, 110, 69, 113, 117, 97, 108] [105, 105] [] true true 0 8 (by unfold ofV; rw [hl, look_pos e])) fun e => ?_
  rw [look_neg e] at hl
  clear e
  refine case_int (fun e => of_leaf h rfl op [79, 112, 83, 104, 105, 102, 116, 82, 105, 103, 104, 116, 76, 111, 103, 105, 99, 97, 108] [105, 105] [] true true 0 8 (by unfold ofV; rw [hl, look_pos e])) fun e => ?_
  rw [look_neg e] at hl
  clear e
  refine case_int (fun e => of_leaf h rfl op [79, 112, 83, 104, 105, 102, 116, 82, 105, 103, 104, 116, 65, 114, 105, 116, 104, 109, 101, 116, 105, 99] [105, 105] [] true true 0 8 (by unfold ofV; rw [hl, look_pos e])) fun e => ?_
  rw [look_neg e] at hl
  clear e
  refine case_int (fun e => of_leaf h rfl op [79, 112, 83, 104, 105, 102, 116, 76, 101, 102, 116, 76, 111, 103, 105, 99, 97, 108] [105, 105] [] true true 0 8 (by unfold ofV; rw [hl, look_pos e])) fun e => ?_
  rw [look_neg e] at hl
  clear e
  refine case_int (fun e => of_leaf h rfl op [79, 112, 66, 105, 116, 119, 105, 115, 101, 79, 114] [105, 105] [] true true 0 8 (by unfold ofV; rw [hl, look_pos e])) fun e => ?_
  rw [look_neg e] at hl
  clear e
  refine case_int (fun e => of_leaf h rfl op [79, 112, 66, 105, 116, 119, 105, 115, 101, 88, 111, 114] [105, 105] [] true true 0 8 (by unfold ofV; rw [hl, look_pos e])) fun e => ?_
  rw [look_neg e] at hl
  clear e
  refine case_int (fun e => of_leaf h rfl op [79, 112, 66, 105, 116, 119, 105, 115, 101, 65, 110, 100] [105, 105] [] true true 0 8 (by unfold ofV; rw [hl, look_pos e])) fun e => ?_
  rw [look_neg e] at hl
  clear e
  refine case_int (fun e => of_leaf h rfl op [79, 112, 78, 111, 116] [105] [] true true 0 8 (by unfold ofV; rw [hl, look_pos e])) fun e => ?_
  rw [look_neg e] at hl
  clear e
  refine case_int (fun e => of_leaf h rfl op [79, 112, 66, 105, 116, 70, 105, 101, 108, 100, 73, 110, 115, 101, 114, 116] [105, 105, 105, 105] [] true true 0 8 (by unfold ofV; rw [hl, look_pos e])) fun e => ?_
  rw [look_neg e] at hl
  clear e
  refine case_int (fun e => of_leaf h rfl op [79, 112, 66, 105, 116, 70, 105, 101, 108, 100, 83, 69, 120, 116, 114, 97, 99, 116] [105, 105, 105] [] true true 0 8 (by unfold ofV; rw [hl, look_pos e])) fun e => ?_
  rw [look_neg e] at hl
  clear e
  refine case_int (fun e => of_leaf h rfl op [79, 112, 66, 105, 116, 70, 105, 101, 108, 100, 85, 69, 120, 116, 114, 97, 99, 116] [105, 105, 105] [] true true 0 8 (by unfold ofV; rw [hl, look_pos e])) fun e => ?_
  rw [look_neg e] at hl
  clear e
  refine case_int (fun e => of_leaf h rfl op [79, 112, 66, 105, 116, 82, 101, 118, 101, 114, 115, 101] [105] [] true true 0 8 (by unfold ofV; rw [hl, look_pos e])) fun e => ?_
  rw [look_neg e] at hl
  clear e
  refine case_int (fun e => of_leaf h rfl op [79, 112, 66, 105, 116, 67, 111, 117, 110, 116] [105] [] true true 0 8 (by unfold ofV; rw [hl, look_pos e])) fun e => ?_
  rw [look_neg e] at hl
  clear e
  refine case_int (fun e => of_leaf h rfl op [79, 112, 80, 104, 105] [] [105, 105] true true 0 8 (by unfold ofV; rw [hl, look_pos e])) fun e => ?_
  rw [look_neg e] at hl
  clear e
  refine case_int (fun e => of_leaf h rfl op [79, 112, 76, 111, 111, 112, 77, 101, 114, 103, 101] [105, 105, 103] [] false false 0 8 (by unfold ofV; rw [hl, look_pos e])) fun e => ?_
  rw [look_neg e] at hl
  clear e
  refine case_int (fun e => of_leaf h rfl op [79, 112, 83, 101, 108, 101, 99, 116, 105, 111, 110, 77, 101, 114, 103, 101] [105, 104] [] false false 0 8 (by unfold ofV; rw [hl, look_pos e])) fun e => ?_
  rw [look_neg e] at hl
  clear e
  refine case_int (fun e => of_leaf h rfl op [79, 112, 76, 97, 98, 101, 108] [] [] false true 0 8 (by unfold ofV; rw [hl, look_pos e])) fun e => ?_
  rw [look_neg e] at hl
  clear e
  refine case_int (fun e => of_leaf h rfl op [79, 112, 66, 114, 97, 110, 99, 104] [105] [] false false 0 8 (by unfold ofV; rw [hl, look_pos e])) fun e => ?_
  rw [look_neg e] at hl
  clear e
  refine case_int (fun e => of_leaf h rfl op [79, 112, 66, 114, 97, 110, 99, 104, 67, 111, 110, 100, 105, 116, 105, 111, 110, 97, 108] [105, 105, 105] [] false false 0 8 (by unfold ofV; rw [hl, look_pos e])) fun e => ?_
  rw [look_neg e] at hl
  clear e
  refine case_int (fun e => of_leaf h rfl op [79, 112, 83, 119, 105, 116, 99, 104] [105, 105] [110, 105] false false 0 8 (by unfold ofV; rw [hl, look_pos e])) fun e => ?_
  rw [look_neg e] at hl
  clear e
  refine case_int (fun e => of_leaf h rfl op [79, 112, 75, 105, 108, 108] [] [] false false 0 8 (by unfold ofV; rw [hl, look_pos e])) fun e => ?_
  rw [look_neg e] at hl
  clear e
  refine case_int (fun e => of_leaf h rfl op [79, 112, 82, 101, 116, 117, 114, 110] [] [] false false 0 8 (by unfold ofV; rw [hl, look_pos e])) fun e => ?_
  rw [look_neg e] at hl
  clear e
  refine case_int (fun e => of_leaf h rfl op [79, 112, 82, 101, 116, 117, 114, 110, 86, 97, 108, 117, 101] [105] [] false false 0 8 (by unfold ofV; rw [hl, look_pos e])) fun e => ?_
  rw [look_neg e] at hl
  clear e
  refine case_int (fun e => of_leaf h rfl op [79, 112, 85, 110, 114, 101, 97, 99, 104, 97, 98, 108, 101] [] [] false false 0 8 (by unfold ofV; rw [hl, look_pos e])) fun e => ?_
  rw [look_neg e] at hl
  clear e
  try simp (disch := omega) only [cnd_bool, on_some_eq, Dr_eq, xNil_ptr, xNil_func, xNil_yield, xPick_bool, unw_nil, xRes_ptr, xUn_not, xUn_neg, xEx_tuple, xBin_add, xBin_sub, xBin_mul, xBin_eql, xBin_neq, xBin_lss, xBin_leq, xBin_gtr, xBin_geq, xBin_eqls, xBin_neqs, wI64, oCell_some, List.getElem?_toArray, List.getElem?_cons_zero, List.getElem?_cons_succ, Nat.zero_add, Bool.not_true, Bool.not_false, if_true, if_false, ite_true, ite_false, beq_iff_eq, bne_iff_ne, decide_eq_true_eq, ne_eq, Bool.false_eq_true, Bool.true_eq_false, reduceIte, Option.some.injEq, Int.toNat_natCast, beq_self_eq_true, bne_self_eq_false, Value.cells, splice, List.setIfInBounds_toArray, List.set_cons_zero, List.set_cons_succ, List.size_toArray, List.length_cons, List.length_nil, and_self, Nat.reduceLeDiff, Nat.reduceAdd, Nat.reduceMul, Int.reduceToNat, Int.reduceLT, Int.reduceLE, Int.reduceGT, Int.reduceGE, Int.reduceAdd, Int.reduceSub, Int.reduceMul, Int.reduceNeg, Int.reduceEq, Int.reduceNe, true_and, and_true, Int.cast_ofNat_Int, Nat.le_refl, hf, ld50, ld77, fa77_0, fa77_2, fa77_3, fa77_4, fa77_5, fa77_6, fa77_7, bd77, bd77_0_1_2_3_4_5_6_7, bd77_0_1_4_5_7, ld113, ln113, ia113, ow2, ow3, ow4, ow5, ow6, ow8, ow11, ow20, ow23]
  refine soStoreA ty77 0 h (fun w h => ?_) rfl rfl rfl rfl
  try simp only [Facts, and_true, Value.cells, List.setIfInBounds_toArray, List.set_cons_zero, List.set_cons_succ, splice, Nat.zero_add, Nat.reduceAdd, List.cons_append, List.nil_append] at h
  have hf := h.facts
  simp only [Facts, and_true, Value.cells, List.setIfInBounds_toArray, List.set_cons_zero, List.set_cons_succ, splice, Nat.zero_add, Nat.reduceAdd, List.cons_append, List.nil_append] at hf
  try simp (disch := omega) only [cnd_bool, on_some_eq, Dr_eq, xNil_ptr, xNil_func, xNil_yield, xPick_bool, unw_nil, xRes_ptr, xUn_not, xUn_neg, xEx_tuple, xBin_add, xBin_sub, xBin_mul, xBin_eql, xBin_neq, xBin_lss, xBin_leq, xBin_gtr, xBin_geq, xBin_eqls, xBin_neqs, wI64, oCell_some, List.getElem?_toArray, List.getElem?_cons_zero, List.getElem?_cons_succ, Nat.zero_add, Bool.not_true, Bool.not_false, if_true, if_false, ite_true, ite_false, beq_iff_eq, bne_iff_ne, decide_eq_true_eq, ne_eq, Bool.false_eq_true, Bool.true_eq_false, reduceIte, Option.some.injEq, Int.toNat_natCast, beq_self_eq_true, bne_self_eq_false, Value.cells, splice, List.setIfInBounds_toArray, List.set_cons_zero, List.set_cons_succ, List.size_toArray, List.length_cons, List.length_nil, and_self, Nat.reduceLeDiff, Nat.reduceAdd, Nat.reduceMul, Int.reduceToNat, Int.reduceLT, Int.reduceLE, Int.reduceGT, Int.reduceGE, Int.reduceAdd, Int.reduceSub, Int.reduceMul, Int.reduceNeg, Int.reduceEq, Int.reduceNe, true_and, and_true, Int.cast_ofNat_Int, Nat.le_refl, hf, ld50, ld77, fa77_0, fa77_2, fa77_3, fa77_4, fa77_5, fa77_6, fa77_7, bd77, bd77_0_1_2_3_4_5_6_7, bd77_0_1_4_5_7, ld113, ln113, ia113, ow2, ow3, ow4, ow5, ow6, ow8, ow11, ow20, ow23, oRow_all]
  exact ⟨by unfold ofV; rw [hl]; rfl, h.drop⟩
theorem c_row {w0 w : World} {L : List (Nat × Obj)} (h : So w0 w L) (op : Int) : Cx P 102 #[.int .u16 op] w fun v w => v = .string (bs (rowOf op)) ∧ So w0 w L := by
  apply F102_ok
  unfold F102 rowOf
  try simp (disch := omega) only [cnd_bool, on_some_eq, Dr_eq, xNil_ptr, xNil_func, xNil_yield, xPick_bool, unw_nil, xRes_ptr, xUn_not, xUn_neg, xEx_tuple, xBin_add, xBin_sub, xBin_mul, xBin_eql, xBin_neq, xBin_lss, xBin_leq, xBin_gtr, xBin_geq, xBin_eqls, xBin_neqs, wI64, oCell_some, List.getElem?_toArray, List.getElem?_cons_zero, List.getElem?_cons_succ, Nat.zero_add, Bool.not_true, Bool.not_false, if_true, if_false, ite_true, ite_false, beq_iff_eq, bne_iff_ne, decide_eq_true_eq, ne_eq, Bool.false_eq_true, Bool.true_eq_false, reduceIte, Option.some.injEq, Int.toNat_natCast, beq_self_eq_true, bne_self_eq_false, Value.cells, splice, List.setIfInBounds_toArray, List.set_cons_zero, List.set_cons_succ, List.size_toArray, List.length_cons, List.length_nil, and_self, Nat.reduceLeDiff, Nat.reduceAdd, Nat.reduceMul, Int.reduceToNat, Int.reduceLT, Int.reduceLE, Int.reduceGT, Int.reduceGE, Int.reduceAdd, Int.reduceSub, Int.reduceMul, Int.reduceNeg, Int.reduceEq, Int.reduceNe, true_and, and_true, Int.cast_ofNat_Int, Nat.le_refl, ld50, ld77, fa77_0, fa77_2, fa77_3, fa77_4, fa77_5, fa77_6, fa77_7, bd77, bd77_0_1_2_3_4_5_6_7, bd77_0_1_4_5_7, ld113, ln113, ia113, ow2, ow3, ow4, ow5, ow6, ow8, ow11, ow20, ow23]
  split
  · exact Cx.mono (c_first h op) fun v w hv => hv
  · split
    · exact Cx.mono (c_second h op) fun v w hv => hv
    · exact Cx.mono (c_third h op) fun v w hv => hv
end Go.Proofs.Ytlmcppbpobnfjaa

