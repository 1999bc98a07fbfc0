/- The library's functions of this seat, for the shelf's contracts: printed by this session's shelf.py. -/
import Derived.Test.YtlmcppbpobnfjaaDoorTf
import Derived.Shelf.Pu.ErrVarParseUint
import Derived.Shelf.Strings.OnBuilder
import Derived.Shelf.Strings.Search2
import Derived.Shelf.Small.Wraps
import Derived.KernelRfl
namespace Go.Proofs.YtlmcppbpobnfjaaDoor
open Go Go.Vc
set_option maxRecDepth 20000
def renJ : Shelf.Ren := ⟨fun x => if x = 156 then 13 else if x = 165 then 20 else if x = 166 then 21 else if x = 169 then 22 else if x = 240 then 29 else if x = 241 then 30 else if x = 276 then 39 else if x = 277 then 40 else x, fun x => if x = 0 then 0 else if x = 3 then 3 else if x = 4 then 4 else if x = 5 then 5 else if x = 9 then 9 else if x = 20 then 20 else if x = 31 then 44 else if x = 37 then 57 else if x = 70 then 56 else if x = 72 then 59 else if x = 75 then 62 else if x = 76 then 63 else if x = 80 then 65 else if x = 127 then 76 else if x = 164 then 79 else x, fun x => x⟩
theorem lays_renJ : Lays.n156 P renJ where
  mixed := by kernel_rfl
  f156 := by kernel_rfl
  f165 := by kernel_rfl
  f166 := by kernel_rfl
  f169 := by kernel_rfl
  f240 := by kernel_rfl
  f241 := by kernel_rfl
  f276 := by kernel_rfl
  f277 := by kernel_rfl
  t0 := by kernel_rfl
  a0 := fun w => by kernel_rfl
  z0 := fun w => by kernel_rfl
  v0 := fun w => by kernel_rfl
  t3 := by kernel_rfl
  a3 := fun w => by kernel_rfl
  z3 := fun w => by kernel_rfl
  v3 := fun w => by kernel_rfl
  t4 := by kernel_rfl
  a4 := fun w => by kernel_rfl
  z4 := fun w => by kernel_rfl
  v4 := fun w => by kernel_rfl
  t9 := by kernel_rfl
  a9 := fun w => by kernel_rfl
  z9 := fun w => by kernel_rfl
  v9 := fun w => by kernel_rfl
  t20 := by kernel_rfl
  a20 := fun w => by kernel_rfl
  z20 := fun w => by kernel_rfl
  v20 := fun w => by kernel_rfl
  t31 := by kernel_rfl
  a31 := fun w => by kernel_rfl
  z31 := fun w => by kernel_rfl
  v31 := fun w => by kernel_rfl
  t37 := by kernel_rfl
  a37 := fun w => by kernel_rfl
  z37 := fun w => by kernel_rfl
  v37 := fun w => by kernel_rfl
  t70 := by kernel_rfl
  a70 := fun w => by kernel_rfl
  z70 := fun w => by kernel_rfl
  v70 := fun w => by kernel_rfl
  t72 := by kernel_rfl
  a72 := fun w => by kernel_rfl
  z72 := fun w => by kernel_rfl
  v72 := fun w => by kernel_rfl
  t75 := by kernel_rfl
  a75 := fun w => by kernel_rfl
  z75 := fun w => by kernel_rfl
  v75 := fun w => by kernel_rfl
  t76 := by kernel_rfl
  a76 := fun w => by kernel_rfl
  z76 := fun w => by kernel_rfl
  v76 := fun w => by kernel_rfl
  t127 := by kernel_rfl
  a127 := fun w => by kernel_rfl
  z127 := fun w => by kernel_rfl
  v127 := fun w => by kernel_rfl
  t164 := by kernel_rfl
  a164 := fun w => by kernel_rfl
  z164 := fun w => by kernel_rfl
  v164 := fun w => by kernel_rfl
def renP : Shelf.Ren := ⟨fun x => if x = 14 then 25 else if x = 16 then 35 else if x = 17 then 36 else if x = 19 then 43 else if x = 20 then 44 else if x = 21 then 45 else if x = 22 then 46 else if x = 23 then 47 else if x = 24 then 48 else if x = 25 then 54 else if x = 26 then 55 else if x = 27 then 56 else if x = 28 then 62 else if x = 29 then 65 else if x = 30 then 49 else if x = 31 then 50 else if x = 32 then 51 else if x = 33 then 52 else if x = 34 then 57 else if x = 35 then 58 else if x = 36 then 59 else if x = 37 then 60 else if x = 38 then 61 else if x = 39 then 63 else if x = 40 then 64 else x, fun x => if x = 0 then 0 else if x = 2 then 2 else if x = 3 then 3 else if x = 4 then 4 else if x = 5 then 5 else if x = 9 then 9 else if x = 20 then 20 else if x = 21 then 21 else if x = 22 then 69 else if x = 24 then 62 else if x = 25 then 70 else if x = 34 then 84 else if x = 36 then 75 else if x = 37 then 57 else if x = 39 then 86 else if x = 44 then 97 else if x = 47 then 76 else if x = 48 then 104 else if x = 50 then 106 else if x = 52 then 90 else if x = 55 then 93 else if x = 59 then 100 else if x = 60 then 51 else if x = 61 then 101 else if x = 65 then 109 else if x = 66 then 110 else if x = 67 then 65 else x, fun x => if x = 0 then 1 else if x = 1 then 2 else if x = 2 then 3 else if x = 3 then 4 else if x = 4 then 5 else x⟩
theorem lays_renP : LaysPu.n14 P renP where
  mixed := by kernel_rfl
  f14 := by kernel_rfl
  f16 := by kernel_rfl
  f17 := by kernel_rfl
  f19 := by kernel_rfl
  f20 := by kernel_rfl
  f21 := by kernel_rfl
  f22 := by kernel_rfl
  f23 := by kernel_rfl
  f24 := by kernel_rfl
  f25 := by kernel_rfl
  f26 := by kernel_rfl
  f27 := by kernel_rfl
  f28 := by kernel_rfl
  f29 := by kernel_rfl
  f30 := by kernel_rfl
  f31 := by kernel_rfl
  f32 := by kernel_rfl
  f33 := by kernel_rfl
  f34 := by kernel_rfl
  f35 := by kernel_rfl
  f36 := by kernel_rfl
  f37 := by kernel_rfl
  f38 := by kernel_rfl
  f39 := by kernel_rfl
  f40 := by kernel_rfl
  t0 := by kernel_rfl
  a0 := fun w => by kernel_rfl
  z0 := fun w => by kernel_rfl
  v0 := fun w => by kernel_rfl
  i0 := by kernel_rfl
  t2 := by kernel_rfl
  a2 := fun w => by kernel_rfl
  z2 := fun w => by kernel_rfl
  v2 := fun w => by kernel_rfl
  i2 := by kernel_rfl
  t3 := by kernel_rfl
  a3 := fun w => by kernel_rfl
  z3 := fun w => by kernel_rfl
  v3 := fun w => by kernel_rfl
  i3 := by kernel_rfl
  t4 := by kernel_rfl
  a4 := fun w => by kernel_rfl
  z4 := fun w => by kernel_rfl
  v4 := fun w => by kernel_rfl
  i4 := by kernel_rfl
  t5 := by kernel_rfl
  a5 := fun w => by kernel_rfl
  z5 := fun w => by kernel_rfl
  v5 := fun w => by kernel_rfl
  i5 := by kernel_rfl
  t9 := by kernel_rfl
  a9 := fun w => by kernel_rfl
  z9 := fun w => by kernel_rfl
  v9 := fun w => by kernel_rfl
  i9 := by kernel_rfl
  t20 := by kernel_rfl
  a20 := fun w => by kernel_rfl
  z20 := fun w => by kernel_rfl
  v20 := fun w => by kernel_rfl
  i20 := by kernel_rfl
  t21 := by kernel_rfl
  a21 := fun w => by kernel_rfl
  z21 := fun w => by kernel_rfl
  v21 := fun w => by kernel_rfl
  i21 := by kernel_rfl
  t22 := by kernel_rfl
  a22 := fun w => by kernel_rfl
  z22 := fun w => by kernel_rfl
  v22 := fun w => by kernel_rfl
  i22 := by kernel_rfl
  t24 := by kernel_rfl
  a24 := fun w => by kernel_rfl
  z24 := fun w => by kernel_rfl
  v24 := fun w => by kernel_rfl
  i24 := by kernel_rfl
  t25 := by kernel_rfl
  a25 := fun w => by kernel_rfl
  z25 := fun w => by kernel_rfl
  v25 := fun w => by kernel_rfl
  i25 := by kernel_rfl
  t34 := by kernel_rfl
  a34 := fun w => by kernel_rfl
  z34 := fun w => by kernel_rfl
  v34 := fun w => by kernel_rfl
  i34 := by kernel_rfl
  c34 := by kernel_rfl
  t36 := by kernel_rfl
  a36 := fun w => by kernel_rfl
  z36 := fun w => by kernel_rfl
  v36 := fun w => by kernel_rfl
  i36 := by kernel_rfl
  t37 := by kernel_rfl
  a37 := fun w => by kernel_rfl
  z37 := fun w => by kernel_rfl
  v37 := fun w => by kernel_rfl
  i37 := by kernel_rfl
  t39 := by kernel_rfl
  a39 := fun w => by kernel_rfl
  z39 := fun w => by kernel_rfl
  v39 := fun w => by kernel_rfl
  i39 := by kernel_rfl
  t44 := by kernel_rfl
  a44 := fun w => by kernel_rfl
  z44 := fun w => by kernel_rfl
  v44 := fun w => by kernel_rfl
  i44 := by kernel_rfl
  t47 := by kernel_rfl
  a47 := fun w => by kernel_rfl
  z47 := fun w => by kernel_rfl
  v47 := fun w => by kernel_rfl
  i47 := by kernel_rfl
  t48 := by kernel_rfl
  a48 := fun w => by kernel_rfl
  z48 := fun w => by kernel_rfl
  v48 := fun w => by kernel_rfl
  i48 := by kernel_rfl
  t50 := by kernel_rfl
  a50 := fun w => by kernel_rfl
  z50 := fun w => by kernel_rfl
  v50 := fun w => by kernel_rfl
  i50 := by kernel_rfl
  t52 := by kernel_rfl
  a52 := fun w => by kernel_rfl
  z52 := fun w => by kernel_rfl
  v52 := fun w => by kernel_rfl
  i52 := by kernel_rfl
  t55 := by kernel_rfl
  a55 := fun w => by kernel_rfl
  z55 := fun w => by kernel_rfl
  v55 := fun w => by kernel_rfl
  i55 := by kernel_rfl
  t59 := by kernel_rfl
  a59 := fun w => by kernel_rfl
  z59 := fun w => by kernel_rfl
  v59 := fun w => by kernel_rfl
  i59 := by kernel_rfl
  t60 := by kernel_rfl
  a60 := fun w => by kernel_rfl
  z60 := fun w => by kernel_rfl
  v60 := fun w => by kernel_rfl
  i60 := by kernel_rfl
  t61 := by kernel_rfl
  a61 := fun w => by kernel_rfl
  z61 := fun w => by kernel_rfl
  t65 := by kernel_rfl
  a65 := fun w => by kernel_rfl
  z65 := fun w => by kernel_rfl
  v65 := fun w => by kernel_rfl
  i65 := by kernel_rfl
  t66 := by kernel_rfl
  a66 := fun w => by kernel_rfl
  z66 := fun w => by kernel_rfl
  v66 := fun w => by kernel_rfl
  i66 := by kernel_rfl
  t67 := by kernel_rfl
  a67 := fun w => by kernel_rfl
  z67 := fun w => by kernel_rfl
  v67 := fun w => by kernel_rfl
  i67 := by kernel_rfl
  g0 := by kernel_rfl
  m0 := by kernel_rfl
  g1 := by kernel_rfl
  m1 := by kernel_rfl
  g2 := by kernel_rfl
  m2 := by kernel_rfl
  g3 := by kernel_rfl
  m3 := by kernel_rfl
  g4 := by kernel_rfl
  m4 := by kernel_rfl
def renC : Shelf.Ren := ⟨fun x => if x = 103 then 27 else if x = 206 then 53 else if x = 210 then 38 else x, fun x => if x = 3 then 3 else if x = 4 then 4 else if x = 9 then 9 else if x = 24 then 45 else x, fun x => x⟩
theorem lays_renC : Lays.n103 P renC where
  mixed := by kernel_rfl
  f103 := by kernel_rfl
  f206 := by kernel_rfl
  f210 := by kernel_rfl
  t3 := by kernel_rfl
  a3 := fun w => by kernel_rfl
  z3 := fun w => by kernel_rfl
  v3 := fun w => by kernel_rfl
  t4 := by kernel_rfl
  a4 := fun w => by kernel_rfl
  z4 := fun w => by kernel_rfl
  v4 := fun w => by kernel_rfl
  t9 := by kernel_rfl
  a9 := fun w => by kernel_rfl
  z9 := fun w => by kernel_rfl
  v9 := fun w => by kernel_rfl
  t24 := by kernel_rfl
  a24 := fun w => by kernel_rfl
  z24 := fun w => by kernel_rfl
  v24 := fun w => by kernel_rfl
def renI : Shelf.Ren := ⟨fun x => if x = 217 then 31 else if x = 219 then 23 else if x = 224 then 33 else if x = 225 then 32 else if x = 266 then 41 else if x = 267 then 34 else if x = 314 then 42 else x, fun x => if x = 3 then 3 else if x = 4 then 4 else if x = 5 then 5 else if x = 9 then 9 else if x = 46 then 75 else if x = 51 then 51 else if x = 146 then 82 else x, fun x => if x = 1 then 0 else x⟩
theorem lays_renI : Lays.n219 P renI where
  mixed := by kernel_rfl
  f217 := by kernel_rfl
  f219 := by kernel_rfl
  f224 := by kernel_rfl
  f225 := by kernel_rfl
  f266 := by kernel_rfl
  f267 := by kernel_rfl
  f314 := by kernel_rfl
  t3 := by kernel_rfl
  a3 := fun w => by kernel_rfl
  z3 := fun w => by kernel_rfl
  v3 := fun w => by kernel_rfl
  t4 := by kernel_rfl
  a4 := fun w => by kernel_rfl
  z4 := fun w => by kernel_rfl
  v4 := fun w => by kernel_rfl
  t5 := by kernel_rfl
  a5 := fun w => by kernel_rfl
  z5 := fun w => by kernel_rfl
  v5 := fun w => by kernel_rfl
  t9 := by kernel_rfl
  a9 := fun w => by kernel_rfl
  z9 := fun w => by kernel_rfl
  v9 := fun w => by kernel_rfl
  t46 := by kernel_rfl
  a46 := fun w => by kernel_rfl
  z46 := fun w => by kernel_rfl
  v46 := fun w => by kernel_rfl
  t51 := by kernel_rfl
  a51 := fun w => by kernel_rfl
  z51 := fun w => by kernel_rfl
  v51 := fun w => by kernel_rfl
  t146 := by kernel_rfl
  a146 := fun w => by kernel_rfl
  z146 := fun w => by kernel_rfl
  v146 := fun w => by kernel_rfl
  g1 := by kernel_rfl
end Go.Proofs.YtlmcppbpobnfjaaDoor
