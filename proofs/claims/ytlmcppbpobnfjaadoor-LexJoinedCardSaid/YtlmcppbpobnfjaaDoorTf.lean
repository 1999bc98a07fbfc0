/- The types' facts, printed by this session's tygen.py. -/
import Derived.Test.YtlmcppbpobnfjaaDoorS
import Derived.Test.YtlmcppbpobnfjaaDoorVb
namespace Go.Proofs.YtlmcppbpobnfjaaDoor
open Go Go.Vc
set_option maxRecDepth 100000
/- 3 int -/
theorem ty3 : (known P 3, isAggT P 3, P.cellsOf 3) = (true, false, 1) := by kernel_rfl
theorem ty3' : (known P 3, isAggT P 3) = (true, false) := by kernel_rfl
theorem ld3 (w : World) (b o : Nat) : xLoad P w 3 (.pointer (some ⟨b, o, none⟩)) = oCell w.heap[b]? o := xLoad_1 ty3' b o
theorem al3 {w0 w : World} {L : List (Nat × Obj)} {K : Value → World → Prop} (h : So w0 w L) (k : ∀ b w', So w0 w' ((b, cl #[(.int .i64 0)] 3) :: L) → K (.pointer (some ⟨b, 0, none⟩)) w') : eAlloc P 3 w K := soAlloc (by kernel_rfl) h k
theorem un3 : P.underlying 3 = some (.int .i64) := by kernel_rfl
/- 4 bool -/
theorem ty4 : (known P 4, isAggT P 4, P.cellsOf 4) = (true, false, 1) := by kernel_rfl
theorem ty4' : (known P 4, isAggT P 4) = (true, false) := by kernel_rfl
theorem ld4 (w : World) (b o : Nat) : xLoad P w 4 (.pointer (some ⟨b, o, none⟩)) = oCell w.heap[b]? o := xLoad_1 ty4' b o
theorem al4 {w0 w : World} {L : List (Nat × Obj)} {K : Value → World → Prop} (h : So w0 w L) (k : ∀ b w', So w0 w' ((b, cl #[(.bool false)] 4) :: L) → K (.pointer (some ⟨b, 0, none⟩)) w') : eAlloc P 4 w K := soAlloc (by kernel_rfl) h k
/- 5 uint8 -/
theorem ty5 : (known P 5, isAggT P 5, P.cellsOf 5) = (true, false, 1) := by kernel_rfl
theorem ty5' : (known P 5, isAggT P 5) = (true, false) := by kernel_rfl
theorem ld5 (w : World) (b o : Nat) : xLoad P w 5 (.pointer (some ⟨b, o, none⟩)) = oCell w.heap[b]? o := xLoad_1 ty5' b o
theorem un5 : P.underlying 5 = some (.int .u8) := by kernel_rfl
/- 9 string -/
theorem ty9 : (known P 9, isAggT P 9, P.cellsOf 9) = (true, false, 1) := by kernel_rfl
theorem ty9' : (known P 9, isAggT P 9) = (true, false) := by kernel_rfl
theorem ld9 (w : World) (b o : Nat) : xLoad P w 9 (.pointer (some ⟨b, o, none⟩)) = oCell w.heap[b]? o := xLoad_1 ty9' b o
theorem al9 {w0 w : World} {L : List (Nat × Obj)} {K : Value → World → Prop} (h : So w0 w L) (k : ∀ b w', So w0 w' ((b, cl #[(.string ⟨#[]⟩)] 9) :: L) → K (.pointer (some ⟨b, 0, none⟩)) w') : eAlloc P 9 w K := soAlloc (by kernel_rfl) h k
theorem un9 : P.underlying 9 = some .string := by kernel_rfl
theorem ln9 (w : World) (s : ByteArray) : xLen P w #[9] #[.string s] = some (.int .i64 s.size) := xLen_string un9 s
theorem ix9 (s : ByteArray) (k : IntKind) (i : Int) (h0 : 0 ≤ i) (h1 : i.toNat < s.size) : xIx P 9 (.string s) (.int k i) = some (.int .u8 (s[i.toNat]'h1).toNat) := xIx_string un9 s k i h0 h1
/- 27 []api.Token -/
theorem ty27 : (known P 27, isAggT P 27, P.cellsOf 27) = (true, false, 1) := by kernel_rfl
theorem ty27' : (known P 27, isAggT P 27) = (true, false) := by kernel_rfl
theorem ld27 (w : World) (b o : Nat) : xLoad P w 27 (.pointer (some ⟨b, o, none⟩)) = oCell w.heap[b]? o := xLoad_1 ty27' b o
theorem sl27 : slE P 27 = some (34, 3) := by kernel_rfl
theorem ln27 (w : World) (a : Option Addr) (l c : Nat) : xLen P w #[27] #[.slice a l c] = some (.int .i64 l) := xLen_s sl27 a l c
theorem ia27 (b o l c : Nat) (k : IntKind) (i : Int) (h0 : 0 ≤ i) (h1 : i < l) : xIA P 27 (.slice (some ⟨b, o, none⟩) l c) (.int k i) = some (.pointer (some ⟨b, o + i.toNat * 3, none⟩)) := xIA_s sl27 b o l c k i h0 h1
theorem un27 : P.underlying 27 = some (.slice 34) := by kernel_rfl
theorem rw27 : (P.info? 34).map (fun i => (i.zero, i.size, i.bytes)) = some (some (.agg #[(.int .u8 0), (.string ⟨#[]⟩), (.int .i64 0)]), 3, 32) := by kernel_rfl
theorem pu27 {w0 w : World} {L M : List (Nat × Obj)} {v x : Value} {n : Nat} {xs : List Value} (h : So w0 w (M ++ L)) (hown : OwnS w0.heap.size 34 3 v n xs M) (hx : x.cells.size = 3) (h1 : ∀ u ∈ x.cells.toList, one1 u = true) (h63 : n + 1 ≤ 9223372036854775807) (hbytes : (n + 1) * 32 ≤ 140737488355328) {K : Value → World → Prop} (k : ∀ v' M' w', OwnS w0.heap.size 34 3 v' (n + 1) (xs ++ x.cells.toList) M' → So w0 w' (M' ++ L) → K v' w') : eBS P 27 1 #[(0, x)] w fun y w => eApp P #[27, 27] #[v, y] w K := soPush un27 rw27 rfl (by decide) (by decide) h hown hx h1 h63 hbytes k
theorem bs27 {w0 w : World} {L : List (Nat × Obj)} {x : Value} (h : So w0 w L) (hx : x.cells.size = 3) {K : Value → World → Prop} (k : ∀ y w', So w0 w' ((y, cl x.cells 34) :: L) → K (.slice (some ⟨y, 0, none⟩) 1 1) w') : eBS P 27 1 #[(0, x)] w K := soBS1 un27 rw27 rfl (by decide) (by decide) h hx k
theorem ap27 {w0 w : World} {L M : List (Nat × Obj)} {v x : Value} {y n : Nat} {xs : List Value} (h : So w0 w ((y, cl x.cells 34) :: (M ++ L))) (hown : OwnS w0.heap.size 34 3 v n xs M) (hx : x.cells.size = 3) (h1 : ∀ u ∈ x.cells.toList, one1 u = true) (h63 : n + 1 ≤ 9223372036854775807) (hbytes : (n + 1) * 32 ≤ 140737488355328) {K : Value → World → Prop} (k : ∀ v' M' w', OwnS w0.heap.size 34 3 v' (n + 1) (xs ++ x.cells.toList) M' → So w0 w' (M' ++ L) → K v' w') : eApp P #[27, 27] #[v, .slice (some ⟨y, 0, none⟩) 1 1] w K := soApp1 un27 rw27 rfl h hown hx h1 h63 hbytes k
/- 28 api.Errno -/
theorem ty28 : (known P 28, isAggT P 28, P.cellsOf 28) = (true, false, 1) := by kernel_rfl
theorem ty28' : (known P 28, isAggT P 28) = (true, false) := by kernel_rfl
theorem ld28 (w : World) (b o : Nat) : xLoad P w 28 (.pointer (some ⟨b, o, none⟩)) = oCell w.heap[b]? o := xLoad_1 ty28' b o
theorem un28 : P.underlying 28 = some (.int .i64) := by kernel_rfl
/- 30 api.Spot -/
theorem ty30 : (known P 30, isAggT P 30, P.cellsOf 30) = (true, true, 2) := by kernel_rfl
theorem ld30 (w : World) (b o : Nat) : xLoad P w 30 (.pointer (some ⟨b, o, none⟩)) = oRow w.heap[b]? o 2 := xLoad_m ty30 b o
theorem al30 {w0 w : World} {L : List (Nat × Obj)} {K : Value → World → Prop} (h : So w0 w L) (k : ∀ b w', So w0 w' ((b, cl #[(.int .i64 0), (.int .i64 0)] 30) :: L) → K (.pointer (some ⟨b, 0, none⟩)) w') : eAlloc P 30 w K := soAlloc (by kernel_rfl) h k
theorem fa30_0 (b o : Nat) : xFA P 30 (.pointer (some ⟨b, o, none⟩)) 0 = some (.pointer (some ⟨b, o, none⟩)) := by kernel_rfl
theorem bd30  : xBuild P 30 #[] = some (.agg #[(.int .i64 0), (.int .i64 0)]) := by kernel_rfl
theorem bd30_0_1 (x0 : Int) (x1 : Int) : xBuild P 30 #[(0, (.int .i64 x0)), (1, (.int .i64 x1))] = some (.agg #[(.int .i64 x0), (.int .i64 x1)]) := by kernel_rfl
/- 34 api.Token -/
theorem ty34 : (known P 34, isAggT P 34, P.cellsOf 34) = (true, true, 3) := by kernel_rfl
theorem ld34 (w : World) (b o : Nat) : xLoad P w 34 (.pointer (some ⟨b, o, none⟩)) = oRow w.heap[b]? o 3 := xLoad_m ty34 b o
theorem al34 {w0 w : World} {L : List (Nat × Obj)} {K : Value → World → Prop} (h : So w0 w L) (k : ∀ b w', So w0 w' ((b, cl #[(.int .u8 0), (.string ⟨#[]⟩), (.int .i64 0)] 34) :: L) → K (.pointer (some ⟨b, 0, none⟩)) w') : eAlloc P 34 w K := soAlloc (by kernel_rfl) h k
theorem fa34_0 (b o : Nat) : xFA P 34 (.pointer (some ⟨b, o, none⟩)) 0 = some (.pointer (some ⟨b, o, none⟩)) := by kernel_rfl
theorem fa34_1 (b o : Nat) : xFA P 34 (.pointer (some ⟨b, o, none⟩)) 1 = some (.pointer (some ⟨b, o + 1, none⟩)) := by kernel_rfl
theorem fa34_2 (b o : Nat) : xFA P 34 (.pointer (some ⟨b, o, none⟩)) 2 = some (.pointer (some ⟨b, o + 2, none⟩)) := by kernel_rfl
theorem bd34  : xBuild P 34 #[] = some (.agg #[(.int .u8 0), (.string ⟨#[]⟩), (.int .i64 0)]) := by kernel_rfl
theorem bd34_0_1 (x0 : Int) (x1 : ByteArray) : xBuild P 34 #[(0, (.int .u8 x0)), (1, (.string x1))] = some (.agg #[(.int .u8 x0), (.string x1), (.int .i64 0)]) := by kernel_rfl
/- 44 []string -/
theorem ty44 : (known P 44, isAggT P 44, P.cellsOf 44) = (true, false, 1) := by kernel_rfl
theorem ty44' : (known P 44, isAggT P 44) = (true, false) := by kernel_rfl
theorem ld44 (w : World) (b o : Nat) : xLoad P w 44 (.pointer (some ⟨b, o, none⟩)) = oCell w.heap[b]? o := xLoad_1 ty44' b o
theorem sl44 : slE P 44 = some (9, 1) := by kernel_rfl
theorem ln44 (w : World) (a : Option Addr) (l c : Nat) : xLen P w #[44] #[.slice a l c] = some (.int .i64 l) := xLen_s sl44 a l c
theorem ia44 (b o l c : Nat) (k : IntKind) (i : Int) (h0 : 0 ≤ i) (h1 : i < l) : xIA P 44 (.slice (some ⟨b, o, none⟩) l c) (.int k i) = some (.pointer (some ⟨b, o + i.toNat * 1, none⟩)) := xIA_s sl44 b o l c k i h0 h1
theorem un44 : P.underlying 44 = some (.slice 9) := by kernel_rfl
theorem rw44 : (P.info? 9).map (fun i => (i.zero, i.size, i.bytes)) = some (some ((.string ⟨#[]⟩)), 1, 16) := by kernel_rfl
theorem pu44 {w0 w : World} {L M : List (Nat × Obj)} {v x : Value} {n : Nat} {xs : List Value} (h : So w0 w (M ++ L)) (hown : OwnS w0.heap.size 9 1 v n xs M) (hx : x.cells.size = 1) (h1 : ∀ u ∈ x.cells.toList, one1 u = true) (h63 : n + 1 ≤ 9223372036854775807) (hbytes : (n + 1) * 16 ≤ 140737488355328) {K : Value → World → Prop} (k : ∀ v' M' w', OwnS w0.heap.size 9 1 v' (n + 1) (xs ++ x.cells.toList) M' → So w0 w' (M' ++ L) → K v' w') : eBS P 44 1 #[(0, x)] w fun y w => eApp P #[44, 44] #[v, y] w K := soPush un44 rw44 rfl (by decide) (by decide) h hown hx h1 h63 hbytes k
theorem bs44 {w0 w : World} {L : List (Nat × Obj)} {x : Value} (h : So w0 w L) (hx : x.cells.size = 1) {K : Value → World → Prop} (k : ∀ y w', So w0 w' ((y, cl x.cells 9) :: L) → K (.slice (some ⟨y, 0, none⟩) 1 1) w') : eBS P 44 1 #[(0, x)] w K := soBS1 un44 rw44 rfl (by decide) (by decide) h hx k
theorem ap44 {w0 w : World} {L M : List (Nat × Obj)} {v x : Value} {y n : Nat} {xs : List Value} (h : So w0 w ((y, cl x.cells 9) :: (M ++ L))) (hown : OwnS w0.heap.size 9 1 v n xs M) (hx : x.cells.size = 1) (h1 : ∀ u ∈ x.cells.toList, one1 u = true) (h63 : n + 1 ≤ 9223372036854775807) (hbytes : (n + 1) * 16 ≤ 140737488355328) {K : Value → World → Prop} (k : ∀ v' M' w', OwnS w0.heap.size 9 1 v' (n + 1) (xs ++ x.cells.toList) M' → So w0 w' (M' ++ L) → K v' w') : eApp P #[44, 44] #[v, .slice (some ⟨y, 0, none⟩) 1 1] w K := soApp1 un44 rw44 rfl h hown hx h1 h63 hbytes k
/- 51 uint32 -/
theorem ty51 : (known P 51, isAggT P 51, P.cellsOf 51) = (true, false, 1) := by kernel_rfl
theorem ty51' : (known P 51, isAggT P 51) = (true, false) := by kernel_rfl
theorem ld51 (w : World) (b o : Nat) : xLoad P w 51 (.pointer (some ⟨b, o, none⟩)) = oCell w.heap[b]? o := xLoad_1 ty51' b o
theorem un51 : P.underlying 51 = some (.int .u32) := by kernel_rfl
/- 57 []uint8 -/
theorem ty57 : (known P 57, isAggT P 57, P.cellsOf 57) = (true, false, 1) := by kernel_rfl
theorem ty57' : (known P 57, isAggT P 57) = (true, false) := by kernel_rfl
theorem ld57 (w : World) (b o : Nat) : xLoad P w 57 (.pointer (some ⟨b, o, none⟩)) = oCell w.heap[b]? o := xLoad_1 ty57' b o
theorem sl57 : slE P 57 = some (5, 1) := by kernel_rfl
theorem ln57 (w : World) (a : Option Addr) (l c : Nat) : xLen P w #[57] #[.slice a l c] = some (.int .i64 l) := xLen_s sl57 a l c
theorem ia57 (b o l c : Nat) (k : IntKind) (i : Int) (h0 : 0 ≤ i) (h1 : i < l) : xIA P 57 (.slice (some ⟨b, o, none⟩) l c) (.int k i) = some (.pointer (some ⟨b, o + i.toNat * 1, none⟩)) := xIA_s sl57 b o l c k i h0 h1
theorem un57 : P.underlying 57 = some (.slice 5) := by kernel_rfl
theorem rw57 : (P.info? 5).map (fun i => (i.zero, i.size, i.bytes)) = some (some ((.int .u8 0)), 1, 1) := by kernel_rfl
theorem pu57 {w0 w : World} {L M : List (Nat × Obj)} {v x : Value} {n : Nat} {xs : List Value} (h : So w0 w (M ++ L)) (hown : OwnS w0.heap.size 5 1 v n xs M) (hx : x.cells.size = 1) (h1 : ∀ u ∈ x.cells.toList, one1 u = true) (h63 : n + 1 ≤ 9223372036854775807) (hbytes : (n + 1) * 1 ≤ 140737488355328) {K : Value → World → Prop} (k : ∀ v' M' w', OwnS w0.heap.size 5 1 v' (n + 1) (xs ++ x.cells.toList) M' → So w0 w' (M' ++ L) → K v' w') : eBS P 57 1 #[(0, x)] w fun y w => eApp P #[57, 57] #[v, y] w K := soPush un57 rw57 rfl (by decide) (by decide) h hown hx h1 h63 hbytes k
theorem bs57 {w0 w : World} {L : List (Nat × Obj)} {x : Value} (h : So w0 w L) (hx : x.cells.size = 1) {K : Value → World → Prop} (k : ∀ y w', So w0 w' ((y, cl x.cells 5) :: L) → K (.slice (some ⟨y, 0, none⟩) 1 1) w') : eBS P 57 1 #[(0, x)] w K := soBS1 un57 rw57 rfl (by decide) (by decide) h hx k
theorem ap57 {w0 w : World} {L M : List (Nat × Obj)} {v x : Value} {y n : Nat} {xs : List Value} (h : So w0 w ((y, cl x.cells 5) :: (M ++ L))) (hown : OwnS w0.heap.size 5 1 v n xs M) (hx : x.cells.size = 1) (h1 : ∀ u ∈ x.cells.toList, one1 u = true) (h63 : n + 1 ≤ 9223372036854775807) (hbytes : (n + 1) * 1 ≤ 140737488355328) {K : Value → World → Prop} (k : ∀ v' M' w', OwnS w0.heap.size 5 1 v' (n + 1) (xs ++ x.cells.toList) M' → So w0 w' (M' ++ L) → K v' w') : eApp P #[57, 57] #[v, .slice (some ⟨y, 0, none⟩) 1 1] w K := soApp1 un57 rw57 rfl h hown hx h1 h63 hbytes k
/- 69 uint64 -/
theorem ty69 : (known P 69, isAggT P 69, P.cellsOf 69) = (true, false, 1) := by kernel_rfl
theorem ty69' : (known P 69, isAggT P 69) = (true, false) := by kernel_rfl
theorem ld69 (w : World) (b o : Nat) : xLoad P w 69 (.pointer (some ⟨b, o, none⟩)) = oCell w.heap[b]? o := xLoad_1 ty69' b o
theorem un69 : P.underlying 69 = some (.int .u64) := by kernel_rfl
/- 90 [24]uint8 -/
theorem ty90 : (known P 90, isAggT P 90, P.cellsOf 90) = (true, true, 24) := by kernel_rfl
theorem ld90 (w : World) (b o : Nat) : xLoad P w 90 (.pointer (some ⟨b, o, none⟩)) = oRow w.heap[b]? o 24 := xLoad_m ty90 b o
theorem al90 {w0 w : World} {L : List (Nat × Obj)} {K : Value → World → Prop} (h : So w0 w L) (k : ∀ b w', So w0 w' ((b, cl #[(.int .u8 0), (.int .u8 0), (.int .u8 0), (.int .u8 0), (.int .u8 0), (.int .u8 0), (.int .u8 0), (.int .u8 0), (.int .u8 0), (.int .u8 0), (.int .u8 0), (.int .u8 0), (.int .u8 0), (.int .u8 0), (.int .u8 0), (.int .u8 0), (.int .u8 0), (.int .u8 0), (.int .u8 0), (.int .u8 0), (.int .u8 0), (.int .u8 0), (.int .u8 0), (.int .u8 0)] 90) :: L) → K (.pointer (some ⟨b, 0, none⟩)) w') : eAlloc P 90 w K := soAlloc (by kernel_rfl) h k
theorem ar90 : arE P 90 = some (24, 1) := by kernel_rfl
theorem ia90 (b o : Nat) (k : IntKind) (i : Int) (h0 : 0 ≤ i) (h1 : i < 24) : xIA P 90 (.pointer (some ⟨b, o, none⟩)) (.int k i) = some (.pointer (some ⟨b, o + i.toNat * 1, none⟩)) := xIA_a ar90 b o k i h0 h1
theorem ow2 (x0 x1 : Value) (t : TypeId) (f : Nat × Nat) : oRow (some (.cells #[x0, x1] t f)) 0 2 = some (.agg #[x0, x1]) := rfl
theorem ow3 (x0 x1 x2 : Value) (t : TypeId) (f : Nat × Nat) : oRow (some (.cells #[x0, x1, x2] t f)) 0 3 = some (.agg #[x0, x1, x2]) := rfl
theorem ow24 (x0 x1 x2 x3 x4 x5 x6 x7 x8 x9 x10 x11 x12 x13 x14 x15 x16 x17 x18 x19 x20 x21 x22 x23 : Value) (t : TypeId) (f : Nat × Nat) : oRow (some (.cells #[x0, x1, x2, x3, x4, x5, x6, x7, x8, x9, x10, x11, x12, x13, x14, x15, x16, x17, x18, x19, x20, x21, x22, x23] t f)) 0 24 = some (.agg #[x0, x1, x2, x3, x4, x5, x6, x7, x8, x9, x10, x11, x12, x13, x14, x15, x16, x17, x18, x19, x20, x21, x22, x23]) := rfl
theorem cv51_5 (k : IntKind) (n : Int) : xConv P 51 5 (.int k n) = some (.int .u8 (IntKind.wrap .u8 n)) := xConv_int un51 un5 n
theorem cv69_3 (k : IntKind) (n : Int) : xConv P 69 3 (.int k n) = some (.int .i64 (IntKind.wrap .i64 n)) := xConv_int un69 un3 n
theorem cv69_51 (k : IntKind) (n : Int) : xConv P 69 51 (.int k n) = some (.int .u32 (IntKind.wrap .u32 n)) := xConv_int un69 un51 n
end Go.Proofs.YtlmcppbpobnfjaaDoor
