/- The types' facts, printed by this session's tygen.py. -/
import Derived.Test.YtlmcppbpobnfjaaS
import Derived.Test.YtlmcppbpobnfjaaVb
namespace Go.Proofs.Ytlmcppbpobnfjaa
open Go Go.Vc
set_option maxRecDepth 100000
/- 3 int -/
theorem ty3 : (known P 3, isAggT P 3, P.cellsOf 3) = (true, false, 1) := by kernel_rfl
theorem ty3' : (known P 3, isAggT P 3) = (true, false) := by kernel_rfl
theorem ld3 (w : World) (b o : Nat) : xLoad P w 3 (.pointer (some ⟨b, o, none⟩)) = oCell w.heap[b]? o := xLoad_1 ty3' b o
theorem un3 : P.underlying 3 = some (.int .i64) := by kernel_rfl
/- 4 bool -/
theorem ty4 : (known P 4, isAggT P 4, P.cellsOf 4) = (true, false, 1) := by kernel_rfl
theorem ty4' : (known P 4, isAggT P 4) = (true, false) := by kernel_rfl
theorem ld4 (w : World) (b o : Nat) : xLoad P w 4 (.pointer (some ⟨b, o, none⟩)) = oCell w.heap[b]? o := xLoad_1 ty4' b o
theorem al4 {w0 w : World} {L : List (Nat × Obj)} {K : Value → World → Prop} (h : So w0 w L) (k : ∀ b w', So w0 w' ((b, cl #[(.bool false)] 4) :: L) → K (.pointer (some ⟨b, 0, none⟩)) w') : eAlloc P 4 w K := soAlloc (by kernel_rfl) h k
/- 5 uint8 -/
theorem ty5 : (known P 5, isAggT P 5, P.cellsOf 5) = (true, false, 1) := by kernel_rfl
theorem ty5' : (known P 5, isAggT P 5) = (true, false) := by kernel_rfl
theorem ld5 (w : World) (b o : Nat) : xLoad P w 5 (.pointer (some ⟨b, o, none⟩)) = oCell w.heap[b]? o := xLoad_1 ty5' b o
theorem un5 : P.underlying 5 = some (.int .u8) := by kernel_rfl
/- 9 string -/
theorem ty9 : (known P 9, isAggT P 9, P.cellsOf 9) = (true, false, 1) := by kernel_rfl
theorem ty9' : (known P 9, isAggT P 9) = (true, false) := by kernel_rfl
theorem ld9 (w : World) (b o : Nat) : xLoad P w 9 (.pointer (some ⟨b, o, none⟩)) = oCell w.heap[b]? o := xLoad_1 ty9' b o
theorem al9 {w0 w : World} {L : List (Nat × Obj)} {K : Value → World → Prop} (h : So w0 w L) (k : ∀ b w', So w0 w' ((b, cl #[(.string ⟨#[]⟩)] 9) :: L) → K (.pointer (some ⟨b, 0, none⟩)) w') : eAlloc P 9 w K := soAlloc (by kernel_rfl) h k
theorem un9 : P.underlying 9 = some .string := by kernel_rfl
theorem ln9 (w : World) (s : ByteArray) : xLen P w #[9] #[.string s] = some (.int .i64 s.size) := xLen_string un9 s
theorem ix9 (s : ByteArray) (k : IntKind) (i : Int) (h0 : 0 ≤ i) (h1 : i.toNat < s.size) : xIx P 9 (.string s) (.int k i) = some (.int .u8 (s[i.toNat]'h1).toNat) := xIx_string un9 s k i h0 h1
/- 21 int32 -/
theorem ty21 : (known P 21, isAggT P 21, P.cellsOf 21) = (true, false, 1) := by kernel_rfl
theorem ty21' : (known P 21, isAggT P 21) = (true, false) := by kernel_rfl
theorem ld21 (w : World) (b o : Nat) : xLoad P w 21 (.pointer (some ⟨b, o, none⟩)) = oCell w.heap[b]? o := xLoad_1 ty21' b o
theorem un21 : P.underlying 21 = some (.int .i32) := by kernel_rfl
/- 22 uint32 -/
theorem ty22 : (known P 22, isAggT P 22, P.cellsOf 22) = (true, false, 1) := by kernel_rfl
theorem ty22' : (known P 22, isAggT P 22) = (true, false) := by kernel_rfl
theorem ld22 (w : World) (b o : Nat) : xLoad P w 22 (.pointer (some ⟨b, o, none⟩)) = oCell w.heap[b]? o := xLoad_1 ty22' b o
theorem un22 : P.underlying 22 = some (.int .u32) := by kernel_rfl
/- 23 []api.Inst -/
theorem ty23 : (known P 23, isAggT P 23, P.cellsOf 23) = (true, false, 1) := by kernel_rfl
theorem ty23' : (known P 23, isAggT P 23) = (true, false) := by kernel_rfl
theorem ld23 (w : World) (b o : Nat) : xLoad P w 23 (.pointer (some ⟨b, o, none⟩)) = oCell w.heap[b]? o := xLoad_1 ty23' b o
theorem sl23 : slE P 23 = some (53, 4) := by kernel_rfl
theorem ln23 (w : World) (a : Option Addr) (l c : Nat) : xLen P w #[23] #[.slice a l c] = some (.int .i64 l) := xLen_s sl23 a l c
theorem ia23 (b o l c : Nat) (k : IntKind) (i : Int) (h0 : 0 ≤ i) (h1 : i < l) : xIA P 23 (.slice (some ⟨b, o, none⟩) l c) (.int k i) = some (.pointer (some ⟨b, o + i.toNat * 4, none⟩)) := xIA_s sl23 b o l c k i h0 h1
theorem un23 : P.underlying 23 = some (.slice 53) := by kernel_rfl
theorem rw23 : (P.info? 53).map (fun i => (i.zero, i.size, i.bytes)) = some (some (.agg #[(.int .u16 0), (.int .u32 0), (.int .u32 0), (.slice none 0 0)]), 4, 40) := by kernel_rfl
/- 25 api.Module -/
theorem ty25 : (known P 25, isAggT P 25, P.cellsOf 25) = (true, true, 3) := by kernel_rfl
theorem ld25 (w : World) (b o : Nat) : xLoad P w 25 (.pointer (some ⟨b, o, none⟩)) = oRow w.heap[b]? o 3 := xLoad_m ty25 b o
theorem al25 {w0 w : World} {L : List (Nat × Obj)} {K : Value → World → Prop} (h : So w0 w L) (k : ∀ b w', So w0 w' ((b, cl #[(.int .u32 0), (.int .u32 0), (.slice none 0 0)] 25) :: L) → K (.pointer (some ⟨b, 0, none⟩)) w') : eAlloc P 25 w K := soAlloc (by kernel_rfl) h k
theorem fa25_1 (b o : Nat) : xFA P 25 (.pointer (some ⟨b, o, none⟩)) 1 = some (.pointer (some ⟨b, o + 1, none⟩)) := by kernel_rfl
theorem fa25_2 (b o : Nat) : xFA P 25 (.pointer (some ⟨b, o, none⟩)) 2 = some (.pointer (some ⟨b, o + 2, none⟩)) := by kernel_rfl
/- 27 api.Span -/
theorem ty27 : (known P 27, isAggT P 27, P.cellsOf 27) = (true, true, 2) := by kernel_rfl
theorem ld27 (w : World) (b o : Nat) : xLoad P w 27 (.pointer (some ⟨b, o, none⟩)) = oRow w.heap[b]? o 2 := xLoad_m ty27 b o
theorem bd27_0_1 (x0 : Int) (x1 : Int) : xBuild P 27 #[(0, (.int .i64 x0)), (1, (.int .i64 x1))] = some (.agg #[(.int .i64 x0), (.int .i64 x1)]) := by kernel_rfl
/- 28 [10]api.Span -/
theorem ty28 : (known P 28, isAggT P 28, P.cellsOf 28) = (true, true, 20) := by kernel_rfl
theorem ld28 (w : World) (b o : Nat) : xLoad P w 28 (.pointer (some ⟨b, o, none⟩)) = oRow w.heap[b]? o 20 := xLoad_m ty28 b o
theorem al28 {w0 w : World} {L : List (Nat × Obj)} {K : Value → World → Prop} (h : So w0 w L) (k : ∀ b w', So w0 w' ((b, cl #[(.int .i64 0), (.int .i64 0), (.int .i64 0), (.int .i64 0), (.int .i64 0), (.int .i64 0), (.int .i64 0), (.int .i64 0), (.int .i64 0), (.int .i64 0), (.int .i64 0), (.int .i64 0), (.int .i64 0), (.int .i64 0), (.int .i64 0), (.int .i64 0), (.int .i64 0), (.int .i64 0), (.int .i64 0), (.int .i64 0)] 28) :: L) → K (.pointer (some ⟨b, 0, none⟩)) w') : eAlloc P 28 w K := soAlloc (by kernel_rfl) h k
theorem ar28 : arE P 28 = some (10, 2) := by kernel_rfl
theorem ia28 (b o : Nat) (k : IntKind) (i : Int) (h0 : 0 ≤ i) (h1 : i < 10) : xIA P 28 (.pointer (some ⟨b, o, none⟩)) (.int k i) = some (.pointer (some ⟨b, o + i.toNat * 2, none⟩)) := xIA_a ar28 b o k i h0 h1
theorem bd28 : xBuild P 28 #[] = some (.agg #[(.int .i64 0), (.int .i64 0), (.int .i64 0), (.int .i64 0), (.int .i64 0), (.int .i64 0), (.int .i64 0), (.int .i64 0), (.int .i64 0), (.int .i64 0), (.int .i64 0), (.int .i64 0), (.int .i64 0), (.int .i64 0), (.int .i64 0), (.int .i64 0), (.int .i64 0), (.int .i64 0), (.int .i64 0), (.int .i64 0)]) := by kernel_rfl
/- 29 api.Errno -/
theorem ty29 : (known P 29, isAggT P 29, P.cellsOf 29) = (true, false, 1) := by kernel_rfl
theorem ty29' : (known P 29, isAggT P 29) = (true, false) := by kernel_rfl
theorem ld29 (w : World) (b o : Nat) : xLoad P w 29 (.pointer (some ⟨b, o, none⟩)) = oCell w.heap[b]? o := xLoad_1 ty29' b o
theorem un29 : P.underlying 29 = some (.int .i64) := by kernel_rfl
/- 31 api.Spot -/
theorem ty31 : (known P 31, isAggT P 31, P.cellsOf 31) = (true, true, 2) := by kernel_rfl
theorem ld31 (w : World) (b o : Nat) : xLoad P w 31 (.pointer (some ⟨b, o, none⟩)) = oRow w.heap[b]? o 2 := xLoad_m ty31 b o
theorem al31 {w0 w : World} {L : List (Nat × Obj)} {K : Value → World → Prop} (h : So w0 w L) (k : ∀ b w', So w0 w' ((b, cl #[(.int .i64 0), (.int .i64 0)] 31) :: L) → K (.pointer (some ⟨b, 0, none⟩)) w') : eAlloc P 31 w K := soAlloc (by kernel_rfl) h k
theorem fa31_0 (b o : Nat) : xFA P 31 (.pointer (some ⟨b, o, none⟩)) 0 = some (.pointer (some ⟨b, o, none⟩)) := by kernel_rfl
theorem bd31  : xBuild P 31 #[] = some (.agg #[(.int .i64 0), (.int .i64 0)]) := by kernel_rfl
theorem bd31_0 (x0 : Int) : xBuild P 31 #[(0, (.int .i64 x0))] = some (.agg #[(.int .i64 x0), (.int .i64 0)]) := by kernel_rfl
theorem bd31_0_1 (x0 : Int) (x1 : Int) : xBuild P 31 #[(0, (.int .i64 x0)), (1, (.int .i64 x1))] = some (.agg #[(.int .i64 x0), (.int .i64 x1)]) := by kernel_rfl
/- 40 []int -/
theorem ty40 : (known P 40, isAggT P 40, P.cellsOf 40) = (true, false, 1) := by kernel_rfl
theorem ty40' : (known P 40, isAggT P 40) = (true, false) := by kernel_rfl
theorem ld40 (w : World) (b o : Nat) : xLoad P w 40 (.pointer (some ⟨b, o, none⟩)) = oCell w.heap[b]? o := xLoad_1 ty40' b o
theorem sl40 : slE P 40 = some (3, 1) := by kernel_rfl
theorem ln40 (w : World) (a : Option Addr) (l c : Nat) : xLen P w #[40] #[.slice a l c] = some (.int .i64 l) := xLen_s sl40 a l c
theorem ia40 (b o l c : Nat) (k : IntKind) (i : Int) (h0 : 0 ≤ i) (h1 : i < l) : xIA P 40 (.slice (some ⟨b, o, none⟩) l c) (.int k i) = some (.pointer (some ⟨b, o + i.toNat * 1, none⟩)) := xIA_s sl40 b o l c k i h0 h1
theorem un40 : P.underlying 40 = some (.slice 3) := by kernel_rfl
theorem rw40 : (P.info? 3).map (fun i => (i.zero, i.size, i.bytes)) = some (some ((.int .i64 0)), 1, 8) := by kernel_rfl
theorem pu40 {w0 w : World} {L M : List (Nat × Obj)} {v x : Value} {n : Nat} {xs : List Value} (h : So w0 w (M ++ L)) (hown : OwnS w0.heap.size 3 1 v n xs M) (hx : x.cells.size = 1) (h1 : ∀ u ∈ x.cells.toList, one1 u = true) (h63 : n + 1 ≤ 9223372036854775807) (hbytes : (n + 1) * 8 ≤ 140737488355328) {K : Value → World → Prop} (k : ∀ v' M' w', OwnS w0.heap.size 3 1 v' (n + 1) (xs ++ x.cells.toList) M' → So w0 w' (M' ++ L) → K v' w') : eBS P 40 1 #[(0, x)] w fun y w => eApp P #[40, 40] #[v, y] w K := soPush un40 rw40 rfl (by decide) (by decide) h hown hx h1 h63 hbytes k
theorem bs40 {w0 w : World} {L : List (Nat × Obj)} {x : Value} (h : So w0 w L) (hx : x.cells.size = 1) {K : Value → World → Prop} (k : ∀ y w', So w0 w' ((y, cl x.cells 3) :: L) → K (.slice (some ⟨y, 0, none⟩) 1 1) w') : eBS P 40 1 #[(0, x)] w K := soBS1 un40 rw40 rfl (by decide) (by decide) h hx k
theorem ap40 {w0 w : World} {L M : List (Nat × Obj)} {v x : Value} {y n : Nat} {xs : List Value} (h : So w0 w ((y, cl x.cells 3) :: (M ++ L))) (hown : OwnS w0.heap.size 3 1 v n xs M) (hx : x.cells.size = 1) (h1 : ∀ u ∈ x.cells.toList, one1 u = true) (h63 : n + 1 ≤ 9223372036854775807) (hbytes : (n + 1) * 8 ≤ 140737488355328) {K : Value → World → Prop} (k : ∀ v' M' w', OwnS w0.heap.size 3 1 v' (n + 1) (xs ++ x.cells.toList) M' → So w0 w' (M' ++ L) → K v' w') : eApp P #[40, 40] #[v, .slice (some ⟨y, 0, none⟩) 1 1] w K := soApp1 un40 rw40 rfl h hown hx h1 h63 hbytes k
/- 50 uint16 -/
theorem ty50 : (known P 50, isAggT P 50, P.cellsOf 50) = (true, false, 1) := by kernel_rfl
theorem ty50' : (known P 50, isAggT P 50) = (true, false) := by kernel_rfl
theorem ld50 (w : World) (b o : Nat) : xLoad P w 50 (.pointer (some ⟨b, o, none⟩)) = oCell w.heap[b]? o := xLoad_1 ty50' b o
theorem un50 : P.underlying 50 = some (.int .u16) := by kernel_rfl
/- 51 []api.Arg -/
theorem ty51 : (known P 51, isAggT P 51, P.cellsOf 51) = (true, false, 1) := by kernel_rfl
theorem ty51' : (known P 51, isAggT P 51) = (true, false) := by kernel_rfl
theorem ld51 (w : World) (b o : Nat) : xLoad P w 51 (.pointer (some ⟨b, o, none⟩)) = oCell w.heap[b]? o := xLoad_1 ty51' b o
theorem sl51 : slE P 51 = some (75, 3) := by kernel_rfl
theorem ln51 (w : World) (a : Option Addr) (l c : Nat) : xLen P w #[51] #[.slice a l c] = some (.int .i64 l) := xLen_s sl51 a l c
theorem ia51 (b o l c : Nat) (k : IntKind) (i : Int) (h0 : 0 ≤ i) (h1 : i < l) : xIA P 51 (.slice (some ⟨b, o, none⟩) l c) (.int k i) = some (.pointer (some ⟨b, o + i.toNat * 3, none⟩)) := xIA_s sl51 b o l c k i h0 h1
theorem un51 : P.underlying 51 = some (.slice 75) := by kernel_rfl
theorem rw51 : (P.info? 75).map (fun i => (i.zero, i.size, i.bytes)) = some (some (.agg #[(.int .u8 0), (.int .u32 0), (.string ⟨#[]⟩)]), 3, 24) := by kernel_rfl
/- 53 api.Inst -/
theorem ty53 : (known P 53, isAggT P 53, P.cellsOf 53) = (true, true, 4) := by kernel_rfl
theorem ld53 (w : World) (b o : Nat) : xLoad P w 53 (.pointer (some ⟨b, o, none⟩)) = oRow w.heap[b]? o 4 := xLoad_m ty53 b o
theorem al53 {w0 w : World} {L : List (Nat × Obj)} {K : Value → World → Prop} (h : So w0 w L) (k : ∀ b w', So w0 w' ((b, cl #[(.int .u16 0), (.int .u32 0), (.int .u32 0), (.slice none 0 0)] 53) :: L) → K (.pointer (some ⟨b, 0, none⟩)) w') : eAlloc P 53 w K := soAlloc (by kernel_rfl) h k
theorem fa53_0 (b o : Nat) : xFA P 53 (.pointer (some ⟨b, o, none⟩)) 0 = some (.pointer (some ⟨b, o, none⟩)) := by kernel_rfl
theorem fa53_1 (b o : Nat) : xFA P 53 (.pointer (some ⟨b, o, none⟩)) 1 = some (.pointer (some ⟨b, o + 1, none⟩)) := by kernel_rfl
theorem fa53_2 (b o : Nat) : xFA P 53 (.pointer (some ⟨b, o, none⟩)) 2 = some (.pointer (some ⟨b, o + 2, none⟩)) := by kernel_rfl
theorem fa53_3 (b o : Nat) : xFA P 53 (.pointer (some ⟨b, o, none⟩)) 3 = some (.pointer (some ⟨b, o + 3, none⟩)) := by kernel_rfl
/- 57 []api.Func -/
theorem ty57 : (known P 57, isAggT P 57, P.cellsOf 57) = (true, false, 1) := by kernel_rfl
theorem ty57' : (known P 57, isAggT P 57) = (true, false) := by kernel_rfl
theorem ld57 (w : World) (b o : Nat) : xLoad P w 57 (.pointer (some ⟨b, o, none⟩)) = oCell w.heap[b]? o := xLoad_1 ty57' b o
theorem sl57 : slE P 57 = some (96, 5) := by kernel_rfl
theorem ln57 (w : World) (a : Option Addr) (l c : Nat) : xLen P w #[57] #[.slice a l c] = some (.int .i64 l) := xLen_s sl57 a l c
theorem ia57 (b o l c : Nat) (k : IntKind) (i : Int) (h0 : 0 ≤ i) (h1 : i < l) : xIA P 57 (.slice (some ⟨b, o, none⟩) l c) (.int k i) = some (.pointer (some ⟨b, o + i.toNat * 5, none⟩)) := xIA_s sl57 b o l c k i h0 h1
theorem un57 : P.underlying 57 = some (.slice 96) := by kernel_rfl
theorem rw57 : (P.info? 96).map (fun i => (i.zero, i.size, i.bytes)) = some (some (.agg #[(.int .u32 0), (.int .i64 0), (.slice none 0 0), (.slice none 0 0), (.int .i64 0)]), 5, 72) := by kernel_rfl
theorem pu57 {w0 w : World} {L M : List (Nat × Obj)} {v x : Value} {n : Nat} {xs : List Value} (h : So w0 w (M ++ L)) (hown : OwnS w0.heap.size 96 5 v n xs M) (hx : x.cells.size = 5) (h1 : ∀ u ∈ x.cells.toList, one1 u = true) (h63 : n + 1 ≤ 9223372036854775807) (hbytes : (n + 1) * 72 ≤ 140737488355328) {K : Value → World → Prop} (k : ∀ v' M' w', OwnS w0.heap.size 96 5 v' (n + 1) (xs ++ x.cells.toList) M' → So w0 w' (M' ++ L) → K v' w') : eBS P 57 1 #[(0, x)] w fun y w => eApp P #[57, 57] #[v, y] w K := soPush un57 rw57 rfl (by decide) (by decide) h hown hx h1 h63 hbytes k
theorem bs57 {w0 w : World} {L : List (Nat × Obj)} {x : Value} (h : So w0 w L) (hx : x.cells.size = 5) {K : Value → World → Prop} (k : ∀ y w', So w0 w' ((y, cl x.cells 96) :: L) → K (.slice (some ⟨y, 0, none⟩) 1 1) w') : eBS P 57 1 #[(0, x)] w K := soBS1 un57 rw57 rfl (by decide) (by decide) h hx k
theorem ap57 {w0 w : World} {L M : List (Nat × Obj)} {v x : Value} {y n : Nat} {xs : List Value} (h : So w0 w ((y, cl x.cells 96) :: (M ++ L))) (hown : OwnS w0.heap.size 96 5 v n xs M) (hx : x.cells.size = 5) (h1 : ∀ u ∈ x.cells.toList, one1 u = true) (h63 : n + 1 ≤ 9223372036854775807) (hbytes : (n + 1) * 72 ≤ 140737488355328) {K : Value → World → Prop} (k : ∀ v' M' w', OwnS w0.heap.size 96 5 v' (n + 1) (xs ++ x.cells.toList) M' → So w0 w' (M' ++ L) → K v' w') : eApp P #[57, 57] #[v, .slice (some ⟨y, 0, none⟩) 1 1] w K := soApp1 un57 rw57 rfl h hown hx h1 h63 hbytes k
/- 59 layout.cutter -/
theorem ty59 : (known P 59, isAggT P 59, P.cellsOf 59) = (true, true, 23) := by kernel_rfl
theorem ld59 (w : World) (b o : Nat) : xLoad P w 59 (.pointer (some ⟨b, o, none⟩)) = oRow w.heap[b]? o 23 := xLoad_m ty59 b o
theorem fa59_0 (b o : Nat) : xFA P 59 (.pointer (some ⟨b, o, none⟩)) 0 = some (.pointer (some ⟨b, o, none⟩)) := by kernel_rfl
theorem fa59_1 (b o : Nat) : xFA P 59 (.pointer (some ⟨b, o, none⟩)) 1 = some (.pointer (some ⟨b, o + 1, none⟩)) := by kernel_rfl
theorem fa59_2 (b o : Nat) : xFA P 59 (.pointer (some ⟨b, o, none⟩)) 2 = some (.pointer (some ⟨b, o + 2, none⟩)) := by kernel_rfl
theorem fa59_3 (b o : Nat) : xFA P 59 (.pointer (some ⟨b, o, none⟩)) 3 = some (.pointer (some ⟨b, o + 22, none⟩)) := by kernel_rfl
theorem bd59_0 (x0 : Option Addr) (x0l x0c : Nat) : xBuild P 59 #[(0, (.slice x0 x0l x0c))] = some (.agg #[(.slice x0 x0l x0c), (.int .i64 0), (.int .i64 0), (.int .i64 0), (.int .i64 0), (.int .i64 0), (.int .i64 0), (.int .i64 0), (.int .i64 0), (.int .i64 0), (.int .i64 0), (.int .i64 0), (.int .i64 0), (.int .i64 0), (.int .i64 0), (.int .i64 0), (.int .i64 0), (.int .i64 0), (.int .i64 0), (.int .i64 0), (.int .i64 0), (.int .i64 0), (.slice none 0 0)]) := by kernel_rfl
/- 75 api.Arg -/
theorem ty75 : (known P 75, isAggT P 75, P.cellsOf 75) = (true, true, 3) := by kernel_rfl
theorem ld75 (w : World) (b o : Nat) : xLoad P w 75 (.pointer (some ⟨b, o, none⟩)) = oRow w.heap[b]? o 3 := xLoad_m ty75 b o
theorem al75 {w0 w : World} {L : List (Nat × Obj)} {K : Value → World → Prop} (h : So w0 w L) (k : ∀ b w', So w0 w' ((b, cl #[(.int .u8 0), (.int .u32 0), (.string ⟨#[]⟩)] 75) :: L) → K (.pointer (some ⟨b, 0, none⟩)) w') : eAlloc P 75 w K := soAlloc (by kernel_rfl) h k
theorem fa75_0 (b o : Nat) : xFA P 75 (.pointer (some ⟨b, o, none⟩)) 0 = some (.pointer (some ⟨b, o, none⟩)) := by kernel_rfl
theorem fa75_1 (b o : Nat) : xFA P 75 (.pointer (some ⟨b, o, none⟩)) 1 = some (.pointer (some ⟨b, o + 1, none⟩)) := by kernel_rfl
theorem fa75_2 (b o : Nat) : xFA P 75 (.pointer (some ⟨b, o, none⟩)) 2 = some (.pointer (some ⟨b, o + 2, none⟩)) := by kernel_rfl
/- 77 api.Form -/
theorem ty77 : (known P 77, isAggT P 77, P.cellsOf 77) = (true, true, 8) := by kernel_rfl
theorem ld77 (w : World) (b o : Nat) : xLoad P w 77 (.pointer (some ⟨b, o, none⟩)) = oRow w.heap[b]? o 8 := xLoad_m ty77 b o
theorem al77 {w0 w : World} {L : List (Nat × Obj)} {K : Value → World → Prop} (h : So w0 w L) (k : ∀ b w', So w0 w' ((b, cl #[(.int .u16 0), (.string ⟨#[]⟩), (.bool false), (.bool false), (.string ⟨#[]⟩), (.string ⟨#[]⟩), (.int .i64 0), (.int .u8 0)] 77) :: L) → K (.pointer (some ⟨b, 0, none⟩)) w') : eAlloc P 77 w K := soAlloc (by kernel_rfl) h k
theorem fa77_0 (b o : Nat) : xFA P 77 (.pointer (some ⟨b, o, none⟩)) 0 = some (.pointer (some ⟨b, o, none⟩)) := by kernel_rfl
theorem fa77_2 (b o : Nat) : xFA P 77 (.pointer (some ⟨b, o, none⟩)) 2 = some (.pointer (some ⟨b, o + 2, none⟩)) := by kernel_rfl
theorem fa77_3 (b o : Nat) : xFA P 77 (.pointer (some ⟨b, o, none⟩)) 3 = some (.pointer (some ⟨b, o + 3, none⟩)) := by kernel_rfl
theorem fa77_4 (b o : Nat) : xFA P 77 (.pointer (some ⟨b, o, none⟩)) 4 = some (.pointer (some ⟨b, o + 4, none⟩)) := by kernel_rfl
theorem fa77_5 (b o : Nat) : xFA P 77 (.pointer (some ⟨b, o, none⟩)) 5 = some (.pointer (some ⟨b, o + 5, none⟩)) := by kernel_rfl
theorem fa77_6 (b o : Nat) : xFA P 77 (.pointer (some ⟨b, o, none⟩)) 6 = some (.pointer (some ⟨b, o + 6, none⟩)) := by kernel_rfl
theorem fa77_7 (b o : Nat) : xFA P 77 (.pointer (some ⟨b, o, none⟩)) 7 = some (.pointer (some ⟨b, o + 7, none⟩)) := by kernel_rfl
theorem bd77  : xBuild P 77 #[] = some (.agg #[(.int .u16 0), (.string ⟨#[]⟩), (.bool false), (.bool false), (.string ⟨#[]⟩), (.string ⟨#[]⟩), (.int .i64 0), (.int .u8 0)]) := by kernel_rfl
theorem bd77_0_1_2_3_4_5_6_7 (x0 : Int) (x1 : ByteArray) (x2 : Bool) (x3 : Bool) (x4 : ByteArray) (x5 : ByteArray) (x6 : Int) (x7 : Int) : xBuild P 77 #[(0, (.int .u16 x0)), (1, (.string x1)), (2, (.bool x2)), (3, (.bool x3)), (4, (.string x4)), (5, (.string x5)), (6, (.int .i64 x6)), (7, (.int .u8 x7))] = some (.agg #[(.int .u16 x0), (.string x1), (.bool x2), (.bool x3), (.string x4), (.string x5), (.int .i64 x6), (.int .u8 x7)]) := by kernel_rfl
theorem bd77_0_1_4_5_7 (x0 : Int) (x1 : ByteArray) (x4 : ByteArray) (x5 : ByteArray) (x7 : Int) : xBuild P 77 #[(0, (.int .u16 x0)), (1, (.string x1)), (4, (.string x4)), (5, (.string x5)), (7, (.int .u8 x7))] = some (.agg #[(.int .u16 x0), (.string x1), (.bool false), (.bool false), (.string x4), (.string x5), (.int .i64 0), (.int .u8 x7)]) := by kernel_rfl
/- 91 []api.Raw -/
theorem ty91 : (known P 91, isAggT P 91, P.cellsOf 91) = (true, false, 1) := by kernel_rfl
theorem ty91' : (known P 91, isAggT P 91) = (true, false) := by kernel_rfl
theorem ld91 (w : World) (b o : Nat) : xLoad P w 91 (.pointer (some ⟨b, o, none⟩)) = oCell w.heap[b]? o := xLoad_1 ty91' b o
theorem sl91 : slE P 91 = some (115, 2) := by kernel_rfl
theorem ln91 (w : World) (a : Option Addr) (l c : Nat) : xLen P w #[91] #[.slice a l c] = some (.int .i64 l) := xLen_s sl91 a l c
theorem ia91 (b o l c : Nat) (k : IntKind) (i : Int) (h0 : 0 ≤ i) (h1 : i < l) : xIA P 91 (.slice (some ⟨b, o, none⟩) l c) (.int k i) = some (.pointer (some ⟨b, o + i.toNat * 2, none⟩)) := xIA_s sl91 b o l c k i h0 h1
theorem un91 : P.underlying 91 = some (.slice 115) := by kernel_rfl
theorem rw91 : (P.info? 115).map (fun i => (i.zero, i.size, i.bytes)) = some (some (.agg #[(.int .u16 0), (.slice none 0 0)]), 2, 32) := by kernel_rfl
theorem pu91 {w0 w : World} {L M : List (Nat × Obj)} {v x : Value} {n : Nat} {xs : List Value} (h : So w0 w (M ++ L)) (hown : OwnS w0.heap.size 115 2 v n xs M) (hx : x.cells.size = 2) (h1 : ∀ u ∈ x.cells.toList, one1 u = true) (h63 : n + 1 ≤ 9223372036854775807) (hbytes : (n + 1) * 32 ≤ 140737488355328) {K : Value → World → Prop} (k : ∀ v' M' w', OwnS w0.heap.size 115 2 v' (n + 1) (xs ++ x.cells.toList) M' → So w0 w' (M' ++ L) → K v' w') : eBS P 91 1 #[(0, x)] w fun y w => eApp P #[91, 91] #[v, y] w K := soPush un91 rw91 rfl (by decide) (by decide) h hown hx h1 h63 hbytes k
theorem bs91 {w0 w : World} {L : List (Nat × Obj)} {x : Value} (h : So w0 w L) (hx : x.cells.size = 2) {K : Value → World → Prop} (k : ∀ y w', So w0 w' ((y, cl x.cells 115) :: L) → K (.slice (some ⟨y, 0, none⟩) 1 1) w') : eBS P 91 1 #[(0, x)] w K := soBS1 un91 rw91 rfl (by decide) (by decide) h hx k
theorem ap91 {w0 w : World} {L M : List (Nat × Obj)} {v x : Value} {y n : Nat} {xs : List Value} (h : So w0 w ((y, cl x.cells 115) :: (M ++ L))) (hown : OwnS w0.heap.size 115 2 v n xs M) (hx : x.cells.size = 2) (h1 : ∀ u ∈ x.cells.toList, one1 u = true) (h63 : n + 1 ≤ 9223372036854775807) (hbytes : (n + 1) * 32 ≤ 140737488355328) {K : Value → World → Prop} (k : ∀ v' M' w', OwnS w0.heap.size 115 2 v' (n + 1) (xs ++ x.cells.toList) M' → So w0 w' (M' ++ L) → K v' w') : eApp P #[91, 91] #[v, .slice (some ⟨y, 0, none⟩) 1 1] w K := soApp1 un91 rw91 rfl h hown hx h1 h63 hbytes k
/- 94 []api.Block -/
theorem ty94 : (known P 94, isAggT P 94, P.cellsOf 94) = (true, false, 1) := by kernel_rfl
theorem ty94' : (known P 94, isAggT P 94) = (true, false) := by kernel_rfl
theorem ld94 (w : World) (b o : Nat) : xLoad P w 94 (.pointer (some ⟨b, o, none⟩)) = oCell w.heap[b]? o := xLoad_1 ty94' b o
theorem sl94 : slE P 94 = some (120, 3) := by kernel_rfl
theorem ln94 (w : World) (a : Option Addr) (l c : Nat) : xLen P w #[94] #[.slice a l c] = some (.int .i64 l) := xLen_s sl94 a l c
theorem ia94 (b o l c : Nat) (k : IntKind) (i : Int) (h0 : 0 ≤ i) (h1 : i < l) : xIA P 94 (.slice (some ⟨b, o, none⟩) l c) (.int k i) = some (.pointer (some ⟨b, o + i.toNat * 3, none⟩)) := xIA_s sl94 b o l c k i h0 h1
theorem un94 : P.underlying 94 = some (.slice 120) := by kernel_rfl
theorem rw94 : (P.info? 120).map (fun i => (i.zero, i.size, i.bytes)) = some (some (.agg #[(.int .u32 0), (.int .i64 0), (.int .i64 0)]), 3, 24) := by kernel_rfl
theorem pu94 {w0 w : World} {L M : List (Nat × Obj)} {v x : Value} {n : Nat} {xs : List Value} (h : So w0 w (M ++ L)) (hown : OwnS w0.heap.size 120 3 v n xs M) (hx : x.cells.size = 3) (h1 : ∀ u ∈ x.cells.toList, one1 u = true) (h63 : n + 1 ≤ 9223372036854775807) (hbytes : (n + 1) * 24 ≤ 140737488355328) {K : Value → World → Prop} (k : ∀ v' M' w', OwnS w0.heap.size 120 3 v' (n + 1) (xs ++ x.cells.toList) M' → So w0 w' (M' ++ L) → K v' w') : eBS P 94 1 #[(0, x)] w fun y w => eApp P #[94, 94] #[v, y] w K := soPush un94 rw94 rfl (by decide) (by decide) h hown hx h1 h63 hbytes k
theorem bs94 {w0 w : World} {L : List (Nat × Obj)} {x : Value} (h : So w0 w L) (hx : x.cells.size = 3) {K : Value → World → Prop} (k : ∀ y w', So w0 w' ((y, cl x.cells 120) :: L) → K (.slice (some ⟨y, 0, none⟩) 1 1) w') : eBS P 94 1 #[(0, x)] w K := soBS1 un94 rw94 rfl (by decide) (by decide) h hx k
theorem ap94 {w0 w : World} {L M : List (Nat × Obj)} {v x : Value} {y n : Nat} {xs : List Value} (h : So w0 w ((y, cl x.cells 120) :: (M ++ L))) (hown : OwnS w0.heap.size 120 3 v n xs M) (hx : x.cells.size = 3) (h1 : ∀ u ∈ x.cells.toList, one1 u = true) (h63 : n + 1 ≤ 9223372036854775807) (hbytes : (n + 1) * 24 ≤ 140737488355328) {K : Value → World → Prop} (k : ∀ v' M' w', OwnS w0.heap.size 120 3 v' (n + 1) (xs ++ x.cells.toList) M' → So w0 w' (M' ++ L) → K v' w') : eApp P #[94, 94] #[v, .slice (some ⟨y, 0, none⟩) 1 1] w K := soApp1 un94 rw94 rfl h hown hx h1 h63 hbytes k
/- 96 api.Func -/
theorem ty96 : (known P 96, isAggT P 96, P.cellsOf 96) = (true, true, 5) := by kernel_rfl
theorem ld96 (w : World) (b o : Nat) : xLoad P w 96 (.pointer (some ⟨b, o, none⟩)) = oRow w.heap[b]? o 5 := xLoad_m ty96 b o
theorem al96 {w0 w : World} {L : List (Nat × Obj)} {K : Value → World → Prop} (h : So w0 w L) (k : ∀ b w', So w0 w' ((b, cl #[(.int .u32 0), (.int .i64 0), (.slice none 0 0), (.slice none 0 0), (.int .i64 0)] 96) :: L) → K (.pointer (some ⟨b, 0, none⟩)) w') : eAlloc P 96 w K := soAlloc (by kernel_rfl) h k
theorem fa96_2 (b o : Nat) : xFA P 96 (.pointer (some ⟨b, o, none⟩)) 2 = some (.pointer (some ⟨b, o + 2, none⟩)) := by kernel_rfl
theorem fa96_3 (b o : Nat) : xFA P 96 (.pointer (some ⟨b, o, none⟩)) 3 = some (.pointer (some ⟨b, o + 3, none⟩)) := by kernel_rfl
theorem fa96_4 (b o : Nat) : xFA P 96 (.pointer (some ⟨b, o, none⟩)) 4 = some (.pointer (some ⟨b, o + 4, none⟩)) := by kernel_rfl
theorem bd96_0_1 (x0 : Int) (x1 : Int) : xBuild P 96 #[(0, (.int .u32 x0)), (1, (.int .i64 x1))] = some (.agg #[(.int .u32 x0), (.int .i64 x1), (.slice none 0 0), (.slice none 0 0), (.int .i64 0)]) := by kernel_rfl
/- 113 []uint32 -/
theorem ty113 : (known P 113, isAggT P 113, P.cellsOf 113) = (true, false, 1) := by kernel_rfl
theorem ty113' : (known P 113, isAggT P 113) = (true, false) := by kernel_rfl
theorem ld113 (w : World) (b o : Nat) : xLoad P w 113 (.pointer (some ⟨b, o, none⟩)) = oCell w.heap[b]? o := xLoad_1 ty113' b o
theorem sl113 : slE P 113 = some (22, 1) := by kernel_rfl
theorem ln113 (w : World) (a : Option Addr) (l c : Nat) : xLen P w #[113] #[.slice a l c] = some (.int .i64 l) := xLen_s sl113 a l c
theorem ia113 (b o l c : Nat) (k : IntKind) (i : Int) (h0 : 0 ≤ i) (h1 : i < l) : xIA P 113 (.slice (some ⟨b, o, none⟩) l c) (.int k i) = some (.pointer (some ⟨b, o + i.toNat * 1, none⟩)) := xIA_s sl113 b o l c k i h0 h1
theorem un113 : P.underlying 113 = some (.slice 22) := by kernel_rfl
theorem rw113 : (P.info? 22).map (fun i => (i.zero, i.size, i.bytes)) = some (some ((.int .u32 0)), 1, 4) := by kernel_rfl
theorem pu113 {w0 w : World} {L M : List (Nat × Obj)} {v x : Value} {n : Nat} {xs : List Value} (h : So w0 w (M ++ L)) (hown : OwnS w0.heap.size 22 1 v n xs M) (hx : x.cells.size = 1) (h1 : ∀ u ∈ x.cells.toList, one1 u = true) (h63 : n + 1 ≤ 9223372036854775807) (hbytes : (n + 1) * 4 ≤ 140737488355328) {K : Value → World → Prop} (k : ∀ v' M' w', OwnS w0.heap.size 22 1 v' (n + 1) (xs ++ x.cells.toList) M' → So w0 w' (M' ++ L) → K v' w') : eBS P 113 1 #[(0, x)] w fun y w => eApp P #[113, 113] #[v, y] w K := soPush un113 rw113 rfl (by decide) (by decide) h hown hx h1 h63 hbytes k
theorem bs113 {w0 w : World} {L : List (Nat × Obj)} {x : Value} (h : So w0 w L) (hx : x.cells.size = 1) {K : Value → World → Prop} (k : ∀ y w', So w0 w' ((y, cl x.cells 22) :: L) → K (.slice (some ⟨y, 0, none⟩) 1 1) w') : eBS P 113 1 #[(0, x)] w K := soBS1 un113 rw113 rfl (by decide) (by decide) h hx k
theorem ap113 {w0 w : World} {L M : List (Nat × Obj)} {v x : Value} {y n : Nat} {xs : List Value} (h : So w0 w ((y, cl x.cells 22) :: (M ++ L))) (hown : OwnS w0.heap.size 22 1 v n xs M) (hx : x.cells.size = 1) (h1 : ∀ u ∈ x.cells.toList, one1 u = true) (h63 : n + 1 ≤ 9223372036854775807) (hbytes : (n + 1) * 4 ≤ 140737488355328) {K : Value → World → Prop} (k : ∀ v' M' w', OwnS w0.heap.size 22 1 v' (n + 1) (xs ++ x.cells.toList) M' → So w0 w' (M' ++ L) → K v' w') : eApp P #[113, 113] #[v, .slice (some ⟨y, 0, none⟩) 1 1] w K := soApp1 un113 rw113 rfl h hown hx h1 h63 hbytes k
/- 115 api.Raw -/
theorem ty115 : (known P 115, isAggT P 115, P.cellsOf 115) = (true, true, 2) := by kernel_rfl
theorem ld115 (w : World) (b o : Nat) : xLoad P w 115 (.pointer (some ⟨b, o, none⟩)) = oRow w.heap[b]? o 2 := xLoad_m ty115 b o
theorem al115 {w0 w : World} {L : List (Nat × Obj)} {K : Value → World → Prop} (h : So w0 w L) (k : ∀ b w', So w0 w' ((b, cl #[(.int .u16 0), (.slice none 0 0)] 115) :: L) → K (.pointer (some ⟨b, 0, none⟩)) w') : eAlloc P 115 w K := soAlloc (by kernel_rfl) h k
theorem fa115_1 (b o : Nat) : xFA P 115 (.pointer (some ⟨b, o, none⟩)) 1 = some (.pointer (some ⟨b, o + 1, none⟩)) := by kernel_rfl
theorem bd115  : xBuild P 115 #[] = some (.agg #[(.int .u16 0), (.slice none 0 0)]) := by kernel_rfl
theorem bd115_0_1 (x0 : Int) (x1 : Option Addr) (x1l x1c : Nat) : xBuild P 115 #[(0, (.int .u16 x0)), (1, (.slice x1 x1l x1c))] = some (.agg #[(.int .u16 x0), (.slice x1 x1l x1c)]) := by kernel_rfl
/- 120 api.Block -/
theorem ty120 : (known P 120, isAggT P 120, P.cellsOf 120) = (true, true, 3) := by kernel_rfl
theorem ld120 (w : World) (b o : Nat) : xLoad P w 120 (.pointer (some ⟨b, o, none⟩)) = oRow w.heap[b]? o 3 := xLoad_m ty120 b o
theorem al120 {w0 w : World} {L : List (Nat × Obj)} {K : Value → World → Prop} (h : So w0 w L) (k : ∀ b w', So w0 w' ((b, cl #[(.int .u32 0), (.int .i64 0), (.int .i64 0)] 120) :: L) → K (.pointer (some ⟨b, 0, none⟩)) w') : eAlloc P 120 w K := soAlloc (by kernel_rfl) h k
theorem fa120_2 (b o : Nat) : xFA P 120 (.pointer (some ⟨b, o, none⟩)) 2 = some (.pointer (some ⟨b, o + 2, none⟩)) := by kernel_rfl
theorem bd120_0_1 (x0 : Int) (x1 : Int) : xBuild P 120 #[(0, (.int .u32 x0)), (1, (.int .i64 x1))] = some (.agg #[(.int .u32 x0), (.int .i64 x1), (.int .i64 0)]) := by kernel_rfl
/- 146 code.writer -/
theorem ty146 : (known P 146, isAggT P 146, P.cellsOf 146) = (true, true, 11) := by kernel_rfl
theorem ld146 (w : World) (b o : Nat) : xLoad P w 146 (.pointer (some ⟨b, o, none⟩)) = oRow w.heap[b]? o 11 := xLoad_m ty146 b o
theorem fa146_0 (b o : Nat) : xFA P 146 (.pointer (some ⟨b, o, none⟩)) 0 = some (.pointer (some ⟨b, o, none⟩)) := by kernel_rfl
theorem fa146_1 (b o : Nat) : xFA P 146 (.pointer (some ⟨b, o, none⟩)) 1 = some (.pointer (some ⟨b, o + 8, none⟩)) := by kernel_rfl
theorem fa146_2 (b o : Nat) : xFA P 146 (.pointer (some ⟨b, o, none⟩)) 2 = some (.pointer (some ⟨b, o + 9, none⟩)) := by kernel_rfl
theorem fa146_3 (b o : Nat) : xFA P 146 (.pointer (some ⟨b, o, none⟩)) 3 = some (.pointer (some ⟨b, o + 10, none⟩)) := by kernel_rfl
theorem bd146_0_1 (x0_0 x0_1 x0_2 x0_3 x0_4 x0_5 x0_6 x0_7 : Value) (x1 : Int) : xBuild P 146 #[(0, (.agg #[x0_0, x0_1, x0_2, x0_3, x0_4, x0_5, x0_6, x0_7])), (1, (.int .u32 x1))] = some (.agg #[x0_0, x0_1, x0_2, x0_3, x0_4, x0_5, x0_6, x0_7, (.int .u32 x1), (.slice none 0 0), (.int .i64 0)]) := by kernel_rfl
/- 157 []intaglioref03.Name -/
theorem ty157 : (known P 157, isAggT P 157, P.cellsOf 157) = (true, false, 1) := by kernel_rfl
theorem ty157' : (known P 157, isAggT P 157) = (true, false) := by kernel_rfl
theorem ld157 (w : World) (b o : Nat) : xLoad P w 157 (.pointer (some ⟨b, o, none⟩)) = oCell w.heap[b]? o := xLoad_1 ty157' b o
theorem sl157 : slE P 157 = some (160, 3) := by kernel_rfl
theorem ln157 (w : World) (a : Option Addr) (l c : Nat) : xLen P w #[157] #[.slice a l c] = some (.int .i64 l) := xLen_s sl157 a l c
theorem ia157 (b o l c : Nat) (k : IntKind) (i : Int) (h0 : 0 ≤ i) (h1 : i < l) : xIA P 157 (.slice (some ⟨b, o, none⟩) l c) (.int k i) = some (.pointer (some ⟨b, o + i.toNat * 3, none⟩)) := xIA_s sl157 b o l c k i h0 h1
theorem un157 : P.underlying 157 = some (.slice 160) := by kernel_rfl
theorem rw157 : (P.info? 160).map (fun i => (i.zero, i.size, i.bytes)) = some (some (.agg #[(.int .u8 0), (.int .u32 0), (.string ⟨#[]⟩)]), 3, 24) := by kernel_rfl
theorem pu157 {w0 w : World} {L M : List (Nat × Obj)} {v x : Value} {n : Nat} {xs : List Value} (h : So w0 w (M ++ L)) (hown : OwnS w0.heap.size 160 3 v n xs M) (hx : x.cells.size = 3) (h1 : ∀ u ∈ x.cells.toList, one1 u = true) (h63 : n + 1 ≤ 9223372036854775807) (hbytes : (n + 1) * 24 ≤ 140737488355328) {K : Value → World → Prop} (k : ∀ v' M' w', OwnS w0.heap.size 160 3 v' (n + 1) (xs ++ x.cells.toList) M' → So w0 w' (M' ++ L) → K v' w') : eBS P 157 1 #[(0, x)] w fun y w => eApp P #[157, 157] #[v, y] w K := soPush un157 rw157 rfl (by decide) (by decide) h hown hx h1 h63 hbytes k
theorem bs157 {w0 w : World} {L : List (Nat × Obj)} {x : Value} (h : So w0 w L) (hx : x.cells.size = 3) {K : Value → World → Prop} (k : ∀ y w', So w0 w' ((y, cl x.cells 160) :: L) → K (.slice (some ⟨y, 0, none⟩) 1 1) w') : eBS P 157 1 #[(0, x)] w K := soBS1 un157 rw157 rfl (by decide) (by decide) h hx k
theorem ap157 {w0 w : World} {L M : List (Nat × Obj)} {v x : Value} {y n : Nat} {xs : List Value} (h : So w0 w ((y, cl x.cells 160) :: (M ++ L))) (hown : OwnS w0.heap.size 160 3 v n xs M) (hx : x.cells.size = 3) (h1 : ∀ u ∈ x.cells.toList, one1 u = true) (h63 : n + 1 ≤ 9223372036854775807) (hbytes : (n + 1) * 24 ≤ 140737488355328) {K : Value → World → Prop} (k : ∀ v' M' w', OwnS w0.heap.size 160 3 v' (n + 1) (xs ++ x.cells.toList) M' → So w0 w' (M' ++ L) → K v' w') : eApp P #[157, 157] #[v, .slice (some ⟨y, 0, none⟩) 1 1] w K := soApp1 un157 rw157 rfl h hown hx h1 h63 hbytes k
/- 160 intaglioref03.Name -/
theorem ty160 : (known P 160, isAggT P 160, P.cellsOf 160) = (true, true, 3) := by kernel_rfl
theorem ld160 (w : World) (b o : Nat) : xLoad P w 160 (.pointer (some ⟨b, o, none⟩)) = oRow w.heap[b]? o 3 := xLoad_m ty160 b o
theorem fa160_0 (b o : Nat) : xFA P 160 (.pointer (some ⟨b, o, none⟩)) 0 = some (.pointer (some ⟨b, o, none⟩)) := by kernel_rfl
theorem fa160_1 (b o : Nat) : xFA P 160 (.pointer (some ⟨b, o, none⟩)) 1 = some (.pointer (some ⟨b, o + 1, none⟩)) := by kernel_rfl
theorem fa160_2 (b o : Nat) : xFA P 160 (.pointer (some ⟨b, o, none⟩)) 2 = some (.pointer (some ⟨b, o + 2, none⟩)) := by kernel_rfl
theorem bd160_0_1_2 (x0 : Int) (x1 : Int) (x2 : ByteArray) : xBuild P 160 #[(0, (.int .u8 x0)), (1, (.int .u32 x1)), (2, (.string x2))] = some (.agg #[(.int .u8 x0), (.int .u32 x1), (.string x2)]) := by kernel_rfl
/- 162 [6]string -/
theorem ty162 : (known P 162, isAggT P 162, P.cellsOf 162) = (true, true, 6) := by kernel_rfl
theorem ld162 (w : World) (b o : Nat) : xLoad P w 162 (.pointer (some ⟨b, o, none⟩)) = oRow w.heap[b]? o 6 := xLoad_m ty162 b o
theorem al162 {w0 w : World} {L : List (Nat × Obj)} {K : Value → World → Prop} (h : So w0 w L) (k : ∀ b w', So w0 w' ((b, cl #[(.string ⟨#[]⟩), (.string ⟨#[]⟩), (.string ⟨#[]⟩), (.string ⟨#[]⟩), (.string ⟨#[]⟩), (.string ⟨#[]⟩)] 162) :: L) → K (.pointer (some ⟨b, 0, none⟩)) w') : eAlloc P 162 w K := soAlloc (by kernel_rfl) h k
theorem ar162 : arE P 162 = some (6, 1) := by kernel_rfl
theorem ia162 (b o : Nat) (k : IntKind) (i : Int) (h0 : 0 ≤ i) (h1 : i < 6) : xIA P 162 (.pointer (some ⟨b, o, none⟩)) (.int k i) = some (.pointer (some ⟨b, o + i.toNat * 1, none⟩)) := xIA_a ar162 b o k i h0 h1
/- 168 []uint8 -/
theorem ty168 : (known P 168, isAggT P 168, P.cellsOf 168) = (true, false, 1) := by kernel_rfl
theorem ty168' : (known P 168, isAggT P 168) = (true, false) := by kernel_rfl
theorem ld168 (w : World) (b o : Nat) : xLoad P w 168 (.pointer (some ⟨b, o, none⟩)) = oCell w.heap[b]? o := xLoad_1 ty168' b o
theorem sl168 : slE P 168 = some (5, 1) := by kernel_rfl
theorem ln168 (w : World) (a : Option Addr) (l c : Nat) : xLen P w #[168] #[.slice a l c] = some (.int .i64 l) := xLen_s sl168 a l c
theorem ia168 (b o l c : Nat) (k : IntKind) (i : Int) (h0 : 0 ≤ i) (h1 : i < l) : xIA P 168 (.slice (some ⟨b, o, none⟩) l c) (.int k i) = some (.pointer (some ⟨b, o + i.toNat * 1, none⟩)) := xIA_s sl168 b o l c k i h0 h1
theorem un168 : P.underlying 168 = some (.slice 5) := by kernel_rfl
theorem rw168 : (P.info? 5).map (fun i => (i.zero, i.size, i.bytes)) = some (some ((.int .u8 0)), 1, 1) := by kernel_rfl
theorem pu168 {w0 w : World} {L M : List (Nat × Obj)} {v x : Value} {n : Nat} {xs : List Value} (h : So w0 w (M ++ L)) (hown : OwnS w0.heap.size 5 1 v n xs M) (hx : x.cells.size = 1) (h1 : ∀ u ∈ x.cells.toList, one1 u = true) (h63 : n + 1 ≤ 9223372036854775807) (hbytes : (n + 1) * 1 ≤ 140737488355328) {K : Value → World → Prop} (k : ∀ v' M' w', OwnS w0.heap.size 5 1 v' (n + 1) (xs ++ x.cells.toList) M' → So w0 w' (M' ++ L) → K v' w') : eBS P 168 1 #[(0, x)] w fun y w => eApp P #[168, 168] #[v, y] w K := soPush un168 rw168 rfl (by decide) (by decide) h hown hx h1 h63 hbytes k
theorem bs168 {w0 w : World} {L : List (Nat × Obj)} {x : Value} (h : So w0 w L) (hx : x.cells.size = 1) {K : Value → World → Prop} (k : ∀ y w', So w0 w' ((y, cl x.cells 5) :: L) → K (.slice (some ⟨y, 0, none⟩) 1 1) w') : eBS P 168 1 #[(0, x)] w K := soBS1 un168 rw168 rfl (by decide) (by decide) h hx k
theorem ap168 {w0 w : World} {L M : List (Nat × Obj)} {v x : Value} {y n : Nat} {xs : List Value} (h : So w0 w ((y, cl x.cells 5) :: (M ++ L))) (hown : OwnS w0.heap.size 5 1 v n xs M) (hx : x.cells.size = 1) (h1 : ∀ u ∈ x.cells.toList, one1 u = true) (h63 : n + 1 ≤ 9223372036854775807) (hbytes : (n + 1) * 1 ≤ 140737488355328) {K : Value → World → Prop} (k : ∀ v' M' w', OwnS w0.heap.size 5 1 v' (n + 1) (xs ++ x.cells.toList) M' → So w0 w' (M' ++ L) → K v' w') : eApp P #[168, 168] #[v, .slice (some ⟨y, 0, none⟩) 1 1] w K := soApp1 un168 rw168 rfl h hown hx h1 h63 hbytes k
/- 174 grammar.form -/
theorem ty174 : (known P 174, isAggT P 174, P.cellsOf 174) = (true, true, 8) := by kernel_rfl
theorem ld174 (w : World) (b o : Nat) : xLoad P w 174 (.pointer (some ⟨b, o, none⟩)) = oRow w.heap[b]? o 8 := xLoad_m ty174 b o
theorem al174 {w0 w : World} {L : List (Nat × Obj)} {K : Value → World → Prop} (h : So w0 w L) (k : ∀ b w', So w0 w' ((b, cl #[(.int .u16 0), (.string ⟨#[]⟩), (.bool false), (.bool false), (.string ⟨#[]⟩), (.string ⟨#[]⟩), (.int .i64 0), (.int .u8 0)] 174) :: L) → K (.pointer (some ⟨b, 0, none⟩)) w') : eAlloc P 174 w K := soAlloc (by kernel_rfl) h k
theorem fa174_0 (b o : Nat) : xFA P 174 (.pointer (some ⟨b, o, none⟩)) 0 = some (.pointer (some ⟨b, o, none⟩)) := by kernel_rfl
theorem bd174_0 (x0_0 x0_1 x0_2 x0_3 x0_4 x0_5 x0_6 x0_7 : Value) : xBuild P 174 #[(0, (.agg #[x0_0, x0_1, x0_2, x0_3, x0_4, x0_5, x0_6, x0_7]))] = some (.agg #[x0_0, x0_1, x0_2, x0_3, x0_4, x0_5, x0_6, x0_7]) := by kernel_rfl
/- 175 func(int) uint8 -/
theorem ty175 : (known P 175, isAggT P 175, P.cellsOf 175) = (true, false, 1) := by kernel_rfl
theorem ty175' : (known P 175, isAggT P 175) = (true, false) := by kernel_rfl
theorem ld175 (w : World) (b o : Nat) : xLoad P w 175 (.pointer (some ⟨b, o, none⟩)) = oCell w.heap[b]? o := xLoad_1 ty175' b o
/- 180 []func(int) uint8 -/
theorem ty180 : (known P 180, isAggT P 180, P.cellsOf 180) = (true, false, 1) := by kernel_rfl
theorem ty180' : (known P 180, isAggT P 180) = (true, false) := by kernel_rfl
theorem ld180 (w : World) (b o : Nat) : xLoad P w 180 (.pointer (some ⟨b, o, none⟩)) = oCell w.heap[b]? o := xLoad_1 ty180' b o
theorem sl180 : slE P 180 = some (175, 1) := by kernel_rfl
theorem ln180 (w : World) (a : Option Addr) (l c : Nat) : xLen P w #[180] #[.slice a l c] = some (.int .i64 l) := xLen_s sl180 a l c
theorem ia180 (b o l c : Nat) (k : IntKind) (i : Int) (h0 : 0 ≤ i) (h1 : i < l) : xIA P 180 (.slice (some ⟨b, o, none⟩) l c) (.int k i) = some (.pointer (some ⟨b, o + i.toNat * 1, none⟩)) := xIA_s sl180 b o l c k i h0 h1
theorem un180 : P.underlying 180 = some (.slice 175) := by kernel_rfl
theorem rw180 : (P.info? 175).map (fun i => (i.zero, i.size, i.bytes)) = some (some (.nilFunc), 1, 8) := by kernel_rfl
theorem eql54_n (cx cy : Bool) : xBin P .eql 54 cx cy (.pointer none) (.pointer none) = some (.bool true) := by kernel_rfl
theorem eql54_s (cx cy : Bool) (a : Addr) : xBin P .eql 54 cx cy (.pointer (some a)) (.pointer none) = some (.bool false) := by kernel_rfl
theorem neq4 (cx cy x y : Bool) : xBin P .neq 4 cx cy (.bool x) (.bool y) = some (.bool (x != y)) := by kernel_rfl
theorem ow2 (x0 x1 : Value) (t : TypeId) (f : Nat × Nat) : oRow (some (.cells #[x0, x1] t f)) 0 2 = some (.agg #[x0, x1]) := rfl
theorem ow3 (x0 x1 x2 : Value) (t : TypeId) (f : Nat × Nat) : oRow (some (.cells #[x0, x1, x2] t f)) 0 3 = some (.agg #[x0, x1, x2]) := rfl
theorem ow4 (x0 x1 x2 x3 : Value) (t : TypeId) (f : Nat × Nat) : oRow (some (.cells #[x0, x1, x2, x3] t f)) 0 4 = some (.agg #[x0, x1, x2, x3]) := rfl
theorem ow5 (x0 x1 x2 x3 x4 : Value) (t : TypeId) (f : Nat × Nat) : oRow (some (.cells #[x0, x1, x2, x3, x4] t f)) 0 5 = some (.agg #[x0, x1, x2, x3, x4]) := rfl
theorem ow6 (x0 x1 x2 x3 x4 x5 : Value) (t : TypeId) (f : Nat × Nat) : oRow (some (.cells #[x0, x1, x2, x3, x4, x5] t f)) 0 6 = some (.agg #[x0, x1, x2, x3, x4, x5]) := rfl
theorem ow8 (x0 x1 x2 x3 x4 x5 x6 x7 : Value) (t : TypeId) (f : Nat × Nat) : oRow (some (.cells #[x0, x1, x2, x3, x4, x5, x6, x7] t f)) 0 8 = some (.agg #[x0, x1, x2, x3, x4, x5, x6, x7]) := rfl
theorem ow11 (x0 x1 x2 x3 x4 x5 x6 x7 x8 x9 x10 : Value) (t : TypeId) (f : Nat × Nat) : oRow (some (.cells #[x0, x1, x2, x3, x4, x5, x6, x7, x8, x9, x10] t f)) 0 11 = some (.agg #[x0, x1, x2, x3, x4, x5, x6, x7, x8, x9, x10]) := rfl
theorem ow20 (x0 x1 x2 x3 x4 x5 x6 x7 x8 x9 x10 x11 x12 x13 x14 x15 x16 x17 x18 x19 : Value) (t : TypeId) (f : Nat × Nat) : oRow (some (.cells #[x0, x1, x2, x3, x4, x5, x6, x7, x8, x9, x10, x11, x12, x13, x14, x15, x16, x17, x18, x19] t f)) 0 20 = some (.agg #[x0, x1, x2, x3, x4, x5, x6, x7, x8, x9, x10, x11, x12, x13, x14, x15, x16, x17, x18, x19]) := rfl
theorem ow23 (x0 x1 x2 x3 x4 x5 x6 x7 x8 x9 x10 x11 x12 x13 x14 x15 x16 x17 x18 x19 x20 x21 x22 : Value) (t : TypeId) (f : Nat × Nat) : oRow (some (.cells #[x0, x1, x2, x3, x4, x5, x6, x7, x8, x9, x10, x11, x12, x13, x14, x15, x16, x17, x18, x19, x20, x21, x22] t f)) 0 23 = some (.agg #[x0, x1, x2, x3, x4, x5, x6, x7, x8, x9, x10, x11, x12, x13, x14, x15, x16, x17, x18, x19, x20, x21, x22]) := rfl
theorem cv21_22 (k : IntKind) (n : Int) : xConv P 21 22 (.int k n) = some (.int .u32 (IntKind.wrap .u32 n)) := xConv_int un21 un22 n
theorem cv5_22 (k : IntKind) (n : Int) : xConv P 5 22 (.int k n) = some (.int .u32 (IntKind.wrap .u32 n)) := xConv_int un5 un22 n
theorem cv5_3 (k : IntKind) (n : Int) : xConv P 5 3 (.int k n) = some (.int .i64 (IntKind.wrap .i64 n)) := xConv_int un5 un3 n
end Go.Proofs.Ytlmcppbpobnfjaa
