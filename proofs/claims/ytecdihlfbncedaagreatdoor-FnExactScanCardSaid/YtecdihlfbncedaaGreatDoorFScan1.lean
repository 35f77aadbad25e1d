import Derived.Test.YtecdihlfbncedaaGreatDoorFScan0
set_option linter.all false
set_option maxRecDepth 1000000
namespace Go.Rx
open Go.Proofs
open IntKind (wrap)
noncomputable section
def sl5Block_L4 (O : Type) : Nat → (List (Tx × Tx × Bool) × Tx × Int × List Int) → ((List Int) → Option O) → ((List Int) → Option O) → Option O
  | 0, _, _, _ => none
  | q + 1, (l1, last2, i3, b4), x, r => (cond (decide (i3 < (l1.length : Int))) (cond (decide (0 ≤ i3) && decide (i3 < (l1.length : Int))) ((sl5Common (last2, (nth l1 i3).1)).bind fun r5 => ((sPutNum (b4, r5)).bind fun r6 => (cond (decide (0 ≤ i3) && decide (i3 < (l1.length : Int))) (cond (decide (0 ≤ r5) && (decide (r5 ≤ (((nth l1 i3).1.length : Nat) : Int)) && decide ((((nth l1 i3).1.length : Nat) : Int) ≤ (((nth l1 i3).1.length : Nat) : Int)))) ((sPutText (r6, (cut (nth l1 i3).1 r5 (((nth l1 i3).1.length : Nat) : Int)))).bind fun r7 => (cond (decide (0 ≤ i3) && decide (i3 < (l1.length : Int))) (cond (nth l1 i3).2.2 (cond (decide ((r7.length + 1) ≤ lenBound)) (cond (decide (0 ≤ i3) && decide (i3 < (l1.length : Int))) ((sPutText ((r7 ++ [1]), (nth l1 i3).2.1)).bind fun r8 => (cond (decide (0 ≤ i3) && decide (i3 < (l1.length : Int))) (sl5Block_L4 O q (l1, (nth l1 i3).1, (wrap .i64 (i3 + 1)), r8) x r) none)) none) none) (cond (decide ((r7.length + 1) ≤ lenBound)) (cond (decide (0 ≤ i3) && decide (i3 < (l1.length : Int))) ((sPutText ((r7 ++ [0]), (nth l1 i3).2.1)).bind fun r9 => (cond (decide (0 ≤ i3) && decide (i3 < (l1.length : Int))) (sl5Block_L4 O q (l1, (nth l1 i3).1, (wrap .i64 (i3 + 1)), r9) x r) none)) none) none)) none)) none) none))) none) (x b4))
def sl5Block : (List (Tx × Tx × Bool)) → Option (List Int)
  | l0 => (sl5Block_L4 (List Int) fuel (l0, [], 0, []) (fun b10 => ((sFrame b10).bind fun r11 => (some r11))) some)
def c_sl5Block : Ctr := { args := [.val false (.sl y1)], rets := [(false, [(some 5, y4)])], F := sl5Block }
def X_sl5Block : Ctx := XT.withΓ (lk [(197, c_sl5Common), (168, c_sPutNum), (169, c_sPutText), (172, c_sFrame)]) (lk [])
def L_sl5Block_4 : LoopF c_sl5Block.Res := ⟨⟨55, [(0, .one (.val (.sl y1))), (3, .one (.own 0)), (4, .one (.val .str)), (5, .one (.val y0))], [.arr 5 y10], []⟩, [(0, ⟨55, [(3, .one (.own 0))], [.arr 5 y10], []⟩)], sl5Block_L4⟩
def T_sl5Block : Nat → Option (LoopF c_sl5Block.Res) := lk [(4, L_sl5Block_4)]
theorem s_sl5Block_4 : StepOk X_sl5Block H0 (c_sl5Block.finish X_sl5Block Tryz.f170.results.toList) T_sl5Block (loopAt Tryz.f170 0) := ⟨L_sl5Block_4, by kernel_rfl, fun O y x r => by kernel_rfl, fun O k y x r => by kernel_rfl⟩
theorem r_sl5Block (a) : fnRun X_sl5Block H0 c_sl5Block Tryz.f170 T_sl5Block a = sl5Block a := by kernel_rfl
theorem h_sl5Block [Tabs] : CtrHolds Tryz.prog 170 c_sl5Block := fn_ok (.cons h_sl5Common Tryz.call197 (.cons h_sPutNum Tryz.call168 (.cons h_sPutText Tryz.call169 (.cons h_sFrame Tryz.call172 .nil)))) .nil Tryz.func170 (by kernel_rfl) (loops1 (by kernel_rfl) s_sl5Block_4) r_sl5Block
def sMark : (Tx) → Option (Int × Int)
  | key0 => ((sSum (bytesOf key0)).bind fun r1 => (some ((Int.tmod r1 64), (Int.tmod (wrap .i64 (Int.tdiv r1 64)) 64))))
def c_sMark : Ctr := { args := [.val false .str], rets := [(false, [(none, y0)]), (false, [(none, y0)])], F := sMark }
def X_sMark : Ctx := XT.withΓ (lk [(165, c_sSum)]) (lk [])
theorem r_sMark (a) : fnRun X_sMark H0 c_sMark Tryz.f198 T0 a = sMark a := by kernel_rfl
theorem h_sMark [Tabs] : CtrHolds Tryz.prog 198 c_sMark := fn_ok (.cons h_sSum Tryz.call165 .nil) .nil Tryz.func198 (by kernel_rfl) (loops0 (by kernel_rfl)) r_sMark
def sFilter_L3 (O : Type) : Nat → (List (Tx) × Int × List Int) → ((List Int) → Option O) → ((List Int) → Option O) → Option O
  | 0, _, _, _ => none
  | q + 1, (keys1, i2, out3), x, r => (cond (decide (i2 < (keys1.length : Int))) (cond (decide (0 ≤ i2) && decide (i2 < (keys1.length : Int))) ((sMark (nth keys1 i2)).bind fun (r4, r5) => (cond (decide (0 ≤ (wrap .i64 (Int.tdiv r4 8))) && decide ((wrap .i64 (Int.tdiv r4 8)) < (out3.length : Int))) (cond (decide ((IntKind.wrap .u64 (Int.tmod r4 8)) < 0)) none (cond (decide (0 ≤ (wrap .i64 (Int.tdiv r4 8))) && decide ((wrap .i64 (Int.tdiv r4 8)) < (out3.length : Int))) (cond (decide (0 ≤ (wrap .i64 (Int.tdiv r5 8))) && decide ((wrap .i64 (Int.tdiv r5 8)) < (((List.set out3 (Int.toNat (wrap .i64 (Int.tdiv r4 8))) (bits .or .u8 (nth out3 (wrap .i64 (Int.tdiv r4 8))) (IntKind.wrap .u8 (1 * (2 ^ (min (Int.toNat (IntKind.wrap .u64 (Int.tmod r4 8))) 8)))))).length : Nat) : Int))) (cond (decide ((IntKind.wrap .u64 (Int.tmod r5 8)) < 0)) none (cond (decide (0 ≤ (wrap .i64 (Int.tdiv r5 8))) && decide ((wrap .i64 (Int.tdiv r5 8)) < (((List.set out3 (Int.toNat (wrap .i64 (Int.tdiv r4 8))) (bits .or .u8 (nth out3 (wrap .i64 (Int.tdiv r4 8))) (IntKind.wrap .u8 (1 * (2 ^ (min (Int.toNat (IntKind.wrap .u64 (Int.tmod r4 8))) 8)))))).length : Nat) : Int))) (sFilter_L3 O q (keys1, (wrap .i64 (i2 + 1)), (List.set (List.set out3 (Int.toNat (wrap .i64 (Int.tdiv r4 8))) (bits .or .u8 (nth out3 (wrap .i64 (Int.tdiv r4 8))) (IntKind.wrap .u8 (1 * (2 ^ (min (Int.toNat (IntKind.wrap .u64 (Int.tmod r4 8))) 8)))))) (Int.toNat (wrap .i64 (Int.tdiv r5 8))) (bits .or .u8 (nth (List.set out3 (Int.toNat (wrap .i64 (Int.tdiv r4 8))) (bits .or .u8 (nth out3 (wrap .i64 (Int.tdiv r4 8))) (IntKind.wrap .u8 (1 * (2 ^ (min (Int.toNat (IntKind.wrap .u64 (Int.tmod r4 8))) 8)))))) (wrap .i64 (Int.tdiv r5 8))) (IntKind.wrap .u8 (1 * (2 ^ (min (Int.toNat (IntKind.wrap .u64 (Int.tmod r5 8))) 8))))))) x r) none)) none) none)) none)) none) (x out3))
def sFilter : (List (Tx)) → Option (List Int)
  | keys0 => (sFilter_L3 (List Int) fuel (keys0, 0, [0, 0, 0, 0, 0, 0, 0, 0]) (fun out6 => (some out6)) some)
def c_sFilter : Ctr := { args := [.val false (.sl .str)], rets := [(false, [(some 5, y4)])], F := sFilter }
def X_sFilter : Ctx := XT.withΓ (lk [(198, c_sMark)]) (lk [])
def L_sFilter_3 : LoopF c_sFilter.Res := ⟨⟨45, [(0, .one (.val (.sl .str))), (3, .one (.own 0)), (4, .one (.val y0))], [.arr 5 y10], []⟩, [(0, ⟨45, [(3, .one (.own 0))], [.arr 5 y10], []⟩)], sFilter_L3⟩
def T_sFilter : Nat → Option (LoopF c_sFilter.Res) := lk [(3, L_sFilter_3)]
theorem s_sFilter_3 : StepOk X_sFilter H0 (c_sFilter.finish X_sFilter Tryz.f171.results.toList) T_sFilter (loopAt Tryz.f171 0) := ⟨L_sFilter_3, by kernel_rfl, fun O y x r => by kernel_rfl, fun O k y x r => by kernel_rfl⟩
theorem r_sFilter (a) : fnRun X_sFilter H0 c_sFilter Tryz.f171 T_sFilter a = sFilter a := by kernel_rfl
theorem h_sFilter [Tabs] : CtrHolds Tryz.prog 171 c_sFilter := fn_ok (.cons h_sMark Tryz.call198 .nil) .nil Tryz.func171 (by kernel_rfl) (loops1 (by kernel_rfl) s_sFilter_3) r_sFilter
def sPutTable_L8 (O : Type) : Nat → (List (Tx × Tx × Bool) × Int × Int × List Int × List (Tx) × List Int) → ((List (Tx × Tx × Bool) × Int × List Int × List (Tx) × List Int) → Option O) → ((List Int) → Option O) → Option O
  | 0, _, _, _ => none
  | q + 1, (l3, blocks4, from5, out6, keys7, index8), x, r => (cond (decide (from5 < (l3.length : Int))) ((cond (decide ((wrap .i64 (from5 + 4)) > (l3.length : Int))) (some (l3, blocks4, from5, (l3.length : Int), out6, keys7, index8)) (some (l3, blocks4, from5, (wrap .i64 (from5 + 4)), out6, keys7, index8))).bind fun (l9, blocks10, from11, to12, out13, keys14, index15) => (cond (decide (0 ≤ (wrap .i64 (to12 - 1))) && decide ((wrap .i64 (to12 - 1)) < (l9.length : Int))) ((sPutText (index15, (nth l9 (wrap .i64 (to12 - 1))).1)).bind fun r16 => ((sPutNum (r16, (out13.length : Int))).bind fun r17 => (cond (decide (0 ≤ from11) && (decide (from11 ≤ to12) && decide (to12 ≤ (l9.length : Int)))) ((sl5Block (cut l9 from11 to12)).bind fun r18 => (cond (decide ((out13.length + r18.length) ≤ lenBound)) (sPutTable_L8 O q (l9, (wrap .i64 (blocks10 + 1)), (wrap .i64 (from11 + 4)), (out13 ++ r18), keys14, r17) x r) none)) none))) none)) (x (l3, blocks4, out6, keys7, index8)))
def sPutTable_L17 (O : Type) : Nat → (List (Tx × Tx × Bool) × Int × Int × List Int × List (Tx) × List Int) → ((Int × List Int × List (Tx) × List Int) → Option O) → ((List Int) → Option O) → Option O
  | 0, _, _, _ => none
  | q + 1, (l24, blocks25, i26, out27, keys28, index29), x, r => (cond (decide (i26 < (l24.length : Int))) (cond (decide (0 ≤ i26) && decide (i26 < (l24.length : Int))) (cond (decide ((keys28.length + [(nth l24 i26).1].length) ≤ lenBound)) (sPutTable_L17 O q (l24, blocks25, (wrap .i64 (i26 + 1)), out27, (keys28 ++ [(nth l24 i26).1]), index29) x r) none) none) (x (blocks25, out27, keys28, index29)))
def sPutTable : (List (Tx × Tx × Bool)) → Option (List Int)
  | l0 => ((sl4Rising l0).bind fun r1 => (cond (!r1) (some []) ((sl1In ((l0.length : Int), 1, 200)).bind fun r2 => (cond (!r2) (some []) (sPutTable_L8 (List Int) fuel (l0, 0, 0, [], [], []) (fun (l19, blocks20, out21, keys22, index23) => (sPutTable_L17 (List Int) fuel (l19, blocks20, 0, out21, keys22, index23) (fun (blocks30, out31, keys32, index33) => ((sPutNum ([], blocks30)).bind fun r34 => (cond (decide ((r34.length + index33.length) ≤ lenBound)) ((sFilter keys32).bind fun r35 => (cond (decide (((r34 ++ index33).length + r35.length) ≤ lenBound)) ((sFrame ((r34 ++ index33) ++ r35)).bind fun r36 => (cond (decide ((out31.length + r36.length) ≤ lenBound)) ((sl1Four (out31.length : Int)).bind fun r37 => (cond (decide (((out31 ++ r36).length + r37.length) ≤ lenBound)) (some ((out31 ++ r36) ++ r37)) none)) none)) none)) none))) some)) some)))))
def c_sPutTable : Ctr := { args := [.val false (.sl y1)], rets := [(false, [(some 5, y4)])], F := sPutTable }
def X_sPutTable : Ctx := XT.withΓ (lk [(167, c_sl4Rising), (108, c_sl1In), (169, c_sPutText), (168, c_sPutNum), (170, c_sl5Block), (171, c_sFilter), (172, c_sFrame), (173, c_sl1Four)]) (lk [])
def H_sPutTable : Hints := ⟨lk [(13, ⟨90, [(0, .one (.val (.sl y1))), (3, .one (.own 0)), (4, .one (.own 1)), (5, .one (.own 2)), (6, .one (.val y0)), (7, .one (.val y0)), (8, .one (.val y0))], [.arr 5 y10, .arr 9 .str, .arr 5 y10], []⟩)], lk [], lk []⟩
def L_sPutTable_8 : LoopF c_sPutTable.Res := ⟨⟨90, [(0, .one (.val (.sl y1))), (3, .one (.own 0)), (4, .one (.own 1)), (5, .one (.own 2)), (6, .one (.val y0)), (7, .one (.val y0))], [.arr 5 y10, .arr 9 .str, .arr 5 y10], []⟩, [(0, ⟨90, [(0, .one (.val (.sl y1))), (3, .one (.own 0)), (4, .one (.own 1)), (5, .one (.own 2)), (6, .one (.val y0))], [.arr 5 y10, .arr 9 .str, .arr 5 y10], []⟩)], sPutTable_L8⟩
def L_sPutTable_17 : LoopF c_sPutTable.Res := ⟨⟨90, [(0, .one (.val (.sl y1))), (3, .one (.own 0)), (4, .one (.own 1)), (5, .one (.own 2)), (6, .one (.val y0)), (9, .one (.val y0))], [.arr 5 y10, .arr 9 .str, .arr 5 y10], []⟩, [(2, ⟨90, [(3, .one (.own 0)), (4, .one (.own 1)), (5, .one (.own 2)), (6, .one (.val y0))], [.arr 5 y10, .arr 9 .str, .arr 5 y10], []⟩)], sPutTable_L17⟩
def T_sPutTable : Nat → Option (LoopF c_sPutTable.Res) := lk [(8, L_sPutTable_8), (17, L_sPutTable_17)]
theorem s_sPutTable_8 : StepOk X_sPutTable H_sPutTable (c_sPutTable.finish X_sPutTable Tryz.f135.results.toList) T_sPutTable (loopAt Tryz.f135 0) := ⟨L_sPutTable_8, by kernel_rfl, fun O y x r => by kernel_rfl, fun O k y x r => by kernel_rfl⟩
theorem s_sPutTable_17 : StepOk X_sPutTable H_sPutTable (c_sPutTable.finish X_sPutTable Tryz.f135.results.toList) T_sPutTable (loopAt Tryz.f135 1) := ⟨L_sPutTable_17, by kernel_rfl, fun O y x r => by kernel_rfl, fun O k y x r => by kernel_rfl⟩
theorem r_sPutTable (a) : fnRun X_sPutTable H_sPutTable c_sPutTable Tryz.f135 T_sPutTable a = sPutTable a := by kernel_rfl
theorem h_sPutTable [Tabs] : CtrHolds Tryz.prog 135 c_sPutTable := fn_ok (.cons h_sl4Rising Tryz.call167 (.cons h_sl1In Tryz.call108 (.cons h_sPutText Tryz.call169 (.cons h_sPutNum Tryz.call168 (.cons h_sl5Block Tryz.call170 (.cons h_sFilter Tryz.call171 (.cons h_sFrame Tryz.call172 (.cons h_sl1Four Tryz.call173 .nil)))))))) .nil Tryz.func135 (by kernel_rfl) (loops2 (by kernel_rfl) s_sPutTable_8 s_sPutTable_17) r_sPutTable
def sl5Same_L4 (O : Type) : Nat → (List Int × List Int × Int) → (Unit → Option O) → (Bool → Option O) → Option O
  | 0, _, _, _ => none
  | q + 1, (a2, b3, i4), x, r => (cond (decide (i4 < (a2.length : Int))) (cond (decide (0 ≤ i4) && decide (i4 < (a2.length : Int))) (cond (decide (0 ≤ i4) && decide (i4 < (b3.length : Int))) (cond ((nth a2 i4) != (nth b3 i4)) (r false) (sl5Same_L4 O q (a2, b3, (wrap .i64 (i4 + 1))) x r)) none) none) (x ()))
def sl5Same : (List Int × List Int) → Option Bool
  | (a0, b1) => (cond ((a0.length : Int) != (b1.length : Int)) (some false) (sl5Same_L4 Bool fuel (a0, b1, 0) (fun _ => (some true)) some))
def c_sl5Same : Ctr := { args := [.val false y4, .val false y4], rets := [(false, [(none, .bool)])], F := sl5Same }
def X_sl5Same : Ctx := XT.withΓ (lk []) (lk [])
def L_sl5Same_4 : LoopF c_sl5Same.Res := ⟨⟨26, [(0, .one (.val y4)), (1, .one (.val y4)), (5, .one (.val y0))], [], []⟩, [(0, ⟨26, [], [], []⟩)], sl5Same_L4⟩
def T_sl5Same : Nat → Option (LoopF c_sl5Same.Res) := lk [(4, L_sl5Same_4)]
theorem s_sl5Same_4 : StepOk X_sl5Same H0 (c_sl5Same.finish X_sl5Same Tryz.f134.results.toList) T_sl5Same (loopAt Tryz.f134 0) := ⟨L_sl5Same_4, by kernel_rfl, fun O y x r => by kernel_rfl, fun O k y x r => by kernel_rfl⟩
theorem r_sl5Same (a) : fnRun X_sl5Same H0 c_sl5Same Tryz.f134 T_sl5Same a = sl5Same a := by kernel_rfl
theorem h_sl5Same [Tabs] : CtrHolds Tryz.prog 134 c_sl5Same := fn_ok .nil .nil Tryz.func134 (by kernel_rfl) (loops1 (by kernel_rfl) s_sl5Same_4) r_sl5Same
def sTablePairs_L4 (O : Type) : Nat → (List Int × List Int × Bool × Int × List (Tx × Tx × Bool)) → ((List Int × Bool × List (Tx × Tx × Bool)) → Option O) → ((List (Tx × Tx × Bool) × Bool) → Option O) → Option O
  | 0, _, _, _ => none
  | q + 1, (b5, places6, ok7, i8, out9), x, r => (cond (decide (i8 < (places6.length : Int))) (cond ok7 (cond (decide (0 ≤ i8) && decide (i8 < (places6.length : Int))) ((sl5Pairs (b5, (nth places6 i8))).bind fun (r10, r11) => (cond (decide ((out9.length + r10.length) ≤ lenBound)) (sTablePairs_L4 O q (b5, places6, r11, (wrap .i64 (i8 + 1)), (out9 ++ r10)) x r) none)) none) (x (b5, ok7, out9))) (x (b5, ok7, out9)))
def sTablePairs : (List Int) → Option (List (Tx × Tx × Bool) × Bool)
  | b0 => ((sl5Index b0).bind fun (r1, r2, r3, r4) => (sTablePairs_L4 (List (List UInt8 × List UInt8 × Bool) × Bool) fuel (b0, r2, r4, 0, []) (fun (b12, ok13, out14) => (cond (!ok13) (some ([], false)) ((sPutTable out14).bind fun r15 => ((sl5Same (r15, b12)).bind fun r16 => (cond (!r16) (some ([], false)) (some (out14, true))))))) some))
def c_sTablePairs : Ctr := { args := [.val false y4], rets := [(false, [(some 93, (.sl y1))]), (false, [(none, .bool)])], F := sTablePairs }
def X_sTablePairs : Ctx := XT.withΓ (lk [(132, c_sl5Index), (133, c_sl5Pairs), (135, c_sPutTable), (134, c_sl5Same)]) (lk [])
def L_sTablePairs_4 : LoopF c_sTablePairs.Res := ⟨⟨53, [(0, .one (.val y4)), (5, .one (.val (.sl y0))), (7, .one (.val .bool)), (8, .one (.own 0)), (9, .one (.val y0))], [.arr 93 y1], []⟩, [(0, ⟨53, [(0, .one (.val y4)), (7, .one (.val .bool)), (8, .one (.own 0))], [.arr 93 y1], []⟩)], sTablePairs_L4⟩
def T_sTablePairs : Nat → Option (LoopF c_sTablePairs.Res) := lk [(4, L_sTablePairs_4)]
theorem s_sTablePairs_4 : StepOk X_sTablePairs H0 (c_sTablePairs.finish X_sTablePairs Tryz.f90.results.toList) T_sTablePairs (loopAt Tryz.f90 0) := ⟨L_sTablePairs_4, by kernel_rfl, fun O y x r => by kernel_rfl, fun O k y x r => by kernel_rfl⟩
theorem r_sTablePairs (a) : fnRun X_sTablePairs H0 c_sTablePairs Tryz.f90 T_sTablePairs a = sTablePairs a := by kernel_rfl
theorem h_sTablePairs [Tabs] : CtrHolds Tryz.prog 90 c_sTablePairs := fn_ok (.cons h_sl5Index Tryz.call132 (.cons h_sl5Pairs Tryz.call133 (.cons h_sPutTable Tryz.call135 (.cons h_sl5Same Tryz.call134 .nil)))) .nil Tryz.func90 (by kernel_rfl) (loops1 (by kernel_rfl) s_sTablePairs_4) r_sTablePairs
def sl7Tables_L2 (O : Type) : Nat → (Int × List (Int × List Int × Int) × List (Tx × Int) × List (Tx × Int) × Int × Int × Int × List (Int × Int × Tx × Tx)) → (Unit → Option O) → (Bool → Option O) → Option O
  | 0, _, _, _ => none
  | q + 1, (i7, d8, d9, d10, d11, m12, m13, m14), x, r => (cond (decide (i7 < (m14.length : Int))) (cond (decide (0 ≤ i7) && decide (i7 < (m14.length : Int))) ((sl7Tab (nth m14 i7).1).bind fun r15 => ((sBytes ((d8, d9, d10, d11), r15)).bind fun (r16, r17) => ((sTablePairs r16).bind fun (r18, r19) => (cond (!r17) (r false) (cond (!r19) (r false) (cond (decide (0 < (r18.length : Int))) (cond (!((List.getD r18 0 ([], [], false)).1 == (nth m14 i7).2.2.1)) (r false) (cond (decide (0 ≤ (wrap .i64 ((r18.length : Int) - 1))) && decide ((wrap .i64 ((r18.length : Int) - 1)) < (r18.length : Int))) (cond (!((nth r18 (wrap .i64 ((r18.length : Int) - 1))).1 == (nth m14 i7).2.2.2)) (r false) (sl7Tables_L2 O q ((wrap .i64 (i7 + 1)), d8, d9, d10, d11, m12, m13, m14) x r)) none)) none)))))) none) (x ()))
def sl7Tables : ((List (Int × List Int × Int) × List (Tx × Int) × List (Tx × Int) × Int) × Int × Int × List (Int × Int × Tx × Tx)) → Option Bool
  | ((d0, d1, d2, d3), m4, m5, m6) => (sl7Tables_L2 Bool fuel (0, d0, d1, d2, d3, m4, m5, m6) (fun _ => (some true)) some)
def c_sl7Tables : Ctr := { args := [.val true y3, .val true y9], rets := [(false, [(none, .bool)])], F := sl7Tables }
def X_sl7Tables : Ctx := XT.withΓ (lk [(89, c_sl7Tab), (25, c_sBytes), (90, c_sTablePairs)]) (lk [])
def L_sl7Tables_2 : LoopF c_sl7Tables.Res := ⟨⟨63, [(2, .one (.ptr 0 0)), (3, .one (.ptr 1 0)), (5, .one (.val y0))], [.vars 35 [.val y7, .val y5, .val y5, .val y0], .vars 29 [.val y0, .val y0, .val (.sl y2)]], []⟩, [(0, ⟨63, [], [], []⟩)], sl7Tables_L2⟩
def T_sl7Tables : Nat → Option (LoopF c_sl7Tables.Res) := lk [(2, L_sl7Tables_2)]
theorem s_sl7Tables_2 : StepOk X_sl7Tables H0 (c_sl7Tables.finish X_sl7Tables Tryz.f86.results.toList) T_sl7Tables (loopAt Tryz.f86 0) := ⟨L_sl7Tables_2, by kernel_rfl, fun O y x r => by kernel_rfl, fun O k y x r => by kernel_rfl⟩
theorem r_sl7Tables (a) : fnRun X_sl7Tables H0 c_sl7Tables Tryz.f86 T_sl7Tables a = sl7Tables a := by kernel_rfl
theorem h_sl7Tables [Tabs] : CtrHolds Tryz.prog 86 c_sl7Tables := fn_ok (.cons h_sl7Tab Tryz.call89 (.cons h_sBytes Tryz.call25 (.cons h_sTablePairs Tryz.call90 .nil))) .nil Tryz.func86 (by kernel_rfl) (loops1 (by kernel_rfl) s_sl7Tables_2) r_sl7Tables
def sStoreOk : ((List (Int × List Int × Int) × List (Tx × Int) × List (Tx × Int) × Int) × List ((Tx × Tx × Bool) × Int) × Int × Int × List (Int × Int × Tx × Tx)) → Option Bool
  | ((s0, s1, s2, s3), s4, s5, s6, s7) => ((sDiskOk (s0, s1, s2, s3)).bind fun r8 => (cond (!r8) (some false) ((sMemOk s4).bind fun r9 => (cond (!r9) (some false) ((sManOk (s5, s6, s7)).bind fun r10 => (cond (!r10) (some false) ((sCurrent (s0, s1, s2, s3)).bind fun ((r11, r12, r13), r14) => ((sl7Log s6).bind fun r15 => ((sBytes ((s0, s1, s2, s3), r15)).bind fun (r16, r17) => ((sRecords r16).bind fun (r18, r19) => ((sl7Mem r18).bind fun (r20, r21) => (cond r14 ((sManText (r11, r12, r13)).bind fun r22 => ((sManText (s5, s6, s7)).bind fun r23 => (cond (r22 == r23) (cond r17 (cond (r19 == (r16.length : Int)) (cond r21 ((sl7SameMem (r20, s4)).bind fun r24 => (cond r24 ((sl7Tables ((s0, s1, s2, s3), s5, s6, s7)).bind fun r25 => (some r25)) (some false))) (some false)) (some false)) (some false)) (some false)))) (some false)))))))))))))
def c_sStoreOk : Ctr := { args := [.val true (.pair y3 (.pair y6 y9))], rets := [(false, [(none, .bool)])], F := sStoreOk }
def X_sStoreOk : Ctx := XT.withΓ (lk [(80, c_sDiskOk), (81, c_sMemOk), (62, c_sManOk), (6, c_sCurrent), (82, c_sl7Log), (25, c_sBytes), (83, c_sRecords), (84, c_sl7Mem), (63, c_sManText), (85, c_sl7SameMem), (86, c_sl7Tables)]) (lk [])
theorem r_sStoreOk (a) : fnRun X_sStoreOk H0 c_sStoreOk Tryz.f40 T0 a = sStoreOk a := by kernel_rfl
theorem h_sStoreOk [Tabs] : CtrHolds Tryz.prog 40 c_sStoreOk := fn_ok (.cons h_sDiskOk Tryz.call80 (.cons h_sMemOk Tryz.call81 (.cons h_sManOk Tryz.call62 (.cons h_sCurrent Tryz.call6 (.cons h_sl7Log Tryz.call82 (.cons h_sBytes Tryz.call25 (.cons h_sRecords Tryz.call83 (.cons h_sl7Mem Tryz.call84 (.cons h_sManText Tryz.call63 (.cons h_sl7SameMem Tryz.call85 (.cons h_sl7Tables Tryz.call86 .nil))))))))))) .nil Tryz.func40 (by kernel_rfl) (loops0 (by kernel_rfl)) r_sStoreOk
def sl7MemPairs_L3 (O : Type) : Nat → (Int × List ((Tx × Tx × Bool) × Int) × List (Tx × Tx × Bool)) → ((List (Tx × Tx × Bool)) → Option O) → ((List (Tx × Tx × Bool)) → Option O) → Option O
  | 0, _, _, _ => none
  | q + 1, (i1, m2, out3), x, r => (cond (decide (i1 < (m2.length : Int))) (cond (decide (0 ≤ i1) && decide (i1 < (m2.length : Int))) (cond (decide ((out3.length + [((nth m2 i1).1.1, (nth m2 i1).1.2.1, (nth m2 i1).1.2.2)].length) ≤ lenBound)) (sl7MemPairs_L3 O q ((wrap .i64 (i1 + 1)), m2, (out3 ++ [((nth m2 i1).1.1, (nth m2 i1).1.2.1, (nth m2 i1).1.2.2)])) x r) none) none) (x out3))
def sl7MemPairs : (List ((Tx × Tx × Bool) × Int)) → Option (List (Tx × Tx × Bool))
  | m0 => (sl7MemPairs_L3 (List (List UInt8 × List UInt8 × Bool)) fuel (0, m0, []) (fun out4 => (some out4)) some)
def c_sl7MemPairs : Ctr := { args := [.val true y6], rets := [(false, [(some 93, (.sl y1))])], F := sl7MemPairs }
def X_sl7MemPairs : Ctx := XT.withΓ (lk []) (lk [])
def L_sl7MemPairs_3 : LoopF c_sl7MemPairs.Res := ⟨⟨23, [(1, .one (.ptr 0 0)), (3, .one (.own 1)), (4, .one (.val y0))], [.vars 55 [.val y6], .arr 93 y1], []⟩, [(0, ⟨23, [(3, .one (.own 0))], [.arr 93 y1], []⟩)], sl7MemPairs_L3⟩
def T_sl7MemPairs : Nat → Option (LoopF c_sl7MemPairs.Res) := lk [(3, L_sl7MemPairs_3)]
theorem s_sl7MemPairs_3 : StepOk X_sl7MemPairs H0 (c_sl7MemPairs.finish X_sl7MemPairs Tryz.f87.results.toList) T_sl7MemPairs (loopAt Tryz.f87 0) := ⟨L_sl7MemPairs_3, by kernel_rfl, fun O y x r => by kernel_rfl, fun O k y x r => by kernel_rfl⟩
theorem r_sl7MemPairs (a) : fnRun X_sl7MemPairs H0 c_sl7MemPairs Tryz.f87 T_sl7MemPairs a = sl7MemPairs a := by kernel_rfl
theorem h_sl7MemPairs [Tabs] : CtrHolds Tryz.prog 87 c_sl7MemPairs := fn_ok .nil .nil Tryz.func87 (by kernel_rfl) (loops1 (by kernel_rfl) s_sl7MemPairs_3) r_sl7MemPairs
def sl7Order_L3 (O : Type) : Nat → (Int × Int × Int × List (Int × Int × Tx × Tx) × List (Int × Int × Tx × Tx)) → ((Int × Int × List (Int × Int × Tx × Tx) × List (Int × Int × Tx × Tx)) → Option O) → ((List (Int × Int × Tx × Tx)) → Option O) → Option O
  | 0, _, _, _ => none
  | q + 1, (i3, m4, m5, m6, out7), x, r => (cond (decide (i3 ≥ 0)) (cond (decide (0 ≤ i3) && decide (i3 < (m6.length : Int))) (cond ((nth m6 i3).2.1 == 0) (cond (decide (0 ≤ i3) && decide (i3 < (m6.length : Int))) (cond (decide ((out7.length + [((nth m6 i3).1, (nth m6 i3).2.1, (nth m6 i3).2.2.1, (nth m6 i3).2.2.2)].length) ≤ lenBound)) (sl7Order_L3 O q ((wrap .i64 (i3 - 1)), m4, m5, m6, (out7 ++ [((nth m6 i3).1, (nth m6 i3).2.1, (nth m6 i3).2.2.1, (nth m6 i3).2.2.2)])) x r) none) none) (sl7Order_L3 O q ((wrap .i64 (i3 - 1)), m4, m5, m6, out7) x r)) none) (x (m4, m5, m6, out7)))
def sl7Order_L11 (O : Type) : Nat → (Int × Int × Int × Int × List (Int × Int × Tx × Tx) × List (Int × Int × Tx × Tx)) → ((Int × Int × Int × List (Int × Int × Tx × Tx) × List (Int × Int × Tx × Tx)) → Option O) → ((List (Int × Int × Tx × Tx)) → Option O) → Option O
  | 0, _, _, _ => none
  | q + 1, (level17, i18, m19, m20, m21, out22), x, r => (cond (decide (i18 < (m21.length : Int))) (cond (decide (0 ≤ i18) && decide (i18 < (m21.length : Int))) (cond ((nth m21 i18).2.1 == level17) (cond (decide (0 ≤ i18) && decide (i18 < (m21.length : Int))) (cond (decide ((out22.length + [((nth m21 i18).1, (nth m21 i18).2.1, (nth m21 i18).2.2.1, (nth m21 i18).2.2.2)].length) ≤ lenBound)) (sl7Order_L11 O q (level17, (wrap .i64 (i18 + 1)), m19, m20, m21, (out22 ++ [((nth m21 i18).1, (nth m21 i18).2.1, (nth m21 i18).2.2.1, (nth m21 i18).2.2.2)])) x r) none) none) (sl7Order_L11 O q (level17, (wrap .i64 (i18 + 1)), m19, m20, m21, out22) x r)) none) (x (level17, m19, m20, m21, out22)))
def sl7Order_L8 (O : Type) : Nat → (Int × Int × Int × List (Int × Int × Tx × Tx) × List (Int × Int × Tx × Tx)) → ((List (Int × Int × Tx × Tx)) → Option O) → ((List (Int × Int × Tx × Tx)) → Option O) → Option O
  | 0, _, _, _ => none
  | q + 1, (level12, m13, m14, m15, out16), x, r => (cond (decide (level12 ≤ 3)) (sl7Order_L11 O fuel (level12, 0, m13, m14, m15, out16) (fun (level23, m24, m25, m26, out27) => (sl7Order_L8 O q ((wrap .i64 (level23 + 1)), m24, m25, m26, out27) x r)) r) (x out16))
def sl7Order : (Int × Int × List (Int × Int × Tx × Tx)) → Option (List (Int × Int × Tx × Tx))
  | (m0, m1, m2) => (sl7Order_L3 (List (Int × Int × List UInt8 × List UInt8)) fuel ((wrap .i64 ((m2.length : Int) - 1)), m0, m1, m2, []) (fun (m8, m9, m10, out11) => (sl7Order_L8 (List (Int × Int × List UInt8 × List UInt8)) fuel (1, m8, m9, m10, out11) (fun out28 => (some out28)) some)) some)
def c_sl7Order : Ctr := { args := [.val true y9], rets := [(false, [(some 88, (.sl y2))])], F := sl7Order }
def X_sl7Order : Ctx := XT.withΓ (lk []) (lk [])
def L_sl7Order_3 : LoopF c_sl7Order.Res := ⟨⟨59, [(1, .one (.ptr 0 0)), (3, .one (.own 1)), (4, .one (.val y0))], [.vars 29 [.val y0, .val y0, .val (.sl y2)], .arr 88 y2], []⟩, [(0, ⟨59, [(1, .one (.ptr 0 0)), (3, .one (.own 1))], [.vars 29 [.val y0, .val y0, .val (.sl y2)], .arr 88 y2], []⟩)], sl7Order_L3⟩
def L_sl7Order_8 : LoopF c_sl7Order.Res := ⟨⟨59, [(1, .one (.ptr 0 0)), (3, .one (.own 1)), (5, .one (.val y0))], [.vars 29 [.val y0, .val y0, .val (.sl y2)], .arr 88 y2], []⟩, [(2, ⟨59, [(3, .one (.own 0))], [.arr 88 y2], []⟩)], sl7Order_L8⟩
def L_sl7Order_11 : LoopF c_sl7Order.Res := ⟨⟨59, [(1, .one (.ptr 0 0)), (3, .one (.own 1)), (5, .one (.val y0)), (6, .one (.val y0))], [.vars 29 [.val y0, .val y0, .val (.sl y2)], .arr 88 y2], []⟩, [(4, ⟨59, [(1, .one (.ptr 0 0)), (3, .one (.own 1)), (5, .one (.val y0))], [.vars 29 [.val y0, .val y0, .val (.sl y2)], .arr 88 y2], []⟩)], sl7Order_L11⟩
def T_sl7Order : Nat → Option (LoopF c_sl7Order.Res) := lk [(3, L_sl7Order_3), (8, L_sl7Order_8), (11, L_sl7Order_11)]
theorem s_sl7Order_3 : StepOk X_sl7Order H0 (c_sl7Order.finish X_sl7Order Tryz.f88.results.toList) T_sl7Order (loopAt Tryz.f88 0) := ⟨L_sl7Order_3, by kernel_rfl, fun O y x r => by kernel_rfl, fun O k y x r => by kernel_rfl⟩
theorem s_sl7Order_8 : StepOk X_sl7Order H0 (c_sl7Order.finish X_sl7Order Tryz.f88.results.toList) T_sl7Order (loopAt Tryz.f88 1) := ⟨L_sl7Order_8, by kernel_rfl, fun O y x r => by kernel_rfl, fun O k y x r => by kernel_rfl⟩
theorem s_sl7Order_11 : StepOk X_sl7Order H0 (c_sl7Order.finish X_sl7Order Tryz.f88.results.toList) T_sl7Order (loopAt Tryz.f88 2) := ⟨L_sl7Order_11, by kernel_rfl, fun O y x r => by kernel_rfl, fun O k y x r => by kernel_rfl⟩
theorem r_sl7Order (a) : fnRun X_sl7Order H0 c_sl7Order Tryz.f88 T_sl7Order a = sl7Order a := by kernel_rfl
theorem h_sl7Order [Tabs] : CtrHolds Tryz.prog 88 c_sl7Order := fn_ok .nil .nil Tryz.func88 (by kernel_rfl) (loops3 (by kernel_rfl) s_sl7Order_3 s_sl7Order_8 s_sl7Order_11) r_sl7Order
def sl4Merge_L4 (O : Type) : Nat → (List (Tx × Tx × Bool) × List (Tx × Tx × Bool) × Int × Int × List (Tx × Tx × Bool)) → ((List (Tx × Tx × Bool)) → Option O) → ((List (Tx × Tx × Bool)) → Option O) → Option O
  | 0, _, _, _ => none
  | q + 1, (a2, b3, i4, k5, out6), x, r => (((cond (decide (i4 < (a2.length : Int))) (some (Sum.inl (a2, b3, i4, k5, out6))) (cond (decide (k5 < (b3.length : Int))) (some (Sum.inl (a2, b3, i4, k5, out6))) ((x out6).map Sum.inr))) : Option ((List (List UInt8 × List UInt8 × Bool) × List (List UInt8 × List UInt8 × Bool) × Int × Int × List (List UInt8 × List UInt8 × Bool)) ⊕ O)).bind fun z => match z with | .inl (a7, b8, i9, k10, out11) => ((cond (k10 == (b8.length : Int)) (some (a7, b8, i9, k10, true, out11)) (cond (decide (i9 < (a7.length : Int))) (cond (decide (0 ≤ i9) && decide (i9 < (a7.length : Int))) (cond (decide (0 ≤ k10) && decide (k10 < (b8.length : Int))) (some (a7, b8, i9, k10, (Op.bytesLess (nth a7 i9).1 (nth b8 k10).1), out11)) none) none) (some (a7, b8, i9, k10, false, out11)))).bind fun (a12, b13, i14, k15, v16, out17) => (cond v16 (cond (decide (0 ≤ i14) && decide (i14 < (a12.length : Int))) (cond (decide ((out17.length + [((nth a12 i14).1, (nth a12 i14).2.1, (nth a12 i14).2.2)].length) ≤ lenBound)) (sl4Merge_L4 O q (a12, b13, (wrap .i64 (i14 + 1)), k15, (out17 ++ [((nth a12 i14).1, (nth a12 i14).2.1, (nth a12 i14).2.2)])) x r) none) none) ((cond (i14 == (a12.length : Int)) (some (a12, b13, i14, k15, true, out17)) (cond (decide (0 ≤ k15) && decide (k15 < (b13.length : Int))) (cond (decide (0 ≤ i14) && decide (i14 < (a12.length : Int))) (some (a12, b13, i14, k15, (Op.bytesLess (nth b13 k15).1 (nth a12 i14).1), out17)) none) none)).bind fun (a18, b19, i20, k21, v22, out23) => (cond v22 (cond (decide (0 ≤ k21) && decide (k21 < (b19.length : Int))) (cond (decide ((out23.length + [((nth b19 k21).1, (nth b19 k21).2.1, (nth b19 k21).2.2)].length) ≤ lenBound)) (sl4Merge_L4 O q (a18, b19, i20, (wrap .i64 (k21 + 1)), (out23 ++ [((nth b19 k21).1, (nth b19 k21).2.1, (nth b19 k21).2.2)])) x r) none) none) (cond (decide (0 ≤ i20) && decide (i20 < (a18.length : Int))) (cond (decide ((out23.length + [((nth a18 i20).1, (nth a18 i20).2.1, (nth a18 i20).2.2)].length) ≤ lenBound)) (sl4Merge_L4 O q (a18, b19, (wrap .i64 (i20 + 1)), (wrap .i64 (k21 + 1)), (out23 ++ [((nth a18 i20).1, (nth a18 i20).2.1, (nth a18 i20).2.2)])) x r) none) none))))) | .inr o => some o)
def sl4Merge : (List (Tx × Tx × Bool) × List (Tx × Tx × Bool)) → Option (List (Tx × Tx × Bool))
  | (a0, b1) => (sl4Merge_L4 (List (List UInt8 × List UInt8 × Bool)) fuel (a0, b1, 0, 0, []) (fun out24 => (some out24)) some)
def c_sl4Merge : Ctr := { args := [.val false (.sl y1), .val false (.sl y1)], rets := [(false, [(some 93, (.sl y1))])], F := sl4Merge }
def X_sl4Merge : Ctx := XT.withΓ (lk []) (lk [])
def H_sl4Merge : Hints := ⟨lk [(9, ⟨91, [(0, .one (.val (.sl y1))), (1, .one (.val (.sl y1))), (5, .one (.own 0)), (6, .one (.val y0)), (7, .one (.val y0)), (30, .one (.val .bool))], [.arr 93 y1], []⟩), (12, ⟨91, [(0, .one (.val (.sl y1))), (1, .one (.val (.sl y1))), (5, .one (.own 0)), (6, .one (.val y0)), (7, .one (.val y0)), (63, .one (.val .bool))], [.arr 93 y1], []⟩)], lk [(8, ⟨91, [(0, .one (.val (.sl y1))), (1, .one (.val (.sl y1))), (5, .one (.own 0)), (6, .one (.val y0)), (7, .one (.val y0))], [.arr 93 y1], []⟩)], lk []⟩
def L_sl4Merge_4 : LoopF c_sl4Merge.Res := ⟨⟨91, [(0, .one (.val (.sl y1))), (1, .one (.val (.sl y1))), (5, .one (.own 0)), (6, .one (.val y0)), (7, .one (.val y0))], [.arr 93 y1], []⟩, [(0, ⟨91, [(5, .one (.own 0))], [.arr 93 y1], []⟩)], sl4Merge_L4⟩
def T_sl4Merge : Nat → Option (LoopF c_sl4Merge.Res) := lk [(4, L_sl4Merge_4)]
theorem s_sl4Merge_4 : StepOk X_sl4Merge H_sl4Merge (c_sl4Merge.finish X_sl4Merge Tryz.f91.results.toList) T_sl4Merge (loopAt Tryz.f91 0) := ⟨L_sl4Merge_4, by kernel_rfl, fun O y x r => by kernel_rfl, fun O k y x r => by kernel_rfl⟩
theorem r_sl4Merge (a) : fnRun X_sl4Merge H_sl4Merge c_sl4Merge Tryz.f91 T_sl4Merge a = sl4Merge a := by kernel_rfl
theorem h_sl4Merge [Tabs] : CtrHolds Tryz.prog 91 c_sl4Merge := fn_ok .nil .nil Tryz.func91 (by kernel_rfl) (loops1 (by kernel_rfl) s_sl4Merge_4) r_sl4Merge
def sl7All_L4 (O : Type) : Nat → (Int × List (Int × List Int × Int) × List (Tx × Int) × List (Tx × Int) × Int × List ((Tx × Tx × Bool) × Int) × Int × Int × List (Int × Int × Tx × Tx) × List (Tx × Tx × Bool) × List (Int × Int × Tx × Tx)) → ((List (Tx × Tx × Bool)) → Option O) → ((List (Tx × Tx × Bool)) → Option O) → Option O
  | 0, _, _, _ => none
  | q + 1, (i10, s11, s12, s13, s14, s15, s16, s17, s18, out19, l20), x, r => (cond (decide (i10 < (l20.length : Int))) (cond (decide (0 ≤ i10) && decide (i10 < (l20.length : Int))) ((sl7Tab (nth l20 i10).1).bind fun r21 => ((sBytes ((s11, s12, s13, s14), r21)).bind fun (r22, r23) => ((sTablePairs r22).bind fun (r24, r25) => ((sl4Merge (out19, r24)).bind fun r26 => (sl7All_L4 O q ((wrap .i64 (i10 + 1)), s11, s12, s13, s14, s15, s16, s17, s18, r26, l20) x r))))) none) (x out19))
def sl7All : ((List (Int × List Int × Int) × List (Tx × Int) × List (Tx × Int) × Int) × List ((Tx × Tx × Bool) × Int) × Int × Int × List (Int × Int × Tx × Tx)) → Option (List (Tx × Tx × Bool))
  | ((s0, s1, s2, s3), s4, s5, s6, s7) => ((sl7MemPairs s4).bind fun r8 => ((sl7Order (s5, s6, s7)).bind fun r9 => (sl7All_L4 (List (List UInt8 × List UInt8 × Bool)) fuel (0, s0, s1, s2, s3, s4, s5, s6, s7, r8, r9) (fun out27 => (some out27)) some)))
def c_sl7All : Ctr := { args := [.val true (.pair y3 (.pair y6 y9))], rets := [(false, [(some 93, (.sl y1))])], F := sl7All }
def X_sl7All : Ctx := XT.withΓ (lk [(87, c_sl7MemPairs), (88, c_sl7Order), (89, c_sl7Tab), (25, c_sBytes), (90, c_sTablePairs), (91, c_sl4Merge)]) (lk [])
def L_sl7All_4 : LoopF c_sl7All.Res := ⟨⟨43, [(1, .one (.ptr 0 0)), (3, .one (.own 1)), (4, .one (.own 2)), (5, .one (.val y0))], [.vars 57 [.val y7, .val y5, .val y5, .val y0, .val y6, .val y0, .val y0, .val (.sl y2)], .arr 93 y1, .arr 88 y2], []⟩, [(0, ⟨43, [(3, .one (.own 0))], [.arr 93 y1], []⟩)], sl7All_L4⟩
def T_sl7All : Nat → Option (LoopF c_sl7All.Res) := lk [(4, L_sl7All_4)]
theorem s_sl7All_4 : StepOk X_sl7All H0 (c_sl7All.finish X_sl7All Tryz.f42.results.toList) T_sl7All (loopAt Tryz.f42 0) := ⟨L_sl7All_4, by kernel_rfl, fun O y x r => by kernel_rfl, fun O k y x r => by kernel_rfl⟩
theorem r_sl7All (a) : fnRun X_sl7All H0 c_sl7All Tryz.f42 T_sl7All a = sl7All a := by kernel_rfl
theorem h_sl7All [Tabs] : CtrHolds Tryz.prog 42 c_sl7All := fn_ok (.cons h_sl7MemPairs Tryz.call87 (.cons h_sl7Order Tryz.call88 (.cons h_sl7Tab Tryz.call89 (.cons h_sBytes Tryz.call25 (.cons h_sTablePairs Tryz.call90 (.cons h_sl4Merge Tryz.call91 .nil)))))) .nil Tryz.func42 (by kernel_rfl) (loops1 (by kernel_rfl) s_sl7All_4) r_sl7All
def sl4There_L3 (O : Type) : Nat → (List (Tx × Tx × Bool) × Int × List (Tx × Tx × Bool)) → ((List (Tx × Tx × Bool)) → Option O) → ((List (Tx × Tx × Bool)) → Option O) → Option O
  | 0, _, _, _ => none
  | q + 1, (l1, i2, out3), x, r => (cond (decide (i2 < (l1.length : Int))) (cond (decide (0 ≤ i2) && decide (i2 < (l1.length : Int))) (cond (!(nth l1 i2).2.2) (cond (decide (0 ≤ i2) && decide (i2 < (l1.length : Int))) (cond (decide ((out3.length + [((nth l1 i2).1, (nth l1 i2).2.1, (nth l1 i2).2.2)].length) ≤ lenBound)) (sl4There_L3 O q (l1, (wrap .i64 (i2 + 1)), (out3 ++ [((nth l1 i2).1, (nth l1 i2).2.1, (nth l1 i2).2.2)])) x r) none) none) (sl4There_L3 O q (l1, (wrap .i64 (i2 + 1)), out3) x r)) none) (x out3))
def sl4There : (List (Tx × Tx × Bool)) → Option (List (Tx × Tx × Bool))
  | l0 => (sl4There_L3 (List (List UInt8 × List UInt8 × Bool)) fuel (l0, 0, []) (fun out4 => (some out4)) some)
def c_sl4There : Ctr := { args := [.val false (.sl y1)], rets := [(false, [(some 93, (.sl y1))])], F := sl4There }
def X_sl4There : Ctx := XT.withΓ (lk []) (lk [])
def L_sl4There_3 : LoopF c_sl4There.Res := ⟨⟨26, [(0, .one (.val (.sl y1))), (3, .one (.own 0)), (4, .one (.val y0))], [.arr 93 y1], []⟩, [(0, ⟨26, [(3, .one (.own 0))], [.arr 93 y1], []⟩)], sl4There_L3⟩
def T_sl4There : Nat → Option (LoopF c_sl4There.Res) := lk [(3, L_sl4There_3)]
theorem s_sl4There_3 : StepOk X_sl4There H0 (c_sl4There.finish X_sl4There Tryz.f41.results.toList) T_sl4There (loopAt Tryz.f41 0) := ⟨L_sl4There_3, by kernel_rfl, fun O y x r => by kernel_rfl, fun O k y x r => by kernel_rfl⟩
theorem r_sl4There (a) : fnRun X_sl4There H0 c_sl4There Tryz.f41 T_sl4There a = sl4There a := by kernel_rfl
theorem h_sl4There [Tabs] : CtrHolds Tryz.prog 41 c_sl4There := fn_ok .nil .nil Tryz.func41 (by kernel_rfl) (loops1 (by kernel_rfl) s_sl4There_3) r_sl4There
def sScan : ((List (Int × List Int × Int) × List (Tx × Int) × List (Tx × Int) × Int) × List ((Tx × Tx × Bool) × Int) × Int × Int × List (Int × Int × Tx × Tx)) → Option (List (Tx × Tx × Bool))
  | ((s0, s1, s2, s3), s4, s5, s6, s7) => ((sStoreOk ((s0, s1, s2, s3), s4, s5, s6, s7)).bind fun r8 => (cond (!r8) (some []) ((sl7All ((s0, s1, s2, s3), s4, s5, s6, s7)).bind fun r9 => ((sl4There r9).bind fun r10 => (some r10)))))
def c_sScan : Ctr := { args := [.val true (.pair y3 (.pair y6 y9))], rets := [(false, [(some 93, (.sl y1))])], F := sScan }
def X_sScan : Ctx := XT.withΓ (lk [(40, c_sStoreOk), (42, c_sl7All), (41, c_sl4There)]) (lk [])
theorem r_sScan (a) : fnRun X_sScan H0 c_sScan Tryz.f15 T0 a = sScan a := by kernel_rfl
theorem h_sScan [Tabs] : CtrHolds Tryz.prog 15 c_sScan := fn_ok (.cons h_sStoreOk Tryz.call40 (.cons h_sl7All Tryz.call42 (.cons h_sl4There Tryz.call41 .nil))) .nil Tryz.func15 (by kernel_rfl) (loops0 (by kernel_rfl)) r_sScan
def iPairOk : (Tx × Tx × Bool) → Option Bool
  | (p0, p1, p2) => ((ikeyOk p0).bind fun r3 => (cond r3 (cond (decide ((p1.length : Int) ≤ 20)) (cond (!p2) (some true) (some (p1 == []))) (some false)) (some false)))
def c_iPairOk : Ctr := { args := [.val true y1], rets := [(false, [(none, .bool)])], F := iPairOk }
def X_iPairOk : Ctx := XT.withΓ (lk [(175, c_ikeyOk)]) (lk [])
theorem r_iPairOk (a) : fnRun X_iPairOk H0 c_iPairOk Tryz.f138 T0 a = iPairOk a := by kernel_rfl
theorem h_iPairOk [Tabs] : CtrHolds Tryz.prog 138 c_iPairOk := fn_ok (.cons h_ikeyOk Tryz.call175 .nil) .nil Tryz.func138 (by kernel_rfl) (loops0 (by kernel_rfl)) r_iPairOk
def iMemOk_L2 (O : Type) : Nat → (List ((Tx × Tx × Bool) × Int) × Int × Int × List ((Tx × Tx × Bool) × Int)) → ((List ((Tx × Tx × Bool) × Int)) → Option O) → (Bool → Option O) → Option O
  | 0, _, _, _ => none
  | q + 1, (v1, v2, v3, m4), x, r => (cond (decide (v3 < v2)) (cond (decide (0 ≤ v3) && decide (v3 < (v1.length : Int))) ((iPairOk ((nth v1 v3).1.1, (nth v1 v3).1.2.1, (nth v1 v3).1.2.2)).bind fun r5 => (cond (!r5) (r false) ((iin ((nth v1 v3).2, 1, 4)).bind fun r6 => (cond (!r6) (r false) (cond (decide (v3 > 0)) (cond (decide (0 ≤ (wrap .i64 (v3 - 1))) && decide ((wrap .i64 (v3 - 1)) < (m4.length : Int))) (cond (!(Op.bytesLess (nth m4 (wrap .i64 (v3 - 1))).1.1 (nth v1 v3).1.1)) (r false) (iMemOk_L2 O q (v1, v2, (wrap .i64 (v3 + 1)), m4) x r)) none) (iMemOk_L2 O q (v1, v2, (wrap .i64 (v3 + 1)), m4) x r)))))) none) (x m4))
def iMemOk : (List ((Tx × Tx × Bool) × Int)) → Option Bool
  | m0 => (iMemOk_L2 Bool fuel (m0, (m0.length : Int), 0, m0) (fun m7 => (some (decide ((m7.length : Int) ≤ 60)))) some)
def c_iMemOk : Ctr := { args := [.val true y6], rets := [(false, [(none, .bool)])], F := iMemOk }
def X_iMemOk : Ctx := XT.withΓ (lk [(138, c_iPairOk), (114, c_iin)]) (lk [])
def L_iMemOk_2 : LoopF c_iMemOk.Res := ⟨⟨46, [(1, .one (.ptr 0 0)), (6, .one (.val y6)), (7, .one (.val y0)), (8, .one (.val y0))], [.vars 55 [.val y6]], []⟩, [(0, ⟨46, [(1, .one (.ptr 0 0))], [.vars 55 [.val y6]], []⟩)], iMemOk_L2⟩
def T_iMemOk : Nat → Option (LoopF c_iMemOk.Res) := lk [(2, L_iMemOk_2)]
theorem s_iMemOk_2 : StepOk X_iMemOk H0 (c_iMemOk.finish X_iMemOk Tryz.f94.results.toList) T_iMemOk (loopAt Tryz.f94 0) := ⟨L_iMemOk_2, by kernel_rfl, fun O y x r => by kernel_rfl, fun O k y x r => by kernel_rfl⟩
theorem r_iMemOk (a) : fnRun X_iMemOk H0 c_iMemOk Tryz.f94 T_iMemOk a = iMemOk a := by kernel_rfl
theorem h_iMemOk [Tabs] : CtrHolds Tryz.prog 94 c_iMemOk := fn_ok (.cons h_iPairOk Tryz.call138 (.cons h_iin Tryz.call114 .nil)) .nil Tryz.func94 (by kernel_rfl) (loops1 (by kernel_rfl) s_iMemOk_2) r_iMemOk
def ilogName : Int → Option (Tx)
  | n0 => ((xItoa n0).bind fun r1 => (cond (decide ((4 + r1.length) ≤ lenBound)) (some ([108, 111, 103, 45] ++ r1)) none))
def c_ilogName : Ctr := { args := [.val false y0], rets := [(false, [(none, .str)])], F := ilogName }
def X_ilogName : Ctx := XT.withΓ (lk [(121, c_xItoa)]) (lk [])
theorem r_ilogName (a) : fnRun X_ilogName H0 c_ilogName Tryz.f96 T0 a = ilogName a := by kernel_rfl
theorem h_ilogName [TabsD] : CtrHolds Tryz.prog 96 c_ilogName := fn_ok (.cons h_xItoa Tryz.call121 .nil) .nil Tryz.func96 (by kernel_rfl) (loops0 (by kernel_rfl)) r_ilogName
def iGetNum_L3 (O : Type) : Nat → (List Int × Int × Int × Int) → (Unit → Option O) → ((Int × Int × Bool) → Option O) → Option O
  | 0, _, _, _ => none
  | q + 1, (b2, at3, n4, k5), x, r => (cond (decide (k5 < 5)) (cond (decide (at3 ≥ 0)) (cond (decide (at3 < (wrap .i64 ((b2.length : Int) - k5)))) (cond (decide (0 ≤ (wrap .i64 (at3 + k5))) && decide ((wrap .i64 (at3 + k5)) < (b2.length : Int))) (((cond (k5 == 0) (cond ((wrap .i64 (nth b2 (wrap .i64 (at3 + k5)))) == 128) ((x ()).map Sum.inr) (some (Sum.inl (b2, at3, n4, k5, (wrap .i64 (nth b2 (wrap .i64 (at3 + k5)))), at3, decide (at3 ≥ 0), at3, b2, (b2.length : Int), k5, (wrap .i64 ((b2.length : Int) - k5)), decide (at3 < (wrap .i64 ((b2.length : Int) - k5))))))) (some (Sum.inl (b2, at3, n4, k5, (wrap .i64 (nth b2 (wrap .i64 (at3 + k5)))), at3, decide (at3 ≥ 0), at3, b2, (b2.length : Int), k5, (wrap .i64 ((b2.length : Int) - k5)), decide (at3 < (wrap .i64 ((b2.length : Int) - k5))))))) : Option ((List Int × Int × Int × Int × Int × Int × Bool × Int × List Int × Int × Int × Int × Bool) ⊕ O)).bind fun z => match z with | .inl (b6, at7, n8, k9, x10, v11, v12, v13, v14, v15, v16, v17, v18) => (cond (decide (x10 ≥ 128)) (iGetNum_L3 O q (b6, at7, (wrap .i64 ((wrap .i64 (n8 * 128)) + (Int.tmod x10 128))), (wrap .i64 (k9 + 1))) x r) (cond (decide ((wrap .i64 ((wrap .i64 (n8 * 128)) + (Int.tmod x10 128))) > 1000000000)) (x ()) (r ((wrap .i64 ((wrap .i64 (n8 * 128)) + (Int.tmod x10 128))), (wrap .i64 ((wrap .i64 (at7 + k9)) + 1)), true)))) | .inr o => some o) none) (x ())) (x ())) (x ()))
def iGetNum : (List Int × Int) → Option (Int × Int × Bool)
  | (b0, at1) => (iGetNum_L3 (Int × Int × Bool) fuel (b0, at1, 0, 0) (fun _ => (some (0, 0, false))) some)
def c_iGetNum : Ctr := { args := [.val false y4, .val false y0], rets := [(false, [(none, y0)]), (false, [(none, y0)]), (false, [(none, .bool)])], F := iGetNum }
def X_iGetNum : Ctx := XT.withΓ (lk []) (lk [])
def H_iGetNum : Hints := ⟨lk [], lk [(7, ⟨53, [(0, .one (.val y4)), (1, .one (.val y0)), (7, .one (.val y0)), (8, .one (.val y0)), (9, .one (.val y0)), (13, .one (.val y0)), (14, .one (.val .bool)), (17, .one (.val y0)), (18, .one (.val y4)), (19, .one (.val y0)), (20, .one (.val y0)), (21, .one (.val y0)), (22, .one (.val .bool))], [], []⟩)], lk []⟩
def L_iGetNum_3 : LoopF c_iGetNum.Res := ⟨⟨53, [(0, .one (.val y4)), (1, .one (.val y0)), (7, .one (.val y0)), (8, .one (.val y0))], [], []⟩, [(0, ⟨53, [], [], []⟩)], iGetNum_L3⟩
def T_iGetNum : Nat → Option (LoopF c_iGetNum.Res) := lk [(3, L_iGetNum_3)]
theorem s_iGetNum_3 : StepOk X_iGetNum H_iGetNum (c_iGetNum.finish X_iGetNum Tryz.f199.results.toList) T_iGetNum (loopAt Tryz.f199 0) := ⟨L_iGetNum_3, by kernel_rfl, fun O y x r => by kernel_rfl, fun O k y x r => by kernel_rfl⟩
theorem r_iGetNum (a) : fnRun X_iGetNum H_iGetNum c_iGetNum Tryz.f199 T_iGetNum a = iGetNum a := by kernel_rfl
theorem h_iGetNum [Tabs] : CtrHolds Tryz.prog 199 c_iGetNum := fn_ok .nil .nil Tryz.func199 (by kernel_rfl) (loops1 (by kernel_rfl) s_iGetNum_3) r_iGetNum
def iGetText : (List Int × Int) → Option (Tx × Int × Bool)
  | (b0, at1) => ((iGetNum (b0, at1)).bind fun (r2, r3, r4) => (cond (!r4) (some ([], 0, false)) (cond (decide (r2 > (wrap .i64 ((b0.length : Int) - r3)))) (some ([], 0, false)) (cond (decide (0 ≤ r3) && (decide (r3 ≤ (wrap .i64 (r3 + r2))) && decide ((wrap .i64 (r3 + r2)) ≤ (b0.length : Int)))) (some ((strOf (cut b0 r3 (wrap .i64 (r3 + r2)))), (wrap .i64 (r3 + r2)), true)) none))))
def c_iGetText : Ctr := { args := [.val false y4, .val false y0], rets := [(false, [(none, .str)]), (false, [(none, y0)]), (false, [(none, .bool)])], F := iGetText }
def X_iGetText : Ctx := XT.withΓ (lk [(199, c_iGetNum)]) (lk [])
theorem r_iGetText (a) : fnRun X_iGetText H0 c_iGetText Tryz.f176 T0 a = iGetText a := by kernel_rfl
theorem h_iGetText [Tabs] : CtrHolds Tryz.prog 176 c_iGetText := fn_ok (.cons h_iGetNum Tryz.call199 .nil) .nil Tryz.func176 (by kernel_rfl) (loops0 (by kernel_rfl)) r_iGetText
def iSum_L7 (O : Type) : Nat → (Int × List Int × Int × Int × Int) → ((Int × List Int × Int × Int) → Option O) → (Int → Option O) → Option O
  | 0, _, _, _ => none
  | q + 1, (r5, v6, v7, v8, v9), x, r => (cond (decide (v9 < 8)) (cond ((bits .and .u32 r5 1) == 1) (iSum_L7 O q ((bits .xor .u32 (Int.fdiv r5 2) 2197175160), v6, v7, v8, (wrap .i64 (v9 + 1))) x r) (iSum_L7 O q ((Int.fdiv r5 2), v6, v7, v8, (wrap .i64 (v9 + 1))) x r)) (x (r5, v6, v7, v8)))
def iSum_L3 (O : Type) : Nat → (Int × List Int × Int × Int) → (Int → Option O) → (Int → Option O) → Option O
  | 0, _, _, _ => none
  | q + 1, (r1, v2, v3, v4), x, r => (cond (decide (v4 < v3)) (cond (decide (0 ≤ v4) && decide (v4 < (v2.length : Int))) (iSum_L7 O fuel ((bits .xor .u32 r1 (IntKind.wrap .u32 (nth v2 v4))), v2, v3, v4, 0) (fun (r10, v11, v12, v13) => (iSum_L3 O q (r10, v11, v12, (wrap .i64 (v13 + 1))) x r)) r) none) (x r1))
def iSum : (List Int) → Option Int
  | b0 => (iSum_L3 Int fuel (4294967295, b0, (b0.length : Int), 0) (fun r14 => (some (wrap .i64 (bits .xor .u32 (if false then (-1) else (if false then 2147483647 else 4294967295)) r14)))) some)
def c_iSum : Ctr := { args := [.val false y4], rets := [(false, [(none, y0)])], F := iSum }
def X_iSum : Ctx := XT.withΓ (lk []) (lk [])
def L_iSum_3 : LoopF c_iSum.Res := ⟨⟨32, [(3, .one (.val (.int .u32))), (7, .one (.val y4)), (8, .one (.val y0)), (9, .one (.val y0))], [], []⟩, [(0, ⟨32, [(3, .one (.val (.int .u32)))], [], []⟩)], iSum_L3⟩
def L_iSum_7 : LoopF c_iSum.Res := ⟨⟨32, [(3, .one (.val (.int .u32))), (7, .one (.val y4)), (8, .one (.val y0)), (9, .one (.val y0)), (17, .one (.val y0))], [], []⟩, [(2, ⟨32, [(3, .one (.val (.int .u32))), (7, .one (.val y4)), (8, .one (.val y0)), (9, .one (.val y0))], [], []⟩)], iSum_L7⟩
def T_iSum : Nat → Option (LoopF c_iSum.Res) := lk [(3, L_iSum_3), (7, L_iSum_7)]
theorem s_iSum_3 : StepOk X_iSum H0 (c_iSum.finish X_iSum Tryz.f177.results.toList) T_iSum (loopAt Tryz.f177 0) := ⟨L_iSum_3, by kernel_rfl, fun O y x r => by kernel_rfl, fun O k y x r => by kernel_rfl⟩
theorem s_iSum_7 : StepOk X_iSum H0 (c_iSum.finish X_iSum Tryz.f177.results.toList) T_iSum (loopAt Tryz.f177 1) := ⟨L_iSum_7, by kernel_rfl, fun O y x r => by kernel_rfl, fun O k y x r => by kernel_rfl⟩
theorem r_iSum (a) : fnRun X_iSum H0 c_iSum Tryz.f177 T_iSum a = iSum a := by kernel_rfl
theorem h_iSum [Tabs] : CtrHolds Tryz.prog 177 c_iSum := fn_ok .nil .nil Tryz.func177 (by kernel_rfl) (loops2 (by kernel_rfl) s_iSum_3 s_iSum_7) r_iSum
def iwordAt : (List Int × Int) → Option Int
  | (b0, at1) => (cond (decide (0 ≤ at1) && decide (at1 < (b0.length : Int))) (cond (decide (0 ≤ (wrap .i64 (at1 + 1))) && decide ((wrap .i64 (at1 + 1)) < (b0.length : Int))) (cond (decide (0 ≤ (wrap .i64 (at1 + 2))) && decide ((wrap .i64 (at1 + 2)) < (b0.length : Int))) (cond (decide (0 ≤ (wrap .i64 (at1 + 3))) && decide ((wrap .i64 (at1 + 3)) < (b0.length : Int))) (some (bits .or .i64 (bits .or .i64 (bits .or .i64 (wrap .i64 ((wrap .i64 (nth b0 at1)) * 16777216)) (wrap .i64 ((wrap .i64 (nth b0 (wrap .i64 (at1 + 1)))) * 65536))) (wrap .i64 ((wrap .i64 (nth b0 (wrap .i64 (at1 + 2)))) * 256))) (wrap .i64 (nth b0 (wrap .i64 (at1 + 3)))))) none) none) none) none)
def c_iwordAt : Ctr := { args := [.val false y4, .val false y0], rets := [(false, [(none, y0)])], F := iwordAt }
def X_iwordAt : Ctx := XT.withΓ (lk []) (lk [])
theorem r_iwordAt (a) : fnRun X_iwordAt H0 c_iwordAt Tryz.f178 T0 a = iwordAt a := by kernel_rfl
theorem h_iwordAt [Tabs] : CtrHolds Tryz.prog 178 c_iwordAt := fn_ok .nil .nil Tryz.func178 (by kernel_rfl) (loops0 (by kernel_rfl)) r_iwordAt
def iUnframe : (List Int × Int) → Option (List Int × Int × Bool)
  | (b0, at1) => ((iin (at1, 0, (wrap .i64 ((b0.length : Int) - 4)))).bind fun r2 => (cond (!r2) (some ([], at1, false)) ((iGetText (b0, (wrap .i64 (at1 + 4)))).bind fun (r3, r4, r5) => (cond (!r5) (some ([], at1, false)) ((iSum (bytesOf r3)).bind fun r6 => ((iwordAt (b0, at1)).bind fun r7 => (cond (r6 != r7) (some ([], at1, false)) (some ((bytesOf r3), r4, true)))))))))
def c_iUnframe : Ctr := { args := [.val false y4, .val false y0], rets := [(false, [(none, y4)]), (false, [(none, y0)]), (false, [(none, .bool)])], F := iUnframe }
def X_iUnframe : Ctx := XT.withΓ (lk [(114, c_iin), (176, c_iGetText), (177, c_iSum), (178, c_iwordAt)]) (lk [])
theorem r_iUnframe (a) : fnRun X_iUnframe H0 c_iUnframe Tryz.f141 T0 a = iUnframe a := by kernel_rfl
theorem h_iUnframe [Tabs] : CtrHolds Tryz.prog 141 c_iUnframe := fn_ok (.cons h_iin Tryz.call114 (.cons h_iGetText Tryz.call176 (.cons h_iSum Tryz.call177 (.cons h_iwordAt Tryz.call178 .nil)))) .nil Tryz.func141 (by kernel_rfl) (loops0 (by kernel_rfl)) r_iUnframe
def iRecords_L3 (O : Type) : Nat → (List Int × Int × List (List Int)) → (Empty → Option O) → ((List (List Int) × Int) → Option O) → Option O
  | 0, _, _, _ => none
  | q + 1, (b1, at2, out3), x, r => ((iUnframe (b1, at2)).bind fun (r4, r5, r6) => (cond (!r6) (r (out3, at2)) (cond (decide ((out3.length + [r4].length) ≤ lenBound)) (iRecords_L3 O q (b1, r5, (out3 ++ [r4])) x r) none)))
def iRecords : (List Int) → Option (List (List Int) × Int)
  | b0 => (iRecords_L3 (List (List Int) × Int) fuel (b0, 0, []) (fun z => z.elim) some)
def c_iRecords : Ctr := { args := [.val false y4], rets := [(false, [(some 66, (.sl y4))]), (false, [(none, y0)])], F := iRecords }
def X_iRecords : Ctx := XT.withΓ (lk [(141, c_iUnframe)]) (lk [])
def L_iRecords_3 : LoopF c_iRecords.Res := ⟨⟨25, [(0, .one (.val y4)), (4, .one (.own 0)), (5, .one (.val y0))], [.arr 66 y4], []⟩, [], iRecords_L3⟩
def T_iRecords : Nat → Option (LoopF c_iRecords.Res) := lk [(3, L_iRecords_3)]
theorem s_iRecords_3 : StepOk X_iRecords H0 (c_iRecords.finish X_iRecords Tryz.f97.results.toList) T_iRecords (loopAt Tryz.f97 0) := ⟨L_iRecords_3, by kernel_rfl, fun O y x r => by kernel_rfl, fun O k y x r => by kernel_rfl⟩
theorem r_iRecords (a) : fnRun X_iRecords H0 c_iRecords Tryz.f97 T_iRecords a = iRecords a := by kernel_rfl
theorem h_iRecords [Tabs] : CtrHolds Tryz.prog 97 c_iRecords := fn_ok (.cons h_iUnframe Tryz.call141 .nil) .nil Tryz.func97 (by kernel_rfl) (loops1 (by kernel_rfl) s_iRecords_3) r_iRecords
def ireader_text : (List Int × Int × Bool) → Option (Tx × List Int × Int × Bool)
  | (r0, r1, r2) => ((iGetText (r0, r1)).bind fun (r3, r4, r5) => ((cond r2 (some (r3, r4, true, r0, r1, r2)) (some (r3, r4, (!r5), r0, r1, r2))).bind fun (s6, next7, v8, r9, r10, r11) => (cond v8 (some ([], r9, r10, true)) (some (s6, r9, next7, r11)))))
def c_ireader_text : Ctr := { args := [.ref 177 [(none, y4), (none, y0), (none, .bool)]], rets := [(false, [(none, .str)])], F := ireader_text }
def X_ireader_text : Ctx := XT.withΓ (lk [(176, c_iGetText)]) (lk [])
def H_ireader_text : Hints := ⟨lk [(3, ⟨35, [(0, .one (.ptr 0 0)), (3, .one (.val .str)), (4, .one (.val y0)), (26, .one (.val .bool))], [.vars 177 [.val y4, .val y0, .val .bool]], [0]⟩)], lk [], lk []⟩
theorem r_ireader_text (a) : fnRun X_ireader_text H_ireader_text c_ireader_text Tryz.f142 T0 a = ireader_text a := by kernel_rfl
theorem h_ireader_text [Tabs] : CtrHolds Tryz.prog 142 c_ireader_text := fn_ok (.cons h_iGetText Tryz.call176 .nil) .nil Tryz.func142 (by kernel_rfl) (loops0 (by kernel_rfl)) r_ireader_text
def ireader_one : (List Int × Int × Bool) → Option (Int × List Int × Int × Bool)
  | (r0, r1, r2) => ((cond r2 (some (true, r0, r1, r2)) (some (decide (r1 ≥ (r0.length : Int)), r0, r1, r2))).bind fun (v3, r4, r5, r6) => (cond v3 (some (0, r4, r5, true)) (cond (decide (0 ≤ (wrap .i64 ((wrap .i64 (r5 + 1)) - 1))) && decide ((wrap .i64 ((wrap .i64 (r5 + 1)) - 1)) < (r4.length : Int))) (some ((wrap .i64 (nth r4 (wrap .i64 ((wrap .i64 (r5 + 1)) - 1)))), r4, (wrap .i64 (r5 + 1)), r6)) none)))
def c_ireader_one : Ctr := { args := [.ref 177 [(none, y4), (none, y0), (none, .bool)]], rets := [(false, [(none, y0)])], F := ireader_one }
def X_ireader_one : Ctx := XT.withΓ (lk []) (lk [])
def H_ireader_one : Hints := ⟨lk [(2, ⟨41, [(0, .one (.ptr 0 0)), (18, .one (.val .bool))], [.vars 177 [.val y4, .val y0, .val .bool]], [0]⟩)], lk [], lk []⟩
theorem r_ireader_one (a) : fnRun X_ireader_one H_ireader_one c_ireader_one Tryz.f144 T0 a = ireader_one a := by kernel_rfl
theorem h_ireader_one [Tabs] : CtrHolds Tryz.prog 144 c_ireader_one := fn_ok .nil .nil Tryz.func144 (by kernel_rfl) (loops0 (by kernel_rfl)) r_ireader_one
def ireader_flag : (List Int × Int × Bool) → Option (Bool × List Int × Int × Bool)
  | (r0, r1, r2) => ((ireader_one (r0, r1, r2)).bind fun (r3, r4, r5, r6) => (cond r6 (some ((r3 == 1), r4, r5, true)) (some ((r3 == 1), r4, r5, decide (r3 > 1)))))
def c_ireader_flag : Ctr := { args := [.ref 177 [(none, y4), (none, y0), (none, .bool)]], rets := [(false, [(none, .bool)])], F := ireader_flag }
def X_ireader_flag : Ctx := XT.withΓ (lk [(144, c_ireader_one)]) (lk [])
theorem r_ireader_flag (a) : fnRun X_ireader_flag H0 c_ireader_flag Tryz.f143 T0 a = ireader_flag a := by kernel_rfl
theorem h_ireader_flag [Tabs] : CtrHolds Tryz.prog 143 c_ireader_flag := fn_ok (.cons h_ireader_one Tryz.call144 .nil) .nil Tryz.func143 (by kernel_rfl) (loops0 (by kernel_rfl)) r_ireader_flag
def icopyMem : (List ((Tx × Tx × Bool) × Int)) → Option (List ((Tx × Tx × Bool) × Int))
  | m0 => (cond (decide (m0.length ≤ lenBound)) (some m0) none)
def c_icopyMem : Ctr := { args := [.val true y6], rets := [(true, [(some 141, y6)])], F := icopyMem }
def X_icopyMem : Ctx := XT.withΓ (lk []) (lk [])
theorem r_icopyMem (a) : fnRun X_icopyMem H0 c_icopyMem Tryz.f179 T0 a = icopyMem a := by kernel_rfl
theorem h_icopyMem [Tabs] : CtrHolds Tryz.prog 179 c_icopyMem := fn_ok .nil .nil Tryz.func179 (by kernel_rfl) (loops0 (by kernel_rfl)) r_icopyMem
def iMemPut_L5 (O : Type) : Nat → (Int × Int × List ((Tx × Tx × Bool) × Int) × Tx × Tx × Bool × List ((Tx × Tx × Bool) × Int)) → ((Int × Int × List ((Tx × Tx × Bool) × Int) × Tx × Tx × Bool × List ((Tx × Tx × Bool) × Int)) → Option O) → ((List ((Tx × Tx × Bool) × Int) × Bool) → Option O) → Option O
  | 0, _, _, _ => none
  | q + 1, (tower9, k10, m11, p12, p13, p14, out15), x, r => (cond (decide (k10 < (m11.length : Int))) (cond (decide (0 ≤ k10) && decide (k10 < (m11.length : Int))) (cond (Op.bytesLess (nth m11 k10).1.1 p12) (iMemPut_L5 O q (tower9, (wrap .i64 (k10 + 1)), m11, p12, p13, p14, out15) x r) (x (tower9, k10, m11, p12, p13, p14, out15))) none) (x (tower9, k10, m11, p12, p13, p14, out15)))
def iMemPut : (List ((Tx × Tx × Bool) × Int) × (Tx × Tx × Bool) × Int) → Option (List ((Tx × Tx × Bool) × Int) × Bool)
  | (m0, (p1, p2, p3), tower4) => ((icopyMem m0).bind fun r5 => ((iMemOk m0).bind fun r6 => (cond (!r6) (some (r5, false)) ((iPairOk (p1, p2, p3)).bind fun r7 => (cond (!r7) (some (r5, false)) ((iin (tower4, 1, 4)).bind fun r8 => (cond (!r8) (some (r5, false)) (iMemPut_L5 (List ((List UInt8 × List UInt8 × Bool) × Int) × Bool) fuel (tower4, 0, m0, p1, p2, p3, r5) (fun (tower16, k17, m18, p19, p20, p21, out22) => ((cond (decide (k17 < (m18.length : Int))) (cond (decide (0 ≤ k17) && decide (k17 < (m18.length : Int))) (some (tower16, k17, ((nth m18 k17).1.1 == p19), m18, p19, p20, p21, out22)) none) (some (tower16, k17, false, m18, p19, p20, p21, out22))).bind fun (tower23, k24, v25, m26, p27, p28, p29, out30) => (cond v25 (cond (decide (0 ≤ k24) && decide (k24 < (out30.length : Int))) (some ((List.set out30 (Int.toNat k24) ((p27, p28, p29), (nth out30 k24).2)), true)) none) (cond (decide ((m26.length : Int) ≥ 60)) (some (out30, false)) (cond (decide (0 ≤ k24) && decide (k24 ≤ (m26.length : Int))) (cond (decide ((cut m26 0 k24).length ≤ lenBound)) (cond (decide (((cut m26 0 k24).length + [((p27, p28, p29), tower23)].length) ≤ lenBound)) (cond (decide (0 ≤ k24) && (decide (k24 ≤ (m26.length : Int)) && decide ((m26.length : Int) ≤ (m26.length : Int)))) (cond (decide ((((cut m26 0 k24) ++ [((p27, p28, p29), tower23)]).length + (cut m26 k24 (m26.length : Int)).length) ≤ lenBound)) (some ((((cut m26 0 k24) ++ [((p27, p28, p29), tower23)]) ++ (cut m26 k24 (m26.length : Int))), true)) none) none) none) none) none))))) some))))))))
def c_iMemPut : Ctr := { args := [.val true y6, .val true y1, .val false y0], rets := [(true, [(some 141, y6)]), (false, [(none, .bool)])], F := iMemPut }
def X_iMemPut : Ctx := XT.withΓ (lk [(179, c_icopyMem), (94, c_iMemOk), (138, c_iPairOk), (114, c_iin)]) (lk [])
def H_iMemPut : Hints := ⟨lk [(8, ⟨90, [(2, .one (.val y0)), (3, .one (.ptr 0 0)), (4, .one (.ptr 1 0)), (6, .one (.ptr 2 0)), (8, .one (.ptr 3 0)), (9, .one (.val y0)), (61, .one (.val .bool))], [.vars 55 [.val y6], .vars 93 [.val .str, .val .str, .val .bool], .vars 55 [.nils], .vars 55 [.own 4], .arr 141 y12], []⟩)], lk [], lk []⟩
def L_iMemPut_5 : LoopF c_iMemPut.Res := ⟨⟨90, [(2, .one (.val y0)), (3, .one (.ptr 0 0)), (4, .one (.ptr 1 0)), (6, .one (.ptr 2 0)), (8, .one (.ptr 3 0)), (9, .one (.val y0))], [.vars 55 [.val y6], .vars 93 [.val .str, .val .str, .val .bool], .vars 55 [.nils], .vars 55 [.own 4], .arr 141 y12], []⟩, [(0, ⟨90, [(2, .one (.val y0)), (3, .one (.ptr 0 0)), (4, .one (.ptr 1 0)), (6, .one (.ptr 2 0)), (8, .one (.ptr 3 0)), (9, .one (.val y0))], [.vars 55 [.val y6], .vars 93 [.val .str, .val .str, .val .bool], .vars 55 [.nils], .vars 55 [.own 4], .arr 141 y12], []⟩)], iMemPut_L5⟩
def T_iMemPut : Nat → Option (LoopF c_iMemPut.Res) := lk [(5, L_iMemPut_5)]
theorem s_iMemPut_5 : StepOk X_iMemPut H_iMemPut (c_iMemPut.finish X_iMemPut Tryz.f145.results.toList) T_iMemPut (loopAt Tryz.f145 0) := ⟨L_iMemPut_5, by kernel_rfl, fun O y x r => by kernel_rfl, fun O k y x r => by kernel_rfl⟩
theorem r_iMemPut (a) : fnRun X_iMemPut H_iMemPut c_iMemPut Tryz.f145 T_iMemPut a = iMemPut a := by kernel_rfl
theorem h_iMemPut [Tabs] : CtrHolds Tryz.prog 145 c_iMemPut := fn_ok (.cons h_icopyMem Tryz.call179 (.cons h_iMemOk Tryz.call94 (.cons h_iPairOk Tryz.call138 (.cons h_iin Tryz.call114 .nil)))) .nil Tryz.func145 (by kernel_rfl) (loops1 (by kernel_rfl) s_iMemPut_5) r_iMemPut
def imemOf_L3 (O : Type) : Nat → (List (List Int) × Int × Int × List ((Tx × Tx × Bool) × Int)) → ((List ((Tx × Tx × Bool) × Int)) → Option O) → ((List ((Tx × Tx × Bool) × Int) × Bool) → Option O) → Option O
  | 0, _, _, _ => none
  | q + 1, (v1, v2, v3, m4), x, r => (cond (decide (v3 < v2)) (cond (decide (0 ≤ v3) && decide (v3 < (v1.length : Int))) ((ireader_text ((nth v1 v3), 0, false)).bind fun (r5, r6, r7, r8) => ((ireader_flag (r6, r7, r8)).bind fun (r9, r10, r11, r12) => ((ireader_text (r10, r11, r12)).bind fun (r13, r14, r15, r16) => ((ireader_one (r14, r15, r16)).bind fun (r17, r18, r19, r20) => ((iMemPut (m4, (r5, r13, r9), r17)).bind fun (r21, r22) => (cond (!r22) (r ([], false)) (cond r20 (r ([], false)) (cond (r19 != (((nth v1 v3).length : Nat) : Int)) (r ([], false)) (imemOf_L3 O q (v1, v2, (wrap .i64 (v3 + 1)), r21) x r))))))))) none) (x m4))
def imemOf : (List (List Int)) → Option (List ((Tx × Tx × Bool) × Int) × Bool)
  | l0 => (imemOf_L3 (List ((List UInt8 × List UInt8 × Bool) × Int) × Bool) fuel (l0, (l0.length : Int), 0, []) (fun m23 => (some (m23, true))) some)
def c_imemOf : Ctr := { args := [.val false (.sl y4)], rets := [(true, [(some 141, y6)]), (false, [(none, .bool)])], F := imemOf }
def X_imemOf : Ctx := XT.withΓ (lk [(142, c_ireader_text), (143, c_ireader_flag), (144, c_ireader_one), (145, c_iMemPut)]) (lk [])
def L_imemOf_3 : LoopF c_imemOf.Res := ⟨⟨62, [(2, .one (.ptr 0 0)), (4, .one (.ptr 1 0)), (14, .one (.val (.sl y4))), (15, .one (.val y0)), (16, .one (.val y0))], [.vars 55 [.nils], .vars 55 [.own 2], .arr 141 y12], []⟩, [(0, ⟨62, [(2, .one (.ptr 0 0)), (4, .one (.ptr 1 0))], [.vars 55 [.nils], .vars 55 [.own 2], .arr 141 y12], []⟩)], imemOf_L3⟩
def T_imemOf : Nat → Option (LoopF c_imemOf.Res) := lk [(3, L_imemOf_3)]
theorem s_imemOf_3 : StepOk X_imemOf H0 (c_imemOf.finish X_imemOf Tryz.f98.results.toList) T_imemOf (loopAt Tryz.f98 0) := ⟨L_imemOf_3, by kernel_rfl, fun O y x r => by kernel_rfl, fun O k y x r => by kernel_rfl⟩
theorem r_imemOf (a) : fnRun X_imemOf H0 c_imemOf Tryz.f98 T_imemOf a = imemOf a := by kernel_rfl
theorem h_imemOf [Tabs] : CtrHolds Tryz.prog 98 c_imemOf := fn_ok (.cons h_ireader_text Tryz.call142 (.cons h_ireader_flag Tryz.call143 (.cons h_ireader_one Tryz.call144 (.cons h_iMemPut Tryz.call145 .nil)))) .nil Tryz.func98 (by kernel_rfl) (loops1 (by kernel_rfl) s_imemOf_3) r_imemOf
def isameMan_L4 (O : Type) : Nat → (Int × Int × Int × Int × List (Int × Int × Tx × Tx) × Int × Int × List (Int × Int × Tx × Tx)) → (Unit → Option O) → (Bool → Option O) → Option O
  | 0, _, _, _ => none
  | q + 1, (v6, v7, a8, a9, a10, b11, b12, b13), x, r => (cond (decide (v7 < v6)) (cond (decide (0 ≤ v7) && decide (v7 < (a10.length : Int))) (cond (decide (0 ≤ v7) && decide (v7 < (b13.length : Int))) (cond (!(((nth a10 v7).1 == (nth b13 v7).1) && (((nth a10 v7).2.1 == (nth b13 v7).2.1) && (((nth a10 v7).2.2.1 == (nth b13 v7).2.2.1) && ((nth a10 v7).2.2.2 == (nth b13 v7).2.2.2))))) (r false) (isameMan_L4 O q (v6, (wrap .i64 (v7 + 1)), a8, a9, a10, b11, b12, b13) x r)) none) none) (x ()))
def isameMan : ((Int × Int × List (Int × Int × Tx × Tx)) × Int × Int × List (Int × Int × Tx × Tx)) → Option Bool
  | ((a0, a1, a2), b3, b4, b5) => (cond (a0 != b3) (some false) (cond (a1 != b4) (some false) (cond ((a2.length : Int) != (b5.length : Int)) (some false) (isameMan_L4 Bool fuel ((a2.length : Int), 0, a0, a1, a2, b3, b4, b5) (fun _ => (some true)) some))))
def c_isameMan : Ctr := { args := [.val true y9, .val true y9], rets := [(false, [(none, .bool)])], F := isameMan }
def X_isameMan : Ctx := XT.withΓ (lk []) (lk [])
def L_isameMan_4 : LoopF c_isameMan.Res := ⟨⟨45, [(2, .one (.ptr 0 0)), (3, .one (.ptr 1 0)), (29, .one (.val y0)), (30, .one (.val y0))], [.vars 29 [.val y0, .val y0, .val (.sl y2)], .vars 29 [.val y0, .val y0, .val (.sl y2)]], []⟩, [(0, ⟨45, [], [], []⟩)], isameMan_L4⟩
def T_isameMan : Nat → Option (LoopF c_isameMan.Res) := lk [(4, L_isameMan_4)]
theorem s_isameMan_4 : StepOk X_isameMan H0 (c_isameMan.finish X_isameMan Tryz.f99.results.toList) T_isameMan (loopAt Tryz.f99 0) := ⟨L_isameMan_4, by kernel_rfl, fun O y x r => by kernel_rfl, fun O k y x r => by kernel_rfl⟩
theorem r_isameMan (a) : fnRun X_isameMan H0 c_isameMan Tryz.f99 T_isameMan a = isameMan a := by kernel_rfl
theorem h_isameMan [Tabs] : CtrHolds Tryz.prog 99 c_isameMan := fn_ok .nil .nil Tryz.func99 (by kernel_rfl) (loops1 (by kernel_rfl) s_isameMan_4) r_isameMan
def isameMem_L4 (O : Type) : Nat → (Int × Int × List ((Tx × Tx × Bool) × Int) × List ((Tx × Tx × Bool) × Int)) → (Unit → Option O) → (Bool → Option O) → Option O
  | 0, _, _, _ => none
  | q + 1, (v2, v3, a4, b5), x, r => (cond (decide (v3 < v2)) (cond (decide (0 ≤ v3) && decide (v3 < (a4.length : Int))) (cond (decide (0 ≤ v3) && decide (v3 < (b5.length : Int))) (cond (!(((nth a4 v3).1.1 == (nth b5 v3).1.1) && (((nth a4 v3).1.2.1 == (nth b5 v3).1.2.1) && (((nth a4 v3).1.2.2 == (nth b5 v3).1.2.2) && ((nth a4 v3).2 == (nth b5 v3).2))))) (r false) (isameMem_L4 O q (v2, (wrap .i64 (v3 + 1)), a4, b5) x r)) none) none) (x ()))
def isameMem : (List ((Tx × Tx × Bool) × Int) × List ((Tx × Tx × Bool) × Int)) → Option Bool
  | (a0, b1) => (cond ((a0.length : Int) != (b1.length : Int)) (some false) (isameMem_L4 Bool fuel ((a0.length : Int), 0, a0, b1) (fun _ => (some true)) some))
def c_isameMem : Ctr := { args := [.val true y6, .val true y6], rets := [(false, [(none, .bool)])], F := isameMem }
def X_isameMem : Ctx := XT.withΓ (lk []) (lk [])
def L_isameMem_4 : LoopF c_isameMem.Res := ⟨⟨31, [(2, .one (.ptr 0 0)), (3, .one (.ptr 1 0)), (15, .one (.val y0)), (16, .one (.val y0))], [.vars 55 [.val y6], .vars 55 [.val y6]], []⟩, [(0, ⟨31, [], [], []⟩)], isameMem_L4⟩
def T_isameMem : Nat → Option (LoopF c_isameMem.Res) := lk [(4, L_isameMem_4)]
theorem s_isameMem_4 : StepOk X_isameMem H0 (c_isameMem.finish X_isameMem Tryz.f100.results.toList) T_isameMem (loopAt Tryz.f100 0) := ⟨L_isameMem_4, by kernel_rfl, fun O y x r => by kernel_rfl, fun O k y x r => by kernel_rfl⟩
theorem r_isameMem (a) : fnRun X_isameMem H0 c_isameMem Tryz.f100 T_isameMem a = isameMem a := by kernel_rfl
theorem h_isameMem [Tabs] : CtrHolds Tryz.prog 100 c_isameMem := fn_ok .nil .nil Tryz.func100 (by kernel_rfl) (loops1 (by kernel_rfl) s_isameMem_4) r_isameMem
def itabName : Int → Option (Tx)
  | n0 => ((xItoa n0).bind fun r1 => (cond (decide ((4 + r1.length) ≤ lenBound)) (some ([116, 97, 98, 45] ++ r1)) none))
def c_itabName : Ctr := { args := [.val false y0], rets := [(false, [(none, .str)])], F := itabName }
def X_itabName : Ctx := XT.withΓ (lk [(121, c_xItoa)]) (lk [])
theorem r_itabName (a) : fnRun X_itabName H0 c_itabName Tryz.f102 T0 a = itabName a := by kernel_rfl
theorem h_itabName [TabsD] : CtrHolds Tryz.prog 102 c_itabName := fn_ok (.cons h_xItoa Tryz.call121 .nil) .nil Tryz.func102 (by kernel_rfl) (loops0 (by kernel_rfl)) r_itabName
def ireader_num : (List Int × Int × Bool) → Option (Int × List Int × Int × Bool)
  | (r0, r1, r2) => ((iGetNum (r0, r1)).bind fun (r3, r4, r5) => ((cond r2 (some (r3, r4, true, r0, r1, r2)) (some (r3, r4, (!r5), r0, r1, r2))).bind fun (n6, next7, v8, r9, r10, r11) => (cond v8 (some (0, r9, r10, true)) (some (n6, r9, next7, r11)))))
def c_ireader_num : Ctr := { args := [.ref 177 [(none, y4), (none, y0), (none, .bool)]], rets := [(false, [(none, y0)])], F := ireader_num }
def X_ireader_num : Ctx := XT.withΓ (lk [(199, c_iGetNum)]) (lk [])
def H_ireader_num : Hints := ⟨lk [(3, ⟨35, [(0, .one (.ptr 0 0)), (3, .one (.val y0)), (4, .one (.val y0)), (26, .one (.val .bool))], [.vars 177 [.val y4, .val y0, .val .bool]], [0]⟩)], lk [], lk []⟩
theorem r_ireader_num (a) : fnRun X_ireader_num H_ireader_num c_ireader_num Tryz.f180 T0 a = ireader_num a := by kernel_rfl
theorem h_ireader_num [Tabs] : CtrHolds Tryz.prog 180 c_ireader_num := fn_ok (.cons h_iGetNum Tryz.call199 .nil) .nil Tryz.func180 (by kernel_rfl) (loops0 (by kernel_rfl)) r_ireader_num
def iindexOf_L10 (O : Type) : Nat → (List Int × Int × Int × List Int × Int × Bool × List (Tx × Int)) → ((List Int × List Int × Int × Bool × List (Tx × Int)) → Option O) → ((List (Tx × Int) × List Int × Bool) → Option O) → Option O
  | 0, _, _, _ => none
  | q + 1, (body9, n10, k11, r12, r13, r14, out15), x, r => (cond (decide (k11 < n10)) (cond (!r14) ((ireader_text (r12, r13, r14)).bind fun (r16, r17, r18, r19) => ((ireader_num (r17, r18, r19)).bind fun (r20, r21, r22, r23) => (cond (decide ((out15.length + [(r16, r20)].length) ≤ lenBound)) (iindexOf_L10 O q (body9, n10, (wrap .i64 (k11 + 1)), r21, r22, r23, (out15 ++ [(r16, r20)])) x r) none))) (x (body9, r12, r13, r14, out15))) (x (body9, r12, r13, r14, out15)))
def iindexOf : (List Int) → Option (List (Tx × Int) × List Int × Bool)
  | b0 => (cond (decide ((b0.length : Int) < 4)) (some ([], [], false)) ((iwordAt (b0, (wrap .i64 ((b0.length : Int) - 4)))).bind fun r1 => ((iUnframe (b0, r1)).bind fun (r2, r3, r4) => (cond (!r4) (some ([], [], false)) (cond (r3 != (wrap .i64 ((b0.length : Int) - 4))) (some ([], [], false)) ((ireader_num (r2, 0, false)).bind fun (r5, r6, r7, r8) => (iindexOf_L10 (List (List UInt8 × Int) × List Int × Bool) fuel (r2, r5, 0, r6, r7, r8, []) (fun (body24, r25, r26, r27, out28) => (cond r27 (some ([], [], false)) (cond (r26 != (wrap .i64 ((body24.length : Int) - 8))) (some ([], [], false)) (cond (decide (0 ≤ r26) && (decide (r26 ≤ (body24.length : Int)) && decide ((body24.length : Int) ≤ (body24.length : Int)))) (some (out28, (cut body24 r26 (body24.length : Int)), true)) none)))) some)))))))
def c_iindexOf : Ctr := { args := [.val false y4], rets := [(false, [(some 185, y5)]), (false, [(none, y4)]), (false, [(none, .bool)])], F := iindexOf }
def X_iindexOf : Ctx := XT.withΓ (lk [(178, c_iwordAt), (141, c_iUnframe), (180, c_ireader_num), (142, c_ireader_text)]) (lk [])
def L_iindexOf_10 : LoopF c_iindexOf.Res := ⟨⟨83, [(5, .one (.val y4)), (8, .one (.ptr 0 0)), (9, .one (.val y0)), (10, .one (.own 1)), (11, .one (.val y0))], [.vars 177 [.val y4, .val y0, .val .bool], .arr 185 (.pair .str y0)], []⟩, [(0, ⟨83, [(5, .one (.val y4)), (8, .one (.ptr 0 0)), (10, .one (.own 1))], [.vars 177 [.val y4, .val y0, .val .bool], .arr 185 (.pair .str y0)], []⟩)], iindexOf_L10⟩
def T_iindexOf : Nat → Option (LoopF c_iindexOf.Res) := lk [(10, L_iindexOf_10)]
theorem s_iindexOf_10 : StepOk X_iindexOf H0 (c_iindexOf.finish X_iindexOf Tryz.f146.results.toList) T_iindexOf (loopAt Tryz.f146 0) := ⟨L_iindexOf_10, by kernel_rfl, fun O y x r => by kernel_rfl, fun O k y x r => by kernel_rfl⟩
theorem r_iindexOf (a) : fnRun X_iindexOf H0 c_iindexOf Tryz.f146 T_iindexOf a = iindexOf a := by kernel_rfl
theorem h_iindexOf [Tabs] : CtrHolds Tryz.prog 146 c_iindexOf := fn_ok (.cons h_iwordAt Tryz.call178 (.cons h_iUnframe Tryz.call141 (.cons h_ireader_num Tryz.call180 (.cons h_ireader_text Tryz.call142 .nil)))) .nil Tryz.func146 (by kernel_rfl) (loops1 (by kernel_rfl) s_iindexOf_10) r_iindexOf
def ipairsAt_L7 (O : Type) : Nat → (List Int × Tx × List Int × Int × Bool × List (Tx × Tx × Bool)) → ((List Int × Int × Bool × List (Tx × Tx × Bool)) → Option O) → ((List (Tx × Tx × Bool) × Bool) → Option O) → Option O
  | 0, _, _, _ => none
  | q + 1, (body5, last6, r7, r8, r9, out10), x, r => (cond (decide (r8 < (body5.length : Int))) (cond (!r9) ((ireader_num (r7, r8, r9)).bind fun (r11, r12, r13, r14) => ((ireader_text (r12, r13, r14)).bind fun (r15, r16, r17, r18) => ((ireader_flag (r16, r17, r18)).bind fun (r19, r20, r21, r22) => ((ireader_text (r20, r21, r22)).bind fun (r23, r24, r25, r26) => (cond (decide (0 ≤ (if ((last6.length : Int) < r11) then (last6.length : Int) else r11)) && decide ((if ((last6.length : Int) < r11) then (last6.length : Int) else r11) ≤ (last6.length : Int))) (cond (decide (((cut last6 0 (if ((last6.length : Int) < r11) then (last6.length : Int) else r11)).length + r15.length) ≤ lenBound)) (cond (decide (r11 > (last6.length : Int))) (r ([], false)) (cond (decide ((out10.length + [(((cut last6 0 (if ((last6.length : Int) < r11) then (last6.length : Int) else r11)) ++ r15), r23, r19)].length) ≤ lenBound)) (ipairsAt_L7 O q (body5, ((cut last6 0 (if ((last6.length : Int) < r11) then (last6.length : Int) else r11)) ++ r15), r24, r25, r26, (out10 ++ [(((cut last6 0 (if ((last6.length : Int) < r11) then (last6.length : Int) else r11)) ++ r15), r23, r19)])) x r) none)) none) none))))) (x (r7, r8, r9, out10))) (x (r7, r8, r9, out10)))
def ipairsAt : (List Int × Int) → Option (List (Tx × Tx × Bool) × Bool)
  | (b0, at1) => ((iUnframe (b0, at1)).bind fun (r2, r3, r4) => (cond (!r4) (some ([], false)) (ipairsAt_L7 (List (List UInt8 × List UInt8 × Bool) × Bool) fuel (r2, [], r2, 0, false, []) (fun (r27, r28, r29, out30) => (some (out30, (!r29)))) some)))
def c_ipairsAt : Ctr := { args := [.val false y4, .val false y0], rets := [(false, [(some 93, (.sl y1))]), (false, [(none, .bool)])], F := ipairsAt }
def X_ipairsAt : Ctx := XT.withΓ (lk [(141, c_iUnframe), (180, c_ireader_num), (142, c_ireader_text), (143, c_ireader_flag)]) (lk [])
def H_ipairsAt : Hints := ⟨lk [], lk [], lk [(11, [8, 9, 0, 1, 2, 3, 4, 5, 6, 7, 10, 11, 12, 13])]⟩
def L_ipairsAt_7 : LoopF c_ipairsAt.Res := ⟨⟨76, [(6, .one (.val y4)), (9, .one (.ptr 0 0)), (10, .one (.own 1)), (11, .one (.val .str))], [.vars 177 [.val y4, .val y0, .val .bool], .arr 93 y1], []⟩, [(0, ⟨76, [(9, .one (.ptr 0 0)), (10, .one (.own 1))], [.vars 177 [.val y4, .val y0, .val .bool], .arr 93 y1], []⟩)], ipairsAt_L7⟩
def T_ipairsAt : Nat → Option (LoopF c_ipairsAt.Res) := lk [(7, L_ipairsAt_7)]
theorem s_ipairsAt_7 : StepOk X_ipairsAt H_ipairsAt (c_ipairsAt.finish X_ipairsAt Tryz.f147.results.toList) T_ipairsAt (loopAt Tryz.f147 0) := ⟨L_ipairsAt_7, by kernel_rfl, fun O y x r => by kernel_rfl, fun O k y x r => by kernel_rfl⟩
theorem r_ipairsAt (a) : fnRun X_ipairsAt H_ipairsAt c_ipairsAt Tryz.f147 T_ipairsAt a = ipairsAt a := by kernel_rfl
theorem h_ipairsAt [Tabs] : CtrHolds Tryz.prog 147 c_ipairsAt := fn_ok (.cons h_iUnframe Tryz.call141 (.cons h_ireader_num Tryz.call180 (.cons h_ireader_text Tryz.call142 (.cons h_ireader_flag Tryz.call143 .nil)))) .nil Tryz.func147 (by kernel_rfl) (loops1 (by kernel_rfl) s_ipairsAt_7) r_ipairsAt
def irising_L2 (O : Type) : Nat → (List (Tx × Tx × Bool) × List (Tx × Tx × Bool) × Int × Int) → (Unit → Option O) → (Bool → Option O) → Option O
  | 0, _, _, _ => none
  | q + 1, (l1, v2, v3, v4), x, r => (cond (decide (v4 < v3)) (cond (decide (0 ≤ v4) && decide (v4 < (v2.length : Int))) ((iPairOk ((nth v2 v4).1, (nth v2 v4).2.1, (nth v2 v4).2.2)).bind fun r5 => (cond (!r5) (r false) (cond (decide (v4 > 0)) (cond (decide (0 ≤ (wrap .i64 (v4 - 1))) && decide ((wrap .i64 (v4 - 1)) < (l1.length : Int))) (cond (!(Op.bytesLess (nth l1 (wrap .i64 (v4 - 1))).1 (nth v2 v4).1)) (r false) (irising_L2 O q (l1, v2, v3, (wrap .i64 (v4 + 1))) x r)) none) (irising_L2 O q (l1, v2, v3, (wrap .i64 (v4 + 1))) x r)))) none) (x ()))
def irising : (List (Tx × Tx × Bool)) → Option Bool
  | l0 => (irising_L2 Bool fuel (l0, l0, (l0.length : Int), 0) (fun _ => (some true)) some)
def c_irising : Ctr := { args := [.val false (.sl y1)], rets := [(false, [(none, .bool)])], F := irising }
def X_irising : Ctx := XT.withΓ (lk [(138, c_iPairOk)]) (lk [])
def L_irising_2 : LoopF c_irising.Res := ⟨⟨31, [(0, .one (.val (.sl y1))), (5, .one (.val (.sl y1))), (6, .one (.val y0)), (7, .one (.val y0))], [], []⟩, [(0, ⟨31, [], [], []⟩)], irising_L2⟩
def T_irising : Nat → Option (LoopF c_irising.Res) := lk [(2, L_irising_2)]
theorem s_irising_2 : StepOk X_irising H0 (c_irising.finish X_irising Tryz.f181.results.toList) T_irising (loopAt Tryz.f181 0) := ⟨L_irising_2, by kernel_rfl, fun O y x r => by kernel_rfl, fun O k y x r => by kernel_rfl⟩
theorem r_irising (a) : fnRun X_irising H0 c_irising Tryz.f181 T_irising a = irising a := by kernel_rfl
theorem h_irising [Tabs] : CtrHolds Tryz.prog 181 c_irising := fn_ok (.cons h_iPairOk Tryz.call138 .nil) .nil Tryz.func181 (by kernel_rfl) (loops1 (by kernel_rfl) s_irising_2) r_irising
def iaddNum_L3 (O : Type) : Nat → (Int × Int × List Int) → ((Int × Int × List Int) → Option O) → ((List Int) → Option O) → Option O
  | 0, _, _, _ => none
  | q + 1, (n2, shift3, out4), x, r => (cond (decide (shift3 < 0)) none (cond (decide ((Int.fdiv n2 (2 ^ (min (Int.toNat shift3) 64))) > 127)) (iaddNum_L3 O q (n2, (wrap .i64 (shift3 + 7)), out4) x r) (x (n2, shift3, out4))))
def iaddNum_L5 (O : Type) : Nat → (Int × Int × List Int) → ((Int × List Int) → Option O) → ((List Int) → Option O) → Option O
  | 0, _, _, _ => none
  | q + 1, (n8, shift9, out10), x, r => (cond (decide (shift9 > 0)) (cond (decide (shift9 < 0)) none (cond (decide ((out10.length + [(IntKind.wrap .u8 (wrap .i64 ((bits .and .i64 (Int.fdiv n8 (2 ^ (min (Int.toNat shift9) 64))) 127) + 128)))].length) ≤ lenBound)) (iaddNum_L5 O q (n8, (wrap .i64 (shift9 - 7)), (out10 ++ [(IntKind.wrap .u8 (wrap .i64 ((bits .and .i64 (Int.fdiv n8 (2 ^ (min (Int.toNat shift9) 64))) 127) + 128)))])) x r) none)) (x (n8, out10)))
def iaddNum : (List Int × Int) → Option (List Int)
  | (out0, n1) => (iaddNum_L3 (List Int) fuel ((if ((if (1000000000 < n1) then 1000000000 else n1) > 0) then (if (1000000000 < n1) then 1000000000 else n1) else 0), 0, out0) (fun (n5, shift6, out7) => (iaddNum_L5 (List Int) fuel (n5, shift6, out7) (fun (n11, out12) => (cond (decide ((out12.length + [(IntKind.wrap .u8 (bits .and .i64 n11 127))].length) ≤ lenBound)) (some (out12 ++ [(IntKind.wrap .u8 (bits .and .i64 n11 127))])) none)) some)) some)
def c_iaddNum : Ctr := { args := [.given 5 y10, .val false y0], rets := [(false, [(some 5, y4)])], F := iaddNum }
def X_iaddNum : Ctx := XT.withΓ (lk []) (lk [])
def L_iaddNum_3 : LoopF c_iaddNum.Res := ⟨⟨34, [(0, .one (.own 0)), (1, .one (.val y0)), (5, .one (.val y0))], [.arr 5 y10], []⟩, [(0, ⟨34, [(0, .one (.own 0)), (1, .one (.val y0)), (5, .one (.val y0))], [.arr 5 y10], []⟩)], iaddNum_L3⟩
def L_iaddNum_5 : LoopF c_iaddNum.Res := ⟨⟨34, [(0, .one (.own 0)), (1, .one (.val y0)), (5, .one (.val y0))], [.arr 5 y10], []⟩, [(2, ⟨34, [(0, .one (.own 0)), (1, .one (.val y0))], [.arr 5 y10], []⟩)], iaddNum_L5⟩
def T_iaddNum : Nat → Option (LoopF c_iaddNum.Res) := lk [(3, L_iaddNum_3), (5, L_iaddNum_5)]
theorem s_iaddNum_3 : StepOk X_iaddNum H0 (c_iaddNum.finish X_iaddNum Tryz.f182.results.toList) T_iaddNum (loopAt Tryz.f182 0) := ⟨L_iaddNum_3, by kernel_rfl, fun O y x r => by kernel_rfl, fun O k y x r => by kernel_rfl⟩
theorem s_iaddNum_5 : StepOk X_iaddNum H0 (c_iaddNum.finish X_iaddNum Tryz.f182.results.toList) T_iaddNum (loopAt Tryz.f182 1) := ⟨L_iaddNum_5, by kernel_rfl, fun O y x r => by kernel_rfl, fun O k y x r => by kernel_rfl⟩
theorem r_iaddNum (a) : fnRun X_iaddNum H0 c_iaddNum Tryz.f182 T_iaddNum a = iaddNum a := by kernel_rfl
theorem h_iaddNum [Tabs] : CtrHolds Tryz.prog 182 c_iaddNum := fn_ok .nil .nil Tryz.func182 (by kernel_rfl) (loops2 (by kernel_rfl) s_iaddNum_3 s_iaddNum_5) r_iaddNum
def iaddText : (List Int × Tx) → Option (List Int)
  | (out0, s1) => ((iaddNum (out0, (s1.length : Int))).bind fun r2 => (cond (decide ((r2.length + (bytesOf s1).length) ≤ lenBound)) (some (r2 ++ (bytesOf s1))) none))
def c_iaddText : Ctr := { args := [.given 5 y10, .val false .str], rets := [(false, [(some 5, y4)])], F := iaddText }
def X_iaddText : Ctx := XT.withΓ (lk [(182, c_iaddNum)]) (lk [])
theorem r_iaddText (a) : fnRun X_iaddText H0 c_iaddText Tryz.f183 T0 a = iaddText a := by kernel_rfl
theorem h_iaddText [Tabs] : CtrHolds Tryz.prog 183 c_iaddText := fn_ok (.cons h_iaddNum Tryz.call182 .nil) .nil Tryz.func183 (by kernel_rfl) (loops0 (by kernel_rfl)) r_iaddText
def icommon_L2 (O : Type) : Nat → (Tx × Tx × Int) → (Int → Option O) → (Int → Option O) → Option O
  | 0, _, _, _ => none
  | q + 1, (a2, b3, n4), x, r => (cond (decide (n4 < (a2.length : Int))) (cond (decide (n4 < (b3.length : Int))) (cond (decide (0 ≤ n4) && decide (n4 < (a2.length : Int))) (cond (decide (0 ≤ n4) && decide (n4 < (b3.length : Int))) (cond ((((UInt8.toNat (nth a2 n4)) : Nat) : Int) == (((UInt8.toNat (nth b3 n4)) : Nat) : Int)) (icommon_L2 O q (a2, b3, (wrap .i64 (n4 + 1))) x r) (x n4)) none) none) (x n4)) (x n4))
def icommon : (Tx × Tx) → Option Int
  | (a0, b1) => (icommon_L2 Int fuel (a0, b1, 0) (fun n5 => (some n5)) some)
def c_icommon : Ctr := { args := [.val false .str, .val false .str], rets := [(false, [(none, y0)])], F := icommon }
def X_icommon : Ctx := XT.withΓ (lk []) (lk [])
def L_icommon_2 : LoopF c_icommon.Res := ⟨⟨28, [(0, .one (.val .str)), (1, .one (.val .str)), (5, .one (.val y0))], [], []⟩, [(0, ⟨28, [(5, .one (.val y0))], [], []⟩)], icommon_L2⟩
def T_icommon : Nat → Option (LoopF c_icommon.Res) := lk [(2, L_icommon_2)]
theorem s_icommon_2 : StepOk X_icommon H0 (c_icommon.finish X_icommon Tryz.f200.results.toList) T_icommon (loopAt Tryz.f200 0) := ⟨L_icommon_2, by kernel_rfl, fun O y x r => by kernel_rfl, fun O k y x r => by kernel_rfl⟩
theorem r_icommon (a) : fnRun X_icommon H0 c_icommon Tryz.f200 T_icommon a = icommon a := by kernel_rfl
theorem h_icommon [Tabs] : CtrHolds Tryz.prog 200 c_icommon := fn_ok .nil .nil Tryz.func200 (by kernel_rfl) (loops1 (by kernel_rfl) s_icommon_2) r_icommon
def ibit : Bool → Option Int
  | is0 => (cond is0 (some 1) (some 0))
def c_ibit : Ctr := { args := [.val false .bool], rets := [(false, [(none, y10)])], F := ibit }
def X_ibit : Ctx := XT.withΓ (lk []) (lk [])
theorem r_ibit (a) : fnRun X_ibit H0 c_ibit Tryz.f201 T0 a = ibit a := by kernel_rfl
theorem h_ibit [Tabs] : CtrHolds Tryz.prog 201 c_ibit := fn_ok .nil .nil Tryz.func201 (by kernel_rfl) (loops0 (by kernel_rfl)) r_ibit
def iword : Int → Option (List Int)
  | n0 => (some [(IntKind.wrap .u8 (Int.fdiv n0 16777216)), (IntKind.wrap .u8 (Int.fdiv n0 65536)), (IntKind.wrap .u8 (Int.fdiv n0 256)), (IntKind.wrap .u8 n0)])
def c_iword : Ctr := { args := [.val false y0], rets := [(false, [(some 5, y4)])], F := iword }
def X_iword : Ctx := XT.withΓ (lk []) (lk [])
theorem r_iword (a) : fnRun X_iword H0 c_iword Tryz.f187 T0 a = iword a := by kernel_rfl
theorem h_iword [Tabs] : CtrHolds Tryz.prog 187 c_iword := fn_ok .nil .nil Tryz.func187 (by kernel_rfl) (loops0 (by kernel_rfl)) r_iword
def iFrame : (List Int) → Option (List Int)
  | body0 => ((iSum body0).bind fun r1 => ((iword r1).bind fun r2 => ((iaddNum (r2, (body0.length : Int))).bind fun r3 => (cond (decide ((r3.length + body0.length) ≤ lenBound)) (some (r3 ++ body0)) none))))
def c_iFrame : Ctr := { args := [.val false y4], rets := [(false, [(some 5, y4)])], F := iFrame }
def X_iFrame : Ctx := XT.withΓ (lk [(177, c_iSum), (187, c_iword), (182, c_iaddNum)]) (lk [])
theorem r_iFrame (a) : fnRun X_iFrame H0 c_iFrame Tryz.f186 T0 a = iFrame a := by kernel_rfl
theorem h_iFrame [Tabs] : CtrHolds Tryz.prog 186 c_iFrame := fn_ok (.cons h_iSum Tryz.call177 (.cons h_iword Tryz.call187 (.cons h_iaddNum Tryz.call182 .nil))) .nil Tryz.func186 (by kernel_rfl) (loops0 (by kernel_rfl)) r_iFrame
def iputBlock_L4 (O : Type) : Nat → (Tx × List (Tx × Tx × Bool) × Int × Int × List Int) → ((List Int) → Option O) → ((List Int) → Option O) → Option O
  | 0, _, _, _ => none
  | q + 1, (last1, v2, v3, v4, out5), x, r => (cond (decide (v4 < v3)) (cond (decide (0 ≤ v4) && decide (v4 < (v2.length : Int))) ((icommon (last1, (nth v2 v4).1)).bind fun r6 => ((iaddNum (out5, r6)).bind fun r7 => (cond (decide (0 ≤ r6) && (decide (r6 ≤ (((nth v2 v4).1.length : Nat) : Int)) && decide ((((nth v2 v4).1.length : Nat) : Int) ≤ (((nth v2 v4).1.length : Nat) : Int)))) ((iaddText (r7, (cut (nth v2 v4).1 r6 (((nth v2 v4).1.length : Nat) : Int)))).bind fun r8 => ((ibit (nth v2 v4).2.2).bind fun r9 => (cond (decide ((r8.length + [r9].length) ≤ lenBound)) ((iaddText ((r8 ++ [r9]), (nth v2 v4).2.1)).bind fun r10 => (iputBlock_L4 O q ((nth v2 v4).1, v2, v3, (wrap .i64 (v4 + 1)), r10) x r)) none))) none))) none) (x out5))
def iputBlock : (List (Tx × Tx × Bool)) → Option (List Int)
  | l0 => (iputBlock_L4 (List Int) fuel ([], l0, (l0.length : Int), 0, []) (fun out11 => ((iFrame out11).bind fun r12 => (some r12))) some)
def c_iputBlock : Ctr := { args := [.val false (.sl y1)], rets := [(false, [(some 5, y4)])], F := iputBlock }
def X_iputBlock : Ctx := XT.withΓ (lk [(200, c_icommon), (182, c_iaddNum), (183, c_iaddText), (201, c_ibit), (186, c_iFrame)]) (lk [])
def L_iputBlock_4 : LoopF c_iputBlock.Res := ⟨⟨40, [(3, .one (.own 0)), (4, .one (.val .str)), (8, .one (.val (.sl y1))), (9, .one (.val y0)), (10, .one (.val y0))], [.arr 5 y10], []⟩, [(0, ⟨40, [(3, .one (.own 0))], [.arr 5 y10], []⟩)], iputBlock_L4⟩
def T_iputBlock : Nat → Option (LoopF c_iputBlock.Res) := lk [(4, L_iputBlock_4)]
theorem s_iputBlock_4 : StepOk X_iputBlock H0 (c_iputBlock.finish X_iputBlock Tryz.f184.results.toList) T_iputBlock (loopAt Tryz.f184 0) := ⟨L_iputBlock_4, by kernel_rfl, fun O y x r => by kernel_rfl, fun O k y x r => by kernel_rfl⟩
theorem r_iputBlock (a) : fnRun X_iputBlock H0 c_iputBlock Tryz.f184 T_iputBlock a = iputBlock a := by kernel_rfl
theorem h_iputBlock [Tabs] : CtrHolds Tryz.prog 184 c_iputBlock := fn_ok (.cons h_icommon Tryz.call200 (.cons h_iaddNum Tryz.call182 (.cons h_iaddText Tryz.call183 (.cons h_ibit Tryz.call201 (.cons h_iFrame Tryz.call186 .nil))))) .nil Tryz.func184 (by kernel_rfl) (loops1 (by kernel_rfl) s_iputBlock_4) r_iputBlock
def iMark : (Tx) → Option (Int × Int)
  | key0 => ((iSum (bytesOf key0)).bind fun r1 => (some ((Int.tmod r1 64), (Int.tmod (wrap .i64 (Int.tdiv r1 64)) 64))))
def c_iMark : Ctr := { args := [.val false .str], rets := [(false, [(none, y0)]), (false, [(none, y0)])], F := iMark }
def X_iMark : Ctx := XT.withΓ (lk [(177, c_iSum)]) (lk [])
theorem r_iMark (a) : fnRun X_iMark H0 c_iMark Tryz.f202 T0 a = iMark a := by kernel_rfl
theorem h_iMark [Tabs] : CtrHolds Tryz.prog 202 c_iMark := fn_ok (.cons h_iSum Tryz.call177 .nil) .nil Tryz.func202 (by kernel_rfl) (loops0 (by kernel_rfl)) r_iMark
def iFilter_L3 (O : Type) : Nat → (List (Tx) × Int × Int × List Int) → ((List Int) → Option O) → ((List Int) → Option O) → Option O
  | 0, _, _, _ => none
  | q + 1, (v1, v2, v3, out4), x, r => (cond (decide (v3 < v2)) (cond (decide (0 ≤ v3) && decide (v3 < (v1.length : Int))) ((iMark (nth v1 v3)).bind fun (r5, r6) => (cond (decide (0 ≤ (wrap .i64 (Int.tdiv r5 8))) && decide ((wrap .i64 (Int.tdiv r5 8)) < (out4.length : Int))) (cond (decide ((Int.tmod r5 8) < 0)) none (cond (decide (0 ≤ (wrap .i64 (Int.tdiv r5 8))) && decide ((wrap .i64 (Int.tdiv r5 8)) < (out4.length : Int))) (cond (decide (0 ≤ (wrap .i64 (Int.tdiv r6 8))) && decide ((wrap .i64 (Int.tdiv r6 8)) < (((List.set out4 (Int.toNat (wrap .i64 (Int.tdiv r5 8))) (bits .or .u8 (nth out4 (wrap .i64 (Int.tdiv r5 8))) (IntKind.wrap .u8 (1 * (2 ^ (min (Int.toNat (Int.tmod r5 8)) 8)))))).length : Nat) : Int))) (cond (decide ((Int.tmod r6 8) < 0)) none (cond (decide (0 ≤ (wrap .i64 (Int.tdiv r6 8))) && decide ((wrap .i64 (Int.tdiv r6 8)) < (((List.set out4 (Int.toNat (wrap .i64 (Int.tdiv r5 8))) (bits .or .u8 (nth out4 (wrap .i64 (Int.tdiv r5 8))) (IntKind.wrap .u8 (1 * (2 ^ (min (Int.toNat (Int.tmod r5 8)) 8)))))).length : Nat) : Int))) (iFilter_L3 O q (v1, v2, (wrap .i64 (v3 + 1)), (List.set (List.set out4 (Int.toNat (wrap .i64 (Int.tdiv r5 8))) (bits .or .u8 (nth out4 (wrap .i64 (Int.tdiv r5 8))) (IntKind.wrap .u8 (1 * (2 ^ (min (Int.toNat (Int.tmod r5 8)) 8)))))) (Int.toNat (wrap .i64 (Int.tdiv r6 8))) (bits .or .u8 (nth (List.set out4 (Int.toNat (wrap .i64 (Int.tdiv r5 8))) (bits .or .u8 (nth out4 (wrap .i64 (Int.tdiv r5 8))) (IntKind.wrap .u8 (1 * (2 ^ (min (Int.toNat (Int.tmod r5 8)) 8)))))) (wrap .i64 (Int.tdiv r6 8))) (IntKind.wrap .u8 (1 * (2 ^ (min (Int.toNat (Int.tmod r6 8)) 8))))))) x r) none)) none) none)) none)) none) (x out4))
def iFilter : (List (Tx)) → Option (List Int)
  | keys0 => (iFilter_L3 (List Int) fuel (keys0, (keys0.length : Int), 0, [0, 0, 0, 0, 0, 0, 0, 0]) (fun out7 => (some out7)) some)
def c_iFilter : Ctr := { args := [.val false (.sl .str)], rets := [(false, [(some 5, y4)])], F := iFilter }
def X_iFilter : Ctx := XT.withΓ (lk [(202, c_iMark)]) (lk [])
def L_iFilter_3 : LoopF c_iFilter.Res := ⟨⟨42, [(3, .one (.own 0)), (9, .one (.val (.sl .str))), (10, .one (.val y0)), (11, .one (.val y0))], [.arr 5 y10], []⟩, [(0, ⟨42, [(3, .one (.own 0))], [.arr 5 y10], []⟩)], iFilter_L3⟩
def T_iFilter : Nat → Option (LoopF c_iFilter.Res) := lk [(3, L_iFilter_3)]
theorem s_iFilter_3 : StepOk X_iFilter H0 (c_iFilter.finish X_iFilter Tryz.f185.results.toList) T_iFilter (loopAt Tryz.f185 0) := ⟨L_iFilter_3, by kernel_rfl, fun O y x r => by kernel_rfl, fun O k y x r => by kernel_rfl⟩
theorem r_iFilter (a) : fnRun X_iFilter H0 c_iFilter Tryz.f185 T_iFilter a = iFilter a := by kernel_rfl
theorem h_iFilter [Tabs] : CtrHolds Tryz.prog 185 c_iFilter := fn_ok (.cons h_iMark Tryz.call202 .nil) .nil Tryz.func185 (by kernel_rfl) (loops1 (by kernel_rfl) s_iFilter_3) r_iFilter
def iPutTable_L7 (O : Type) : Nat → (List (Tx × Tx × Bool) × Int × Int × List Int × List Int) → ((List (Tx × Tx × Bool) × Int × List Int × List Int) → Option O) → ((List Int) → Option O) → Option O
  | 0, _, _, _ => none
  | q + 1, (l3, count4, from5, out6, index7), x, r => (cond (decide (from5 < (l3.length : Int))) (cond (decide (0 ≤ from5) && (decide (from5 ≤ (if ((l3.length : Int) < (wrap .i64 (from5 + 4))) then (l3.length : Int) else (wrap .i64 (from5 + 4)))) && decide ((if ((l3.length : Int) < (wrap .i64 (from5 + 4))) then (l3.length : Int) else (wrap .i64 (from5 + 4))) ≤ (l3.length : Int)))) (cond (decide (0 ≤ (wrap .i64 ((((cut l3 from5 (if ((l3.length : Int) < (wrap .i64 (from5 + 4))) then (l3.length : Int) else (wrap .i64 (from5 + 4)))).length : Nat) : Int) - 1))) && decide ((wrap .i64 ((((cut l3 from5 (if ((l3.length : Int) < (wrap .i64 (from5 + 4))) then (l3.length : Int) else (wrap .i64 (from5 + 4)))).length : Nat) : Int) - 1)) < (((cut l3 from5 (if ((l3.length : Int) < (wrap .i64 (from5 + 4))) then (l3.length : Int) else (wrap .i64 (from5 + 4)))).length : Nat) : Int))) ((iaddText (index7, (nth (cut l3 from5 (if ((l3.length : Int) < (wrap .i64 (from5 + 4))) then (l3.length : Int) else (wrap .i64 (from5 + 4)))) (wrap .i64 ((((cut l3 from5 (if ((l3.length : Int) < (wrap .i64 (from5 + 4))) then (l3.length : Int) else (wrap .i64 (from5 + 4)))).length : Nat) : Int) - 1))).1)).bind fun r8 => ((iaddNum (r8, (out6.length : Int))).bind fun r9 => ((iputBlock (cut l3 from5 (if ((l3.length : Int) < (wrap .i64 (from5 + 4))) then (l3.length : Int) else (wrap .i64 (from5 + 4))))).bind fun r10 => (cond (decide ((out6.length + r10.length) ≤ lenBound)) (iPutTable_L7 O q (l3, (wrap .i64 (count4 + 1)), (wrap .i64 (from5 + 4)), (out6 ++ r10), r9) x r) none)))) none) none) (x (l3, count4, out6, index7)))
def iPutTable_L14 (O : Type) : Nat → (Int × List (Tx × Tx × Bool) × Int × Int × List Int × List Int × List (Tx)) → ((Int × List Int × List Int × List (Tx)) → Option O) → ((List Int) → Option O) → Option O
  | 0, _, _, _ => none
  | q + 1, (count15, v16, v17, v18, out19, index20, keys21), x, r => (cond (decide (v18 < v17)) (cond (decide (0 ≤ v18) && decide (v18 < (v16.length : Int))) (cond (decide ((keys21.length + [(nth v16 v18).1].length) ≤ lenBound)) (iPutTable_L14 O q (count15, v16, v17, (wrap .i64 (v18 + 1)), out19, index20, (keys21 ++ [(nth v16 v18).1])) x r) none) none) (x (count15, out19, index20, keys21)))
def iPutTable : (List (Tx × Tx × Bool)) → Option (List Int)
  | l0 => ((iin ((l0.length : Int), 1, 200)).bind fun r1 => (cond (!r1) (some []) ((irising l0).bind fun r2 => (cond (!r2) (some []) (iPutTable_L7 (List Int) fuel (l0, 0, 0, [], []) (fun (l11, count12, out13, index14) => (iPutTable_L14 (List Int) fuel (count12, l11, (l11.length : Int), 0, out13, index14, []) (fun (count22, out23, index24, keys25) => ((iaddNum ([], count22)).bind fun r26 => (cond (decide ((r26.length + index24.length) ≤ lenBound)) ((iFilter keys25).bind fun r27 => (cond (decide (((r26 ++ index24).length + r27.length) ≤ lenBound)) ((iFrame ((r26 ++ index24) ++ r27)).bind fun r28 => (cond (decide ((out23.length + r28.length) ≤ lenBound)) ((iword (out23.length : Int)).bind fun r29 => (cond (decide (((out23 ++ r28).length + r29.length) ≤ lenBound)) (some ((out23 ++ r28) ++ r29)) none)) none)) none)) none))) some)) some)))))
def c_iPutTable : Ctr := { args := [.val false (.sl y1)], rets := [(false, [(some 5, y4)])], F := iPutTable }
def X_iPutTable : Ctx := XT.withΓ (lk [(114, c_iin), (181, c_irising), (183, c_iaddText), (182, c_iaddNum), (184, c_iputBlock), (185, c_iFilter), (186, c_iFrame), (187, c_iword)]) (lk [])
def L_iPutTable_7 : LoopF c_iPutTable.Res := ⟨⟨82, [(0, .one (.val (.sl y1))), (3, .one (.own 0)), (4, .one (.own 1)), (5, .one (.nils)), (6, .one (.val y0)), (7, .one (.val y0))], [.arr 5 y10, .arr 5 y10], []⟩, [(0, ⟨82, [(0, .one (.val (.sl y1))), (3, .one (.own 0)), (4, .one (.own 1)), (5, .one (.nils)), (6, .one (.val y0))], [.arr 5 y10, .arr 5 y10], []⟩)], iPutTable_L7⟩
def L_iPutTable_14 : LoopF c_iPutTable.Res := ⟨⟨82, [(3, .one (.own 0)), (4, .one (.own 1)), (5, .one (.own 2)), (6, .one (.val y0)), (54, .one (.val (.sl y1))), (55, .one (.val y0)), (56, .one (.val y0))], [.arr 5 y10, .arr 5 y10, .arr 9 .str], []⟩, [(2, ⟨82, [(3, .one (.own 0)), (4, .one (.own 1)), (5, .one (.own 2)), (6, .one (.val y0))], [.arr 5 y10, .arr 5 y10, .arr 9 .str], []⟩)], iPutTable_L14⟩
def T_iPutTable : Nat → Option (LoopF c_iPutTable.Res) := lk [(7, L_iPutTable_7), (14, L_iPutTable_14)]
theorem s_iPutTable_7 : StepOk X_iPutTable H0 (c_iPutTable.finish X_iPutTable Tryz.f148.results.toList) T_iPutTable (loopAt Tryz.f148 0) := ⟨L_iPutTable_7, by kernel_rfl, fun O y x r => by kernel_rfl, fun O k y x r => by kernel_rfl⟩
theorem s_iPutTable_14 : StepOk X_iPutTable H0 (c_iPutTable.finish X_iPutTable Tryz.f148.results.toList) T_iPutTable (loopAt Tryz.f148 1) := ⟨L_iPutTable_14, by kernel_rfl, fun O y x r => by kernel_rfl, fun O k y x r => by kernel_rfl⟩
theorem r_iPutTable (a) : fnRun X_iPutTable H0 c_iPutTable Tryz.f148 T_iPutTable a = iPutTable a := by kernel_rfl
theorem h_iPutTable [Tabs] : CtrHolds Tryz.prog 148 c_iPutTable := fn_ok (.cons h_iin Tryz.call114 (.cons h_irising Tryz.call181 (.cons h_iaddText Tryz.call183 (.cons h_iaddNum Tryz.call182 (.cons h_iputBlock Tryz.call184 (.cons h_iFilter Tryz.call185 (.cons h_iFrame Tryz.call186 (.cons h_iword Tryz.call187 .nil)))))))) .nil Tryz.func148 (by kernel_rfl) (loops2 (by kernel_rfl) s_iPutTable_7 s_iPutTable_14) r_iPutTable
def iTablePairs_L4 (O : Type) : Nat → (List Int × Bool × Int × Int × List (Tx × Tx × Bool) × List (Tx × Int)) → ((List Int × Bool × List (Tx × Tx × Bool)) → Option O) → ((List (Tx × Tx × Bool) × Bool) → Option O) → Option O
  | 0, _, _, _ => none
  | q + 1, (b4, ok5, v6, v7, out8, v9), x, r => (cond (decide (v7 < v6)) (cond (decide (0 ≤ v7) && decide (v7 < (v9.length : Int))) ((ipairsAt (b4, (nth v9 v7).2)).bind fun (r10, r11) => (cond (!ok5) (r ([], false)) (cond (!r11) (r ([], false)) (cond (decide ((out8.length : Int) > 200)) (r ([], false)) (cond (decide ((out8.length + r10.length) ≤ lenBound)) (iTablePairs_L4 O q (b4, ok5, v6, (wrap .i64 (v7 + 1)), (out8 ++ r10), v9) x r) none))))) none) (x (b4, ok5, out8)))
def iTablePairs : (List Int) → Option (List (Tx × Tx × Bool) × Bool)
  | b0 => ((iindexOf b0).bind fun (r1, r2, r3) => (iTablePairs_L4 (List (List UInt8 × List UInt8 × Bool) × Bool) fuel (b0, r3, (r1.length : Int), 0, [], r1) (fun (b12, ok13, out14) => ((iPutTable out14).bind fun r15 => (cond (!ok13) (some ([], false)) (cond ((r15.length : Int) == 0) (some ([], false)) (cond (!((strOf r15) == (strOf b12))) (some ([], false)) (some (out14, true))))))) some))
def c_iTablePairs : Ctr := { args := [.val false y4], rets := [(false, [(some 93, (.sl y1))]), (false, [(none, .bool)])], F := iTablePairs }
def X_iTablePairs : Ctx := XT.withΓ (lk [(146, c_iindexOf), (147, c_ipairsAt), (148, c_iPutTable)]) (lk [])
def L_iTablePairs_4 : LoopF c_iTablePairs.Res := ⟨⟨64, [(0, .one (.val y4)), (6, .one (.val .bool)), (7, .one (.own 0)), (19, .one (.own 1)), (20, .one (.val y0)), (21, .one (.val y0))], [.arr 93 y1, .arr 185 (.pair .str y0)], []⟩, [(0, ⟨64, [(0, .one (.val y4)), (6, .one (.val .bool)), (7, .one (.own 0))], [.arr 93 y1], []⟩)], iTablePairs_L4⟩
def T_iTablePairs : Nat → Option (LoopF c_iTablePairs.Res) := lk [(4, L_iTablePairs_4)]
theorem s_iTablePairs_4 : StepOk X_iTablePairs H0 (c_iTablePairs.finish X_iTablePairs Tryz.f103.results.toList) T_iTablePairs (loopAt Tryz.f103 0) := ⟨L_iTablePairs_4, by kernel_rfl, fun O y x r => by kernel_rfl, fun O k y x r => by kernel_rfl⟩
theorem r_iTablePairs (a) : fnRun X_iTablePairs H0 c_iTablePairs Tryz.f103 T_iTablePairs a = iTablePairs a := by kernel_rfl
theorem h_iTablePairs [Tabs] : CtrHolds Tryz.prog 103 c_iTablePairs := fn_ok (.cons h_iindexOf Tryz.call146 (.cons h_ipairsAt Tryz.call147 (.cons h_iPutTable Tryz.call148 .nil))) .nil Tryz.func103 (by kernel_rfl) (loops1 (by kernel_rfl) s_iTablePairs_4) r_iTablePairs
def itablesOk_L2 (O : Type) : Nat → (List (Int × Int × Tx × Tx) × Int × Int × List (Int × List Int × Int) × List (Tx × Int) × List (Tx × Int) × Int) → (Unit → Option O) → (Bool → Option O) → Option O
  | 0, _, _, _ => none
  | q + 1, (v7, v8, v9, d10, d11, d12, d13), x, r => (cond (decide (v9 < v8)) (cond (decide (0 ≤ v9) && decide (v9 < (v7.length : Int))) ((itabName (nth v7 v9).1).bind fun r14 => ((iBytes ((d10, d11, d12, d13), r14)).bind fun (r15, r16) => ((iTablePairs r15).bind fun (r17, r18) => (cond (!r16) (r false) (cond (!r18) (r false) (cond (decide (0 < (r17.length : Int))) (cond (!((List.getD r17 0 ([], [], false)).1 == (nth v7 v9).2.2.1)) (r false) (cond (decide (0 ≤ (wrap .i64 ((r17.length : Int) - 1))) && decide ((wrap .i64 ((r17.length : Int) - 1)) < (r17.length : Int))) (cond (!((nth r17 (wrap .i64 ((r17.length : Int) - 1))).1 == (nth v7 v9).2.2.2)) (r false) (itablesOk_L2 O q (v7, v8, (wrap .i64 (v9 + 1)), d10, d11, d12, d13) x r)) none)) none)))))) none) (x ()))
def itablesOk : ((List (Int × List Int × Int) × List (Tx × Int) × List (Tx × Int) × Int) × Int × Int × List (Int × Int × Tx × Tx)) → Option Bool
  | ((d0, d1, d2, d3), m4, m5, m6) => (itablesOk_L2 Bool fuel (m6, (m6.length : Int), 0, d0, d1, d2, d3) (fun _ => (some true)) some)
def c_itablesOk : Ctr := { args := [.val true y3, .val true y9], rets := [(false, [(none, .bool)])], F := itablesOk }
def X_itablesOk : Ctx := XT.withΓ (lk [(102, c_itabName), (29, c_iBytes), (103, c_iTablePairs)]) (lk [])
def L_itablesOk_2 : LoopF c_itablesOk.Res := ⟨⟨59, [(2, .one (.ptr 0 0)), (12, .one (.val (.sl y2))), (13, .one (.val y0)), (14, .one (.val y0))], [.vars 35 [.val y7, .val y5, .val y5, .val y0]], []⟩, [(0, ⟨59, [], [], []⟩)], itablesOk_L2⟩
def T_itablesOk : Nat → Option (LoopF c_itablesOk.Res) := lk [(2, L_itablesOk_2)]
theorem s_itablesOk_2 : StepOk X_itablesOk H0 (c_itablesOk.finish X_itablesOk Tryz.f101.results.toList) T_itablesOk (loopAt Tryz.f101 0) := ⟨L_itablesOk_2, by kernel_rfl, fun O y x r => by kernel_rfl, fun O k y x r => by kernel_rfl⟩
theorem r_itablesOk (a) : fnRun X_itablesOk H0 c_itablesOk Tryz.f101 T_itablesOk a = itablesOk a := by kernel_rfl
theorem h_itablesOk [TabsD] : CtrHolds Tryz.prog 101 c_itablesOk := fn_ok (.cons h_itabName Tryz.call102 (.cons h_iBytes Tryz.call29 (.cons h_iTablePairs Tryz.call103 .nil))) .nil Tryz.func101 (by kernel_rfl) (loops1 (by kernel_rfl) s_itablesOk_2) r_itablesOk
def iStoreOk : ((List (Int × List Int × Int) × List (Tx × Int) × List (Tx × Int) × Int) × List ((Tx × Tx × Bool) × Int) × Int × Int × List (Int × Int × Tx × Tx)) → Option Bool
  | ((s0, s1, s2, s3), s4, s5, s6, s7) => ((iDiskOk (s0, s1, s2, s3)).bind fun r8 => (cond (!r8) (some false) ((iMemOk s4).bind fun r9 => (cond (!r9) (some false) ((iManOk (s5, s6, s7)).bind fun r10 => (cond (!r10) (some false) ((iCurrent (s0, s1, s2, s3)).bind fun ((r11, r12, r13), r14) => ((ilogName s6).bind fun r15 => ((iBytes ((s0, s1, s2, s3), r15)).bind fun (r16, r17) => ((iRecords r16).bind fun (r18, r19) => ((imemOf r18).bind fun (r20, r21) => (cond r14 (cond r17 (cond r21 (cond (r19 == (r16.length : Int)) ((isameMan ((r11, r12, r13), s5, s6, s7)).bind fun r22 => (cond r22 ((isameMem (r20, s4)).bind fun r23 => (cond r23 ((itablesOk ((s0, s1, s2, s3), s5, s6, s7)).bind fun r24 => (some r24)) (some false))) (some false))) (some false)) (some false)) (some false)) (some false)))))))))))))
def c_iStoreOk : Ctr := { args := [.val true (.pair y3 (.pair y6 y9))], rets := [(false, [(none, .bool)])], F := iStoreOk }
def X_iStoreOk : Ctx := XT.withΓ (lk [(68, c_iDiskOk), (94, c_iMemOk), (95, c_iManOk), (8, c_iCurrent), (96, c_ilogName), (29, c_iBytes), (97, c_iRecords), (98, c_imemOf), (99, c_isameMan), (100, c_isameMem), (101, c_itablesOk)]) (lk [])
theorem r_iStoreOk (a) : fnRun X_iStoreOk H0 c_iStoreOk Tryz.f45 T0 a = iStoreOk a := by kernel_rfl
theorem h_iStoreOk [TabsD] : CtrHolds Tryz.prog 45 c_iStoreOk := fn_ok (.cons h_iDiskOk Tryz.call68 (.cons h_iMemOk Tryz.call94 (.cons h_iManOk Tryz.call95 (.cons h_iCurrent Tryz.call8 (.cons h_ilogName Tryz.call96 (.cons h_iBytes Tryz.call29 (.cons h_iRecords Tryz.call97 (.cons h_imemOf Tryz.call98 (.cons h_isameMan Tryz.call99 (.cons h_isameMem Tryz.call100 (.cons h_itablesOk Tryz.call101 .nil))))))))))) .nil Tryz.func45 (by kernel_rfl) (loops0 (by kernel_rfl)) r_iStoreOk
def ipairsOf_L3 (O : Type) : Nat → (List ((Tx × Tx × Bool) × Int) × Int × Int × List (Tx × Tx × Bool)) → ((List (Tx × Tx × Bool)) → Option O) → ((List (Tx × Tx × Bool)) → Option O) → Option O
  | 0, _, _, _ => none
  | q + 1, (v1, v2, v3, out4), x, r => (cond (decide (v3 < v2)) (cond (decide (0 ≤ v3) && decide (v3 < (v1.length : Int))) (cond (decide ((out4.length + [((nth v1 v3).1.1, (nth v1 v3).1.2.1, (nth v1 v3).1.2.2)].length) ≤ lenBound)) (ipairsOf_L3 O q (v1, v2, (wrap .i64 (v3 + 1)), (out4 ++ [((nth v1 v3).1.1, (nth v1 v3).1.2.1, (nth v1 v3).1.2.2)])) x r) none) none) (x out4))
def ipairsOf : (List ((Tx × Tx × Bool) × Int)) → Option (List (Tx × Tx × Bool))
  | m0 => (ipairsOf_L3 (List (List UInt8 × List UInt8 × Bool)) fuel (m0, (m0.length : Int), 0, []) (fun out5 => (some out5)) some)
def c_ipairsOf : Ctr := { args := [.val true y6], rets := [(false, [(some 93, (.sl y1))])], F := ipairsOf }
def X_ipairsOf : Ctx := XT.withΓ (lk []) (lk [])
def L_ipairsOf_3 : LoopF c_ipairsOf.Res := ⟨⟨20, [(3, .one (.own 0)), (7, .one (.val y6)), (8, .one (.val y0)), (9, .one (.val y0))], [.arr 93 y1], []⟩, [(0, ⟨20, [(3, .one (.own 0))], [.arr 93 y1], []⟩)], ipairsOf_L3⟩
def T_ipairsOf : Nat → Option (LoopF c_ipairsOf.Res) := lk [(3, L_ipairsOf_3)]
theorem s_ipairsOf_3 : StepOk X_ipairsOf H0 (c_ipairsOf.finish X_ipairsOf Tryz.f46.results.toList) T_ipairsOf (loopAt Tryz.f46 0) := ⟨L_ipairsOf_3, by kernel_rfl, fun O y x r => by kernel_rfl, fun O k y x r => by kernel_rfl⟩
theorem r_ipairsOf (a) : fnRun X_ipairsOf H0 c_ipairsOf Tryz.f46 T_ipairsOf a = ipairsOf a := by kernel_rfl
theorem h_ipairsOf [Tabs] : CtrHolds Tryz.prog 46 c_ipairsOf := fn_ok .nil .nil Tryz.func46 (by kernel_rfl) (loops1 (by kernel_rfl) s_ipairsOf_3) r_ipairsOf
def iorder_L3 (O : Type) : Nat → (Int × Int × Int × List (Int × Int × Tx × Tx) × List (Int × Int × Tx × Tx)) → ((Int × Int × List (Int × Int × Tx × Tx) × List (Int × Int × Tx × Tx)) → Option O) → ((List (Int × Int × Tx × Tx)) → Option O) → Option O
  | 0, _, _, _ => none
  | q + 1, (i3, m4, m5, m6, out7), x, r => (cond (decide (i3 ≥ 0)) (cond (decide (0 ≤ i3) && decide (i3 < (m6.length : Int))) (cond ((nth m6 i3).2.1 == 0) (cond (decide (0 ≤ i3) && decide (i3 < (m6.length : Int))) (cond (decide ((out7.length + [((nth m6 i3).1, (nth m6 i3).2.1, (nth m6 i3).2.2.1, (nth m6 i3).2.2.2)].length) ≤ lenBound)) (iorder_L3 O q ((wrap .i64 (i3 - 1)), m4, m5, m6, (out7 ++ [((nth m6 i3).1, (nth m6 i3).2.1, (nth m6 i3).2.2.1, (nth m6 i3).2.2.2)])) x r) none) none) (iorder_L3 O q ((wrap .i64 (i3 - 1)), m4, m5, m6, out7) x r)) none) (x (m4, m5, m6, out7)))
def iorder_L11 (O : Type) : Nat → (Int × List (Int × Int × Tx × Tx) × Int × Int × Int × Int × List (Int × Int × Tx × Tx) × List (Int × Int × Tx × Tx)) → ((Int × Int × Int × List (Int × Int × Tx × Tx) × List (Int × Int × Tx × Tx)) → Option O) → ((List (Int × Int × Tx × Tx)) → Option O) → Option O
  | 0, _, _, _ => none
  | q + 1, (level17, v18, v19, v20, m21, m22, m23, out24), x, r => (cond (decide (v20 < v19)) (cond (decide (0 ≤ v20) && decide (v20 < (v18.length : Int))) (cond ((nth v18 v20).2.1 == level17) (cond (decide ((out24.length + [((nth v18 v20).1, (nth v18 v20).2.1, (nth v18 v20).2.2.1, (nth v18 v20).2.2.2)].length) ≤ lenBound)) (iorder_L11 O q (level17, v18, v19, (wrap .i64 (v20 + 1)), m21, m22, m23, (out24 ++ [((nth v18 v20).1, (nth v18 v20).2.1, (nth v18 v20).2.2.1, (nth v18 v20).2.2.2)])) x r) none) (iorder_L11 O q (level17, v18, v19, (wrap .i64 (v20 + 1)), m21, m22, m23, out24) x r)) none) (x (level17, m21, m22, m23, out24)))
def iorder_L8 (O : Type) : Nat → (Int × Int × Int × List (Int × Int × Tx × Tx) × List (Int × Int × Tx × Tx)) → ((List (Int × Int × Tx × Tx)) → Option O) → ((List (Int × Int × Tx × Tx)) → Option O) → Option O
  | 0, _, _, _ => none
  | q + 1, (level12, m13, m14, m15, out16), x, r => (cond (decide (level12 ≤ 3)) (iorder_L11 O fuel (level12, m15, (m15.length : Int), 0, m13, m14, m15, out16) (fun (level25, m26, m27, m28, out29) => (iorder_L8 O q ((wrap .i64 (level25 + 1)), m26, m27, m28, out29) x r)) r) (x out16))
def iorder : (Int × Int × List (Int × Int × Tx × Tx)) → Option (List (Int × Int × Tx × Tx))
  | (m0, m1, m2) => (iorder_L3 (List (Int × Int × List UInt8 × List UInt8)) fuel ((wrap .i64 ((m2.length : Int) - 1)), m0, m1, m2, []) (fun (m8, m9, m10, out11) => (iorder_L8 (List (Int × Int × List UInt8 × List UInt8)) fuel (1, m8, m9, m10, out11) (fun out30 => (some out30)) some)) some)
def c_iorder : Ctr := { args := [.val true y9], rets := [(false, [(some 88, (.sl y2))])], F := iorder }
def X_iorder : Ctx := XT.withΓ (lk []) (lk [])
def L_iorder_3 : LoopF c_iorder.Res := ⟨⟨52, [(1, .one (.ptr 0 0)), (3, .one (.own 1)), (4, .one (.val y0))], [.vars 29 [.val y0, .val y0, .val (.sl y2)], .arr 88 y2], []⟩, [(0, ⟨52, [(1, .one (.ptr 0 0)), (3, .one (.own 1))], [.vars 29 [.val y0, .val y0, .val (.sl y2)], .arr 88 y2], []⟩)], iorder_L3⟩
def L_iorder_8 : LoopF c_iorder.Res := ⟨⟨52, [(1, .one (.ptr 0 0)), (3, .one (.own 1)), (5, .one (.val y0))], [.vars 29 [.val y0, .val y0, .val (.sl y2)], .arr 88 y2], []⟩, [(2, ⟨52, [(3, .one (.own 0))], [.arr 88 y2], []⟩)], iorder_L8⟩
def L_iorder_11 : LoopF c_iorder.Res := ⟨⟨52, [(1, .one (.ptr 0 0)), (3, .one (.own 1)), (5, .one (.val y0)), (36, .one (.val (.sl y2))), (37, .one (.val y0)), (38, .one (.val y0))], [.vars 29 [.val y0, .val y0, .val (.sl y2)], .arr 88 y2], []⟩, [(4, ⟨52, [(1, .one (.ptr 0 0)), (3, .one (.own 1)), (5, .one (.val y0))], [.vars 29 [.val y0, .val y0, .val (.sl y2)], .arr 88 y2], []⟩)], iorder_L11⟩
def T_iorder : Nat → Option (LoopF c_iorder.Res) := lk [(3, L_iorder_3), (8, L_iorder_8), (11, L_iorder_11)]
theorem s_iorder_3 : StepOk X_iorder H0 (c_iorder.finish X_iorder Tryz.f47.results.toList) T_iorder (loopAt Tryz.f47 0) := ⟨L_iorder_3, by kernel_rfl, fun O y x r => by kernel_rfl, fun O k y x r => by kernel_rfl⟩
theorem s_iorder_8 : StepOk X_iorder H0 (c_iorder.finish X_iorder Tryz.f47.results.toList) T_iorder (loopAt Tryz.f47 1) := ⟨L_iorder_8, by kernel_rfl, fun O y x r => by kernel_rfl, fun O k y x r => by kernel_rfl⟩
theorem s_iorder_11 : StepOk X_iorder H0 (c_iorder.finish X_iorder Tryz.f47.results.toList) T_iorder (loopAt Tryz.f47 2) := ⟨L_iorder_11, by kernel_rfl, fun O y x r => by kernel_rfl, fun O k y x r => by kernel_rfl⟩
theorem r_iorder (a) : fnRun X_iorder H0 c_iorder Tryz.f47 T_iorder a = iorder a := by kernel_rfl
theorem h_iorder [Tabs] : CtrHolds Tryz.prog 47 c_iorder := fn_ok .nil .nil Tryz.func47 (by kernel_rfl) (loops3 (by kernel_rfl) s_iorder_3 s_iorder_8 s_iorder_11) r_iorder
def itabPairs : ((List (Int × List Int × Int) × List (Tx × Int) × List (Tx × Int) × Int) × Int) → Option (List (Tx × Tx × Bool))
  | ((d0, d1, d2, d3), no4) => ((itabName no4).bind fun r5 => ((iBytes ((d0, d1, d2, d3), r5)).bind fun (r6, r7) => ((iTablePairs r6).bind fun (r8, r9) => (some r8))))
def c_itabPairs : Ctr := { args := [.val true y3, .val false y0], rets := [(false, [(some 93, (.sl y1))])], F := itabPairs }
def X_itabPairs : Ctx := XT.withΓ (lk [(102, c_itabName), (29, c_iBytes), (103, c_iTablePairs)]) (lk [])
theorem r_itabPairs (a) : fnRun X_itabPairs H0 c_itabPairs Tryz.f48 T0 a = itabPairs a := by kernel_rfl
theorem h_itabPairs [TabsD] : CtrHolds Tryz.prog 48 c_itabPairs := fn_ok (.cons h_itabName Tryz.call102 (.cons h_iBytes Tryz.call29 (.cons h_iTablePairs Tryz.call103 .nil))) .nil Tryz.func48 (by kernel_rfl) (loops0 (by kernel_rfl)) r_itabPairs
def imerge_L5 (O : Type) : Nat → (List (List (Tx × Tx × Bool)) × Bool × Int × List (List (Tx × Tx × Bool)) × Int × Int × List Int × List (Tx × Tx × Bool)) → ((List (List (Tx × Tx × Bool)) × Bool × Int × List Int × List (Tx × Tx × Bool)) → Option O) → ((List (Tx × Tx × Bool)) → Option O) → Option O
  | 0, _, _, _ => none
  | q + 1, (lists6, drop7, best8, v9, v10, v11, at12, out13), x, r => (cond (decide (v11 < v10)) (cond (decide (0 ≤ v11) && decide (v11 < (v9.length : Int))) (cond (decide (0 ≤ v11) && decide (v11 < (at12.length : Int))) (cond (decide ((nth at12 v11) < (((nth v9 v11).length : Nat) : Int))) (cond (decide (best8 < 0)) (imerge_L5 O q (lists6, drop7, v11, v9, v10, (wrap .i64 (v11 + 1)), at12, out13) x r) (cond (decide (0 ≤ v11) && decide (v11 < (at12.length : Int))) (cond (decide (0 ≤ (nth at12 v11)) && decide ((nth at12 v11) < (((nth v9 v11).length : Nat) : Int))) (cond (decide (0 ≤ best8) && decide (best8 < (lists6.length : Int))) (cond (decide (0 ≤ best8) && decide (best8 < (at12.length : Int))) (cond (decide (0 ≤ (nth at12 best8)) && decide ((nth at12 best8) < (((nth lists6 best8).length : Nat) : Int))) (cond (Op.bytesLess (nth (nth v9 v11) (nth at12 v11)).1 (nth (nth lists6 best8) (nth at12 best8)).1) (imerge_L5 O q (lists6, drop7, v11, v9, v10, (wrap .i64 (v11 + 1)), at12, out13) x r) (imerge_L5 O q (lists6, drop7, best8, v9, v10, (wrap .i64 (v11 + 1)), at12, out13) x r)) none) none) none) none) none)) (imerge_L5 O q (lists6, drop7, best8, v9, v10, (wrap .i64 (v11 + 1)), at12, out13) x r)) none) none) (x (lists6, drop7, best8, at12, out13)))
def imerge_L14 (O : Type) : Nat → (List (List (Tx × Tx × Bool)) × Bool × List (List (Tx × Tx × Bool)) × Int × Int × List Int × List (Tx × Tx × Bool) × Tx × Tx × Bool) → ((List (List (Tx × Tx × Bool)) × Bool × List Int × List (Tx × Tx × Bool) × Tx × Tx × Bool) → Option O) → ((List (Tx × Tx × Bool)) → Option O) → Option O
  | 0, _, _, _ => none
  | q + 1, (lists19, drop20, v21, v22, v23, at24, out25, p26, p27, p28), x, r => (cond (decide (v23 < v22)) (cond (decide (0 ≤ v23) && decide (v23 < (v21.length : Int))) (cond (decide (0 ≤ v23) && decide (v23 < (at24.length : Int))) (cond (decide ((nth at24 v23) < (((nth v21 v23).length : Nat) : Int))) (cond (decide (0 ≤ v23) && decide (v23 < (at24.length : Int))) (cond (decide (0 ≤ (nth at24 v23)) && decide ((nth at24 v23) < (((nth v21 v23).length : Nat) : Int))) (cond ((nth (nth v21 v23) (nth at24 v23)).1 == p26) (cond (decide (0 ≤ v23) && decide (v23 < (at24.length : Int))) (cond (decide (0 ≤ v23) && decide (v23 < (at24.length : Int))) (imerge_L14 O q (lists19, drop20, v21, v22, (wrap .i64 (v23 + 1)), (List.set at24 (Int.toNat v23) (wrap .i64 ((nth at24 v23) + 1))), out25, p26, p27, p28) x r) none) none) (imerge_L14 O q (lists19, drop20, v21, v22, (wrap .i64 (v23 + 1)), at24, out25, p26, p27, p28) x r)) none) none) (imerge_L14 O q (lists19, drop20, v21, v22, (wrap .i64 (v23 + 1)), at24, out25, p26, p27, p28) x r)) none) none) (x (lists19, drop20, at24, out25, p26, p27, p28)))
def imerge_L3 (O : Type) : Nat → (List (List (Tx × Tx × Bool)) × Bool × List Int × List (Tx × Tx × Bool)) → (Empty → Option O) → ((List (Tx × Tx × Bool)) → Option O) → Option O
  | 0, _, _, _ => none
  | q + 1, (lists2, drop3, at4, out5), x, r => (imerge_L5 O fuel (lists2, drop3, (-1), lists2, (lists2.length : Int), 0, at4, out5) (fun (lists14, drop15, best16, at17, out18) => (cond (decide (best16 < 0)) (r out18) (cond (decide (0 ≤ best16) && decide (best16 < (lists14.length : Int))) (cond (decide (0 ≤ best16) && decide (best16 < (at17.length : Int))) (cond (decide (0 ≤ (nth at17 best16)) && decide ((nth at17 best16) < (((nth lists14 best16).length : Nat) : Int))) (imerge_L14 O fuel (lists14, drop15, lists14, (lists14.length : Int), 0, at17, out18, (nth (nth lists14 best16) (nth at17 best16)).1, (nth (nth lists14 best16) (nth at17 best16)).2.1, (nth (nth lists14 best16) (nth at17 best16)).2.2) (fun (lists29, drop30, at31, out32, p33, p34, p35) => (cond (!drop30) (cond (decide ((out32.length + [(p33, p34, p35)].length) ≤ lenBound)) (imerge_L3 O q (lists29, drop30, at31, (out32 ++ [(p33, p34, p35)])) x r) none) (cond (!p35) (cond (decide ((out32.length + [(p33, p34, p35)].length) ≤ lenBound)) (imerge_L3 O q (lists29, drop30, at31, (out32 ++ [(p33, p34, p35)])) x r) none) (imerge_L3 O q (lists29, drop30, at31, out32) x r)))) r) none) none) none))) r)
def imerge : (List (List (Tx × Tx × Bool)) × Bool) → Option (List (Tx × Tx × Bool))
  | (lists0, drop1) => (cond (decide (0 ≤ (lists0.length : Int)) && (((lists0.length : Int) == (lists0.length : Int)) && decide ((lists0.length : Int) ≤ 4294967296))) (imerge_L3 (List (List UInt8 × List UInt8 × Bool)) fuel (lists0, drop1, (List.replicate (Int.toNat (lists0.length : Int)) 0), []) (fun z => z.elim) some) none)
def c_imerge : Ctr := { args := [.val false (.sl (.sl y1)), .val false .bool], rets := [(false, [(some 93, (.sl y1))])], F := imerge }
def X_imerge : Ctx := XT.withΓ (lk []) (lk [])
def L_imerge_3 : LoopF c_imerge.Res := ⟨⟨116, [(0, .one (.val (.sl (.sl y1)))), (1, .one (.val .bool)), (5, .one (.own 0)), (6, .one (.own 1))], [.arr 3 y0, .arr 93 y1], []⟩, [], imerge_L3⟩
def L_imerge_5 : LoopF c_imerge.Res := ⟨⟨116, [(0, .one (.val (.sl (.sl y1)))), (1, .one (.val .bool)), (5, .one (.own 0)), (6, .one (.own 1)), (7, .one (.val y0)), (16, .one (.val (.sl (.sl y1)))), (17, .one (.val y0)), (18, .one (.val y0))], [.arr 3 y0, .arr 93 y1], []⟩, [(2, ⟨116, [(0, .one (.val (.sl (.sl y1)))), (1, .one (.val .bool)), (5, .one (.own 0)), (6, .one (.own 1)), (7, .one (.val y0))], [.arr 3 y0, .arr 93 y1], []⟩)], imerge_L5⟩
def L_imerge_14 : LoopF c_imerge.Res := ⟨⟨116, [(0, .one (.val (.sl (.sl y1)))), (1, .one (.val .bool)), (5, .one (.own 0)), (6, .one (.own 1)), (10, .one (.ptr 2 0)), (71, .one (.val (.sl (.sl y1)))), (72, .one (.val y0)), (73, .one (.val y0))], [.arr 3 y0, .arr 93 y1, .vars 93 [.val .str, .val .str, .val .bool]], []⟩, [(4, ⟨116, [(0, .one (.val (.sl (.sl y1)))), (1, .one (.val .bool)), (5, .one (.own 0)), (6, .one (.own 1)), (10, .one (.ptr 2 0))], [.arr 3 y0, .arr 93 y1, .vars 93 [.val .str, .val .str, .val .bool]], []⟩)], imerge_L14⟩
def T_imerge : Nat → Option (LoopF c_imerge.Res) := lk [(3, L_imerge_3), (5, L_imerge_5), (14, L_imerge_14)]
theorem s_imerge_3 : StepOk X_imerge H0 (c_imerge.finish X_imerge Tryz.f49.results.toList) T_imerge (loopAt Tryz.f49 0) := ⟨L_imerge_3, by kernel_rfl, fun O y x r => by kernel_rfl, fun O k y x r => by kernel_rfl⟩
theorem s_imerge_5 : StepOk X_imerge H0 (c_imerge.finish X_imerge Tryz.f49.results.toList) T_imerge (loopAt Tryz.f49 1) := ⟨L_imerge_5, by kernel_rfl, fun O y x r => by kernel_rfl, fun O k y x r => by kernel_rfl⟩
theorem s_imerge_14 : StepOk X_imerge H0 (c_imerge.finish X_imerge Tryz.f49.results.toList) T_imerge (loopAt Tryz.f49 2) := ⟨L_imerge_14, by kernel_rfl, fun O y x r => by kernel_rfl, fun O k y x r => by kernel_rfl⟩
theorem r_imerge (a) : fnRun X_imerge H0 c_imerge Tryz.f49 T_imerge a = imerge a := by kernel_rfl
theorem h_imerge [Tabs] : CtrHolds Tryz.prog 49 c_imerge := fn_ok .nil .nil Tryz.func49 (by kernel_rfl) (loops3 (by kernel_rfl) s_imerge_3 s_imerge_5 s_imerge_14) r_imerge
def iScan_L5 (O : Type) : Nat → (Int × Int × List (Int × List Int × Int) × List (Tx × Int) × List (Tx × Int) × Int × List ((Tx × Tx × Bool) × Int) × Int × Int × List (Int × Int × Tx × Tx) × List (List (Tx × Tx × Bool)) × List (Int × Int × Tx × Tx)) → ((List (List (Tx × Tx × Bool))) → Option O) → ((List (Tx × Tx × Bool)) → Option O) → Option O
  | 0, _, _, _ => none
  | q + 1, (v11, v12, s13, s14, s15, s16, s17, s18, s19, s20, lists21, v22), x, r => (cond (decide (v12 < v11)) (cond (decide (0 ≤ v12) && decide (v12 < (v22.length : Int))) ((itabPairs ((s13, s14, s15, s16), (nth v22 v12).1)).bind fun r23 => (cond (decide ((lists21.length + [r23].length) ≤ lenBound)) (iScan_L5 O q (v11, (wrap .i64 (v12 + 1)), s13, s14, s15, s16, s17, s18, s19, s20, (lists21 ++ [r23]), v22) x r) none)) none) (x lists21))
def iScan : ((List (Int × List Int × Int) × List (Tx × Int) × List (Tx × Int) × Int) × List ((Tx × Tx × Bool) × Int) × Int × Int × List (Int × Int × Tx × Tx)) → Option (List (Tx × Tx × Bool))
  | ((s0, s1, s2, s3), s4, s5, s6, s7) => ((iStoreOk ((s0, s1, s2, s3), s4, s5, s6, s7)).bind fun r8 => (cond (!r8) (some []) ((ipairsOf s4).bind fun r9 => ((iorder (s5, s6, s7)).bind fun r10 => (iScan_L5 (List (List UInt8 × List UInt8 × Bool)) fuel ((r10.length : Int), 0, s0, s1, s2, s3, s4, s5, s6, s7, [r9], r10) (fun lists24 => ((imerge (lists24, true)).bind fun r25 => (some r25))) some)))))
def c_iScan : Ctr := { args := [.val true (.pair y3 (.pair y6 y9))], rets := [(false, [(some 93, (.sl y1))])], F := iScan }
def X_iScan : Ctx := XT.withΓ (lk [(45, c_iStoreOk), (46, c_ipairsOf), (47, c_iorder), (48, c_itabPairs), (49, c_imerge)]) (lk [])
def L_iScan_5 : LoopF c_iScan.Res := ⟨⟨32, [(1, .one (.ptr 0 0)), (3, .one (.own 1)), (15, .one (.own 2)), (16, .one (.val y0)), (17, .one (.val y0))], [.vars 57 [.val y7, .val y5, .val y5, .val y0, .val y6, .val y0, .val y0, .val (.sl y2)], .arr 51 (.sl y1), .arr 88 y2], []⟩, [(0, ⟨32, [(3, .one (.own 0))], [.arr 51 (.sl y1)], []⟩)], iScan_L5⟩
def T_iScan : Nat → Option (LoopF c_iScan.Res) := lk [(5, L_iScan_5)]
theorem s_iScan_5 : StepOk X_iScan H0 (c_iScan.finish X_iScan Tryz.f17.results.toList) T_iScan (loopAt Tryz.f17 0) := ⟨L_iScan_5, by kernel_rfl, fun O y x r => by kernel_rfl, fun O k y x r => by kernel_rfl⟩
theorem r_iScan (a) : fnRun X_iScan H0 c_iScan Tryz.f17 T_iScan a = iScan a := by kernel_rfl
theorem h_iScan [TabsD] : CtrHolds Tryz.prog 17 c_iScan := fn_ok (.cons h_iStoreOk Tryz.call45 (.cons h_ipairsOf Tryz.call46 (.cons h_iorder Tryz.call47 (.cons h_itabPairs Tryz.call48 (.cons h_imerge Tryz.call49 .nil))))) .nil Tryz.func17 (by kernel_rfl) (loops1 (by kernel_rfl) s_iScan_5) r_iScan
def leqPair : ((Tx × Tx × Bool) × Tx × Tx × Bool) → Option Bool
  | ((a0, a1, a2), b3, b4, b5) => (cond (!(a0 == b3)) (some false) (cond (!(a1 == b4)) (some false) (cond (!(a2 == b5)) (some false) (some true))))
def c_leqPair : Ctr := { args := [.val true y1, .val true y1], rets := [(false, [(none, .bool)])], F := leqPair }
def X_leqPair : Ctx := XT.withΓ (lk []) (lk [])
theorem r_leqPair (a) : fnRun X_leqPair H0 c_leqPair Tryz.f50 T0 a = leqPair a := by kernel_rfl
theorem h_leqPair [Tabs] : CtrHolds Tryz.prog 50 c_leqPair := fn_ok .nil .nil Tryz.func50 (by kernel_rfl) (loops0 (by kernel_rfl)) r_leqPair
def leqPairS_L4 (O : Type) : Nat → (List (Tx × Tx × Bool) × List (Tx × Tx × Bool) × Int) → (Unit → Option O) → (Bool → Option O) → Option O
  | 0, _, _, _ => none
  | q + 1, (a2, b3, i4), x, r => (cond (decide (i4 < (a2.length : Int))) (cond (decide (0 ≤ i4) && decide (i4 < (a2.length : Int))) (cond (decide (0 ≤ i4) && decide (i4 < (b3.length : Int))) ((leqPair (((nth a2 i4).1, (nth a2 i4).2.1, (nth a2 i4).2.2), (nth b3 i4).1, (nth b3 i4).2.1, (nth b3 i4).2.2)).bind fun r5 => (cond (!r5) (r false) (leqPairS_L4 O q (a2, b3, (wrap .i64 (i4 + 1))) x r))) none) none) (x ()))
def leqPairS : (List (Tx × Tx × Bool) × List (Tx × Tx × Bool)) → Option Bool
  | (a0, b1) => (cond ((a0.length : Int) != (b1.length : Int)) (some false) (leqPairS_L4 Bool fuel (a0, b1, 0) (fun _ => (some true)) some))
def c_leqPairS : Ctr := { args := [.val false (.sl y1), .val false (.sl y1)], rets := [(false, [(none, .bool)])], F := leqPairS }
def X_leqPairS : Ctx := XT.withΓ (lk [(50, c_leqPair)]) (lk [])
def L_leqPairS_4 : LoopF c_leqPairS.Res := ⟨⟨27, [(0, .one (.val (.sl y1))), (1, .one (.val (.sl y1))), (5, .one (.val y0))], [], []⟩, [(0, ⟨27, [], [], []⟩)], leqPairS_L4⟩
def T_leqPairS : Nat → Option (LoopF c_leqPairS.Res) := lk [(4, L_leqPairS_4)]
theorem s_leqPairS_4 : StepOk X_leqPairS H0 (c_leqPairS.finish X_leqPairS Tryz.f18.results.toList) T_leqPairS (loopAt Tryz.f18 0) := ⟨L_leqPairS_4, by kernel_rfl, fun O y x r => by kernel_rfl, fun O k y x r => by kernel_rfl⟩
theorem r_leqPairS (a) : fnRun X_leqPairS H0 c_leqPairS Tryz.f18 T_leqPairS a = leqPairS a := by kernel_rfl
theorem h_leqPairS [Tabs] : CtrHolds Tryz.prog 18 c_leqPairS := fn_ok (.cons h_leqPair Tryz.call50 .nil) .nil Tryz.func18 (by kernel_rfl) (loops1 (by kernel_rfl) s_leqPairS_4) r_leqPairS
def leqNode : (((Tx × Tx × Bool) × Int) × (Tx × Tx × Bool) × Int) → Option Bool
  | (((a0, a1, a2), a3), (b4, b5, b6), b7) => ((leqPair ((a0, a1, a2), b4, b5, b6)).bind fun r8 => (cond (!r8) (some false) (cond (a3 != b7) (some false) (some true))))
def c_leqNode : Ctr := { args := [.val true y12, .val true y12], rets := [(false, [(none, .bool)])], F := leqNode }
def X_leqNode : Ctx := XT.withΓ (lk [(50, c_leqPair)]) (lk [])
theorem r_leqNode (a) : fnRun X_leqNode H0 c_leqNode Tryz.f149 T0 a = leqNode a := by kernel_rfl
theorem h_leqNode [Tabs] : CtrHolds Tryz.prog 149 c_leqNode := fn_ok (.cons h_leqPair Tryz.call50 .nil) .nil Tryz.func149 (by kernel_rfl) (loops0 (by kernel_rfl)) r_leqNode
def leqNodeS_L4 (O : Type) : Nat → (List ((Tx × Tx × Bool) × Int) × List ((Tx × Tx × Bool) × Int) × Int) → (Unit → Option O) → (Bool → Option O) → Option O
  | 0, _, _, _ => none
  | q + 1, (a2, b3, i4), x, r => (cond (decide (i4 < (a2.length : Int))) (cond (decide (0 ≤ i4) && decide (i4 < (a2.length : Int))) (cond (decide (0 ≤ i4) && decide (i4 < (b3.length : Int))) ((leqNode ((((nth a2 i4).1.1, (nth a2 i4).1.2.1, (nth a2 i4).1.2.2), (nth a2 i4).2), ((nth b3 i4).1.1, (nth b3 i4).1.2.1, (nth b3 i4).1.2.2), (nth b3 i4).2)).bind fun r5 => (cond (!r5) (r false) (leqNodeS_L4 O q (a2, b3, (wrap .i64 (i4 + 1))) x r))) none) none) (x ()))
def leqNodeS : (List ((Tx × Tx × Bool) × Int) × List ((Tx × Tx × Bool) × Int)) → Option Bool
  | (a0, b1) => (cond ((a0.length : Int) != (b1.length : Int)) (some false) (leqNodeS_L4 Bool fuel (a0, b1, 0) (fun _ => (some true)) some))
def c_leqNodeS : Ctr := { args := [.val false y6, .val false y6], rets := [(false, [(none, .bool)])], F := leqNodeS }
def X_leqNodeS : Ctx := XT.withΓ (lk [(149, c_leqNode)]) (lk [])
def L_leqNodeS_4 : LoopF c_leqNodeS.Res := ⟨⟨27, [(0, .one (.val y6)), (1, .one (.val y6)), (5, .one (.val y0))], [], []⟩, [(0, ⟨27, [], [], []⟩)], leqNodeS_L4⟩
def T_leqNodeS : Nat → Option (LoopF c_leqNodeS.Res) := lk [(4, L_leqNodeS_4)]
theorem s_leqNodeS_4 : StepOk X_leqNodeS H0 (c_leqNodeS.finish X_leqNodeS Tryz.f104.results.toList) T_leqNodeS (loopAt Tryz.f104 0) := ⟨L_leqNodeS_4, by kernel_rfl, fun O y x r => by kernel_rfl, fun O k y x r => by kernel_rfl⟩
theorem r_leqNodeS (a) : fnRun X_leqNodeS H0 c_leqNodeS Tryz.f104 T_leqNodeS a = leqNodeS a := by kernel_rfl
theorem h_leqNodeS [Tabs] : CtrHolds Tryz.prog 104 c_leqNodeS := fn_ok (.cons h_leqNode Tryz.call149 .nil) .nil Tryz.func104 (by kernel_rfl) (loops1 (by kernel_rfl) s_leqNodeS_4) r_leqNodeS
def leqMem : (List ((Tx × Tx × Bool) × Int) × List ((Tx × Tx × Bool) × Int)) → Option Bool
  | (a0, b1) => ((leqNodeS (a0, b1)).bind fun r2 => (cond (!r2) (some false) (some true)))
def c_leqMem : Ctr := { args := [.val true y6, .val true y6], rets := [(false, [(none, .bool)])], F := leqMem }
def X_leqMem : Ctx := XT.withΓ (lk [(104, c_leqNodeS)]) (lk [])
theorem r_leqMem (a) : fnRun X_leqMem H0 c_leqMem Tryz.f51 T0 a = leqMem a := by kernel_rfl
theorem h_leqMem [Tabs] : CtrHolds Tryz.prog 51 c_leqMem := fn_ok (.cons h_leqNodeS Tryz.call104 .nil) .nil Tryz.func51 (by kernel_rfl) (loops0 (by kernel_rfl)) r_leqMem
def leqStore : (((List (Int × List Int × Int) × List (Tx × Int) × List (Tx × Int) × Int) × List ((Tx × Tx × Bool) × Int) × Int × Int × List (Int × Int × Tx × Tx)) × (List (Int × List Int × Int) × List (Tx × Int) × List (Tx × Int) × Int) × List ((Tx × Tx × Bool) × Int) × Int × Int × List (Int × Int × Tx × Tx)) → Option Bool
  | (((a0, a1, a2, a3), a4, a5, a6, a7), (b8, b9, b10, b11), b12, b13, b14, b15) => ((leqDisk ((a0, a1, a2, a3), b8, b9, b10, b11)).bind fun r16 => (cond (!r16) (some false) ((leqMem (a4, b12)).bind fun r17 => (cond (!r17) (some false) ((leqManifest ((a5, a6, a7), b13, b14, b15)).bind fun r18 => (cond (!r18) (some false) (some true)))))))
def c_leqStore : Ctr := { args := [.val true (.pair y3 (.pair y6 y9)), .val true (.pair y3 (.pair y6 y9))], rets := [(false, [(none, .bool)])], F := leqStore }
def X_leqStore : Ctx := XT.withΓ (lk [(10, c_leqDisk), (51, c_leqMem), (9, c_leqManifest)]) (lk [])
theorem r_leqStore (a) : fnRun X_leqStore H0 c_leqStore Tryz.f19 T0 a = leqStore a := by kernel_rfl
theorem h_leqStore [Tabs] : CtrHolds Tryz.prog 19 c_leqStore := fn_ok (.cons h_leqDisk Tryz.call10 (.cons h_leqMem Tryz.call51 (.cons h_leqManifest Tryz.call9 .nil))) .nil Tryz.func19 (by kernel_rfl) (loops0 (by kernel_rfl)) r_leqStore
def lmarkNodeSM_L2 (O : Type) : Nat → (List ((Unit × Unit × Unit) × Unit) × Int × Int) → (Int → Option O) → (Int → Option O) → Option O
  | 0, _, _, _ => none
  | q + 1, (a2, k3, i4), x, r => (cond (decide (i4 < (a2.length : Int))) ((lmarkText k3).bind fun r5 => (cond (decide (0 ≤ i4) && decide (i4 < (a2.length : Int))) ((lmarkText (wrap .i64 (k3 + 1))).bind fun r6 => (cond (decide (0 ≤ i4) && decide (i4 < (a2.length : Int))) (cond (decide (0 ≤ i4) && decide (i4 < (a2.length : Int))) (cond (decide (0 ≤ i4) && decide (i4 < (a2.length : Int))) (lmarkNodeSM_L2 O q (a2, (wrap .i64 ((wrap .i64 ((wrap .i64 ((wrap .i64 (k3 + 1)) + 1)) + 1)) + 1)), (wrap .i64 (i4 + 1))) x r) none) none) none)) none)) (x k3))
def lmarkNodeSM : (List ((Unit × Unit × Unit) × Unit) × Int) → Option Int
  | (a0, k1) => (lmarkNodeSM_L2 Int fuel (a0, k1, 0) (fun k7 => (some k7)) some)
def c_lmarkNodeSM : Ctr := { args := [.val false (.sl (.pair (.pair .any (.pair .any .any)) .any)), .val false y0], rets := [(false, [(none, y0)])], F := lmarkNodeSM }
def X_lmarkNodeSM : Ctx := XT.withΓ (lk [(53, c_lmarkText)]) (lk [])
def L_lmarkNodeSM_2 : LoopF c_lmarkNodeSM.Res := ⟨⟨48, [(0, .one (.val (.sl (.pair (.pair .any (.pair .any .any)) .any)))), (1, .one (.val y0)), (5, .one (.val y0))], [], []⟩, [(0, ⟨48, [(1, .one (.val y0))], [], []⟩)], lmarkNodeSM_L2⟩
def T_lmarkNodeSM : Nat → Option (LoopF c_lmarkNodeSM.Res) := lk [(2, L_lmarkNodeSM_2)]
theorem s_lmarkNodeSM_2 : StepOk X_lmarkNodeSM H0 (c_lmarkNodeSM.finish X_lmarkNodeSM Tryz.f105.results.toList) T_lmarkNodeSM (loopAt Tryz.f105 0) := ⟨L_lmarkNodeSM_2, by kernel_rfl, fun O y x r => by kernel_rfl, fun O k y x r => by kernel_rfl⟩
theorem r_lmarkNodeSM (a) : fnRun X_lmarkNodeSM H0 c_lmarkNodeSM Tryz.f105 T_lmarkNodeSM a = lmarkNodeSM a := by kernel_rfl
theorem h_lmarkNodeSM [Tabs] : CtrHolds Tryz.prog 105 c_lmarkNodeSM := fn_ok (.cons h_lmarkText Tryz.call53 .nil) .nil Tryz.func105 (by kernel_rfl) (loops1 (by kernel_rfl) s_lmarkNodeSM_2) r_lmarkNodeSM
def lmarkMemM : (List ((Unit × Unit × Unit) × Unit) × Int) → Option Int
  | (a0, k1) => ((lmarkNodeSM (a0, k1)).bind fun r2 => (some r2))
def c_lmarkMemM : Ctr := { args := [.val true (.sl (.pair (.pair .any (.pair .any .any)) .any)), .val false y0], rets := [(false, [(none, y0)])], F := lmarkMemM }
def X_lmarkMemM : Ctx := XT.withΓ (lk [(105, c_lmarkNodeSM)]) (lk [])
theorem r_lmarkMemM (a) : fnRun X_lmarkMemM H0 c_lmarkMemM Tryz.f52 T0 a = lmarkMemM a := by kernel_rfl
theorem h_lmarkMemM [Tabs] : CtrHolds Tryz.prog 52 c_lmarkMemM := fn_ok (.cons h_lmarkNodeSM Tryz.call105 .nil) .nil Tryz.func52 (by kernel_rfl) (loops0 (by kernel_rfl)) r_lmarkMemM
def lmarkStoreM : (((List (Unit × List Unit × Unit) × List (Unit × Unit) × List (Unit × Unit) × Unit) × List ((Unit × Unit × Unit) × Unit) × Unit × Unit × List (Unit × Unit × Unit × Unit)) × Int) → Option Int
  | (((a0, a1, a2, _), a3, _, _, a4), k5) => ((lmarkDiskM ((a0, a1, a2, ()), k5)).bind fun r6 => ((lmarkMemM (a3, r6)).bind fun r7 => ((lmarkManifestM (((), (), a4), r7)).bind fun r8 => (some r8))))
def c_lmarkStoreM : Ctr := { args := [.val true y11, .val false y0], rets := [(false, [(none, y0)])], F := lmarkStoreM }
def m_lmarkStoreM : MCtr := ⟨true, (.pair (.pair (.sl (.pair (.int .i64) (.pair (.sl (.int .u8)) (.int .i64)))) (.pair (.sl (.pair .str (.int .i64))) (.pair (.sl (.pair .str (.int .i64))) (.int .i64)))) (.pair (.sl (.pair (.pair .str (.pair .str .bool)) (.int .i64))) (.pair (.int .i64) (.pair (.int .i64) (.sl (.pair (.int .i64) (.pair (.int .i64) (.pair .str .str)))))))), lmarkStoreM⟩
def X_lmarkStoreM : Ctx := XT.withΓ (lk [(11, c_lmarkDiskM), (52, c_lmarkMemM), (12, c_lmarkManifestM)]) (lk [])
theorem r_lmarkStoreM (a) : fnRun X_lmarkStoreM H0 c_lmarkStoreM Tryz.f20 T0 a = lmarkStoreM a := by kernel_rfl
theorem h_lmarkStoreM [Tabs] : CtrHolds Tryz.prog 20 c_lmarkStoreM := fn_ok (.cons h_lmarkDiskM Tryz.call11 (.cons h_lmarkMemM Tryz.call52 (.cons h_lmarkManifestM Tryz.call12 .nil))) .nil Tryz.func20 (by kernel_rfl) (loops0 (by kernel_rfl)) r_lmarkStoreM
def lmarkPairS_L2 (O : Type) : Nat → (Int × Int × List (Tx × Tx × Bool)) → ((Int × List (Tx × Tx × Bool)) → Option O) → ((Int × List (Tx × Tx × Bool)) → Option O) → Option O
  | 0, _, _, _ => none
  | q + 1, (k2, i3, a4), x, r => (cond (decide (i3 < (a4.length : Int))) ((lmarkText k2).bind fun r5 => (cond (decide (0 ≤ i3) && decide (i3 < (a4.length : Int))) ((lmarkText (wrap .i64 (k2 + 1))).bind fun r6 => (cond (decide (0 ≤ i3) && decide (i3 < (((List.set a4 (Int.toNat i3) (r5, (nth a4 i3).2.1, (nth a4 i3).2.2)).length : Nat) : Int))) (cond (decide (0 ≤ i3) && decide (i3 < (((List.set (List.set a4 (Int.toNat i3) (r5, (nth a4 i3).2.1, (nth a4 i3).2.2)) (Int.toNat i3) ((nth (List.set a4 (Int.toNat i3) (r5, (nth a4 i3).2.1, (nth a4 i3).2.2)) i3).1, r6, (nth (List.set a4 (Int.toNat i3) (r5, (nth a4 i3).2.1, (nth a4 i3).2.2)) i3).2.2)).length : Nat) : Int))) (lmarkPairS_L2 O q ((wrap .i64 ((wrap .i64 ((wrap .i64 (k2 + 1)) + 1)) + 1)), (wrap .i64 (i3 + 1)), (List.set (List.set (List.set a4 (Int.toNat i3) (r5, (nth a4 i3).2.1, (nth a4 i3).2.2)) (Int.toNat i3) ((nth (List.set a4 (Int.toNat i3) (r5, (nth a4 i3).2.1, (nth a4 i3).2.2)) i3).1, r6, (nth (List.set a4 (Int.toNat i3) (r5, (nth a4 i3).2.1, (nth a4 i3).2.2)) i3).2.2)) (Int.toNat i3) ((nth (List.set (List.set a4 (Int.toNat i3) (r5, (nth a4 i3).2.1, (nth a4 i3).2.2)) (Int.toNat i3) ((nth (List.set a4 (Int.toNat i3) (r5, (nth a4 i3).2.1, (nth a4 i3).2.2)) i3).1, r6, (nth (List.set a4 (Int.toNat i3) (r5, (nth a4 i3).2.1, (nth a4 i3).2.2)) i3).2.2)) i3).1, (nth (List.set (List.set a4 (Int.toNat i3) (r5, (nth a4 i3).2.1, (nth a4 i3).2.2)) (Int.toNat i3) ((nth (List.set a4 (Int.toNat i3) (r5, (nth a4 i3).2.1, (nth a4 i3).2.2)) i3).1, r6, (nth (List.set a4 (Int.toNat i3) (r5, (nth a4 i3).2.1, (nth a4 i3).2.2)) i3).2.2)) i3).2.1, ((Int.tmod (wrap .i64 ((wrap .i64 (k2 + 1)) + 1)) 3) == 0)))) x r) none) none)) none)) (x (k2, a4)))
def lmarkPairS : (List (Tx × Tx × Bool) × Int) → Option (Int × List (Tx × Tx × Bool))
  | (a0, k1) => (lmarkPairS_L2 (Int × List (List UInt8 × List UInt8 × Bool)) fuel (k1, 0, a0) (fun (k7, b8) => (some (k7, b8))) some)
def c_lmarkPairS : Ctr := { args := [.lent false [(some 93, (.sl y1))], .val false y0], rets := [(false, [(none, y0)])], F := lmarkPairS }
def X_lmarkPairS : Ctx := XT.withΓ (lk [(53, c_lmarkText)]) (lk [])
def L_lmarkPairS_2 : LoopF c_lmarkPairS.Res := ⟨⟨38, [(0, .one (.own 0)), (1, .one (.val y0)), (5, .one (.val y0))], [.arr 93 y1], [0]⟩, [(0, ⟨38, [(1, .one (.val y0))], [.arr 93 y1], [0]⟩)], lmarkPairS_L2⟩
def T_lmarkPairS : Nat → Option (LoopF c_lmarkPairS.Res) := lk [(2, L_lmarkPairS_2)]
theorem s_lmarkPairS_2 : StepOk X_lmarkPairS H0 (c_lmarkPairS.finish X_lmarkPairS Tryz.f21.results.toList) T_lmarkPairS (loopAt Tryz.f21 0) := ⟨L_lmarkPairS_2, by kernel_rfl, fun O y x r => by kernel_rfl, fun O k y x r => by kernel_rfl⟩
theorem r_lmarkPairS (a) : fnRun X_lmarkPairS H0 c_lmarkPairS Tryz.f21 T_lmarkPairS a = lmarkPairS a := by kernel_rfl
theorem h_lmarkPairS [Tabs] : CtrHolds Tryz.prog 21 c_lmarkPairS := fn_ok (.cons h_lmarkText Tryz.call53 .nil) .nil Tryz.func21 (by kernel_rfl) (loops1 (by kernel_rfl) s_lmarkPairS_2) r_lmarkPairS
def lheldPairS_L2 (O : Type) : Nat → (List (Tx × Tx × Bool) × Int × Int) → (Int → Option O) → (Int → Option O) → Option O
  | 0, _, _, _ => none
  | q + 1, (a2, k3, i4), x, r => (cond (decide (i4 < (a2.length : Int))) (cond (decide (0 ≤ i4) && decide (i4 < (a2.length : Int))) ((lmarkText k3).bind fun r5 => (cond (!((nth a2 i4).1 == r5)) (r (-1)) (cond (decide (0 ≤ i4) && decide (i4 < (a2.length : Int))) ((lmarkText (wrap .i64 (k3 + 1))).bind fun r6 => (cond (!((nth a2 i4).2.1 == r6)) (r (-1)) (cond (decide (0 ≤ i4) && decide (i4 < (a2.length : Int))) (cond (!((nth a2 i4).2.2 == ((Int.tmod (wrap .i64 ((wrap .i64 (k3 + 1)) + 1)) 3) == 0))) (r (-1)) (lheldPairS_L2 O q (a2, (wrap .i64 ((wrap .i64 ((wrap .i64 (k3 + 1)) + 1)) + 1)), (wrap .i64 (i4 + 1))) x r)) none))) none))) none) (x k3))
def lheldPairS : (List (Tx × Tx × Bool) × Int) → Option Int
  | (a0, k1) => (lheldPairS_L2 Int fuel (a0, k1, 0) (fun k7 => (some k7)) some)
def c_lheldPairS : Ctr := { args := [.val false (.sl y1), .val false y0], rets := [(false, [(none, y0)])], F := lheldPairS }
def X_lheldPairS : Ctx := XT.withΓ (lk [(53, c_lmarkText)]) (lk [])
def L_lheldPairS_2 : LoopF c_lheldPairS.Res := ⟨⟨44, [(0, .one (.val (.sl y1))), (1, .one (.val y0)), (5, .one (.val y0))], [], []⟩, [(0, ⟨44, [(1, .one (.val y0))], [], []⟩)], lheldPairS_L2⟩
def T_lheldPairS : Nat → Option (LoopF c_lheldPairS.Res) := lk [(2, L_lheldPairS_2)]
theorem s_lheldPairS_2 : StepOk X_lheldPairS H0 (c_lheldPairS.finish X_lheldPairS Tryz.f22.results.toList) T_lheldPairS (loopAt Tryz.f22 0) := ⟨L_lheldPairS_2, by kernel_rfl, fun O y x r => by kernel_rfl, fun O k y x r => by kernel_rfl⟩
theorem r_lheldPairS (a) : fnRun X_lheldPairS H0 c_lheldPairS Tryz.f22 T_lheldPairS a = lheldPairS a := by kernel_rfl
theorem h_lheldPairS [Tabs] : CtrHolds Tryz.prog 22 c_lheldPairS := fn_ok (.cons h_lmarkText Tryz.call53 .nil) .nil Tryz.func22 (by kernel_rfl) (loops1 (by kernel_rfl) s_lheldPairS_2) r_lheldPairS
def lFnExactScan : ((List (Int × List Int × Int) × List (Tx × Int) × List (Tx × Int) × Int) × List ((Tx × Tx × Bool) × Int) × Int × Int × List (Int × Int × Tx × Tx)) → Option Bool
  | ((aS0, aS1, aS2, aS3), aS4, aS5, aS6, aS7) => ((lszStore (((aS0, aS1, aS2, aS3), aS4, aS5, aS6, aS7), 1048576)).bind fun r8 => (cond (decide (r8 < 0)) (some true) ((ltoStore ((aS0, aS1, aS2, aS3), aS4, aS5, aS6, aS7)).bind fun (r9, r10, r11, r12, r13, r14, r15, r16) => ((sScan ((r9, r10, r11, r12), r13, r14, r15, r16)).bind fun r17 => ((ltoStore ((aS0, aS1, aS2, aS3), aS4, aS5, aS6, aS7)).bind fun (r18, r19, r20, r21, r22, r23, r24, r25) => ((iScan ((r18, r19, r20, r21), r22, r23, r24, r25)).bind fun r26 => ((leqPairS (r26, r17)).bind fun r27 => (cond (!r27) (some false) ((ltoStore ((aS0, aS1, aS2, aS3), aS4, aS5, aS6, aS7)).bind fun (r28, r29, r30, r31, r32, r33, r34, r35) => ((leqStore (((r18, r19, r20, r21), r22, r23, r24, r25), (r28, r29, r30, r31), r32, r33, r34, r35)).bind fun r36 => (cond (!r36) (some false) ((lmarkStoreM ((Ty.shapeVal (.pair (.pair (.sl (.pair (.int .i64) (.pair (.sl (.int .u8)) (.int .i64)))) (.pair (.sl (.pair .str (.int .i64))) (.pair (.sl (.pair .str (.int .i64))) (.int .i64)))) (.pair (.sl (.pair (.pair .str (.pair .str .bool)) (.int .i64))) (.pair (.int .i64) (.pair (.int .i64) (.sl (.pair (.int .i64) (.pair (.int .i64) (.pair .str .str)))))))) ((r18, r19, r20, r21), r22, r23, r24, r25)), 1)).bind fun r37 => (cond (decide (r37 < 0)) (some false) ((leqPairS (r26, r17)).bind fun r38 => (cond (!r38) (some false) ((lmarkPairS (r26, 1)).bind fun (r39, r40) => ((lheldPairS (r40, 1)).bind fun r41 => (cond (decide (r41 < 0)) (some false) (cond (r41 != r39) (some false) ((ltoStore ((aS0, aS1, aS2, aS3), aS4, aS5, aS6, aS7)).bind fun (r42, r43, r44, r45, r46, r47, r48, r49) => ((iScan ((r42, r43, r44, r45), r46, r47, r48, r49)).bind fun r50 => ((leqPairS (r50, r17)).bind fun r51 => (cond (!r51) (some false) ((lheldPairS (r40, 1)).bind fun r52 => (cond (decide (r52 < 0)) (some false) (cond (r52 != r39) (some false) (some true)))))))))))))))))))))))))))
def c_lFnExactScan : Ctr := { args := [.val true (.pair y8 (.pair (.old y12) (.pair y0 (.pair y0 (.old y2)))))], rets := [(false, [(none, .bool)])], F := lFnExactScan }
def X_lFnExactScan : Ctx := (XT.withΓ (lk [(14, c_lszStore), (16, c_ltoStore), (15, c_sScan), (17, c_iScan), (18, c_leqPairS), (19, c_leqStore), (21, c_lmarkPairS), (22, c_lheldPairS)]) (lk [])).withM (lk [(20, m_lmarkStoreM)])
theorem r_lFnExactScan (a) : fnRun X_lFnExactScan H0 c_lFnExactScan Tryz.f4 T0 a = lFnExactScan a := by kernel_rfl
theorem h_lFnExactScan [TabsD] {W : World} (hs : Tabs.sep = true) (hN : W.heap.size ≤ Tabs.N) (hS : ∀ b p, ¬ Tabs.S b p) : CtrAt W Tryz.prog 4 c_lFnExactScan := law_fn_ok (.cons h_lszStore Tryz.call14 (.cons h_ltoStore Tryz.call16 (.cons h_sScan Tryz.call15 (.cons h_iScan Tryz.call17 (.cons h_leqPairS Tryz.call18 (.cons h_leqStore Tryz.call19 (.cons h_lmarkPairS Tryz.call21 (.cons h_lheldPairS Tryz.call22 .nil)))))))) .nil (m := [(20, m_lmarkStoreM)]) (.cons (fun T => @h_lmarkStoreM T) Tryz.call20 .nil) hs hN hS Tryz.func4 (by kernel_rfl) (loops0 (by kernel_rfl)) r_lFnExactScan
end
end Go.Rx
