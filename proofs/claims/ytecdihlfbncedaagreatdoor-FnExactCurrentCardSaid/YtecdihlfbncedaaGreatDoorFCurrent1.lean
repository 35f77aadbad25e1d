import Derived.Test.YtecdihlfbncedaaGreatDoorFCurrent0
set_option linter.all false
set_option maxRecDepth 1000000
namespace Go.Rx
open Go.Proofs
/-! 172 sFrame -/
noncomputable def sFrame : (List Int) → Option (List Int)
  | body0 => ((sSum body0).bind fun r1 => ((sl1Four r1).bind fun r2 => ((sPutNum (r2, ((body0.length : Nat) : Int))).bind fun r3 => (cond (decide ((r3.length + body0.length) ≤ lenBound)) (some (r3 ++ body0)) none))))
noncomputable def c_sFrame : Ctr := { args := [.val false (.sl (.int .u8))], rets := [(false, [(some 5, (.sl (.int .u8)))])], F := sFrame }
noncomputable def X_sFrame : Ctx := XT.withΓ (lk [(165, c_sSum), (173, c_sl1Four), (168, c_sPutNum)]) (lk [])
noncomputable def H_sFrame : Hints := ⟨lk [], lk [], lk []⟩
noncomputable def T_sFrame : Nat → Option (LoopF c_sFrame.Res) := lk []
theorem r_sFrame (a) : fnRun X_sFrame H_sFrame c_sFrame Tryz.f172 T_sFrame a = sFrame a := by kernel_rfl
theorem h_sFrame [Tabs] : CtrHolds Tryz.prog 172 c_sFrame := fn_ok (.cons h_sSum Tryz.call165 (.cons h_sl1Four Tryz.call173 (.cons h_sPutNum Tryz.call168 .nil))) .nil (H := H_sFrame) (tbl := T_sFrame) Tryz.func172 (by kernel_rfl) (loops0 (by kernel_rfl)) r_sFrame
/-! 170 sl5Block -/
noncomputable def sl5Block_L4 (O : Type) : Nat → (List (List UInt8 × List UInt8 × Bool) × List UInt8 × Int × List Int) → ((List Int) → Option O) → ((List Int) → Option O) → Option O
  | 0, _, _, _ => none
  | q + 1, (l1, last2, i3, b4), x, r => (cond (decide (i3 < ((l1.length : Nat) : Int))) (cond (decide ((0 : Int) ≤ i3) && decide (i3 < ((l1.length : Nat) : Int))) ((sl5Common (last2, (nth l1 i3).1)).bind fun r5 => ((sPutNum (b4, r5)).bind fun r6 => (cond (decide ((0 : Int) ≤ i3) && decide (i3 < ((l1.length : Nat) : Int))) (cond (decide ((0 : Int) ≤ r5) && (decide (r5 ≤ (((nth l1 i3).1.length : Nat) : Int)) && decide ((((nth l1 i3).1.length : Nat) : Int) ≤ (((nth l1 i3).1.length : Nat) : Int)))) ((sPutText (r6, (cut (nth l1 i3).1 r5 (((nth l1 i3).1.length : Nat) : Int)))).bind fun r7 => (cond (decide ((0 : Int) ≤ i3) && decide (i3 < ((l1.length : Nat) : Int))) (cond (nth l1 i3).2.2 (cond (decide ((r7.length + 1) ≤ lenBound)) (cond (decide ((0 : Int) ≤ i3) && decide (i3 < ((l1.length : Nat) : Int))) ((sPutText ((r7 ++ [(1 : Int)]), (nth l1 i3).2.1)).bind fun r8 => (cond (decide ((0 : Int) ≤ i3) && decide (i3 < ((l1.length : Nat) : Int))) (sl5Block_L4 O q (l1, (nth l1 i3).1, (IntKind.wrap .i64 (i3 + (1 : Int))), r8) x r) none)) none) none) (cond (decide ((r7.length + 1) ≤ lenBound)) (cond (decide ((0 : Int) ≤ i3) && decide (i3 < ((l1.length : Nat) : Int))) ((sPutText ((r7 ++ [(0 : Int)]), (nth l1 i3).2.1)).bind fun r9 => (cond (decide ((0 : Int) ≤ i3) && decide (i3 < ((l1.length : Nat) : Int))) (sl5Block_L4 O q (l1, (nth l1 i3).1, (IntKind.wrap .i64 (i3 + (1 : Int))), r9) x r) none)) none) none)) none)) none) none))) none) (x b4))
noncomputable def sl5Block : (List (List UInt8 × List UInt8 × Bool)) → Option (List Int)
  | l0 => (sl5Block_L4 (List Int) fuel (l0, [], (0 : Int), []) (fun b10 => ((sFrame b10).bind fun r11 => (some r11))) some)
noncomputable def c_sl5Block : Ctr := { args := [.val false (.sl (.pair .str (.pair .str .bool)))], rets := [(false, [(some 5, (.sl (.int .u8)))])], F := sl5Block }
noncomputable def X_sl5Block : Ctx := XT.withΓ (lk [(197, c_sl5Common), (168, c_sPutNum), (169, c_sPutText), (172, c_sFrame)]) (lk [])
noncomputable def H_sl5Block : Hints := ⟨lk [], lk [], lk []⟩
noncomputable def L_sl5Block_4 : LoopF c_sl5Block.Res := ⟨⟨55, [(0, .one (.val (.sl (.pair .str (.pair .str .bool))))), (3, .one (.own 0)), (4, .one (.val .str)), (5, .one (.val (.int .i64)))], [.arr 5 (.int .u8)], []⟩, [(0, ⟨55, [(3, .one (.own 0))], [.arr 5 (.int .u8)], []⟩)], sl5Block_L4⟩
noncomputable def T_sl5Block : Nat → Option (LoopF c_sl5Block.Res) := lk [(4, L_sl5Block_4)]
theorem s_sl5Block_4 : StepOk X_sl5Block H_sl5Block (c_sl5Block.finish X_sl5Block Tryz.f170.results.toList) T_sl5Block (loopAt Tryz.f170 0) := ⟨L_sl5Block_4, by kernel_rfl, fun O y x r => by kernel_rfl, fun O k y x r => by kernel_rfl⟩
theorem r_sl5Block (a) : fnRun X_sl5Block H_sl5Block c_sl5Block Tryz.f170 T_sl5Block a = sl5Block a := by kernel_rfl
theorem h_sl5Block [Tabs] : CtrHolds Tryz.prog 170 c_sl5Block := fn_ok (.cons h_sl5Common Tryz.call197 (.cons h_sPutNum Tryz.call168 (.cons h_sPutText Tryz.call169 (.cons h_sFrame Tryz.call172 .nil)))) .nil (H := H_sl5Block) (tbl := T_sl5Block) Tryz.func170 (by kernel_rfl) (loops1 (by kernel_rfl) s_sl5Block_4) r_sl5Block
/-! 198 sMark -/
noncomputable def sMark : (List UInt8) → Option (Int × Int)
  | key0 => ((sSum (bytesOf key0)).bind fun r1 => (some ((Int.tmod r1 (64 : Int)), (Int.tmod (IntKind.wrap .i64 (Int.tdiv r1 (64 : Int))) (64 : Int)))))
noncomputable def c_sMark : Ctr := { args := [.val false .str], rets := [(false, [(none, (.int .i64))]), (false, [(none, (.int .i64))])], F := sMark }
noncomputable def X_sMark : Ctx := XT.withΓ (lk [(165, c_sSum)]) (lk [])
noncomputable def H_sMark : Hints := ⟨lk [], lk [], lk []⟩
noncomputable def T_sMark : Nat → Option (LoopF c_sMark.Res) := lk []
theorem r_sMark (a) : fnRun X_sMark H_sMark c_sMark Tryz.f198 T_sMark a = sMark a := by kernel_rfl
theorem h_sMark [Tabs] : CtrHolds Tryz.prog 198 c_sMark := fn_ok (.cons h_sSum Tryz.call165 .nil) .nil (H := H_sMark) (tbl := T_sMark) Tryz.func198 (by kernel_rfl) (loops0 (by kernel_rfl)) r_sMark
/-! 171 sFilter -/
noncomputable def sFilter_L3 (O : Type) : Nat → (List (List UInt8) × Int × List Int) → ((List Int) → Option O) → ((List Int) → Option O) → Option O
  | 0, _, _, _ => none
  | q + 1, (keys1, i2, out3), x, r => (cond (decide (i2 < ((keys1.length : Nat) : Int))) (cond (decide ((0 : Int) ≤ i2) && decide (i2 < ((keys1.length : Nat) : Int))) ((sMark (nth keys1 i2)).bind fun (r4, r5) => (cond (decide ((0 : Int) ≤ (IntKind.wrap .i64 (Int.tdiv r4 (8 : Int)))) && decide ((IntKind.wrap .i64 (Int.tdiv r4 (8 : Int))) < ((out3.length : Nat) : Int))) (cond (decide ((IntKind.wrap .u64 (Int.tmod r4 (8 : Int))) < (0 : Int))) none (cond (decide ((0 : Int) ≤ (IntKind.wrap .i64 (Int.tdiv r4 (8 : Int)))) && decide ((IntKind.wrap .i64 (Int.tdiv r4 (8 : Int))) < ((out3.length : Nat) : Int))) (cond (decide ((0 : Int) ≤ (IntKind.wrap .i64 (Int.tdiv r5 (8 : Int)))) && decide ((IntKind.wrap .i64 (Int.tdiv r5 (8 : Int))) < (((List.set out3 (Int.toNat (IntKind.wrap .i64 (Int.tdiv r4 (8 : Int)))) (bits .or .u8 (nth out3 (IntKind.wrap .i64 (Int.tdiv r4 (8 : Int)))) (IntKind.wrap .u8 ((1 : Int) * ((2 : Int) ^ (min (Int.toNat (IntKind.wrap .u64 (Int.tmod r4 (8 : Int)))) 8)))))).length : Nat) : Int))) (cond (decide ((IntKind.wrap .u64 (Int.tmod r5 (8 : Int))) < (0 : Int))) none (cond (decide ((0 : Int) ≤ (IntKind.wrap .i64 (Int.tdiv r5 (8 : Int)))) && decide ((IntKind.wrap .i64 (Int.tdiv r5 (8 : Int))) < (((List.set out3 (Int.toNat (IntKind.wrap .i64 (Int.tdiv r4 (8 : Int)))) (bits .or .u8 (nth out3 (IntKind.wrap .i64 (Int.tdiv r4 (8 : Int)))) (IntKind.wrap .u8 ((1 : Int) * ((2 : Int) ^ (min (Int.toNat (IntKind.wrap .u64 (Int.tmod r4 (8 : Int)))) 8)))))).length : Nat) : Int))) (sFilter_L3 O q (keys1, (IntKind.wrap .i64 (i2 + (1 : Int))), (List.set (List.set out3 (Int.toNat (IntKind.wrap .i64 (Int.tdiv r4 (8 : Int)))) (bits .or .u8 (nth out3 (IntKind.wrap .i64 (Int.tdiv r4 (8 : Int)))) (IntKind.wrap .u8 ((1 : Int) * ((2 : Int) ^ (min (Int.toNat (IntKind.wrap .u64 (Int.tmod r4 (8 : Int)))) 8)))))) (Int.toNat (IntKind.wrap .i64 (Int.tdiv r5 (8 : Int)))) (bits .or .u8 (nth (List.set out3 (Int.toNat (IntKind.wrap .i64 (Int.tdiv r4 (8 : Int)))) (bits .or .u8 (nth out3 (IntKind.wrap .i64 (Int.tdiv r4 (8 : Int)))) (IntKind.wrap .u8 ((1 : Int) * ((2 : Int) ^ (min (Int.toNat (IntKind.wrap .u64 (Int.tmod r4 (8 : Int)))) 8)))))) (IntKind.wrap .i64 (Int.tdiv r5 (8 : Int)))) (IntKind.wrap .u8 ((1 : Int) * ((2 : Int) ^ (min (Int.toNat (IntKind.wrap .u64 (Int.tmod r5 (8 : Int)))) 8))))))) x r) none)) none) none)) none)) none) (x out3))
noncomputable def sFilter : (List (List UInt8)) → Option (List Int)
  | keys0 => (sFilter_L3 (List Int) fuel (keys0, (0 : Int), [(0 : Int), (0 : Int), (0 : Int), (0 : Int), (0 : Int), (0 : Int), (0 : Int), (0 : Int)]) (fun out6 => (some out6)) some)
noncomputable def c_sFilter : Ctr := { args := [.val false (.sl .str)], rets := [(false, [(some 5, (.sl (.int .u8)))])], F := sFilter }
noncomputable def X_sFilter : Ctx := XT.withΓ (lk [(198, c_sMark)]) (lk [])
noncomputable def H_sFilter : Hints := ⟨lk [], lk [], lk []⟩
noncomputable def L_sFilter_3 : LoopF c_sFilter.Res := ⟨⟨45, [(0, .one (.val (.sl .str))), (3, .one (.own 0)), (4, .one (.val (.int .i64)))], [.arr 5 (.int .u8)], []⟩, [(0, ⟨45, [(3, .one (.own 0))], [.arr 5 (.int .u8)], []⟩)], sFilter_L3⟩
noncomputable def T_sFilter : Nat → Option (LoopF c_sFilter.Res) := lk [(3, L_sFilter_3)]
theorem s_sFilter_3 : StepOk X_sFilter H_sFilter (c_sFilter.finish X_sFilter Tryz.f171.results.toList) T_sFilter (loopAt Tryz.f171 0) := ⟨L_sFilter_3, by kernel_rfl, fun O y x r => by kernel_rfl, fun O k y x r => by kernel_rfl⟩
theorem r_sFilter (a) : fnRun X_sFilter H_sFilter c_sFilter Tryz.f171 T_sFilter a = sFilter a := by kernel_rfl
theorem h_sFilter [Tabs] : CtrHolds Tryz.prog 171 c_sFilter := fn_ok (.cons h_sMark Tryz.call198 .nil) .nil (H := H_sFilter) (tbl := T_sFilter) Tryz.func171 (by kernel_rfl) (loops1 (by kernel_rfl) s_sFilter_3) r_sFilter
/-! 135 sPutTable -/
noncomputable def sPutTable_L8 (O : Type) : Nat → (List (List UInt8 × List UInt8 × Bool) × Int × Int × List Int × List (List UInt8) × List Int) → ((List (List UInt8 × List UInt8 × Bool) × Int × List Int × List (List UInt8) × List Int) → Option O) → ((List Int) → Option O) → Option O
  | 0, _, _, _ => none
  | q + 1, (l3, blocks4, from5, out6, keys7, index8), x, r => (cond (decide (from5 < ((l3.length : Nat) : Int))) ((cond (decide ((IntKind.wrap .i64 (from5 + (4 : Int))) > ((l3.length : Nat) : Int))) (some (l3, blocks4, from5, ((l3.length : Nat) : Int), out6, keys7, index8)) (some (l3, blocks4, from5, (IntKind.wrap .i64 (from5 + (4 : Int))), out6, keys7, index8))).bind fun (l9, blocks10, from11, to12, out13, keys14, index15) => (cond (decide ((0 : Int) ≤ (IntKind.wrap .i64 (to12 - (1 : Int)))) && decide ((IntKind.wrap .i64 (to12 - (1 : Int))) < ((l9.length : Nat) : Int))) ((sPutText (index15, (nth l9 (IntKind.wrap .i64 (to12 - (1 : Int)))).1)).bind fun r16 => ((sPutNum (r16, ((out13.length : Nat) : Int))).bind fun r17 => (cond (decide ((0 : Int) ≤ from11) && (decide (from11 ≤ to12) && decide (to12 ≤ ((l9.length : Nat) : Int)))) ((sl5Block (cut l9 from11 to12)).bind fun r18 => (cond (decide ((out13.length + r18.length) ≤ lenBound)) (sPutTable_L8 O q (l9, (IntKind.wrap .i64 (blocks10 + (1 : Int))), (IntKind.wrap .i64 (from11 + (4 : Int))), (out13 ++ r18), keys14, r17) x r) none)) none))) none)) (x (l3, blocks4, out6, keys7, index8)))
noncomputable def sPutTable_L17 (O : Type) : Nat → (List (List UInt8 × List UInt8 × Bool) × Int × Int × List Int × List (List UInt8) × List Int) → ((Int × List Int × List (List UInt8) × List Int) → Option O) → ((List Int) → Option O) → Option O
  | 0, _, _, _ => none
  | q + 1, (l24, blocks25, i26, out27, keys28, index29), x, r => (cond (decide (i26 < ((l24.length : Nat) : Int))) (cond (decide ((0 : Int) ≤ i26) && decide (i26 < ((l24.length : Nat) : Int))) (cond (decide ((keys28.length + [(nth l24 i26).1].length) ≤ lenBound)) (sPutTable_L17 O q (l24, blocks25, (IntKind.wrap .i64 (i26 + (1 : Int))), out27, (keys28 ++ [(nth l24 i26).1]), index29) x r) none) none) (x (blocks25, out27, keys28, index29)))
noncomputable def sPutTable : (List (List UInt8 × List UInt8 × Bool)) → Option (List Int)
  | l0 => ((sl4Rising l0).bind fun r1 => (cond (!r1) (some []) ((sl1In (((l0.length : Nat) : Int), (1 : Int), (200 : Int))).bind fun r2 => (cond (!r2) (some []) (sPutTable_L8 (List Int) fuel (l0, (0 : Int), (0 : Int), [], [], []) (fun (l19, blocks20, out21, keys22, index23) => (sPutTable_L17 (List Int) fuel (l19, blocks20, (0 : Int), out21, keys22, index23) (fun (blocks30, out31, keys32, index33) => ((sPutNum ([], blocks30)).bind fun r34 => (cond (decide ((r34.length + index33.length) ≤ lenBound)) ((sFilter keys32).bind fun r35 => (cond (decide (((r34 ++ index33).length + r35.length) ≤ lenBound)) ((sFrame ((r34 ++ index33) ++ r35)).bind fun r36 => (cond (decide ((out31.length + r36.length) ≤ lenBound)) ((sl1Four ((out31.length : Nat) : Int)).bind fun r37 => (cond (decide (((out31 ++ r36).length + r37.length) ≤ lenBound)) (some ((out31 ++ r36) ++ r37)) none)) none)) none)) none))) some)) some)))))
noncomputable def c_sPutTable : Ctr := { args := [.val false (.sl (.pair .str (.pair .str .bool)))], rets := [(false, [(some 5, (.sl (.int .u8)))])], F := sPutTable }
noncomputable def X_sPutTable : Ctx := XT.withΓ (lk [(167, c_sl4Rising), (108, c_sl1In), (169, c_sPutText), (168, c_sPutNum), (170, c_sl5Block), (171, c_sFilter), (172, c_sFrame), (173, c_sl1Four)]) (lk [])
noncomputable def H_sPutTable : Hints := ⟨lk [(13, ⟨90, [(0, .one (.val (.sl (.pair .str (.pair .str .bool))))), (3, .one (.own 0)), (4, .one (.own 1)), (5, .one (.own 2)), (6, .one (.val (.int .i64))), (7, .one (.val (.int .i64))), (8, .one (.val (.int .i64)))], [.arr 5 (.int .u8), .arr 9 .str, .arr 5 (.int .u8)], []⟩)], lk [], lk []⟩
noncomputable def L_sPutTable_8 : LoopF c_sPutTable.Res := ⟨⟨90, [(0, .one (.val (.sl (.pair .str (.pair .str .bool))))), (3, .one (.own 0)), (4, .one (.own 1)), (5, .one (.own 2)), (6, .one (.val (.int .i64))), (7, .one (.val (.int .i64)))], [.arr 5 (.int .u8), .arr 9 .str, .arr 5 (.int .u8)], []⟩, [(0, ⟨90, [(0, .one (.val (.sl (.pair .str (.pair .str .bool))))), (3, .one (.own 0)), (4, .one (.own 1)), (5, .one (.own 2)), (6, .one (.val (.int .i64)))], [.arr 5 (.int .u8), .arr 9 .str, .arr 5 (.int .u8)], []⟩)], sPutTable_L8⟩
noncomputable def L_sPutTable_17 : LoopF c_sPutTable.Res := ⟨⟨90, [(0, .one (.val (.sl (.pair .str (.pair .str .bool))))), (3, .one (.own 0)), (4, .one (.own 1)), (5, .one (.own 2)), (6, .one (.val (.int .i64))), (9, .one (.val (.int .i64)))], [.arr 5 (.int .u8), .arr 9 .str, .arr 5 (.int .u8)], []⟩, [(2, ⟨90, [(3, .one (.own 0)), (4, .one (.own 1)), (5, .one (.own 2)), (6, .one (.val (.int .i64)))], [.arr 5 (.int .u8), .arr 9 .str, .arr 5 (.int .u8)], []⟩)], sPutTable_L17⟩
noncomputable def T_sPutTable : Nat → Option (LoopF c_sPutTable.Res) := lk [(8, L_sPutTable_8), (17, L_sPutTable_17)]
theorem s_sPutTable_8 : StepOk X_sPutTable H_sPutTable (c_sPutTable.finish X_sPutTable Tryz.f135.results.toList) T_sPutTable (loopAt Tryz.f135 0) := ⟨L_sPutTable_8, by kernel_rfl, fun O y x r => by kernel_rfl, fun O k y x r => by kernel_rfl⟩
theorem s_sPutTable_17 : StepOk X_sPutTable H_sPutTable (c_sPutTable.finish X_sPutTable Tryz.f135.results.toList) T_sPutTable (loopAt Tryz.f135 1) := ⟨L_sPutTable_17, by kernel_rfl, fun O y x r => by kernel_rfl, fun O k y x r => by kernel_rfl⟩
theorem r_sPutTable (a) : fnRun X_sPutTable H_sPutTable c_sPutTable Tryz.f135 T_sPutTable a = sPutTable a := by kernel_rfl
theorem h_sPutTable [Tabs] : CtrHolds Tryz.prog 135 c_sPutTable := fn_ok (.cons h_sl4Rising Tryz.call167 (.cons h_sl1In Tryz.call108 (.cons h_sPutText Tryz.call169 (.cons h_sPutNum Tryz.call168 (.cons h_sl5Block Tryz.call170 (.cons h_sFilter Tryz.call171 (.cons h_sFrame Tryz.call172 (.cons h_sl1Four Tryz.call173 .nil)))))))) .nil (H := H_sPutTable) (tbl := T_sPutTable) Tryz.func135 (by kernel_rfl) (loops2 (by kernel_rfl) s_sPutTable_8 s_sPutTable_17) r_sPutTable
/-! 134 sl5Same -/
noncomputable def sl5Same_L4 (O : Type) : Nat → (List Int × List Int × Int) → (Unit → Option O) → (Bool → Option O) → Option O
  | 0, _, _, _ => none
  | q + 1, (a2, b3, i4), x, r => (cond (decide (i4 < ((a2.length : Nat) : Int))) (cond (decide ((0 : Int) ≤ i4) && decide (i4 < ((a2.length : Nat) : Int))) (cond (decide ((0 : Int) ≤ i4) && decide (i4 < ((b3.length : Nat) : Int))) (cond ((nth a2 i4) != (nth b3 i4)) (r false) (sl5Same_L4 O q (a2, b3, (IntKind.wrap .i64 (i4 + (1 : Int)))) x r)) none) none) (x ()))
noncomputable def sl5Same : (List Int × List Int) → Option Bool
  | (a0, b1) => (cond (((a0.length : Nat) : Int) != ((b1.length : Nat) : Int)) (some false) (sl5Same_L4 Bool fuel (a0, b1, (0 : Int)) (fun _ => (some true)) some))
noncomputable def c_sl5Same : Ctr := { args := [.val false (.sl (.int .u8)), .val false (.sl (.int .u8))], rets := [(false, [(none, .bool)])], F := sl5Same }
noncomputable def X_sl5Same : Ctx := XT.withΓ (lk []) (lk [])
noncomputable def H_sl5Same : Hints := ⟨lk [], lk [], lk []⟩
noncomputable def L_sl5Same_4 : LoopF c_sl5Same.Res := ⟨⟨26, [(0, .one (.val (.sl (.int .u8)))), (1, .one (.val (.sl (.int .u8)))), (5, .one (.val (.int .i64)))], [], []⟩, [(0, ⟨26, [], [], []⟩)], sl5Same_L4⟩
noncomputable def T_sl5Same : Nat → Option (LoopF c_sl5Same.Res) := lk [(4, L_sl5Same_4)]
theorem s_sl5Same_4 : StepOk X_sl5Same H_sl5Same (c_sl5Same.finish X_sl5Same Tryz.f134.results.toList) T_sl5Same (loopAt Tryz.f134 0) := ⟨L_sl5Same_4, by kernel_rfl, fun O y x r => by kernel_rfl, fun O k y x r => by kernel_rfl⟩
theorem r_sl5Same (a) : fnRun X_sl5Same H_sl5Same c_sl5Same Tryz.f134 T_sl5Same a = sl5Same a := by kernel_rfl
theorem h_sl5Same [Tabs] : CtrHolds Tryz.prog 134 c_sl5Same := fn_ok .nil .nil (H := H_sl5Same) (tbl := T_sl5Same) Tryz.func134 (by kernel_rfl) (loops1 (by kernel_rfl) s_sl5Same_4) r_sl5Same
/-! 90 sTablePairs -/
noncomputable def sTablePairs_L4 (O : Type) : Nat → (List Int × List Int × Bool × Int × List (List UInt8 × List UInt8 × Bool)) → ((List Int × Bool × List (List UInt8 × List UInt8 × Bool)) → Option O) → ((List (List UInt8 × List UInt8 × Bool) × Bool) → Option O) → Option O
  | 0, _, _, _ => none
  | q + 1, (b5, places6, ok7, i8, out9), x, r => (cond (decide (i8 < ((places6.length : Nat) : Int))) (cond ok7 (cond (decide ((0 : Int) ≤ i8) && decide (i8 < ((places6.length : Nat) : Int))) ((sl5Pairs (b5, (nth places6 i8))).bind fun (r10, r11) => (cond (decide ((out9.length + r10.length) ≤ lenBound)) (sTablePairs_L4 O q (b5, places6, r11, (IntKind.wrap .i64 (i8 + (1 : Int))), (out9 ++ r10)) x r) none)) none) (x (b5, ok7, out9))) (x (b5, ok7, out9)))
noncomputable def sTablePairs : (List Int) → Option (List (List UInt8 × List UInt8 × Bool) × Bool)
  | b0 => ((sl5Index b0).bind fun (r1, r2, r3, r4) => (sTablePairs_L4 (List (List UInt8 × List UInt8 × Bool) × Bool) fuel (b0, r2, r4, (0 : Int), []) (fun (b12, ok13, out14) => (cond (!ok13) (some ([], false)) ((sPutTable out14).bind fun r15 => ((sl5Same (r15, b12)).bind fun r16 => (cond (!r16) (some ([], false)) (some (out14, true))))))) some))
noncomputable def c_sTablePairs : Ctr := { args := [.val false (.sl (.int .u8))], rets := [(false, [(some 93, (.sl (.pair .str (.pair .str .bool))))]), (false, [(none, .bool)])], F := sTablePairs }
noncomputable def X_sTablePairs : Ctx := XT.withΓ (lk [(132, c_sl5Index), (133, c_sl5Pairs), (135, c_sPutTable), (134, c_sl5Same)]) (lk [])
noncomputable def H_sTablePairs : Hints := ⟨lk [], lk [], lk []⟩
noncomputable def L_sTablePairs_4 : LoopF c_sTablePairs.Res := ⟨⟨53, [(0, .one (.val (.sl (.int .u8)))), (5, .one (.val (.sl (.int .i64)))), (7, .one (.val .bool)), (8, .one (.own 0)), (9, .one (.val (.int .i64)))], [.arr 93 (.pair .str (.pair .str .bool))], []⟩, [(0, ⟨53, [(0, .one (.val (.sl (.int .u8)))), (7, .one (.val .bool)), (8, .one (.own 0))], [.arr 93 (.pair .str (.pair .str .bool))], []⟩)], sTablePairs_L4⟩
noncomputable def T_sTablePairs : Nat → Option (LoopF c_sTablePairs.Res) := lk [(4, L_sTablePairs_4)]
theorem s_sTablePairs_4 : StepOk X_sTablePairs H_sTablePairs (c_sTablePairs.finish X_sTablePairs Tryz.f90.results.toList) T_sTablePairs (loopAt Tryz.f90 0) := ⟨L_sTablePairs_4, by kernel_rfl, fun O y x r => by kernel_rfl, fun O k y x r => by kernel_rfl⟩
theorem r_sTablePairs (a) : fnRun X_sTablePairs H_sTablePairs c_sTablePairs Tryz.f90 T_sTablePairs a = sTablePairs a := by kernel_rfl
theorem h_sTablePairs [Tabs] : CtrHolds Tryz.prog 90 c_sTablePairs := fn_ok (.cons h_sl5Index Tryz.call132 (.cons h_sl5Pairs Tryz.call133 (.cons h_sPutTable Tryz.call135 (.cons h_sl5Same Tryz.call134 .nil)))) .nil (H := H_sTablePairs) (tbl := T_sTablePairs) Tryz.func90 (by kernel_rfl) (loops1 (by kernel_rfl) s_sTablePairs_4) r_sTablePairs
/-! 86 sl7Tables -/
noncomputable def sl7Tables_L2 (O : Type) : Nat → (Int × List (Int × List Int × Int) × List (List UInt8 × Int) × List (List UInt8 × Int) × Int × Int × Int × List (Int × Int × List UInt8 × List UInt8)) → (Unit → Option O) → (Bool → Option O) → Option O
  | 0, _, _, _ => none
  | q + 1, (i7, d8, d9, d10, d11, m12, m13, m14), x, r => (cond (decide (i7 < ((m14.length : Nat) : Int))) (cond (decide ((0 : Int) ≤ i7) && decide (i7 < ((m14.length : Nat) : Int))) ((sl7Tab (nth m14 i7).1).bind fun r15 => ((sBytes ((d8, d9, d10, d11), r15)).bind fun (r16, r17) => ((sTablePairs r16).bind fun (r18, r19) => (cond (!r17) (r false) (cond (!r19) (r false) (cond (decide ((0 : Int) < ((r18.length : Nat) : Int))) (cond (!((List.getD r18 0 ([], [], false)).1 == (nth m14 i7).2.2.1)) (r false) (cond (decide ((0 : Int) ≤ (IntKind.wrap .i64 (((r18.length : Nat) : Int) - (1 : Int)))) && decide ((IntKind.wrap .i64 (((r18.length : Nat) : Int) - (1 : Int))) < ((r18.length : Nat) : Int))) (cond (!((nth r18 (IntKind.wrap .i64 (((r18.length : Nat) : Int) - (1 : Int)))).1 == (nth m14 i7).2.2.2)) (r false) (sl7Tables_L2 O q ((IntKind.wrap .i64 (i7 + (1 : Int))), d8, d9, d10, d11, m12, m13, m14) x r)) none)) none)))))) none) (x ()))
noncomputable def sl7Tables : ((List (Int × List Int × Int) × List (List UInt8 × Int) × List (List UInt8 × Int) × Int) × Int × Int × List (Int × Int × List UInt8 × List UInt8)) → Option Bool
  | ((d0, d1, d2, d3), m4, m5, m6) => (sl7Tables_L2 Bool fuel ((0 : Int), d0, d1, d2, d3, m4, m5, m6) (fun _ => (some true)) some)
noncomputable def c_sl7Tables : Ctr := { args := [.val true (.pair (.sl (.pair (.int .i64) (.pair (.sl (.int .u8)) (.int .i64)))) (.pair (.sl (.pair .str (.int .i64))) (.pair (.sl (.pair .str (.int .i64))) (.int .i64)))), .val true (.pair (.int .i64) (.pair (.int .i64) (.sl (.pair (.int .i64) (.pair (.int .i64) (.pair .str .str))))))], rets := [(false, [(none, .bool)])], F := sl7Tables }
noncomputable def X_sl7Tables : Ctx := XT.withΓ (lk [(89, c_sl7Tab), (25, c_sBytes), (90, c_sTablePairs)]) (lk [])
noncomputable def H_sl7Tables : Hints := ⟨lk [], lk [], lk []⟩
noncomputable def L_sl7Tables_2 : LoopF c_sl7Tables.Res := ⟨⟨63, [(2, .one (.ptr 0 0)), (3, .one (.ptr 1 0)), (5, .one (.val (.int .i64)))], [.vars 35 [.val (.sl (.pair (.int .i64) (.pair (.sl (.int .u8)) (.int .i64)))), .val (.sl (.pair .str (.int .i64))), .val (.sl (.pair .str (.int .i64))), .val (.int .i64)], .vars 29 [.val (.int .i64), .val (.int .i64), .val (.sl (.pair (.int .i64) (.pair (.int .i64) (.pair .str .str))))]], []⟩, [(0, ⟨63, [], [], []⟩)], sl7Tables_L2⟩
noncomputable def T_sl7Tables : Nat → Option (LoopF c_sl7Tables.Res) := lk [(2, L_sl7Tables_2)]
theorem s_sl7Tables_2 : StepOk X_sl7Tables H_sl7Tables (c_sl7Tables.finish X_sl7Tables Tryz.f86.results.toList) T_sl7Tables (loopAt Tryz.f86 0) := ⟨L_sl7Tables_2, by kernel_rfl, fun O y x r => by kernel_rfl, fun O k y x r => by kernel_rfl⟩
theorem r_sl7Tables (a) : fnRun X_sl7Tables H_sl7Tables c_sl7Tables Tryz.f86 T_sl7Tables a = sl7Tables a := by kernel_rfl
theorem h_sl7Tables [Tabs] : CtrHolds Tryz.prog 86 c_sl7Tables := fn_ok (.cons h_sl7Tab Tryz.call89 (.cons h_sBytes Tryz.call25 (.cons h_sTablePairs Tryz.call90 .nil))) .nil (H := H_sl7Tables) (tbl := T_sl7Tables) Tryz.func86 (by kernel_rfl) (loops1 (by kernel_rfl) s_sl7Tables_2) r_sl7Tables
/-! 40 sStoreOk -/
noncomputable def sStoreOk : ((List (Int × List Int × Int) × List (List UInt8 × Int) × List (List UInt8 × Int) × Int) × List ((List UInt8 × List UInt8 × Bool) × Int) × Int × Int × List (Int × Int × List UInt8 × List UInt8)) → Option Bool
  | ((s0, s1, s2, s3), s4, s5, s6, s7) => ((sDiskOk (s0, s1, s2, s3)).bind fun r8 => (cond (!r8) (some false) ((sMemOk s4).bind fun r9 => (cond (!r9) (some false) ((sManOk (s5, s6, s7)).bind fun r10 => (cond (!r10) (some false) ((sCurrent (s0, s1, s2, s3)).bind fun ((r11, r12, r13), r14) => ((sl7Log s6).bind fun r15 => ((sBytes ((s0, s1, s2, s3), r15)).bind fun (r16, r17) => ((sRecords r16).bind fun (r18, r19) => ((sl7Mem r18).bind fun (r20, r21) => (cond r14 ((sManText (r11, r12, r13)).bind fun r22 => ((sManText (s5, s6, s7)).bind fun r23 => (cond (r22 == r23) (cond r17 (cond (r19 == ((r16.length : Nat) : Int)) (cond r21 ((sl7SameMem (r20, s4)).bind fun r24 => (cond r24 ((sl7Tables ((s0, s1, s2, s3), s5, s6, s7)).bind fun r25 => (some r25)) (some false))) (some false)) (some false)) (some false)) (some false)))) (some false)))))))))))))
noncomputable def c_sStoreOk : Ctr := { args := [.val true (.pair (.pair (.sl (.pair (.int .i64) (.pair (.sl (.int .u8)) (.int .i64)))) (.pair (.sl (.pair .str (.int .i64))) (.pair (.sl (.pair .str (.int .i64))) (.int .i64)))) (.pair (.sl (.pair (.pair .str (.pair .str .bool)) (.int .i64))) (.pair (.int .i64) (.pair (.int .i64) (.sl (.pair (.int .i64) (.pair (.int .i64) (.pair .str .str))))))))], rets := [(false, [(none, .bool)])], F := sStoreOk }
noncomputable def X_sStoreOk : Ctx := XT.withΓ (lk [(80, c_sDiskOk), (81, c_sMemOk), (62, c_sManOk), (6, c_sCurrent), (82, c_sl7Log), (25, c_sBytes), (83, c_sRecords), (84, c_sl7Mem), (63, c_sManText), (85, c_sl7SameMem), (86, c_sl7Tables)]) (lk [])
noncomputable def H_sStoreOk : Hints := ⟨lk [], lk [], lk []⟩
noncomputable def T_sStoreOk : Nat → Option (LoopF c_sStoreOk.Res) := lk []
theorem r_sStoreOk (a) : fnRun X_sStoreOk H_sStoreOk c_sStoreOk Tryz.f40 T_sStoreOk a = sStoreOk a := by kernel_rfl
theorem h_sStoreOk [Tabs] : CtrHolds Tryz.prog 40 c_sStoreOk := fn_ok (.cons h_sDiskOk Tryz.call80 (.cons h_sMemOk Tryz.call81 (.cons h_sManOk Tryz.call62 (.cons h_sCurrent Tryz.call6 (.cons h_sl7Log Tryz.call82 (.cons h_sBytes Tryz.call25 (.cons h_sRecords Tryz.call83 (.cons h_sl7Mem Tryz.call84 (.cons h_sManText Tryz.call63 (.cons h_sl7SameMem Tryz.call85 (.cons h_sl7Tables Tryz.call86 .nil))))))))))) .nil (H := H_sStoreOk) (tbl := T_sStoreOk) Tryz.func40 (by kernel_rfl) (loops0 (by kernel_rfl)) r_sStoreOk
/-! 138 iPairOk -/
noncomputable def iPairOk : (List UInt8 × List UInt8 × Bool) → Option Bool
  | (p0, p1, p2) => ((ikeyOk p0).bind fun r3 => (cond r3 (cond (decide (((p1.length : Nat) : Int) ≤ (20 : Int))) (cond (!p2) (some true) (some (p1 == []))) (some false)) (some false)))
noncomputable def c_iPairOk : Ctr := { args := [.val true (.pair .str (.pair .str .bool))], rets := [(false, [(none, .bool)])], F := iPairOk }
noncomputable def X_iPairOk : Ctx := XT.withΓ (lk [(175, c_ikeyOk)]) (lk [])
noncomputable def H_iPairOk : Hints := ⟨lk [], lk [], lk []⟩
noncomputable def T_iPairOk : Nat → Option (LoopF c_iPairOk.Res) := lk []
theorem r_iPairOk (a) : fnRun X_iPairOk H_iPairOk c_iPairOk Tryz.f138 T_iPairOk a = iPairOk a := by kernel_rfl
theorem h_iPairOk [Tabs] : CtrHolds Tryz.prog 138 c_iPairOk := fn_ok (.cons h_ikeyOk Tryz.call175 .nil) .nil (H := H_iPairOk) (tbl := T_iPairOk) Tryz.func138 (by kernel_rfl) (loops0 (by kernel_rfl)) r_iPairOk
/-! 94 iMemOk -/
noncomputable def iMemOk_L2 (O : Type) : Nat → (List ((List UInt8 × List UInt8 × Bool) × Int) × Int × Int × List ((List UInt8 × List UInt8 × Bool) × Int)) → ((List ((List UInt8 × List UInt8 × Bool) × Int)) → Option O) → (Bool → Option O) → Option O
  | 0, _, _, _ => none
  | q + 1, (v1, v2, v3, m4), x, r => (cond (decide (v3 < v2)) (cond (decide ((0 : Int) ≤ v3) && decide (v3 < ((v1.length : Nat) : Int))) ((iPairOk ((nth v1 v3).1.1, (nth v1 v3).1.2.1, (nth v1 v3).1.2.2)).bind fun r5 => (cond (!r5) (r false) ((iin ((nth v1 v3).2, (1 : Int), (4 : Int))).bind fun r6 => (cond (!r6) (r false) (cond (decide (v3 > (0 : Int))) (cond (decide ((0 : Int) ≤ (IntKind.wrap .i64 (v3 - (1 : Int)))) && decide ((IntKind.wrap .i64 (v3 - (1 : Int))) < ((m4.length : Nat) : Int))) (cond (!(Op.bytesLess (nth m4 (IntKind.wrap .i64 (v3 - (1 : Int)))).1.1 (nth v1 v3).1.1)) (r false) (iMemOk_L2 O q (v1, v2, (IntKind.wrap .i64 (v3 + (1 : Int))), m4) x r)) none) (iMemOk_L2 O q (v1, v2, (IntKind.wrap .i64 (v3 + (1 : Int))), m4) x r)))))) none) (x m4))
noncomputable def iMemOk : (List ((List UInt8 × List UInt8 × Bool) × Int)) → Option Bool
  | m0 => (iMemOk_L2 Bool fuel (m0, ((m0.length : Nat) : Int), (0 : Int), m0) (fun m7 => (some (decide (((m7.length : Nat) : Int) ≤ (60 : Int))))) some)
noncomputable def c_iMemOk : Ctr := { args := [.val true (.sl (.pair (.pair .str (.pair .str .bool)) (.int .i64)))], rets := [(false, [(none, .bool)])], F := iMemOk }
noncomputable def X_iMemOk : Ctx := XT.withΓ (lk [(138, c_iPairOk), (114, c_iin)]) (lk [])
noncomputable def H_iMemOk : Hints := ⟨lk [], lk [], lk []⟩
noncomputable def L_iMemOk_2 : LoopF c_iMemOk.Res := ⟨⟨46, [(1, .one (.ptr 0 0)), (6, .one (.val (.sl (.pair (.pair .str (.pair .str .bool)) (.int .i64))))), (7, .one (.val (.int .i64))), (8, .one (.val (.int .i64)))], [.vars 55 [.val (.sl (.pair (.pair .str (.pair .str .bool)) (.int .i64)))]], []⟩, [(0, ⟨46, [(1, .one (.ptr 0 0))], [.vars 55 [.val (.sl (.pair (.pair .str (.pair .str .bool)) (.int .i64)))]], []⟩)], iMemOk_L2⟩
noncomputable def T_iMemOk : Nat → Option (LoopF c_iMemOk.Res) := lk [(2, L_iMemOk_2)]
theorem s_iMemOk_2 : StepOk X_iMemOk H_iMemOk (c_iMemOk.finish X_iMemOk Tryz.f94.results.toList) T_iMemOk (loopAt Tryz.f94 0) := ⟨L_iMemOk_2, by kernel_rfl, fun O y x r => by kernel_rfl, fun O k y x r => by kernel_rfl⟩
theorem r_iMemOk (a) : fnRun X_iMemOk H_iMemOk c_iMemOk Tryz.f94 T_iMemOk a = iMemOk a := by kernel_rfl
theorem h_iMemOk [Tabs] : CtrHolds Tryz.prog 94 c_iMemOk := fn_ok (.cons h_iPairOk Tryz.call138 (.cons h_iin Tryz.call114 .nil)) .nil (H := H_iMemOk) (tbl := T_iMemOk) Tryz.func94 (by kernel_rfl) (loops1 (by kernel_rfl) s_iMemOk_2) r_iMemOk
/-! 96 ilogName -/
noncomputable def ilogName : Int → Option (List UInt8)
  | n0 => ((xItoa n0).bind fun r1 => (cond (decide ((4 + r1.length) ≤ lenBound)) (some ([108, 111, 103, 45] ++ r1)) none))
noncomputable def c_ilogName : Ctr := { args := [.val false (.int .i64)], rets := [(false, [(none, .str)])], F := ilogName }
noncomputable def X_ilogName : Ctx := XT.withΓ (lk [(121, c_xItoa)]) (lk [])
noncomputable def H_ilogName : Hints := ⟨lk [], lk [], lk []⟩
noncomputable def T_ilogName : Nat → Option (LoopF c_ilogName.Res) := lk []
theorem r_ilogName (a) : fnRun X_ilogName H_ilogName c_ilogName Tryz.f96 T_ilogName a = ilogName a := by kernel_rfl
theorem h_ilogName [TabsD] : CtrHolds Tryz.prog 96 c_ilogName := fn_ok (.cons h_xItoa Tryz.call121 .nil) .nil (H := H_ilogName) (tbl := T_ilogName) Tryz.func96 (by kernel_rfl) (loops0 (by kernel_rfl)) r_ilogName
/-! 199 iGetNum -/
noncomputable def iGetNum_L3 (O : Type) : Nat → (List Int × Int × Int × Int) → (Unit → Option O) → ((Int × Int × Bool) → Option O) → Option O
  | 0, _, _, _ => none
  | q + 1, (b2, at3, n4, k5), x, r => (cond (decide (k5 < (5 : Int))) (cond (decide (at3 ≥ (0 : Int))) (cond (decide (at3 < (IntKind.wrap .i64 (((b2.length : Nat) : Int) - k5)))) (cond (decide ((0 : Int) ≤ (IntKind.wrap .i64 (at3 + k5))) && decide ((IntKind.wrap .i64 (at3 + k5)) < ((b2.length : Nat) : Int))) (((cond (k5 == (0 : Int)) (cond ((IntKind.wrap .i64 (nth b2 (IntKind.wrap .i64 (at3 + k5)))) == (128 : Int)) ((x ()).map Sum.inr) (some (Sum.inl (b2, at3, n4, k5, (IntKind.wrap .i64 (nth b2 (IntKind.wrap .i64 (at3 + k5)))), at3, decide (at3 ≥ (0 : Int)), at3, b2, ((b2.length : Nat) : Int), k5, (IntKind.wrap .i64 (((b2.length : Nat) : Int) - k5)), decide (at3 < (IntKind.wrap .i64 (((b2.length : Nat) : Int) - k5))))))) (some (Sum.inl (b2, at3, n4, k5, (IntKind.wrap .i64 (nth b2 (IntKind.wrap .i64 (at3 + k5)))), at3, decide (at3 ≥ (0 : Int)), at3, b2, ((b2.length : Nat) : Int), k5, (IntKind.wrap .i64 (((b2.length : Nat) : Int) - k5)), decide (at3 < (IntKind.wrap .i64 (((b2.length : Nat) : Int) - k5))))))) : Option ((List Int × Int × Int × Int × Int × Int × Bool × Int × List Int × Int × Int × Int × Bool) ⊕ O)).bind fun z => match z with | .inl (b6, at7, n8, k9, x10, v11, v12, v13, v14, v15, v16, v17, v18) => (cond (decide (x10 ≥ (128 : Int))) (iGetNum_L3 O q (b6, at7, (IntKind.wrap .i64 ((IntKind.wrap .i64 (n8 * (128 : Int))) + (Int.tmod x10 (128 : Int)))), (IntKind.wrap .i64 (k9 + (1 : Int)))) x r) (cond (decide ((IntKind.wrap .i64 ((IntKind.wrap .i64 (n8 * (128 : Int))) + (Int.tmod x10 (128 : Int)))) > (1000000000 : Int))) (x ()) (r ((IntKind.wrap .i64 ((IntKind.wrap .i64 (n8 * (128 : Int))) + (Int.tmod x10 (128 : Int)))), (IntKind.wrap .i64 ((IntKind.wrap .i64 (at7 + k9)) + (1 : Int))), true)))) | .inr o => some o) none) (x ())) (x ())) (x ()))
noncomputable def iGetNum : (List Int × Int) → Option (Int × Int × Bool)
  | (b0, at1) => (iGetNum_L3 (Int × Int × Bool) fuel (b0, at1, (0 : Int), (0 : Int)) (fun _ => (some ((0 : Int), (0 : Int), false))) some)
noncomputable def c_iGetNum : Ctr := { args := [.val false (.sl (.int .u8)), .val false (.int .i64)], rets := [(false, [(none, (.int .i64))]), (false, [(none, (.int .i64))]), (false, [(none, .bool)])], F := iGetNum }
noncomputable def X_iGetNum : Ctx := XT.withΓ (lk []) (lk [])
noncomputable def H_iGetNum : Hints := ⟨lk [], lk [(7, ⟨53, [(0, .one (.val (.sl (.int .u8)))), (1, .one (.val (.int .i64))), (7, .one (.val (.int .i64))), (8, .one (.val (.int .i64))), (9, .one (.val (.int .i64))), (13, .one (.val (.int .i64))), (14, .one (.val .bool)), (17, .one (.val (.int .i64))), (18, .one (.val (.sl (.int .u8)))), (19, .one (.val (.int .i64))), (20, .one (.val (.int .i64))), (21, .one (.val (.int .i64))), (22, .one (.val .bool))], [], []⟩)], lk []⟩
noncomputable def L_iGetNum_3 : LoopF c_iGetNum.Res := ⟨⟨53, [(0, .one (.val (.sl (.int .u8)))), (1, .one (.val (.int .i64))), (7, .one (.val (.int .i64))), (8, .one (.val (.int .i64)))], [], []⟩, [(0, ⟨53, [], [], []⟩)], iGetNum_L3⟩
noncomputable def T_iGetNum : Nat → Option (LoopF c_iGetNum.Res) := lk [(3, L_iGetNum_3)]
theorem s_iGetNum_3 : StepOk X_iGetNum H_iGetNum (c_iGetNum.finish X_iGetNum Tryz.f199.results.toList) T_iGetNum (loopAt Tryz.f199 0) := ⟨L_iGetNum_3, by kernel_rfl, fun O y x r => by kernel_rfl, fun O k y x r => by kernel_rfl⟩
theorem r_iGetNum (a) : fnRun X_iGetNum H_iGetNum c_iGetNum Tryz.f199 T_iGetNum a = iGetNum a := by kernel_rfl
theorem h_iGetNum [Tabs] : CtrHolds Tryz.prog 199 c_iGetNum := fn_ok .nil .nil (H := H_iGetNum) (tbl := T_iGetNum) Tryz.func199 (by kernel_rfl) (loops1 (by kernel_rfl) s_iGetNum_3) r_iGetNum
/-! 176 iGetText -/
noncomputable def iGetText : (List Int × Int) → Option (List UInt8 × Int × Bool)
  | (b0, at1) => ((iGetNum (b0, at1)).bind fun (r2, r3, r4) => (cond (!r4) (some ([], (0 : Int), false)) (cond (decide (r2 > (IntKind.wrap .i64 (((b0.length : Nat) : Int) - r3)))) (some ([], (0 : Int), false)) (cond (decide ((0 : Int) ≤ r3) && (decide (r3 ≤ (IntKind.wrap .i64 (r3 + r2))) && decide ((IntKind.wrap .i64 (r3 + r2)) ≤ ((b0.length : Nat) : Int)))) (some ((strOf (cut b0 r3 (IntKind.wrap .i64 (r3 + r2)))), (IntKind.wrap .i64 (r3 + r2)), true)) none))))
noncomputable def c_iGetText : Ctr := { args := [.val false (.sl (.int .u8)), .val false (.int .i64)], rets := [(false, [(none, .str)]), (false, [(none, (.int .i64))]), (false, [(none, .bool)])], F := iGetText }
noncomputable def X_iGetText : Ctx := XT.withΓ (lk [(199, c_iGetNum)]) (lk [])
noncomputable def H_iGetText : Hints := ⟨lk [], lk [], lk []⟩
noncomputable def T_iGetText : Nat → Option (LoopF c_iGetText.Res) := lk []
theorem r_iGetText (a) : fnRun X_iGetText H_iGetText c_iGetText Tryz.f176 T_iGetText a = iGetText a := by kernel_rfl
theorem h_iGetText [Tabs] : CtrHolds Tryz.prog 176 c_iGetText := fn_ok (.cons h_iGetNum Tryz.call199 .nil) .nil (H := H_iGetText) (tbl := T_iGetText) Tryz.func176 (by kernel_rfl) (loops0 (by kernel_rfl)) r_iGetText
/-! 177 iSum -/
noncomputable def iSum_L7 (O : Type) : Nat → (Int × List Int × Int × Int × Int) → ((Int × List Int × Int × Int) → Option O) → (Int → Option O) → Option O
  | 0, _, _, _ => none
  | q + 1, (r5, v6, v7, v8, v9), x, r => (cond (decide (v9 < (8 : Int))) (cond ((bits .and .u32 r5 (1 : Int)) == (1 : Int)) (iSum_L7 O q ((bits .xor .u32 (Int.fdiv r5 (2 : Int)) (2197175160 : Int)), v6, v7, v8, (IntKind.wrap .i64 (v9 + (1 : Int)))) x r) (iSum_L7 O q ((Int.fdiv r5 (2 : Int)), v6, v7, v8, (IntKind.wrap .i64 (v9 + (1 : Int)))) x r)) (x (r5, v6, v7, v8)))
noncomputable def iSum_L3 (O : Type) : Nat → (Int × List Int × Int × Int) → (Int → Option O) → (Int → Option O) → Option O
  | 0, _, _, _ => none
  | q + 1, (r1, v2, v3, v4), x, r => (cond (decide (v4 < v3)) (cond (decide ((0 : Int) ≤ v4) && decide (v4 < ((v2.length : Nat) : Int))) (iSum_L7 O fuel ((bits .xor .u32 r1 (IntKind.wrap .u32 (nth v2 v4))), v2, v3, v4, (0 : Int)) (fun (r10, v11, v12, v13) => (iSum_L3 O q (r10, v11, v12, (IntKind.wrap .i64 (v13 + (1 : Int)))) x r)) r) none) (x r1))
noncomputable def iSum : (List Int) → Option Int
  | b0 => (iSum_L3 Int fuel ((4294967295 : Int), b0, ((b0.length : Nat) : Int), (0 : Int)) (fun r14 => (some (IntKind.wrap .i64 (bits .xor .u32 (if false then (-1 : Int) else (if false then (2147483647 : Int) else (4294967295 : Int))) r14)))) some)
noncomputable def c_iSum : Ctr := { args := [.val false (.sl (.int .u8))], rets := [(false, [(none, (.int .i64))])], F := iSum }
noncomputable def X_iSum : Ctx := XT.withΓ (lk []) (lk [])
noncomputable def H_iSum : Hints := ⟨lk [], lk [], lk []⟩
noncomputable def L_iSum_3 : LoopF c_iSum.Res := ⟨⟨32, [(3, .one (.val (.int .u32))), (7, .one (.val (.sl (.int .u8)))), (8, .one (.val (.int .i64))), (9, .one (.val (.int .i64)))], [], []⟩, [(0, ⟨32, [(3, .one (.val (.int .u32)))], [], []⟩)], iSum_L3⟩
noncomputable def L_iSum_7 : LoopF c_iSum.Res := ⟨⟨32, [(3, .one (.val (.int .u32))), (7, .one (.val (.sl (.int .u8)))), (8, .one (.val (.int .i64))), (9, .one (.val (.int .i64))), (17, .one (.val (.int .i64)))], [], []⟩, [(2, ⟨32, [(3, .one (.val (.int .u32))), (7, .one (.val (.sl (.int .u8)))), (8, .one (.val (.int .i64))), (9, .one (.val (.int .i64)))], [], []⟩)], iSum_L7⟩
noncomputable def T_iSum : Nat → Option (LoopF c_iSum.Res) := lk [(3, L_iSum_3), (7, L_iSum_7)]
theorem s_iSum_3 : StepOk X_iSum H_iSum (c_iSum.finish X_iSum Tryz.f177.results.toList) T_iSum (loopAt Tryz.f177 0) := ⟨L_iSum_3, by kernel_rfl, fun O y x r => by kernel_rfl, fun O k y x r => by kernel_rfl⟩
theorem s_iSum_7 : StepOk X_iSum H_iSum (c_iSum.finish X_iSum Tryz.f177.results.toList) T_iSum (loopAt Tryz.f177 1) := ⟨L_iSum_7, by kernel_rfl, fun O y x r => by kernel_rfl, fun O k y x r => by kernel_rfl⟩
theorem r_iSum (a) : fnRun X_iSum H_iSum c_iSum Tryz.f177 T_iSum a = iSum a := by kernel_rfl
theorem h_iSum [Tabs] : CtrHolds Tryz.prog 177 c_iSum := fn_ok .nil .nil (H := H_iSum) (tbl := T_iSum) Tryz.func177 (by kernel_rfl) (loops2 (by kernel_rfl) s_iSum_3 s_iSum_7) r_iSum
/-! 178 iwordAt -/
noncomputable def iwordAt : (List Int × Int) → Option Int
  | (b0, at1) => (cond (decide ((0 : Int) ≤ at1) && decide (at1 < ((b0.length : Nat) : Int))) (cond (decide ((0 : Int) ≤ (IntKind.wrap .i64 (at1 + (1 : Int)))) && decide ((IntKind.wrap .i64 (at1 + (1 : Int))) < ((b0.length : Nat) : Int))) (cond (decide ((0 : Int) ≤ (IntKind.wrap .i64 (at1 + (2 : Int)))) && decide ((IntKind.wrap .i64 (at1 + (2 : Int))) < ((b0.length : Nat) : Int))) (cond (decide ((0 : Int) ≤ (IntKind.wrap .i64 (at1 + (3 : Int)))) && decide ((IntKind.wrap .i64 (at1 + (3 : Int))) < ((b0.length : Nat) : Int))) (some (bits .or .i64 (bits .or .i64 (bits .or .i64 (IntKind.wrap .i64 ((IntKind.wrap .i64 (nth b0 at1)) * (16777216 : Int))) (IntKind.wrap .i64 ((IntKind.wrap .i64 (nth b0 (IntKind.wrap .i64 (at1 + (1 : Int))))) * (65536 : Int)))) (IntKind.wrap .i64 ((IntKind.wrap .i64 (nth b0 (IntKind.wrap .i64 (at1 + (2 : Int))))) * (256 : Int)))) (IntKind.wrap .i64 (nth b0 (IntKind.wrap .i64 (at1 + (3 : Int))))))) none) none) none) none)
noncomputable def c_iwordAt : Ctr := { args := [.val false (.sl (.int .u8)), .val false (.int .i64)], rets := [(false, [(none, (.int .i64))])], F := iwordAt }
noncomputable def X_iwordAt : Ctx := XT.withΓ (lk []) (lk [])
noncomputable def H_iwordAt : Hints := ⟨lk [], lk [], lk []⟩
noncomputable def T_iwordAt : Nat → Option (LoopF c_iwordAt.Res) := lk []
theorem r_iwordAt (a) : fnRun X_iwordAt H_iwordAt c_iwordAt Tryz.f178 T_iwordAt a = iwordAt a := by kernel_rfl
theorem h_iwordAt [Tabs] : CtrHolds Tryz.prog 178 c_iwordAt := fn_ok .nil .nil (H := H_iwordAt) (tbl := T_iwordAt) Tryz.func178 (by kernel_rfl) (loops0 (by kernel_rfl)) r_iwordAt
/-! 141 iUnframe -/
noncomputable def iUnframe : (List Int × Int) → Option (List Int × Int × Bool)
  | (b0, at1) => ((iin (at1, (0 : Int), (IntKind.wrap .i64 (((b0.length : Nat) : Int) - (4 : Int))))).bind fun r2 => (cond (!r2) (some ([], at1, false)) ((iGetText (b0, (IntKind.wrap .i64 (at1 + (4 : Int))))).bind fun (r3, r4, r5) => (cond (!r5) (some ([], at1, false)) ((iSum (bytesOf r3)).bind fun r6 => ((iwordAt (b0, at1)).bind fun r7 => (cond (r6 != r7) (some ([], at1, false)) (some ((bytesOf r3), r4, true)))))))))
noncomputable def c_iUnframe : Ctr := { args := [.val false (.sl (.int .u8)), .val false (.int .i64)], rets := [(false, [(none, (.sl (.int .u8)))]), (false, [(none, (.int .i64))]), (false, [(none, .bool)])], F := iUnframe }
noncomputable def X_iUnframe : Ctx := XT.withΓ (lk [(114, c_iin), (176, c_iGetText), (177, c_iSum), (178, c_iwordAt)]) (lk [])
noncomputable def H_iUnframe : Hints := ⟨lk [], lk [], lk []⟩
noncomputable def T_iUnframe : Nat → Option (LoopF c_iUnframe.Res) := lk []
theorem r_iUnframe (a) : fnRun X_iUnframe H_iUnframe c_iUnframe Tryz.f141 T_iUnframe a = iUnframe a := by kernel_rfl
theorem h_iUnframe [Tabs] : CtrHolds Tryz.prog 141 c_iUnframe := fn_ok (.cons h_iin Tryz.call114 (.cons h_iGetText Tryz.call176 (.cons h_iSum Tryz.call177 (.cons h_iwordAt Tryz.call178 .nil)))) .nil (H := H_iUnframe) (tbl := T_iUnframe) Tryz.func141 (by kernel_rfl) (loops0 (by kernel_rfl)) r_iUnframe
/-! 97 iRecords -/
noncomputable def iRecords_L3 (O : Type) : Nat → (List Int × Int × List (List Int)) → (Empty → Option O) → ((List (List Int) × Int) → Option O) → Option O
  | 0, _, _, _ => none
  | q + 1, (b1, at2, out3), x, r => ((iUnframe (b1, at2)).bind fun (r4, r5, r6) => (cond (!r6) (r (out3, at2)) (cond (decide ((out3.length + [r4].length) ≤ lenBound)) (iRecords_L3 O q (b1, r5, (out3 ++ [r4])) x r) none)))
noncomputable def iRecords : (List Int) → Option (List (List Int) × Int)
  | b0 => (iRecords_L3 (List (List Int) × Int) fuel (b0, (0 : Int), []) (fun z => z.elim) some)
noncomputable def c_iRecords : Ctr := { args := [.val false (.sl (.int .u8))], rets := [(false, [(some 66, (.sl (.sl (.int .u8))))]), (false, [(none, (.int .i64))])], F := iRecords }
noncomputable def X_iRecords : Ctx := XT.withΓ (lk [(141, c_iUnframe)]) (lk [])
noncomputable def H_iRecords : Hints := ⟨lk [], lk [], lk []⟩
noncomputable def L_iRecords_3 : LoopF c_iRecords.Res := ⟨⟨25, [(0, .one (.val (.sl (.int .u8)))), (4, .one (.own 0)), (5, .one (.val (.int .i64)))], [.arr 66 (.sl (.int .u8))], []⟩, [], iRecords_L3⟩
noncomputable def T_iRecords : Nat → Option (LoopF c_iRecords.Res) := lk [(3, L_iRecords_3)]
theorem s_iRecords_3 : StepOk X_iRecords H_iRecords (c_iRecords.finish X_iRecords Tryz.f97.results.toList) T_iRecords (loopAt Tryz.f97 0) := ⟨L_iRecords_3, by kernel_rfl, fun O y x r => by kernel_rfl, fun O k y x r => by kernel_rfl⟩
theorem r_iRecords (a) : fnRun X_iRecords H_iRecords c_iRecords Tryz.f97 T_iRecords a = iRecords a := by kernel_rfl
theorem h_iRecords [Tabs] : CtrHolds Tryz.prog 97 c_iRecords := fn_ok (.cons h_iUnframe Tryz.call141 .nil) .nil (H := H_iRecords) (tbl := T_iRecords) Tryz.func97 (by kernel_rfl) (loops1 (by kernel_rfl) s_iRecords_3) r_iRecords
/-! 142 ireader_text -/
noncomputable def ireader_text : (List Int × Int × Bool) → Option (List UInt8 × List Int × Int × Bool)
  | (r0, r1, r2) => ((iGetText (r0, r1)).bind fun (r3, r4, r5) => ((cond r2 (some (r3, r4, true, r0, r1, r2)) (some (r3, r4, (!r5), r0, r1, r2))).bind fun (s6, next7, v8, r9, r10, r11) => (cond v8 (some ([], r9, r10, true)) (some (s6, r9, next7, r11)))))
noncomputable def c_ireader_text : Ctr := { args := [.ref 177 [(none, (.sl (.int .u8))), (none, (.int .i64)), (none, .bool)]], rets := [(false, [(none, .str)])], F := ireader_text }
noncomputable def X_ireader_text : Ctx := XT.withΓ (lk [(176, c_iGetText)]) (lk [])
noncomputable def H_ireader_text : Hints := ⟨lk [(3, ⟨35, [(0, .one (.ptr 0 0)), (3, .one (.val .str)), (4, .one (.val (.int .i64))), (26, .one (.val .bool))], [.vars 177 [.val (.sl (.int .u8)), .val (.int .i64), .val .bool]], [0]⟩)], lk [], lk []⟩
noncomputable def T_ireader_text : Nat → Option (LoopF c_ireader_text.Res) := lk []
theorem r_ireader_text (a) : fnRun X_ireader_text H_ireader_text c_ireader_text Tryz.f142 T_ireader_text a = ireader_text a := by kernel_rfl
theorem h_ireader_text [Tabs] : CtrHolds Tryz.prog 142 c_ireader_text := fn_ok (.cons h_iGetText Tryz.call176 .nil) .nil (H := H_ireader_text) (tbl := T_ireader_text) Tryz.func142 (by kernel_rfl) (loops0 (by kernel_rfl)) r_ireader_text
/-! 144 ireader_one -/
noncomputable def ireader_one : (List Int × Int × Bool) → Option (Int × List Int × Int × Bool)
  | (r0, r1, r2) => ((cond r2 (some (true, r0, r1, r2)) (some (decide (r1 ≥ ((r0.length : Nat) : Int)), r0, r1, r2))).bind fun (v3, r4, r5, r6) => (cond v3 (some ((0 : Int), r4, r5, true)) (cond (decide ((0 : Int) ≤ (IntKind.wrap .i64 ((IntKind.wrap .i64 (r5 + (1 : Int))) - (1 : Int)))) && decide ((IntKind.wrap .i64 ((IntKind.wrap .i64 (r5 + (1 : Int))) - (1 : Int))) < ((r4.length : Nat) : Int))) (some ((IntKind.wrap .i64 (nth r4 (IntKind.wrap .i64 ((IntKind.wrap .i64 (r5 + (1 : Int))) - (1 : Int))))), r4, (IntKind.wrap .i64 (r5 + (1 : Int))), r6)) none)))
noncomputable def c_ireader_one : Ctr := { args := [.ref 177 [(none, (.sl (.int .u8))), (none, (.int .i64)), (none, .bool)]], rets := [(false, [(none, (.int .i64))])], F := ireader_one }
noncomputable def X_ireader_one : Ctx := XT.withΓ (lk []) (lk [])
noncomputable def H_ireader_one : Hints := ⟨lk [(2, ⟨41, [(0, .one (.ptr 0 0)), (18, .one (.val .bool))], [.vars 177 [.val (.sl (.int .u8)), .val (.int .i64), .val .bool]], [0]⟩)], lk [], lk []⟩
noncomputable def T_ireader_one : Nat → Option (LoopF c_ireader_one.Res) := lk []
theorem r_ireader_one (a) : fnRun X_ireader_one H_ireader_one c_ireader_one Tryz.f144 T_ireader_one a = ireader_one a := by kernel_rfl
theorem h_ireader_one [Tabs] : CtrHolds Tryz.prog 144 c_ireader_one := fn_ok .nil .nil (H := H_ireader_one) (tbl := T_ireader_one) Tryz.func144 (by kernel_rfl) (loops0 (by kernel_rfl)) r_ireader_one
/-! 143 ireader_flag -/
noncomputable def ireader_flag : (List Int × Int × Bool) → Option (Bool × List Int × Int × Bool)
  | (r0, r1, r2) => ((ireader_one (r0, r1, r2)).bind fun (r3, r4, r5, r6) => (cond r6 (some ((r3 == (1 : Int)), r4, r5, true)) (some ((r3 == (1 : Int)), r4, r5, decide (r3 > (1 : Int))))))
noncomputable def c_ireader_flag : Ctr := { args := [.ref 177 [(none, (.sl (.int .u8))), (none, (.int .i64)), (none, .bool)]], rets := [(false, [(none, .bool)])], F := ireader_flag }
noncomputable def X_ireader_flag : Ctx := XT.withΓ (lk [(144, c_ireader_one)]) (lk [])
noncomputable def H_ireader_flag : Hints := ⟨lk [], lk [], lk []⟩
noncomputable def T_ireader_flag : Nat → Option (LoopF c_ireader_flag.Res) := lk []
theorem r_ireader_flag (a) : fnRun X_ireader_flag H_ireader_flag c_ireader_flag Tryz.f143 T_ireader_flag a = ireader_flag a := by kernel_rfl
theorem h_ireader_flag [Tabs] : CtrHolds Tryz.prog 143 c_ireader_flag := fn_ok (.cons h_ireader_one Tryz.call144 .nil) .nil (H := H_ireader_flag) (tbl := T_ireader_flag) Tryz.func143 (by kernel_rfl) (loops0 (by kernel_rfl)) r_ireader_flag
/-! 179 icopyMem -/
noncomputable def icopyMem : (List ((List UInt8 × List UInt8 × Bool) × Int)) → Option (List ((List UInt8 × List UInt8 × Bool) × Int))
  | m0 => (cond (decide (m0.length ≤ lenBound)) (some m0) none)
noncomputable def c_icopyMem : Ctr := { args := [.val true (.sl (.pair (.pair .str (.pair .str .bool)) (.int .i64)))], rets := [(true, [(some 141, (.sl (.pair (.pair .str (.pair .str .bool)) (.int .i64))))])], F := icopyMem }
noncomputable def X_icopyMem : Ctx := XT.withΓ (lk []) (lk [])
noncomputable def H_icopyMem : Hints := ⟨lk [], lk [], lk []⟩
noncomputable def T_icopyMem : Nat → Option (LoopF c_icopyMem.Res) := lk []
theorem r_icopyMem (a) : fnRun X_icopyMem H_icopyMem c_icopyMem Tryz.f179 T_icopyMem a = icopyMem a := by kernel_rfl
theorem h_icopyMem [Tabs] : CtrHolds Tryz.prog 179 c_icopyMem := fn_ok .nil .nil (H := H_icopyMem) (tbl := T_icopyMem) Tryz.func179 (by kernel_rfl) (loops0 (by kernel_rfl)) r_icopyMem
/-! 145 iMemPut -/
noncomputable def iMemPut_L5 (O : Type) : Nat → (Int × Int × List ((List UInt8 × List UInt8 × Bool) × Int) × List UInt8 × List UInt8 × Bool × List ((List UInt8 × List UInt8 × Bool) × Int)) → ((Int × Int × List ((List UInt8 × List UInt8 × Bool) × Int) × List UInt8 × List UInt8 × Bool × List ((List UInt8 × List UInt8 × Bool) × Int)) → Option O) → ((List ((List UInt8 × List UInt8 × Bool) × Int) × Bool) → Option O) → Option O
  | 0, _, _, _ => none
  | q + 1, (tower9, k10, m11, p12, p13, p14, out15), x, r => (cond (decide (k10 < ((m11.length : Nat) : Int))) (cond (decide ((0 : Int) ≤ k10) && decide (k10 < ((m11.length : Nat) : Int))) (cond (Op.bytesLess (nth m11 k10).1.1 p12) (iMemPut_L5 O q (tower9, (IntKind.wrap .i64 (k10 + (1 : Int))), m11, p12, p13, p14, out15) x r) (x (tower9, k10, m11, p12, p13, p14, out15))) none) (x (tower9, k10, m11, p12, p13, p14, out15)))
noncomputable def iMemPut : (List ((List UInt8 × List UInt8 × Bool) × Int) × (List UInt8 × List UInt8 × Bool) × Int) → Option (List ((List UInt8 × List UInt8 × Bool) × Int) × Bool)
  | (m0, (p1, p2, p3), tower4) => ((icopyMem m0).bind fun r5 => ((iMemOk m0).bind fun r6 => (cond (!r6) (some (r5, false)) ((iPairOk (p1, p2, p3)).bind fun r7 => (cond (!r7) (some (r5, false)) ((iin (tower4, (1 : Int), (4 : Int))).bind fun r8 => (cond (!r8) (some (r5, false)) (iMemPut_L5 (List ((List UInt8 × List UInt8 × Bool) × Int) × Bool) fuel (tower4, (0 : Int), m0, p1, p2, p3, r5) (fun (tower16, k17, m18, p19, p20, p21, out22) => ((cond (decide (k17 < ((m18.length : Nat) : Int))) (cond (decide ((0 : Int) ≤ k17) && decide (k17 < ((m18.length : Nat) : Int))) (some (tower16, k17, ((nth m18 k17).1.1 == p19), m18, p19, p20, p21, out22)) none) (some (tower16, k17, false, m18, p19, p20, p21, out22))).bind fun (tower23, k24, v25, m26, p27, p28, p29, out30) => (cond v25 (cond (decide ((0 : Int) ≤ k24) && decide (k24 < ((out30.length : Nat) : Int))) (some ((List.set out30 (Int.toNat k24) ((p27, p28, p29), (nth out30 k24).2)), true)) none) (cond (decide (((m26.length : Nat) : Int) ≥ (60 : Int))) (some (out30, false)) (cond (decide ((0 : Int) ≤ k24) && decide (k24 ≤ ((m26.length : Nat) : Int))) (cond (decide ((cut m26 (0 : Int) k24).length ≤ lenBound)) (cond (decide (((cut m26 (0 : Int) k24).length + [((p27, p28, p29), tower23)].length) ≤ lenBound)) (cond (decide ((0 : Int) ≤ k24) && (decide (k24 ≤ ((m26.length : Nat) : Int)) && decide (((m26.length : Nat) : Int) ≤ ((m26.length : Nat) : Int)))) (cond (decide ((((cut m26 (0 : Int) k24) ++ [((p27, p28, p29), tower23)]).length + (cut m26 k24 ((m26.length : Nat) : Int)).length) ≤ lenBound)) (some ((((cut m26 (0 : Int) k24) ++ [((p27, p28, p29), tower23)]) ++ (cut m26 k24 ((m26.length : Nat) : Int))), true)) none) none) none) none) none))))) some))))))))
noncomputable def c_iMemPut : Ctr := { args := [.val true (.sl (.pair (.pair .str (.pair .str .bool)) (.int .i64))), .val true (.pair .str (.pair .str .bool)), .val false (.int .i64)], rets := [(true, [(some 141, (.sl (.pair (.pair .str (.pair .str .bool)) (.int .i64))))]), (false, [(none, .bool)])], F := iMemPut }
noncomputable def X_iMemPut : Ctx := XT.withΓ (lk [(179, c_icopyMem), (94, c_iMemOk), (138, c_iPairOk), (114, c_iin)]) (lk [])
noncomputable def H_iMemPut : Hints := ⟨lk [(8, ⟨90, [(2, .one (.val (.int .i64))), (3, .one (.ptr 0 0)), (4, .one (.ptr 1 0)), (6, .one (.ptr 2 0)), (8, .one (.ptr 3 0)), (9, .one (.val (.int .i64))), (61, .one (.val .bool))], [.vars 55 [.val (.sl (.pair (.pair .str (.pair .str .bool)) (.int .i64)))], .vars 93 [.val .str, .val .str, .val .bool], .vars 55 [.nils], .vars 55 [.own 4], .arr 141 (.pair (.pair .str (.pair .str .bool)) (.int .i64))], []⟩)], lk [], lk []⟩
noncomputable def L_iMemPut_5 : LoopF c_iMemPut.Res := ⟨⟨90, [(2, .one (.val (.int .i64))), (3, .one (.ptr 0 0)), (4, .one (.ptr 1 0)), (6, .one (.ptr 2 0)), (8, .one (.ptr 3 0)), (9, .one (.val (.int .i64)))], [.vars 55 [.val (.sl (.pair (.pair .str (.pair .str .bool)) (.int .i64)))], .vars 93 [.val .str, .val .str, .val .bool], .vars 55 [.nils], .vars 55 [.own 4], .arr 141 (.pair (.pair .str (.pair .str .bool)) (.int .i64))], []⟩, [(0, ⟨90, [(2, .one (.val (.int .i64))), (3, .one (.ptr 0 0)), (4, .one (.ptr 1 0)), (6, .one (.ptr 2 0)), (8, .one (.ptr 3 0)), (9, .one (.val (.int .i64)))], [.vars 55 [.val (.sl (.pair (.pair .str (.pair .str .bool)) (.int .i64)))], .vars 93 [.val .str, .val .str, .val .bool], .vars 55 [.nils], .vars 55 [.own 4], .arr 141 (.pair (.pair .str (.pair .str .bool)) (.int .i64))], []⟩)], iMemPut_L5⟩
noncomputable def T_iMemPut : Nat → Option (LoopF c_iMemPut.Res) := lk [(5, L_iMemPut_5)]
theorem s_iMemPut_5 : StepOk X_iMemPut H_iMemPut (c_iMemPut.finish X_iMemPut Tryz.f145.results.toList) T_iMemPut (loopAt Tryz.f145 0) := ⟨L_iMemPut_5, by kernel_rfl, fun O y x r => by kernel_rfl, fun O k y x r => by kernel_rfl⟩
theorem r_iMemPut (a) : fnRun X_iMemPut H_iMemPut c_iMemPut Tryz.f145 T_iMemPut a = iMemPut a := by kernel_rfl
theorem h_iMemPut [Tabs] : CtrHolds Tryz.prog 145 c_iMemPut := fn_ok (.cons h_icopyMem Tryz.call179 (.cons h_iMemOk Tryz.call94 (.cons h_iPairOk Tryz.call138 (.cons h_iin Tryz.call114 .nil)))) .nil (H := H_iMemPut) (tbl := T_iMemPut) Tryz.func145 (by kernel_rfl) (loops1 (by kernel_rfl) s_iMemPut_5) r_iMemPut
/-! 98 imemOf -/
noncomputable def imemOf_L3 (O : Type) : Nat → (List (List Int) × Int × Int × List ((List UInt8 × List UInt8 × Bool) × Int)) → ((List ((List UInt8 × List UInt8 × Bool) × Int)) → Option O) → ((List ((List UInt8 × List UInt8 × Bool) × Int) × Bool) → Option O) → Option O
  | 0, _, _, _ => none
  | q + 1, (v1, v2, v3, m4), x, r => (cond (decide (v3 < v2)) (cond (decide ((0 : Int) ≤ v3) && decide (v3 < ((v1.length : Nat) : Int))) ((ireader_text ((nth v1 v3), (0 : Int), false)).bind fun (r5, r6, r7, r8) => ((ireader_flag (r6, r7, r8)).bind fun (r9, r10, r11, r12) => ((ireader_text (r10, r11, r12)).bind fun (r13, r14, r15, r16) => ((ireader_one (r14, r15, r16)).bind fun (r17, r18, r19, r20) => ((iMemPut (m4, (r5, r13, r9), r17)).bind fun (r21, r22) => (cond (!r22) (r ([], false)) (cond r20 (r ([], false)) (cond (r19 != (((nth v1 v3).length : Nat) : Int)) (r ([], false)) (imemOf_L3 O q (v1, v2, (IntKind.wrap .i64 (v3 + (1 : Int))), r21) x r))))))))) none) (x m4))
noncomputable def imemOf : (List (List Int)) → Option (List ((List UInt8 × List UInt8 × Bool) × Int) × Bool)
  | l0 => (imemOf_L3 (List ((List UInt8 × List UInt8 × Bool) × Int) × Bool) fuel (l0, ((l0.length : Nat) : Int), (0 : Int), []) (fun m23 => (some (m23, true))) some)
noncomputable def c_imemOf : Ctr := { args := [.val false (.sl (.sl (.int .u8)))], rets := [(true, [(some 141, (.sl (.pair (.pair .str (.pair .str .bool)) (.int .i64))))]), (false, [(none, .bool)])], F := imemOf }
noncomputable def X_imemOf : Ctx := XT.withΓ (lk [(142, c_ireader_text), (143, c_ireader_flag), (144, c_ireader_one), (145, c_iMemPut)]) (lk [])
noncomputable def H_imemOf : Hints := ⟨lk [], lk [], lk []⟩
noncomputable def L_imemOf_3 : LoopF c_imemOf.Res := ⟨⟨62, [(2, .one (.ptr 0 0)), (4, .one (.ptr 1 0)), (14, .one (.val (.sl (.sl (.int .u8))))), (15, .one (.val (.int .i64))), (16, .one (.val (.int .i64)))], [.vars 55 [.nils], .vars 55 [.own 2], .arr 141 (.pair (.pair .str (.pair .str .bool)) (.int .i64))], []⟩, [(0, ⟨62, [(2, .one (.ptr 0 0)), (4, .one (.ptr 1 0))], [.vars 55 [.nils], .vars 55 [.own 2], .arr 141 (.pair (.pair .str (.pair .str .bool)) (.int .i64))], []⟩)], imemOf_L3⟩
noncomputable def T_imemOf : Nat → Option (LoopF c_imemOf.Res) := lk [(3, L_imemOf_3)]
theorem s_imemOf_3 : StepOk X_imemOf H_imemOf (c_imemOf.finish X_imemOf Tryz.f98.results.toList) T_imemOf (loopAt Tryz.f98 0) := ⟨L_imemOf_3, by kernel_rfl, fun O y x r => by kernel_rfl, fun O k y x r => by kernel_rfl⟩
theorem r_imemOf (a) : fnRun X_imemOf H_imemOf c_imemOf Tryz.f98 T_imemOf a = imemOf a := by kernel_rfl
theorem h_imemOf [Tabs] : CtrHolds Tryz.prog 98 c_imemOf := fn_ok (.cons h_ireader_text Tryz.call142 (.cons h_ireader_flag Tryz.call143 (.cons h_ireader_one Tryz.call144 (.cons h_iMemPut Tryz.call145 .nil)))) .nil (H := H_imemOf) (tbl := T_imemOf) Tryz.func98 (by kernel_rfl) (loops1 (by kernel_rfl) s_imemOf_3) r_imemOf
/-! 99 isameMan -/
noncomputable def isameMan_L4 (O : Type) : Nat → (Int × Int × Int × Int × List (Int × Int × List UInt8 × List UInt8) × Int × Int × List (Int × Int × List UInt8 × List UInt8)) → (Unit → Option O) → (Bool → Option O) → Option O
  | 0, _, _, _ => none
  | q + 1, (v6, v7, a8, a9, a10, b11, b12, b13), x, r => (cond (decide (v7 < v6)) (cond (decide ((0 : Int) ≤ v7) && decide (v7 < ((a10.length : Nat) : Int))) (cond (decide ((0 : Int) ≤ v7) && decide (v7 < ((b13.length : Nat) : Int))) (cond (!(((nth a10 v7).1 == (nth b13 v7).1) && (((nth a10 v7).2.1 == (nth b13 v7).2.1) && (((nth a10 v7).2.2.1 == (nth b13 v7).2.2.1) && ((nth a10 v7).2.2.2 == (nth b13 v7).2.2.2))))) (r false) (isameMan_L4 O q (v6, (IntKind.wrap .i64 (v7 + (1 : Int))), a8, a9, a10, b11, b12, b13) x r)) none) none) (x ()))
noncomputable def isameMan : ((Int × Int × List (Int × Int × List UInt8 × List UInt8)) × Int × Int × List (Int × Int × List UInt8 × List UInt8)) → Option Bool
  | ((a0, a1, a2), b3, b4, b5) => (cond (a0 != b3) (some false) (cond (a1 != b4) (some false) (cond (((a2.length : Nat) : Int) != ((b5.length : Nat) : Int)) (some false) (isameMan_L4 Bool fuel (((a2.length : Nat) : Int), (0 : Int), a0, a1, a2, b3, b4, b5) (fun _ => (some true)) some))))
noncomputable def c_isameMan : Ctr := { args := [.val true (.pair (.int .i64) (.pair (.int .i64) (.sl (.pair (.int .i64) (.pair (.int .i64) (.pair .str .str)))))), .val true (.pair (.int .i64) (.pair (.int .i64) (.sl (.pair (.int .i64) (.pair (.int .i64) (.pair .str .str))))))], rets := [(false, [(none, .bool)])], F := isameMan }
noncomputable def X_isameMan : Ctx := XT.withΓ (lk []) (lk [])
noncomputable def H_isameMan : Hints := ⟨lk [], lk [], lk []⟩
noncomputable def L_isameMan_4 : LoopF c_isameMan.Res := ⟨⟨45, [(2, .one (.ptr 0 0)), (3, .one (.ptr 1 0)), (29, .one (.val (.int .i64))), (30, .one (.val (.int .i64)))], [.vars 29 [.val (.int .i64), .val (.int .i64), .val (.sl (.pair (.int .i64) (.pair (.int .i64) (.pair .str .str))))], .vars 29 [.val (.int .i64), .val (.int .i64), .val (.sl (.pair (.int .i64) (.pair (.int .i64) (.pair .str .str))))]], []⟩, [(0, ⟨45, [], [], []⟩)], isameMan_L4⟩
noncomputable def T_isameMan : Nat → Option (LoopF c_isameMan.Res) := lk [(4, L_isameMan_4)]
theorem s_isameMan_4 : StepOk X_isameMan H_isameMan (c_isameMan.finish X_isameMan Tryz.f99.results.toList) T_isameMan (loopAt Tryz.f99 0) := ⟨L_isameMan_4, by kernel_rfl, fun O y x r => by kernel_rfl, fun O k y x r => by kernel_rfl⟩
theorem r_isameMan (a) : fnRun X_isameMan H_isameMan c_isameMan Tryz.f99 T_isameMan a = isameMan a := by kernel_rfl
theorem h_isameMan [Tabs] : CtrHolds Tryz.prog 99 c_isameMan := fn_ok .nil .nil (H := H_isameMan) (tbl := T_isameMan) Tryz.func99 (by kernel_rfl) (loops1 (by kernel_rfl) s_isameMan_4) r_isameMan
/-! 100 isameMem -/
noncomputable def isameMem_L4 (O : Type) : Nat → (Int × Int × List ((List UInt8 × List UInt8 × Bool) × Int) × List ((List UInt8 × List UInt8 × Bool) × Int)) → (Unit → Option O) → (Bool → Option O) → Option O
  | 0, _, _, _ => none
  | q + 1, (v2, v3, a4, b5), x, r => (cond (decide (v3 < v2)) (cond (decide ((0 : Int) ≤ v3) && decide (v3 < ((a4.length : Nat) : Int))) (cond (decide ((0 : Int) ≤ v3) && decide (v3 < ((b5.length : Nat) : Int))) (cond (!(((nth a4 v3).1.1 == (nth b5 v3).1.1) && (((nth a4 v3).1.2.1 == (nth b5 v3).1.2.1) && (((nth a4 v3).1.2.2 == (nth b5 v3).1.2.2) && ((nth a4 v3).2 == (nth b5 v3).2))))) (r false) (isameMem_L4 O q (v2, (IntKind.wrap .i64 (v3 + (1 : Int))), a4, b5) x r)) none) none) (x ()))
noncomputable def isameMem : (List ((List UInt8 × List UInt8 × Bool) × Int) × List ((List UInt8 × List UInt8 × Bool) × Int)) → Option Bool
  | (a0, b1) => (cond (((a0.length : Nat) : Int) != ((b1.length : Nat) : Int)) (some false) (isameMem_L4 Bool fuel (((a0.length : Nat) : Int), (0 : Int), a0, b1) (fun _ => (some true)) some))
noncomputable def c_isameMem : Ctr := { args := [.val true (.sl (.pair (.pair .str (.pair .str .bool)) (.int .i64))), .val true (.sl (.pair (.pair .str (.pair .str .bool)) (.int .i64)))], rets := [(false, [(none, .bool)])], F := isameMem }
noncomputable def X_isameMem : Ctx := XT.withΓ (lk []) (lk [])
noncomputable def H_isameMem : Hints := ⟨lk [], lk [], lk []⟩
noncomputable def L_isameMem_4 : LoopF c_isameMem.Res := ⟨⟨31, [(2, .one (.ptr 0 0)), (3, .one (.ptr 1 0)), (15, .one (.val (.int .i64))), (16, .one (.val (.int .i64)))], [.vars 55 [.val (.sl (.pair (.pair .str (.pair .str .bool)) (.int .i64)))], .vars 55 [.val (.sl (.pair (.pair .str (.pair .str .bool)) (.int .i64)))]], []⟩, [(0, ⟨31, [], [], []⟩)], isameMem_L4⟩
noncomputable def T_isameMem : Nat → Option (LoopF c_isameMem.Res) := lk [(4, L_isameMem_4)]
theorem s_isameMem_4 : StepOk X_isameMem H_isameMem (c_isameMem.finish X_isameMem Tryz.f100.results.toList) T_isameMem (loopAt Tryz.f100 0) := ⟨L_isameMem_4, by kernel_rfl, fun O y x r => by kernel_rfl, fun O k y x r => by kernel_rfl⟩
theorem r_isameMem (a) : fnRun X_isameMem H_isameMem c_isameMem Tryz.f100 T_isameMem a = isameMem a := by kernel_rfl
theorem h_isameMem [Tabs] : CtrHolds Tryz.prog 100 c_isameMem := fn_ok .nil .nil (H := H_isameMem) (tbl := T_isameMem) Tryz.func100 (by kernel_rfl) (loops1 (by kernel_rfl) s_isameMem_4) r_isameMem
/-! 102 itabName -/
noncomputable def itabName : Int → Option (List UInt8)
  | n0 => ((xItoa n0).bind fun r1 => (cond (decide ((4 + r1.length) ≤ lenBound)) (some ([116, 97, 98, 45] ++ r1)) none))
noncomputable def c_itabName : Ctr := { args := [.val false (.int .i64)], rets := [(false, [(none, .str)])], F := itabName }
noncomputable def X_itabName : Ctx := XT.withΓ (lk [(121, c_xItoa)]) (lk [])
noncomputable def H_itabName : Hints := ⟨lk [], lk [], lk []⟩
noncomputable def T_itabName : Nat → Option (LoopF c_itabName.Res) := lk []
theorem r_itabName (a) : fnRun X_itabName H_itabName c_itabName Tryz.f102 T_itabName a = itabName a := by kernel_rfl
theorem h_itabName [TabsD] : CtrHolds Tryz.prog 102 c_itabName := fn_ok (.cons h_xItoa Tryz.call121 .nil) .nil (H := H_itabName) (tbl := T_itabName) Tryz.func102 (by kernel_rfl) (loops0 (by kernel_rfl)) r_itabName
/-! 180 ireader_num -/
noncomputable def ireader_num : (List Int × Int × Bool) → Option (Int × List Int × Int × Bool)
  | (r0, r1, r2) => ((iGetNum (r0, r1)).bind fun (r3, r4, r5) => ((cond r2 (some (r3, r4, true, r0, r1, r2)) (some (r3, r4, (!r5), r0, r1, r2))).bind fun (n6, next7, v8, r9, r10, r11) => (cond v8 (some ((0 : Int), r9, r10, true)) (some (n6, r9, next7, r11)))))
noncomputable def c_ireader_num : Ctr := { args := [.ref 177 [(none, (.sl (.int .u8))), (none, (.int .i64)), (none, .bool)]], rets := [(false, [(none, (.int .i64))])], F := ireader_num }
noncomputable def X_ireader_num : Ctx := XT.withΓ (lk [(199, c_iGetNum)]) (lk [])
noncomputable def H_ireader_num : Hints := ⟨lk [(3, ⟨35, [(0, .one (.ptr 0 0)), (3, .one (.val (.int .i64))), (4, .one (.val (.int .i64))), (26, .one (.val .bool))], [.vars 177 [.val (.sl (.int .u8)), .val (.int .i64), .val .bool]], [0]⟩)], lk [], lk []⟩
noncomputable def T_ireader_num : Nat → Option (LoopF c_ireader_num.Res) := lk []
theorem r_ireader_num (a) : fnRun X_ireader_num H_ireader_num c_ireader_num Tryz.f180 T_ireader_num a = ireader_num a := by kernel_rfl
theorem h_ireader_num [Tabs] : CtrHolds Tryz.prog 180 c_ireader_num := fn_ok (.cons h_iGetNum Tryz.call199 .nil) .nil (H := H_ireader_num) (tbl := T_ireader_num) Tryz.func180 (by kernel_rfl) (loops0 (by kernel_rfl)) r_ireader_num
/-! 146 iindexOf -/
noncomputable def iindexOf_L10 (O : Type) : Nat → (List Int × Int × Int × List Int × Int × Bool × List (List UInt8 × Int)) → ((List Int × List Int × Int × Bool × List (List UInt8 × Int)) → Option O) → ((List (List UInt8 × Int) × List Int × Bool) → Option O) → Option O
  | 0, _, _, _ => none
  | q + 1, (body9, n10, k11, r12, r13, r14, out15), x, r => (cond (decide (k11 < n10)) (cond (!r14) ((ireader_text (r12, r13, r14)).bind fun (r16, r17, r18, r19) => ((ireader_num (r17, r18, r19)).bind fun (r20, r21, r22, r23) => (cond (decide ((out15.length + [(r16, r20)].length) ≤ lenBound)) (iindexOf_L10 O q (body9, n10, (IntKind.wrap .i64 (k11 + (1 : Int))), r21, r22, r23, (out15 ++ [(r16, r20)])) x r) none))) (x (body9, r12, r13, r14, out15))) (x (body9, r12, r13, r14, out15)))
noncomputable def iindexOf : (List Int) → Option (List (List UInt8 × Int) × List Int × Bool)
  | b0 => (cond (decide (((b0.length : Nat) : Int) < (4 : Int))) (some ([], [], false)) ((iwordAt (b0, (IntKind.wrap .i64 (((b0.length : Nat) : Int) - (4 : Int))))).bind fun r1 => ((iUnframe (b0, r1)).bind fun (r2, r3, r4) => (cond (!r4) (some ([], [], false)) (cond (r3 != (IntKind.wrap .i64 (((b0.length : Nat) : Int) - (4 : Int)))) (some ([], [], false)) ((ireader_num (r2, (0 : Int), false)).bind fun (r5, r6, r7, r8) => (iindexOf_L10 (List (List UInt8 × Int) × List Int × Bool) fuel (r2, r5, (0 : Int), r6, r7, r8, []) (fun (body24, r25, r26, r27, out28) => (cond r27 (some ([], [], false)) (cond (r26 != (IntKind.wrap .i64 (((body24.length : Nat) : Int) - (8 : Int)))) (some ([], [], false)) (cond (decide ((0 : Int) ≤ r26) && (decide (r26 ≤ ((body24.length : Nat) : Int)) && decide (((body24.length : Nat) : Int) ≤ ((body24.length : Nat) : Int)))) (some (out28, (cut body24 r26 ((body24.length : Nat) : Int)), true)) none)))) some)))))))
noncomputable def c_iindexOf : Ctr := { args := [.val false (.sl (.int .u8))], rets := [(false, [(some 185, (.sl (.pair .str (.int .i64))))]), (false, [(none, (.sl (.int .u8)))]), (false, [(none, .bool)])], F := iindexOf }
noncomputable def X_iindexOf : Ctx := XT.withΓ (lk [(178, c_iwordAt), (141, c_iUnframe), (180, c_ireader_num), (142, c_ireader_text)]) (lk [])
noncomputable def H_iindexOf : Hints := ⟨lk [], lk [], lk []⟩
noncomputable def L_iindexOf_10 : LoopF c_iindexOf.Res := ⟨⟨83, [(5, .one (.val (.sl (.int .u8)))), (8, .one (.ptr 0 0)), (9, .one (.val (.int .i64))), (10, .one (.own 1)), (11, .one (.val (.int .i64)))], [.vars 177 [.val (.sl (.int .u8)), .val (.int .i64), .val .bool], .arr 185 (.pair .str (.int .i64))], []⟩, [(0, ⟨83, [(5, .one (.val (.sl (.int .u8)))), (8, .one (.ptr 0 0)), (10, .one (.own 1))], [.vars 177 [.val (.sl (.int .u8)), .val (.int .i64), .val .bool], .arr 185 (.pair .str (.int .i64))], []⟩)], iindexOf_L10⟩
noncomputable def T_iindexOf : Nat → Option (LoopF c_iindexOf.Res) := lk [(10, L_iindexOf_10)]
theorem s_iindexOf_10 : StepOk X_iindexOf H_iindexOf (c_iindexOf.finish X_iindexOf Tryz.f146.results.toList) T_iindexOf (loopAt Tryz.f146 0) := ⟨L_iindexOf_10, by kernel_rfl, fun O y x r => by kernel_rfl, fun O k y x r => by kernel_rfl⟩
theorem r_iindexOf (a) : fnRun X_iindexOf H_iindexOf c_iindexOf Tryz.f146 T_iindexOf a = iindexOf a := by kernel_rfl
theorem h_iindexOf [Tabs] : CtrHolds Tryz.prog 146 c_iindexOf := fn_ok (.cons h_iwordAt Tryz.call178 (.cons h_iUnframe Tryz.call141 (.cons h_ireader_num Tryz.call180 (.cons h_ireader_text Tryz.call142 .nil)))) .nil (H := H_iindexOf) (tbl := T_iindexOf) Tryz.func146 (by kernel_rfl) (loops1 (by kernel_rfl) s_iindexOf_10) r_iindexOf
/-! 147 ipairsAt -/
noncomputable def ipairsAt_L7 (O : Type) : Nat → (List Int × List UInt8 × List Int × Int × Bool × List (List UInt8 × List UInt8 × Bool)) → ((List Int × Int × Bool × List (List UInt8 × List UInt8 × Bool)) → Option O) → ((List (List UInt8 × List UInt8 × Bool) × Bool) → Option O) → Option O
  | 0, _, _, _ => none
  | q + 1, (body5, last6, r7, r8, r9, out10), x, r => (cond (decide (r8 < ((body5.length : Nat) : Int))) (cond (!r9) ((ireader_num (r7, r8, r9)).bind fun (r11, r12, r13, r14) => ((ireader_text (r12, r13, r14)).bind fun (r15, r16, r17, r18) => ((ireader_flag (r16, r17, r18)).bind fun (r19, r20, r21, r22) => ((ireader_text (r20, r21, r22)).bind fun (r23, r24, r25, r26) => (cond (decide ((0 : Int) ≤ (if (((last6.length : Nat) : Int) < r11) then ((last6.length : Nat) : Int) else r11)) && decide ((if (((last6.length : Nat) : Int) < r11) then ((last6.length : Nat) : Int) else r11) ≤ ((last6.length : Nat) : Int))) (cond (decide (((cut last6 (0 : Int) (if (((last6.length : Nat) : Int) < r11) then ((last6.length : Nat) : Int) else r11)).length + r15.length) ≤ lenBound)) (cond (decide (r11 > ((last6.length : Nat) : Int))) (r ([], false)) (cond (decide ((out10.length + [(((cut last6 (0 : Int) (if (((last6.length : Nat) : Int) < r11) then ((last6.length : Nat) : Int) else r11)) ++ r15), r23, r19)].length) ≤ lenBound)) (ipairsAt_L7 O q (body5, ((cut last6 (0 : Int) (if (((last6.length : Nat) : Int) < r11) then ((last6.length : Nat) : Int) else r11)) ++ r15), r24, r25, r26, (out10 ++ [(((cut last6 (0 : Int) (if (((last6.length : Nat) : Int) < r11) then ((last6.length : Nat) : Int) else r11)) ++ r15), r23, r19)])) x r) none)) none) none))))) (x (r7, r8, r9, out10))) (x (r7, r8, r9, out10)))
noncomputable def ipairsAt : (List Int × Int) → Option (List (List UInt8 × List UInt8 × Bool) × Bool)
  | (b0, at1) => ((iUnframe (b0, at1)).bind fun (r2, r3, r4) => (cond (!r4) (some ([], false)) (ipairsAt_L7 (List (List UInt8 × List UInt8 × Bool) × Bool) fuel (r2, [], r2, (0 : Int), false, []) (fun (r27, r28, r29, out30) => (some (out30, (!r29)))) some)))
noncomputable def c_ipairsAt : Ctr := { args := [.val false (.sl (.int .u8)), .val false (.int .i64)], rets := [(false, [(some 93, (.sl (.pair .str (.pair .str .bool))))]), (false, [(none, .bool)])], F := ipairsAt }
noncomputable def X_ipairsAt : Ctx := XT.withΓ (lk [(141, c_iUnframe), (180, c_ireader_num), (142, c_ireader_text), (143, c_ireader_flag)]) (lk [])
noncomputable def H_ipairsAt : Hints := ⟨lk [], lk [], lk [(11, [8, 9, 0, 1, 2, 3, 4, 5, 6, 7, 10, 11, 12, 13])]⟩
noncomputable def L_ipairsAt_7 : LoopF c_ipairsAt.Res := ⟨⟨76, [(6, .one (.val (.sl (.int .u8)))), (9, .one (.ptr 0 0)), (10, .one (.own 1)), (11, .one (.val .str))], [.vars 177 [.val (.sl (.int .u8)), .val (.int .i64), .val .bool], .arr 93 (.pair .str (.pair .str .bool))], []⟩, [(0, ⟨76, [(9, .one (.ptr 0 0)), (10, .one (.own 1))], [.vars 177 [.val (.sl (.int .u8)), .val (.int .i64), .val .bool], .arr 93 (.pair .str (.pair .str .bool))], []⟩)], ipairsAt_L7⟩
noncomputable def T_ipairsAt : Nat → Option (LoopF c_ipairsAt.Res) := lk [(7, L_ipairsAt_7)]
theorem s_ipairsAt_7 : StepOk X_ipairsAt H_ipairsAt (c_ipairsAt.finish X_ipairsAt Tryz.f147.results.toList) T_ipairsAt (loopAt Tryz.f147 0) := ⟨L_ipairsAt_7, by kernel_rfl, fun O y x r => by kernel_rfl, fun O k y x r => by kernel_rfl⟩
theorem r_ipairsAt (a) : fnRun X_ipairsAt H_ipairsAt c_ipairsAt Tryz.f147 T_ipairsAt a = ipairsAt a := by kernel_rfl
theorem h_ipairsAt [Tabs] : CtrHolds Tryz.prog 147 c_ipairsAt := fn_ok (.cons h_iUnframe Tryz.call141 (.cons h_ireader_num Tryz.call180 (.cons h_ireader_text Tryz.call142 (.cons h_ireader_flag Tryz.call143 .nil)))) .nil (H := H_ipairsAt) (tbl := T_ipairsAt) Tryz.func147 (by kernel_rfl) (loops1 (by kernel_rfl) s_ipairsAt_7) r_ipairsAt
/-! 181 irising -/
noncomputable def irising_L2 (O : Type) : Nat → (List (List UInt8 × List UInt8 × Bool) × List (List UInt8 × List UInt8 × Bool) × Int × Int) → (Unit → Option O) → (Bool → Option O) → Option O
  | 0, _, _, _ => none
  | q + 1, (l1, v2, v3, v4), x, r => (cond (decide (v4 < v3)) (cond (decide ((0 : Int) ≤ v4) && decide (v4 < ((v2.length : Nat) : Int))) ((iPairOk ((nth v2 v4).1, (nth v2 v4).2.1, (nth v2 v4).2.2)).bind fun r5 => (cond (!r5) (r false) (cond (decide (v4 > (0 : Int))) (cond (decide ((0 : Int) ≤ (IntKind.wrap .i64 (v4 - (1 : Int)))) && decide ((IntKind.wrap .i64 (v4 - (1 : Int))) < ((l1.length : Nat) : Int))) (cond (!(Op.bytesLess (nth l1 (IntKind.wrap .i64 (v4 - (1 : Int)))).1 (nth v2 v4).1)) (r false) (irising_L2 O q (l1, v2, v3, (IntKind.wrap .i64 (v4 + (1 : Int)))) x r)) none) (irising_L2 O q (l1, v2, v3, (IntKind.wrap .i64 (v4 + (1 : Int)))) x r)))) none) (x ()))
noncomputable def irising : (List (List UInt8 × List UInt8 × Bool)) → Option Bool
  | l0 => (irising_L2 Bool fuel (l0, l0, ((l0.length : Nat) : Int), (0 : Int)) (fun _ => (some true)) some)
noncomputable def c_irising : Ctr := { args := [.val false (.sl (.pair .str (.pair .str .bool)))], rets := [(false, [(none, .bool)])], F := irising }
noncomputable def X_irising : Ctx := XT.withΓ (lk [(138, c_iPairOk)]) (lk [])
noncomputable def H_irising : Hints := ⟨lk [], lk [], lk []⟩
noncomputable def L_irising_2 : LoopF c_irising.Res := ⟨⟨31, [(0, .one (.val (.sl (.pair .str (.pair .str .bool))))), (5, .one (.val (.sl (.pair .str (.pair .str .bool))))), (6, .one (.val (.int .i64))), (7, .one (.val (.int .i64)))], [], []⟩, [(0, ⟨31, [], [], []⟩)], irising_L2⟩
noncomputable def T_irising : Nat → Option (LoopF c_irising.Res) := lk [(2, L_irising_2)]
theorem s_irising_2 : StepOk X_irising H_irising (c_irising.finish X_irising Tryz.f181.results.toList) T_irising (loopAt Tryz.f181 0) := ⟨L_irising_2, by kernel_rfl, fun O y x r => by kernel_rfl, fun O k y x r => by kernel_rfl⟩
theorem r_irising (a) : fnRun X_irising H_irising c_irising Tryz.f181 T_irising a = irising a := by kernel_rfl
theorem h_irising [Tabs] : CtrHolds Tryz.prog 181 c_irising := fn_ok (.cons h_iPairOk Tryz.call138 .nil) .nil (H := H_irising) (tbl := T_irising) Tryz.func181 (by kernel_rfl) (loops1 (by kernel_rfl) s_irising_2) r_irising
/-! 182 iaddNum -/
noncomputable def iaddNum_L3 (O : Type) : Nat → (Int × Int × List Int) → ((Int × Int × List Int) → Option O) → ((List Int) → Option O) → Option O
  | 0, _, _, _ => none
  | q + 1, (n2, shift3, out4), x, r => (cond (decide (shift3 < (0 : Int))) none (cond (decide ((Int.fdiv n2 ((2 : Int) ^ (min (Int.toNat shift3) 64))) > (127 : Int))) (iaddNum_L3 O q (n2, (IntKind.wrap .i64 (shift3 + (7 : Int))), out4) x r) (x (n2, shift3, out4))))
noncomputable def iaddNum_L5 (O : Type) : Nat → (Int × Int × List Int) → ((Int × List Int) → Option O) → ((List Int) → Option O) → Option O
  | 0, _, _, _ => none
  | q + 1, (n8, shift9, out10), x, r => (cond (decide (shift9 > (0 : Int))) (cond (decide (shift9 < (0 : Int))) none (cond (decide ((out10.length + [(IntKind.wrap .u8 (IntKind.wrap .i64 ((bits .and .i64 (Int.fdiv n8 ((2 : Int) ^ (min (Int.toNat shift9) 64))) (127 : Int)) + (128 : Int))))].length) ≤ lenBound)) (iaddNum_L5 O q (n8, (IntKind.wrap .i64 (shift9 - (7 : Int))), (out10 ++ [(IntKind.wrap .u8 (IntKind.wrap .i64 ((bits .and .i64 (Int.fdiv n8 ((2 : Int) ^ (min (Int.toNat shift9) 64))) (127 : Int)) + (128 : Int))))])) x r) none)) (x (n8, out10)))
noncomputable def iaddNum : (List Int × Int) → Option (List Int)
  | (out0, n1) => (iaddNum_L3 (List Int) fuel ((if ((if ((1000000000 : Int) < n1) then (1000000000 : Int) else n1) > (0 : Int)) then (if ((1000000000 : Int) < n1) then (1000000000 : Int) else n1) else (0 : Int)), (0 : Int), out0) (fun (n5, shift6, out7) => (iaddNum_L5 (List Int) fuel (n5, shift6, out7) (fun (n11, out12) => (cond (decide ((out12.length + [(IntKind.wrap .u8 (bits .and .i64 n11 (127 : Int)))].length) ≤ lenBound)) (some (out12 ++ [(IntKind.wrap .u8 (bits .and .i64 n11 (127 : Int)))])) none)) some)) some)
noncomputable def c_iaddNum : Ctr := { args := [.given 5 (.int .u8), .val false (.int .i64)], rets := [(false, [(some 5, (.sl (.int .u8)))])], F := iaddNum }
noncomputable def X_iaddNum : Ctx := XT.withΓ (lk []) (lk [])
noncomputable def H_iaddNum : Hints := ⟨lk [], lk [], lk []⟩
noncomputable def L_iaddNum_3 : LoopF c_iaddNum.Res := ⟨⟨34, [(0, .one (.own 0)), (1, .one (.val (.int .i64))), (5, .one (.val (.int .i64)))], [.arr 5 (.int .u8)], []⟩, [(0, ⟨34, [(0, .one (.own 0)), (1, .one (.val (.int .i64))), (5, .one (.val (.int .i64)))], [.arr 5 (.int .u8)], []⟩)], iaddNum_L3⟩
noncomputable def L_iaddNum_5 : LoopF c_iaddNum.Res := ⟨⟨34, [(0, .one (.own 0)), (1, .one (.val (.int .i64))), (5, .one (.val (.int .i64)))], [.arr 5 (.int .u8)], []⟩, [(2, ⟨34, [(0, .one (.own 0)), (1, .one (.val (.int .i64)))], [.arr 5 (.int .u8)], []⟩)], iaddNum_L5⟩
noncomputable def T_iaddNum : Nat → Option (LoopF c_iaddNum.Res) := lk [(3, L_iaddNum_3), (5, L_iaddNum_5)]
theorem s_iaddNum_3 : StepOk X_iaddNum H_iaddNum (c_iaddNum.finish X_iaddNum Tryz.f182.results.toList) T_iaddNum (loopAt Tryz.f182 0) := ⟨L_iaddNum_3, by kernel_rfl, fun O y x r => by kernel_rfl, fun O k y x r => by kernel_rfl⟩
theorem s_iaddNum_5 : StepOk X_iaddNum H_iaddNum (c_iaddNum.finish X_iaddNum Tryz.f182.results.toList) T_iaddNum (loopAt Tryz.f182 1) := ⟨L_iaddNum_5, by kernel_rfl, fun O y x r => by kernel_rfl, fun O k y x r => by kernel_rfl⟩
theorem r_iaddNum (a) : fnRun X_iaddNum H_iaddNum c_iaddNum Tryz.f182 T_iaddNum a = iaddNum a := by kernel_rfl
theorem h_iaddNum [Tabs] : CtrHolds Tryz.prog 182 c_iaddNum := fn_ok .nil .nil (H := H_iaddNum) (tbl := T_iaddNum) Tryz.func182 (by kernel_rfl) (loops2 (by kernel_rfl) s_iaddNum_3 s_iaddNum_5) r_iaddNum
/-! 183 iaddText -/
noncomputable def iaddText : (List Int × List UInt8) → Option (List Int)
  | (out0, s1) => ((iaddNum (out0, ((s1.length : Nat) : Int))).bind fun r2 => (cond (decide ((r2.length + (bytesOf s1).length) ≤ lenBound)) (some (r2 ++ (bytesOf s1))) none))
noncomputable def c_iaddText : Ctr := { args := [.given 5 (.int .u8), .val false .str], rets := [(false, [(some 5, (.sl (.int .u8)))])], F := iaddText }
noncomputable def X_iaddText : Ctx := XT.withΓ (lk [(182, c_iaddNum)]) (lk [])
noncomputable def H_iaddText : Hints := ⟨lk [], lk [], lk []⟩
noncomputable def T_iaddText : Nat → Option (LoopF c_iaddText.Res) := lk []
theorem r_iaddText (a) : fnRun X_iaddText H_iaddText c_iaddText Tryz.f183 T_iaddText a = iaddText a := by kernel_rfl
theorem h_iaddText [Tabs] : CtrHolds Tryz.prog 183 c_iaddText := fn_ok (.cons h_iaddNum Tryz.call182 .nil) .nil (H := H_iaddText) (tbl := T_iaddText) Tryz.func183 (by kernel_rfl) (loops0 (by kernel_rfl)) r_iaddText
/-! 200 icommon -/
noncomputable def icommon_L2 (O : Type) : Nat → (List UInt8 × List UInt8 × Int) → (Int → Option O) → (Int → Option O) → Option O
  | 0, _, _, _ => none
  | q + 1, (a2, b3, n4), x, r => (cond (decide (n4 < ((a2.length : Nat) : Int))) (cond (decide (n4 < ((b3.length : Nat) : Int))) (cond (decide ((0 : Int) ≤ n4) && decide (n4 < ((a2.length : Nat) : Int))) (cond (decide ((0 : Int) ≤ n4) && decide (n4 < ((b3.length : Nat) : Int))) (cond ((((UInt8.toNat (nth a2 n4)) : Nat) : Int) == (((UInt8.toNat (nth b3 n4)) : Nat) : Int)) (icommon_L2 O q (a2, b3, (IntKind.wrap .i64 (n4 + (1 : Int)))) x r) (x n4)) none) none) (x n4)) (x n4))
noncomputable def icommon : (List UInt8 × List UInt8) → Option Int
  | (a0, b1) => (icommon_L2 Int fuel (a0, b1, (0 : Int)) (fun n5 => (some n5)) some)
noncomputable def c_icommon : Ctr := { args := [.val false .str, .val false .str], rets := [(false, [(none, (.int .i64))])], F := icommon }
noncomputable def X_icommon : Ctx := XT.withΓ (lk []) (lk [])
noncomputable def H_icommon : Hints := ⟨lk [], lk [], lk []⟩
noncomputable def L_icommon_2 : LoopF c_icommon.Res := ⟨⟨28, [(0, .one (.val .str)), (1, .one (.val .str)), (5, .one (.val (.int .i64)))], [], []⟩, [(0, ⟨28, [(5, .one (.val (.int .i64)))], [], []⟩)], icommon_L2⟩
noncomputable def T_icommon : Nat → Option (LoopF c_icommon.Res) := lk [(2, L_icommon_2)]
theorem s_icommon_2 : StepOk X_icommon H_icommon (c_icommon.finish X_icommon Tryz.f200.results.toList) T_icommon (loopAt Tryz.f200 0) := ⟨L_icommon_2, by kernel_rfl, fun O y x r => by kernel_rfl, fun O k y x r => by kernel_rfl⟩
theorem r_icommon (a) : fnRun X_icommon H_icommon c_icommon Tryz.f200 T_icommon a = icommon a := by kernel_rfl
theorem h_icommon [Tabs] : CtrHolds Tryz.prog 200 c_icommon := fn_ok .nil .nil (H := H_icommon) (tbl := T_icommon) Tryz.func200 (by kernel_rfl) (loops1 (by kernel_rfl) s_icommon_2) r_icommon
/-! 201 ibit -/
noncomputable def ibit : Bool → Option Int
  | is0 => (cond is0 (some (1 : Int)) (some (0 : Int)))
noncomputable def c_ibit : Ctr := { args := [.val false .bool], rets := [(false, [(none, (.int .u8))])], F := ibit }
noncomputable def X_ibit : Ctx := XT.withΓ (lk []) (lk [])
noncomputable def H_ibit : Hints := ⟨lk [], lk [], lk []⟩
noncomputable def T_ibit : Nat → Option (LoopF c_ibit.Res) := lk []
theorem r_ibit (a) : fnRun X_ibit H_ibit c_ibit Tryz.f201 T_ibit a = ibit a := by kernel_rfl
theorem h_ibit [Tabs] : CtrHolds Tryz.prog 201 c_ibit := fn_ok .nil .nil (H := H_ibit) (tbl := T_ibit) Tryz.func201 (by kernel_rfl) (loops0 (by kernel_rfl)) r_ibit
/-! 187 iword -/
noncomputable def iword : Int → Option (List Int)
  | n0 => (some [(IntKind.wrap .u8 (Int.fdiv n0 (16777216 : Int))), (IntKind.wrap .u8 (Int.fdiv n0 (65536 : Int))), (IntKind.wrap .u8 (Int.fdiv n0 (256 : Int))), (IntKind.wrap .u8 n0)])
noncomputable def c_iword : Ctr := { args := [.val false (.int .i64)], rets := [(false, [(some 5, (.sl (.int .u8)))])], F := iword }
noncomputable def X_iword : Ctx := XT.withΓ (lk []) (lk [])
noncomputable def H_iword : Hints := ⟨lk [], lk [], lk []⟩
noncomputable def T_iword : Nat → Option (LoopF c_iword.Res) := lk []
theorem r_iword (a) : fnRun X_iword H_iword c_iword Tryz.f187 T_iword a = iword a := by kernel_rfl
theorem h_iword [Tabs] : CtrHolds Tryz.prog 187 c_iword := fn_ok .nil .nil (H := H_iword) (tbl := T_iword) Tryz.func187 (by kernel_rfl) (loops0 (by kernel_rfl)) r_iword
/-! 186 iFrame -/
noncomputable def iFrame : (List Int) → Option (List Int)
  | body0 => ((iSum body0).bind fun r1 => ((iword r1).bind fun r2 => ((iaddNum (r2, ((body0.length : Nat) : Int))).bind fun r3 => (cond (decide ((r3.length + body0.length) ≤ lenBound)) (some (r3 ++ body0)) none))))
noncomputable def c_iFrame : Ctr := { args := [.val false (.sl (.int .u8))], rets := [(false, [(some 5, (.sl (.int .u8)))])], F := iFrame }
noncomputable def X_iFrame : Ctx := XT.withΓ (lk [(177, c_iSum), (187, c_iword), (182, c_iaddNum)]) (lk [])
noncomputable def H_iFrame : Hints := ⟨lk [], lk [], lk []⟩
noncomputable def T_iFrame : Nat → Option (LoopF c_iFrame.Res) := lk []
theorem r_iFrame (a) : fnRun X_iFrame H_iFrame c_iFrame Tryz.f186 T_iFrame a = iFrame a := by kernel_rfl
theorem h_iFrame [Tabs] : CtrHolds Tryz.prog 186 c_iFrame := fn_ok (.cons h_iSum Tryz.call177 (.cons h_iword Tryz.call187 (.cons h_iaddNum Tryz.call182 .nil))) .nil (H := H_iFrame) (tbl := T_iFrame) Tryz.func186 (by kernel_rfl) (loops0 (by kernel_rfl)) r_iFrame
/-! 184 iputBlock -/
noncomputable def iputBlock_L4 (O : Type) : Nat → (List UInt8 × List (List UInt8 × List UInt8 × Bool) × Int × Int × List Int) → ((List Int) → Option O) → ((List Int) → Option O) → Option O
  | 0, _, _, _ => none
  | q + 1, (last1, v2, v3, v4, out5), x, r => (cond (decide (v4 < v3)) (cond (decide ((0 : Int) ≤ v4) && decide (v4 < ((v2.length : Nat) : Int))) ((icommon (last1, (nth v2 v4).1)).bind fun r6 => ((iaddNum (out5, r6)).bind fun r7 => (cond (decide ((0 : Int) ≤ r6) && (decide (r6 ≤ (((nth v2 v4).1.length : Nat) : Int)) && decide ((((nth v2 v4).1.length : Nat) : Int) ≤ (((nth v2 v4).1.length : Nat) : Int)))) ((iaddText (r7, (cut (nth v2 v4).1 r6 (((nth v2 v4).1.length : Nat) : Int)))).bind fun r8 => ((ibit (nth v2 v4).2.2).bind fun r9 => (cond (decide ((r8.length + [r9].length) ≤ lenBound)) ((iaddText ((r8 ++ [r9]), (nth v2 v4).2.1)).bind fun r10 => (iputBlock_L4 O q ((nth v2 v4).1, v2, v3, (IntKind.wrap .i64 (v4 + (1 : Int))), r10) x r)) none))) none))) none) (x out5))
noncomputable def iputBlock : (List (List UInt8 × List UInt8 × Bool)) → Option (List Int)
  | l0 => (iputBlock_L4 (List Int) fuel ([], l0, ((l0.length : Nat) : Int), (0 : Int), []) (fun out11 => ((iFrame out11).bind fun r12 => (some r12))) some)
noncomputable def c_iputBlock : Ctr := { args := [.val false (.sl (.pair .str (.pair .str .bool)))], rets := [(false, [(some 5, (.sl (.int .u8)))])], F := iputBlock }
noncomputable def X_iputBlock : Ctx := XT.withΓ (lk [(200, c_icommon), (182, c_iaddNum), (183, c_iaddText), (201, c_ibit), (186, c_iFrame)]) (lk [])
noncomputable def H_iputBlock : Hints := ⟨lk [], lk [], lk []⟩
noncomputable def L_iputBlock_4 : LoopF c_iputBlock.Res := ⟨⟨40, [(3, .one (.own 0)), (4, .one (.val .str)), (8, .one (.val (.sl (.pair .str (.pair .str .bool))))), (9, .one (.val (.int .i64))), (10, .one (.val (.int .i64)))], [.arr 5 (.int .u8)], []⟩, [(0, ⟨40, [(3, .one (.own 0))], [.arr 5 (.int .u8)], []⟩)], iputBlock_L4⟩
noncomputable def T_iputBlock : Nat → Option (LoopF c_iputBlock.Res) := lk [(4, L_iputBlock_4)]
theorem s_iputBlock_4 : StepOk X_iputBlock H_iputBlock (c_iputBlock.finish X_iputBlock Tryz.f184.results.toList) T_iputBlock (loopAt Tryz.f184 0) := ⟨L_iputBlock_4, by kernel_rfl, fun O y x r => by kernel_rfl, fun O k y x r => by kernel_rfl⟩
theorem r_iputBlock (a) : fnRun X_iputBlock H_iputBlock c_iputBlock Tryz.f184 T_iputBlock a = iputBlock a := by kernel_rfl
theorem h_iputBlock [Tabs] : CtrHolds Tryz.prog 184 c_iputBlock := fn_ok (.cons h_icommon Tryz.call200 (.cons h_iaddNum Tryz.call182 (.cons h_iaddText Tryz.call183 (.cons h_ibit Tryz.call201 (.cons h_iFrame Tryz.call186 .nil))))) .nil (H := H_iputBlock) (tbl := T_iputBlock) Tryz.func184 (by kernel_rfl) (loops1 (by kernel_rfl) s_iputBlock_4) r_iputBlock
/-! 202 iMark -/
noncomputable def iMark : (List UInt8) → Option (Int × Int)
  | key0 => ((iSum (bytesOf key0)).bind fun r1 => (some ((Int.tmod r1 (64 : Int)), (Int.tmod (IntKind.wrap .i64 (Int.tdiv r1 (64 : Int))) (64 : Int)))))
noncomputable def c_iMark : Ctr := { args := [.val false .str], rets := [(false, [(none, (.int .i64))]), (false, [(none, (.int .i64))])], F := iMark }
noncomputable def X_iMark : Ctx := XT.withΓ (lk [(177, c_iSum)]) (lk [])
noncomputable def H_iMark : Hints := ⟨lk [], lk [], lk []⟩
noncomputable def T_iMark : Nat → Option (LoopF c_iMark.Res) := lk []
theorem r_iMark (a) : fnRun X_iMark H_iMark c_iMark Tryz.f202 T_iMark a = iMark a := by kernel_rfl
theorem h_iMark [Tabs] : CtrHolds Tryz.prog 202 c_iMark := fn_ok (.cons h_iSum Tryz.call177 .nil) .nil (H := H_iMark) (tbl := T_iMark) Tryz.func202 (by kernel_rfl) (loops0 (by kernel_rfl)) r_iMark
/-! 185 iFilter -/
noncomputable def iFilter_L3 (O : Type) : Nat → (List (List UInt8) × Int × Int × List Int) → ((List Int) → Option O) → ((List Int) → Option O) → Option O
  | 0, _, _, _ => none
  | q + 1, (v1, v2, v3, out4), x, r => (cond (decide (v3 < v2)) (cond (decide ((0 : Int) ≤ v3) && decide (v3 < ((v1.length : Nat) : Int))) ((iMark (nth v1 v3)).bind fun (r5, r6) => (cond (decide ((0 : Int) ≤ (IntKind.wrap .i64 (Int.tdiv r5 (8 : Int)))) && decide ((IntKind.wrap .i64 (Int.tdiv r5 (8 : Int))) < ((out4.length : Nat) : Int))) (cond (decide ((Int.tmod r5 (8 : Int)) < (0 : Int))) none (cond (decide ((0 : Int) ≤ (IntKind.wrap .i64 (Int.tdiv r5 (8 : Int)))) && decide ((IntKind.wrap .i64 (Int.tdiv r5 (8 : Int))) < ((out4.length : Nat) : Int))) (cond (decide ((0 : Int) ≤ (IntKind.wrap .i64 (Int.tdiv r6 (8 : Int)))) && decide ((IntKind.wrap .i64 (Int.tdiv r6 (8 : Int))) < (((List.set out4 (Int.toNat (IntKind.wrap .i64 (Int.tdiv r5 (8 : Int)))) (bits .or .u8 (nth out4 (IntKind.wrap .i64 (Int.tdiv r5 (8 : Int)))) (IntKind.wrap .u8 ((1 : Int) * ((2 : Int) ^ (min (Int.toNat (Int.tmod r5 (8 : Int))) 8)))))).length : Nat) : Int))) (cond (decide ((Int.tmod r6 (8 : Int)) < (0 : Int))) none (cond (decide ((0 : Int) ≤ (IntKind.wrap .i64 (Int.tdiv r6 (8 : Int)))) && decide ((IntKind.wrap .i64 (Int.tdiv r6 (8 : Int))) < (((List.set out4 (Int.toNat (IntKind.wrap .i64 (Int.tdiv r5 (8 : Int)))) (bits .or .u8 (nth out4 (IntKind.wrap .i64 (Int.tdiv r5 (8 : Int)))) (IntKind.wrap .u8 ((1 : Int) * ((2 : Int) ^ (min (Int.toNat (Int.tmod r5 (8 : Int))) 8)))))).length : Nat) : Int))) (iFilter_L3 O q (v1, v2, (IntKind.wrap .i64 (v3 + (1 : Int))), (List.set (List.set out4 (Int.toNat (IntKind.wrap .i64 (Int.tdiv r5 (8 : Int)))) (bits .or .u8 (nth out4 (IntKind.wrap .i64 (Int.tdiv r5 (8 : Int)))) (IntKind.wrap .u8 ((1 : Int) * ((2 : Int) ^ (min (Int.toNat (Int.tmod r5 (8 : Int))) 8)))))) (Int.toNat (IntKind.wrap .i64 (Int.tdiv r6 (8 : Int)))) (bits .or .u8 (nth (List.set out4 (Int.toNat (IntKind.wrap .i64 (Int.tdiv r5 (8 : Int)))) (bits .or .u8 (nth out4 (IntKind.wrap .i64 (Int.tdiv r5 (8 : Int)))) (IntKind.wrap .u8 ((1 : Int) * ((2 : Int) ^ (min (Int.toNat (Int.tmod r5 (8 : Int))) 8)))))) (IntKind.wrap .i64 (Int.tdiv r6 (8 : Int)))) (IntKind.wrap .u8 ((1 : Int) * ((2 : Int) ^ (min (Int.toNat (Int.tmod r6 (8 : Int))) 8))))))) x r) none)) none) none)) none)) none) (x out4))
noncomputable def iFilter : (List (List UInt8)) → Option (List Int)
  | keys0 => (iFilter_L3 (List Int) fuel (keys0, ((keys0.length : Nat) : Int), (0 : Int), [(0 : Int), (0 : Int), (0 : Int), (0 : Int), (0 : Int), (0 : Int), (0 : Int), (0 : Int)]) (fun out7 => (some out7)) some)
noncomputable def c_iFilter : Ctr := { args := [.val false (.sl .str)], rets := [(false, [(some 5, (.sl (.int .u8)))])], F := iFilter }
noncomputable def X_iFilter : Ctx := XT.withΓ (lk [(202, c_iMark)]) (lk [])
noncomputable def H_iFilter : Hints := ⟨lk [], lk [], lk []⟩
noncomputable def L_iFilter_3 : LoopF c_iFilter.Res := ⟨⟨42, [(3, .one (.own 0)), (9, .one (.val (.sl .str))), (10, .one (.val (.int .i64))), (11, .one (.val (.int .i64)))], [.arr 5 (.int .u8)], []⟩, [(0, ⟨42, [(3, .one (.own 0))], [.arr 5 (.int .u8)], []⟩)], iFilter_L3⟩
noncomputable def T_iFilter : Nat → Option (LoopF c_iFilter.Res) := lk [(3, L_iFilter_3)]
theorem s_iFilter_3 : StepOk X_iFilter H_iFilter (c_iFilter.finish X_iFilter Tryz.f185.results.toList) T_iFilter (loopAt Tryz.f185 0) := ⟨L_iFilter_3, by kernel_rfl, fun O y x r => by kernel_rfl, fun O k y x r => by kernel_rfl⟩
theorem r_iFilter (a) : fnRun X_iFilter H_iFilter c_iFilter Tryz.f185 T_iFilter a = iFilter a := by kernel_rfl
theorem h_iFilter [Tabs] : CtrHolds Tryz.prog 185 c_iFilter := fn_ok (.cons h_iMark Tryz.call202 .nil) .nil (H := H_iFilter) (tbl := T_iFilter) Tryz.func185 (by kernel_rfl) (loops1 (by kernel_rfl) s_iFilter_3) r_iFilter
/-! 148 iPutTable -/
noncomputable def iPutTable_L7 (O : Type) : Nat → (List (List UInt8 × List UInt8 × Bool) × Int × Int × List Int × List Int) → ((List (List UInt8 × List UInt8 × Bool) × Int × List Int × List Int) → Option O) → ((List Int) → Option O) → Option O
  | 0, _, _, _ => none
  | q + 1, (l3, count4, from5, out6, index7), x, r => (cond (decide (from5 < ((l3.length : Nat) : Int))) (cond (decide ((0 : Int) ≤ from5) && (decide (from5 ≤ (if (((l3.length : Nat) : Int) < (IntKind.wrap .i64 (from5 + (4 : Int)))) then ((l3.length : Nat) : Int) else (IntKind.wrap .i64 (from5 + (4 : Int))))) && decide ((if (((l3.length : Nat) : Int) < (IntKind.wrap .i64 (from5 + (4 : Int)))) then ((l3.length : Nat) : Int) else (IntKind.wrap .i64 (from5 + (4 : Int)))) ≤ ((l3.length : Nat) : Int)))) (cond (decide ((0 : Int) ≤ (IntKind.wrap .i64 ((((cut l3 from5 (if (((l3.length : Nat) : Int) < (IntKind.wrap .i64 (from5 + (4 : Int)))) then ((l3.length : Nat) : Int) else (IntKind.wrap .i64 (from5 + (4 : Int))))).length : Nat) : Int) - (1 : Int)))) && decide ((IntKind.wrap .i64 ((((cut l3 from5 (if (((l3.length : Nat) : Int) < (IntKind.wrap .i64 (from5 + (4 : Int)))) then ((l3.length : Nat) : Int) else (IntKind.wrap .i64 (from5 + (4 : Int))))).length : Nat) : Int) - (1 : Int))) < (((cut l3 from5 (if (((l3.length : Nat) : Int) < (IntKind.wrap .i64 (from5 + (4 : Int)))) then ((l3.length : Nat) : Int) else (IntKind.wrap .i64 (from5 + (4 : Int))))).length : Nat) : Int))) ((iaddText (index7, (nth (cut l3 from5 (if (((l3.length : Nat) : Int) < (IntKind.wrap .i64 (from5 + (4 : Int)))) then ((l3.length : Nat) : Int) else (IntKind.wrap .i64 (from5 + (4 : Int))))) (IntKind.wrap .i64 ((((cut l3 from5 (if (((l3.length : Nat) : Int) < (IntKind.wrap .i64 (from5 + (4 : Int)))) then ((l3.length : Nat) : Int) else (IntKind.wrap .i64 (from5 + (4 : Int))))).length : Nat) : Int) - (1 : Int)))).1)).bind fun r8 => ((iaddNum (r8, ((out6.length : Nat) : Int))).bind fun r9 => ((iputBlock (cut l3 from5 (if (((l3.length : Nat) : Int) < (IntKind.wrap .i64 (from5 + (4 : Int)))) then ((l3.length : Nat) : Int) else (IntKind.wrap .i64 (from5 + (4 : Int)))))).bind fun r10 => (cond (decide ((out6.length + r10.length) ≤ lenBound)) (iPutTable_L7 O q (l3, (IntKind.wrap .i64 (count4 + (1 : Int))), (IntKind.wrap .i64 (from5 + (4 : Int))), (out6 ++ r10), r9) x r) none)))) none) none) (x (l3, count4, out6, index7)))
noncomputable def iPutTable_L14 (O : Type) : Nat → (Int × List (List UInt8 × List UInt8 × Bool) × Int × Int × List Int × List Int × List (List UInt8)) → ((Int × List Int × List Int × List (List UInt8)) → Option O) → ((List Int) → Option O) → Option O
  | 0, _, _, _ => none
  | q + 1, (count15, v16, v17, v18, out19, index20, keys21), x, r => (cond (decide (v18 < v17)) (cond (decide ((0 : Int) ≤ v18) && decide (v18 < ((v16.length : Nat) : Int))) (cond (decide ((keys21.length + [(nth v16 v18).1].length) ≤ lenBound)) (iPutTable_L14 O q (count15, v16, v17, (IntKind.wrap .i64 (v18 + (1 : Int))), out19, index20, (keys21 ++ [(nth v16 v18).1])) x r) none) none) (x (count15, out19, index20, keys21)))
noncomputable def iPutTable : (List (List UInt8 × List UInt8 × Bool)) → Option (List Int)
  | l0 => ((iin (((l0.length : Nat) : Int), (1 : Int), (200 : Int))).bind fun r1 => (cond (!r1) (some []) ((irising l0).bind fun r2 => (cond (!r2) (some []) (iPutTable_L7 (List Int) fuel (l0, (0 : Int), (0 : Int), [], []) (fun (l11, count12, out13, index14) => (iPutTable_L14 (List Int) fuel (count12, l11, ((l11.length : Nat) : Int), (0 : Int), out13, index14, []) (fun (count22, out23, index24, keys25) => ((iaddNum ([], count22)).bind fun r26 => (cond (decide ((r26.length + index24.length) ≤ lenBound)) ((iFilter keys25).bind fun r27 => (cond (decide (((r26 ++ index24).length + r27.length) ≤ lenBound)) ((iFrame ((r26 ++ index24) ++ r27)).bind fun r28 => (cond (decide ((out23.length + r28.length) ≤ lenBound)) ((iword ((out23.length : Nat) : Int)).bind fun r29 => (cond (decide (((out23 ++ r28).length + r29.length) ≤ lenBound)) (some ((out23 ++ r28) ++ r29)) none)) none)) none)) none))) some)) some)))))
noncomputable def c_iPutTable : Ctr := { args := [.val false (.sl (.pair .str (.pair .str .bool)))], rets := [(false, [(some 5, (.sl (.int .u8)))])], F := iPutTable }
noncomputable def X_iPutTable : Ctx := XT.withΓ (lk [(114, c_iin), (181, c_irising), (183, c_iaddText), (182, c_iaddNum), (184, c_iputBlock), (185, c_iFilter), (186, c_iFrame), (187, c_iword)]) (lk [])
noncomputable def H_iPutTable : Hints := ⟨lk [], lk [], lk []⟩
noncomputable def L_iPutTable_7 : LoopF c_iPutTable.Res := ⟨⟨82, [(0, .one (.val (.sl (.pair .str (.pair .str .bool))))), (3, .one (.own 0)), (4, .one (.own 1)), (5, .one (.nils)), (6, .one (.val (.int .i64))), (7, .one (.val (.int .i64)))], [.arr 5 (.int .u8), .arr 5 (.int .u8)], []⟩, [(0, ⟨82, [(0, .one (.val (.sl (.pair .str (.pair .str .bool))))), (3, .one (.own 0)), (4, .one (.own 1)), (5, .one (.nils)), (6, .one (.val (.int .i64)))], [.arr 5 (.int .u8), .arr 5 (.int .u8)], []⟩)], iPutTable_L7⟩
noncomputable def L_iPutTable_14 : LoopF c_iPutTable.Res := ⟨⟨82, [(3, .one (.own 0)), (4, .one (.own 1)), (5, .one (.own 2)), (6, .one (.val (.int .i64))), (54, .one (.val (.sl (.pair .str (.pair .str .bool))))), (55, .one (.val (.int .i64))), (56, .one (.val (.int .i64)))], [.arr 5 (.int .u8), .arr 5 (.int .u8), .arr 9 .str], []⟩, [(2, ⟨82, [(3, .one (.own 0)), (4, .one (.own 1)), (5, .one (.own 2)), (6, .one (.val (.int .i64)))], [.arr 5 (.int .u8), .arr 5 (.int .u8), .arr 9 .str], []⟩)], iPutTable_L14⟩
noncomputable def T_iPutTable : Nat → Option (LoopF c_iPutTable.Res) := lk [(7, L_iPutTable_7), (14, L_iPutTable_14)]
theorem s_iPutTable_7 : StepOk X_iPutTable H_iPutTable (c_iPutTable.finish X_iPutTable Tryz.f148.results.toList) T_iPutTable (loopAt Tryz.f148 0) := ⟨L_iPutTable_7, by kernel_rfl, fun O y x r => by kernel_rfl, fun O k y x r => by kernel_rfl⟩
theorem s_iPutTable_14 : StepOk X_iPutTable H_iPutTable (c_iPutTable.finish X_iPutTable Tryz.f148.results.toList) T_iPutTable (loopAt Tryz.f148 1) := ⟨L_iPutTable_14, by kernel_rfl, fun O y x r => by kernel_rfl, fun O k y x r => by kernel_rfl⟩
theorem r_iPutTable (a) : fnRun X_iPutTable H_iPutTable c_iPutTable Tryz.f148 T_iPutTable a = iPutTable a := by kernel_rfl
theorem h_iPutTable [Tabs] : CtrHolds Tryz.prog 148 c_iPutTable := fn_ok (.cons h_iin Tryz.call114 (.cons h_irising Tryz.call181 (.cons h_iaddText Tryz.call183 (.cons h_iaddNum Tryz.call182 (.cons h_iputBlock Tryz.call184 (.cons h_iFilter Tryz.call185 (.cons h_iFrame Tryz.call186 (.cons h_iword Tryz.call187 .nil)))))))) .nil (H := H_iPutTable) (tbl := T_iPutTable) Tryz.func148 (by kernel_rfl) (loops2 (by kernel_rfl) s_iPutTable_7 s_iPutTable_14) r_iPutTable
/-! 103 iTablePairs -/
noncomputable def iTablePairs_L4 (O : Type) : Nat → (List Int × Bool × Int × Int × List (List UInt8 × List UInt8 × Bool) × List (List UInt8 × Int)) → ((List Int × Bool × List (List UInt8 × List UInt8 × Bool)) → Option O) → ((List (List UInt8 × List UInt8 × Bool) × Bool) → Option O) → Option O
  | 0, _, _, _ => none
  | q + 1, (b4, ok5, v6, v7, out8, v9), x, r => (cond (decide (v7 < v6)) (cond (decide ((0 : Int) ≤ v7) && decide (v7 < ((v9.length : Nat) : Int))) ((ipairsAt (b4, (nth v9 v7).2)).bind fun (r10, r11) => (cond (!ok5) (r ([], false)) (cond (!r11) (r ([], false)) (cond (decide (((out8.length : Nat) : Int) > (200 : Int))) (r ([], false)) (cond (decide ((out8.length + r10.length) ≤ lenBound)) (iTablePairs_L4 O q (b4, ok5, v6, (IntKind.wrap .i64 (v7 + (1 : Int))), (out8 ++ r10), v9) x r) none))))) none) (x (b4, ok5, out8)))
noncomputable def iTablePairs : (List Int) → Option (List (List UInt8 × List UInt8 × Bool) × Bool)
  | b0 => ((iindexOf b0).bind fun (r1, r2, r3) => (iTablePairs_L4 (List (List UInt8 × List UInt8 × Bool) × Bool) fuel (b0, r3, ((r1.length : Nat) : Int), (0 : Int), [], r1) (fun (b12, ok13, out14) => ((iPutTable out14).bind fun r15 => (cond (!ok13) (some ([], false)) (cond (((r15.length : Nat) : Int) == (0 : Int)) (some ([], false)) (cond (!((strOf r15) == (strOf b12))) (some ([], false)) (some (out14, true))))))) some))
noncomputable def c_iTablePairs : Ctr := { args := [.val false (.sl (.int .u8))], rets := [(false, [(some 93, (.sl (.pair .str (.pair .str .bool))))]), (false, [(none, .bool)])], F := iTablePairs }
noncomputable def X_iTablePairs : Ctx := XT.withΓ (lk [(146, c_iindexOf), (147, c_ipairsAt), (148, c_iPutTable)]) (lk [])
noncomputable def H_iTablePairs : Hints := ⟨lk [], lk [], lk []⟩
noncomputable def L_iTablePairs_4 : LoopF c_iTablePairs.Res := ⟨⟨64, [(0, .one (.val (.sl (.int .u8)))), (6, .one (.val .bool)), (7, .one (.own 0)), (19, .one (.own 1)), (20, .one (.val (.int .i64))), (21, .one (.val (.int .i64)))], [.arr 93 (.pair .str (.pair .str .bool)), .arr 185 (.pair .str (.int .i64))], []⟩, [(0, ⟨64, [(0, .one (.val (.sl (.int .u8)))), (6, .one (.val .bool)), (7, .one (.own 0))], [.arr 93 (.pair .str (.pair .str .bool))], []⟩)], iTablePairs_L4⟩
noncomputable def T_iTablePairs : Nat → Option (LoopF c_iTablePairs.Res) := lk [(4, L_iTablePairs_4)]
theorem s_iTablePairs_4 : StepOk X_iTablePairs H_iTablePairs (c_iTablePairs.finish X_iTablePairs Tryz.f103.results.toList) T_iTablePairs (loopAt Tryz.f103 0) := ⟨L_iTablePairs_4, by kernel_rfl, fun O y x r => by kernel_rfl, fun O k y x r => by kernel_rfl⟩
theorem r_iTablePairs (a) : fnRun X_iTablePairs H_iTablePairs c_iTablePairs Tryz.f103 T_iTablePairs a = iTablePairs a := by kernel_rfl
theorem h_iTablePairs [Tabs] : CtrHolds Tryz.prog 103 c_iTablePairs := fn_ok (.cons h_iindexOf Tryz.call146 (.cons h_ipairsAt Tryz.call147 (.cons h_iPutTable Tryz.call148 .nil))) .nil (H := H_iTablePairs) (tbl := T_iTablePairs) Tryz.func103 (by kernel_rfl) (loops1 (by kernel_rfl) s_iTablePairs_4) r_iTablePairs
/-! 101 itablesOk -/
noncomputable def itablesOk_L2 (O : Type) : Nat → (List (Int × Int × List UInt8 × List UInt8) × Int × Int × List (Int × List Int × Int) × List (List UInt8 × Int) × List (List UInt8 × Int) × Int) → (Unit → Option O) → (Bool → Option O) → Option O
  | 0, _, _, _ => none
  | q + 1, (v7, v8, v9, d10, d11, d12, d13), x, r => (cond (decide (v9 < v8)) (cond (decide ((0 : Int) ≤ v9) && decide (v9 < ((v7.length : Nat) : Int))) ((itabName (nth v7 v9).1).bind fun r14 => ((iBytes ((d10, d11, d12, d13), r14)).bind fun (r15, r16) => ((iTablePairs r15).bind fun (r17, r18) => (cond (!r16) (r false) (cond (!r18) (r false) (cond (decide ((0 : Int) < ((r17.length : Nat) : Int))) (cond (!((List.getD r17 0 ([], [], false)).1 == (nth v7 v9).2.2.1)) (r false) (cond (decide ((0 : Int) ≤ (IntKind.wrap .i64 (((r17.length : Nat) : Int) - (1 : Int)))) && decide ((IntKind.wrap .i64 (((r17.length : Nat) : Int) - (1 : Int))) < ((r17.length : Nat) : Int))) (cond (!((nth r17 (IntKind.wrap .i64 (((r17.length : Nat) : Int) - (1 : Int)))).1 == (nth v7 v9).2.2.2)) (r false) (itablesOk_L2 O q (v7, v8, (IntKind.wrap .i64 (v9 + (1 : Int))), d10, d11, d12, d13) x r)) none)) none)))))) none) (x ()))
noncomputable def itablesOk : ((List (Int × List Int × Int) × List (List UInt8 × Int) × List (List UInt8 × Int) × Int) × Int × Int × List (Int × Int × List UInt8 × List UInt8)) → Option Bool
  | ((d0, d1, d2, d3), m4, m5, m6) => (itablesOk_L2 Bool fuel (m6, ((m6.length : Nat) : Int), (0 : Int), d0, d1, d2, d3) (fun _ => (some true)) some)
noncomputable def c_itablesOk : Ctr := { args := [.val true (.pair (.sl (.pair (.int .i64) (.pair (.sl (.int .u8)) (.int .i64)))) (.pair (.sl (.pair .str (.int .i64))) (.pair (.sl (.pair .str (.int .i64))) (.int .i64)))), .val true (.pair (.int .i64) (.pair (.int .i64) (.sl (.pair (.int .i64) (.pair (.int .i64) (.pair .str .str))))))], rets := [(false, [(none, .bool)])], F := itablesOk }
noncomputable def X_itablesOk : Ctx := XT.withΓ (lk [(102, c_itabName), (29, c_iBytes), (103, c_iTablePairs)]) (lk [])
noncomputable def H_itablesOk : Hints := ⟨lk [], lk [], lk []⟩
noncomputable def L_itablesOk_2 : LoopF c_itablesOk.Res := ⟨⟨59, [(2, .one (.ptr 0 0)), (12, .one (.val (.sl (.pair (.int .i64) (.pair (.int .i64) (.pair .str .str)))))), (13, .one (.val (.int .i64))), (14, .one (.val (.int .i64)))], [.vars 35 [.val (.sl (.pair (.int .i64) (.pair (.sl (.int .u8)) (.int .i64)))), .val (.sl (.pair .str (.int .i64))), .val (.sl (.pair .str (.int .i64))), .val (.int .i64)]], []⟩, [(0, ⟨59, [], [], []⟩)], itablesOk_L2⟩
noncomputable def T_itablesOk : Nat → Option (LoopF c_itablesOk.Res) := lk [(2, L_itablesOk_2)]
theorem s_itablesOk_2 : StepOk X_itablesOk H_itablesOk (c_itablesOk.finish X_itablesOk Tryz.f101.results.toList) T_itablesOk (loopAt Tryz.f101 0) := ⟨L_itablesOk_2, by kernel_rfl, fun O y x r => by kernel_rfl, fun O k y x r => by kernel_rfl⟩
theorem r_itablesOk (a) : fnRun X_itablesOk H_itablesOk c_itablesOk Tryz.f101 T_itablesOk a = itablesOk a := by kernel_rfl
theorem h_itablesOk [TabsD] : CtrHolds Tryz.prog 101 c_itablesOk := fn_ok (.cons h_itabName Tryz.call102 (.cons h_iBytes Tryz.call29 (.cons h_iTablePairs Tryz.call103 .nil))) .nil (H := H_itablesOk) (tbl := T_itablesOk) Tryz.func101 (by kernel_rfl) (loops1 (by kernel_rfl) s_itablesOk_2) r_itablesOk
/-! 45 iStoreOk -/
noncomputable def iStoreOk : ((List (Int × List Int × Int) × List (List UInt8 × Int) × List (List UInt8 × Int) × Int) × List ((List UInt8 × List UInt8 × Bool) × Int) × Int × Int × List (Int × Int × List UInt8 × List UInt8)) → Option Bool
  | ((s0, s1, s2, s3), s4, s5, s6, s7) => ((iDiskOk (s0, s1, s2, s3)).bind fun r8 => (cond (!r8) (some false) ((iMemOk s4).bind fun r9 => (cond (!r9) (some false) ((iManOk (s5, s6, s7)).bind fun r10 => (cond (!r10) (some false) ((iCurrent (s0, s1, s2, s3)).bind fun ((r11, r12, r13), r14) => ((ilogName s6).bind fun r15 => ((iBytes ((s0, s1, s2, s3), r15)).bind fun (r16, r17) => ((iRecords r16).bind fun (r18, r19) => ((imemOf r18).bind fun (r20, r21) => (cond r14 (cond r17 (cond r21 (cond (r19 == ((r16.length : Nat) : Int)) ((isameMan ((r11, r12, r13), s5, s6, s7)).bind fun r22 => (cond r22 ((isameMem (r20, s4)).bind fun r23 => (cond r23 ((itablesOk ((s0, s1, s2, s3), s5, s6, s7)).bind fun r24 => (some r24)) (some false))) (some false))) (some false)) (some false)) (some false)) (some false)))))))))))))
noncomputable def c_iStoreOk : Ctr := { args := [.val true (.pair (.pair (.sl (.pair (.int .i64) (.pair (.sl (.int .u8)) (.int .i64)))) (.pair (.sl (.pair .str (.int .i64))) (.pair (.sl (.pair .str (.int .i64))) (.int .i64)))) (.pair (.sl (.pair (.pair .str (.pair .str .bool)) (.int .i64))) (.pair (.int .i64) (.pair (.int .i64) (.sl (.pair (.int .i64) (.pair (.int .i64) (.pair .str .str))))))))], rets := [(false, [(none, .bool)])], F := iStoreOk }
noncomputable def X_iStoreOk : Ctx := XT.withΓ (lk [(68, c_iDiskOk), (94, c_iMemOk), (95, c_iManOk), (8, c_iCurrent), (96, c_ilogName), (29, c_iBytes), (97, c_iRecords), (98, c_imemOf), (99, c_isameMan), (100, c_isameMem), (101, c_itablesOk)]) (lk [])
noncomputable def H_iStoreOk : Hints := ⟨lk [], lk [], lk []⟩
noncomputable def T_iStoreOk : Nat → Option (LoopF c_iStoreOk.Res) := lk []
theorem r_iStoreOk (a) : fnRun X_iStoreOk H_iStoreOk c_iStoreOk Tryz.f45 T_iStoreOk a = iStoreOk a := by kernel_rfl
theorem h_iStoreOk [TabsD] : CtrHolds Tryz.prog 45 c_iStoreOk := fn_ok (.cons h_iDiskOk Tryz.call68 (.cons h_iMemOk Tryz.call94 (.cons h_iManOk Tryz.call95 (.cons h_iCurrent Tryz.call8 (.cons h_ilogName Tryz.call96 (.cons h_iBytes Tryz.call29 (.cons h_iRecords Tryz.call97 (.cons h_imemOf Tryz.call98 (.cons h_isameMan Tryz.call99 (.cons h_isameMem Tryz.call100 (.cons h_itablesOk Tryz.call101 .nil))))))))))) .nil (H := H_iStoreOk) (tbl := T_iStoreOk) Tryz.func45 (by kernel_rfl) (loops0 (by kernel_rfl)) r_iStoreOk
/-! 50 leqPair -/
noncomputable def leqPair : ((List UInt8 × List UInt8 × Bool) × List UInt8 × List UInt8 × Bool) → Option Bool
  | ((a0, a1, a2), b3, b4, b5) => (cond (!(a0 == b3)) (some false) (cond (!(a1 == b4)) (some false) (cond (!(a2 == b5)) (some false) (some true))))
noncomputable def c_leqPair : Ctr := { args := [.val true (.pair .str (.pair .str .bool)), .val true (.pair .str (.pair .str .bool))], rets := [(false, [(none, .bool)])], F := leqPair }
noncomputable def X_leqPair : Ctx := XT.withΓ (lk []) (lk [])
noncomputable def H_leqPair : Hints := ⟨lk [], lk [], lk []⟩
noncomputable def T_leqPair : Nat → Option (LoopF c_leqPair.Res) := lk []
theorem r_leqPair (a) : fnRun X_leqPair H_leqPair c_leqPair Tryz.f50 T_leqPair a = leqPair a := by kernel_rfl
theorem h_leqPair [Tabs] : CtrHolds Tryz.prog 50 c_leqPair := fn_ok .nil .nil (H := H_leqPair) (tbl := T_leqPair) Tryz.func50 (by kernel_rfl) (loops0 (by kernel_rfl)) r_leqPair
/-! 149 leqNode -/
noncomputable def leqNode : (((List UInt8 × List UInt8 × Bool) × Int) × (List UInt8 × List UInt8 × Bool) × Int) → Option Bool
  | (((a0, a1, a2), a3), (b4, b5, b6), b7) => ((leqPair ((a0, a1, a2), b4, b5, b6)).bind fun r8 => (cond (!r8) (some false) (cond (a3 != b7) (some false) (some true))))
noncomputable def c_leqNode : Ctr := { args := [.val true (.pair (.pair .str (.pair .str .bool)) (.int .i64)), .val true (.pair (.pair .str (.pair .str .bool)) (.int .i64))], rets := [(false, [(none, .bool)])], F := leqNode }
noncomputable def X_leqNode : Ctx := XT.withΓ (lk [(50, c_leqPair)]) (lk [])
noncomputable def H_leqNode : Hints := ⟨lk [], lk [], lk []⟩
noncomputable def T_leqNode : Nat → Option (LoopF c_leqNode.Res) := lk []
theorem r_leqNode (a) : fnRun X_leqNode H_leqNode c_leqNode Tryz.f149 T_leqNode a = leqNode a := by kernel_rfl
theorem h_leqNode [Tabs] : CtrHolds Tryz.prog 149 c_leqNode := fn_ok (.cons h_leqPair Tryz.call50 .nil) .nil (H := H_leqNode) (tbl := T_leqNode) Tryz.func149 (by kernel_rfl) (loops0 (by kernel_rfl)) r_leqNode
/-! 104 leqNodeS -/
noncomputable def leqNodeS_L4 (O : Type) : Nat → (List ((List UInt8 × List UInt8 × Bool) × Int) × List ((List UInt8 × List UInt8 × Bool) × Int) × Int) → (Unit → Option O) → (Bool → Option O) → Option O
  | 0, _, _, _ => none
  | q + 1, (a2, b3, i4), x, r => (cond (decide (i4 < ((a2.length : Nat) : Int))) (cond (decide ((0 : Int) ≤ i4) && decide (i4 < ((a2.length : Nat) : Int))) (cond (decide ((0 : Int) ≤ i4) && decide (i4 < ((b3.length : Nat) : Int))) ((leqNode ((((nth a2 i4).1.1, (nth a2 i4).1.2.1, (nth a2 i4).1.2.2), (nth a2 i4).2), ((nth b3 i4).1.1, (nth b3 i4).1.2.1, (nth b3 i4).1.2.2), (nth b3 i4).2)).bind fun r5 => (cond (!r5) (r false) (leqNodeS_L4 O q (a2, b3, (IntKind.wrap .i64 (i4 + (1 : Int)))) x r))) none) none) (x ()))
noncomputable def leqNodeS : (List ((List UInt8 × List UInt8 × Bool) × Int) × List ((List UInt8 × List UInt8 × Bool) × Int)) → Option Bool
  | (a0, b1) => (cond (((a0.length : Nat) : Int) != ((b1.length : Nat) : Int)) (some false) (leqNodeS_L4 Bool fuel (a0, b1, (0 : Int)) (fun _ => (some true)) some))
noncomputable def c_leqNodeS : Ctr := { args := [.val false (.sl (.pair (.pair .str (.pair .str .bool)) (.int .i64))), .val false (.sl (.pair (.pair .str (.pair .str .bool)) (.int .i64)))], rets := [(false, [(none, .bool)])], F := leqNodeS }
noncomputable def X_leqNodeS : Ctx := XT.withΓ (lk [(149, c_leqNode)]) (lk [])
noncomputable def H_leqNodeS : Hints := ⟨lk [], lk [], lk []⟩
noncomputable def L_leqNodeS_4 : LoopF c_leqNodeS.Res := ⟨⟨27, [(0, .one (.val (.sl (.pair (.pair .str (.pair .str .bool)) (.int .i64))))), (1, .one (.val (.sl (.pair (.pair .str (.pair .str .bool)) (.int .i64))))), (5, .one (.val (.int .i64)))], [], []⟩, [(0, ⟨27, [], [], []⟩)], leqNodeS_L4⟩
noncomputable def T_leqNodeS : Nat → Option (LoopF c_leqNodeS.Res) := lk [(4, L_leqNodeS_4)]
theorem s_leqNodeS_4 : StepOk X_leqNodeS H_leqNodeS (c_leqNodeS.finish X_leqNodeS Tryz.f104.results.toList) T_leqNodeS (loopAt Tryz.f104 0) := ⟨L_leqNodeS_4, by kernel_rfl, fun O y x r => by kernel_rfl, fun O k y x r => by kernel_rfl⟩
theorem r_leqNodeS (a) : fnRun X_leqNodeS H_leqNodeS c_leqNodeS Tryz.f104 T_leqNodeS a = leqNodeS a := by kernel_rfl
theorem h_leqNodeS [Tabs] : CtrHolds Tryz.prog 104 c_leqNodeS := fn_ok (.cons h_leqNode Tryz.call149 .nil) .nil (H := H_leqNodeS) (tbl := T_leqNodeS) Tryz.func104 (by kernel_rfl) (loops1 (by kernel_rfl) s_leqNodeS_4) r_leqNodeS
/-! 51 leqMem -/
noncomputable def leqMem : (List ((List UInt8 × List UInt8 × Bool) × Int) × List ((List UInt8 × List UInt8 × Bool) × Int)) → Option Bool
  | (a0, b1) => ((leqNodeS (a0, b1)).bind fun r2 => (cond (!r2) (some false) (some true)))
noncomputable def c_leqMem : Ctr := { args := [.val true (.sl (.pair (.pair .str (.pair .str .bool)) (.int .i64))), .val true (.sl (.pair (.pair .str (.pair .str .bool)) (.int .i64)))], rets := [(false, [(none, .bool)])], F := leqMem }
noncomputable def X_leqMem : Ctx := XT.withΓ (lk [(104, c_leqNodeS)]) (lk [])
noncomputable def H_leqMem : Hints := ⟨lk [], lk [], lk []⟩
noncomputable def T_leqMem : Nat → Option (LoopF c_leqMem.Res) := lk []
theorem r_leqMem (a) : fnRun X_leqMem H_leqMem c_leqMem Tryz.f51 T_leqMem a = leqMem a := by kernel_rfl
theorem h_leqMem [Tabs] : CtrHolds Tryz.prog 51 c_leqMem := fn_ok (.cons h_leqNodeS Tryz.call104 .nil) .nil (H := H_leqMem) (tbl := T_leqMem) Tryz.func51 (by kernel_rfl) (loops0 (by kernel_rfl)) r_leqMem
/-! 19 leqStore -/
noncomputable def leqStore : (((List (Int × List Int × Int) × List (List UInt8 × Int) × List (List UInt8 × Int) × Int) × List ((List UInt8 × List UInt8 × Bool) × Int) × Int × Int × List (Int × Int × List UInt8 × List UInt8)) × (List (Int × List Int × Int) × List (List UInt8 × Int) × List (List UInt8 × Int) × Int) × List ((List UInt8 × List UInt8 × Bool) × Int) × Int × Int × List (Int × Int × List UInt8 × List UInt8)) → Option Bool
  | (((a0, a1, a2, a3), a4, a5, a6, a7), (b8, b9, b10, b11), b12, b13, b14, b15) => ((leqDisk ((a0, a1, a2, a3), b8, b9, b10, b11)).bind fun r16 => (cond (!r16) (some false) ((leqMem (a4, b12)).bind fun r17 => (cond (!r17) (some false) ((leqManifest ((a5, a6, a7), b13, b14, b15)).bind fun r18 => (cond (!r18) (some false) (some true)))))))
noncomputable def c_leqStore : Ctr := { args := [.val true (.pair (.pair (.sl (.pair (.int .i64) (.pair (.sl (.int .u8)) (.int .i64)))) (.pair (.sl (.pair .str (.int .i64))) (.pair (.sl (.pair .str (.int .i64))) (.int .i64)))) (.pair (.sl (.pair (.pair .str (.pair .str .bool)) (.int .i64))) (.pair (.int .i64) (.pair (.int .i64) (.sl (.pair (.int .i64) (.pair (.int .i64) (.pair .str .str)))))))), .val true (.pair (.pair (.sl (.pair (.int .i64) (.pair (.sl (.int .u8)) (.int .i64)))) (.pair (.sl (.pair .str (.int .i64))) (.pair (.sl (.pair .str (.int .i64))) (.int .i64)))) (.pair (.sl (.pair (.pair .str (.pair .str .bool)) (.int .i64))) (.pair (.int .i64) (.pair (.int .i64) (.sl (.pair (.int .i64) (.pair (.int .i64) (.pair .str .str))))))))], rets := [(false, [(none, .bool)])], F := leqStore }
noncomputable def X_leqStore : Ctx := XT.withΓ (lk [(10, c_leqDisk), (51, c_leqMem), (9, c_leqManifest)]) (lk [])
noncomputable def H_leqStore : Hints := ⟨lk [], lk [], lk []⟩
noncomputable def T_leqStore : Nat → Option (LoopF c_leqStore.Res) := lk []
theorem r_leqStore (a) : fnRun X_leqStore H_leqStore c_leqStore Tryz.f19 T_leqStore a = leqStore a := by kernel_rfl
theorem h_leqStore [Tabs] : CtrHolds Tryz.prog 19 c_leqStore := fn_ok (.cons h_leqDisk Tryz.call10 (.cons h_leqMem Tryz.call51 (.cons h_leqManifest Tryz.call9 .nil))) .nil (H := H_leqStore) (tbl := T_leqStore) Tryz.func19 (by kernel_rfl) (loops0 (by kernel_rfl)) r_leqStore
end Go.Rx
