import Derived.Test.YtecdihlfbncedaaGreatDoorTab
set_option linter.all false
set_option maxRecDepth 1000000
namespace Go.Rx
open Go.Proofs
/-! 106 lszByteS -/
noncomputable def lszByteS : (List Int × Int) → Option Int
  | (a0, left1) => (cond (decide ((IntKind.wrap .i64 (left1 - ((a0.length : Nat) : Int))) < (0 : Int))) (some (-1 : Int)) (some (IntKind.wrap .i64 (left1 - ((a0.length : Nat) : Int)))))
noncomputable def c_lszByteS : Ctr := { args := [.val false (.old (.int .u8)), .val false (.int .i64)], rets := [(false, [(none, (.int .i64))])], F := lszByteS }
noncomputable def X_lszByteS : Ctx := XT.withΓ (lk []) (lk [])
noncomputable def H_lszByteS : Hints := ⟨lk [], lk [], lk []⟩
noncomputable def T_lszByteS : Nat → Option (LoopF c_lszByteS.Res) := lk []
theorem r_lszByteS (a) : fnRun X_lszByteS H_lszByteS c_lszByteS Tryz.f106 T_lszByteS a = lszByteS a := by kernel_rfl
theorem h_lszByteS [Tabs] : CtrHolds Tryz.prog 106 c_lszByteS := fn_ok .nil .nil (H := H_lszByteS) (tbl := T_lszByteS) Tryz.func106 (by kernel_rfl) (loops0 (by kernel_rfl)) r_lszByteS
/-! 54 lszInode -/
noncomputable def lszInode : ((Int × List Int × Int) × Int) → Option Int
  | ((a0, a1, a2), left3) => ((lszByteS (a1, left3)).bind fun r4 => (cond (decide (r4 < (0 : Int))) (some (-1 : Int)) (some r4)))
noncomputable def c_lszInode : Ctr := { args := [.val true (.pair (.int .i64) (.pair (.old (.int .u8)) (.int .i64))), .val false (.int .i64)], rets := [(false, [(none, (.int .i64))])], F := lszInode }
noncomputable def X_lszInode : Ctx := XT.withΓ (lk [(106, c_lszByteS)]) (lk [])
noncomputable def H_lszInode : Hints := ⟨lk [], lk [], lk []⟩
noncomputable def T_lszInode : Nat → Option (LoopF c_lszInode.Res) := lk []
theorem r_lszInode (a) : fnRun X_lszInode H_lszInode c_lszInode Tryz.f54 T_lszInode a = lszInode a := by kernel_rfl
theorem h_lszInode [Tabs] : CtrHolds Tryz.prog 54 c_lszInode := fn_ok (.cons h_lszByteS Tryz.call106 .nil) .nil (H := H_lszInode) (tbl := T_lszInode) Tryz.func54 (by kernel_rfl) (loops0 (by kernel_rfl)) r_lszInode
/-! 23 lszInodeS -/
noncomputable def lszInodeS_L5 (O : Type) : Nat → (List (Int × List Int × Int) × Int × Int) → (Int → Option O) → (Int → Option O) → Option O
  | 0, _, _, _ => none
  | q + 1, (a2, left3, i4), x, r => (cond (decide (i4 < ((a2.length : Nat) : Int))) (cond (decide ((0 : Int) ≤ i4) && decide (i4 < ((a2.length : Nat) : Int))) ((lszInode (((nth a2 i4).1, (nth a2 i4).2.1, (nth a2 i4).2.2), left3)).bind fun r5 => (cond (decide (r5 < (0 : Int))) (r (-1 : Int)) (lszInodeS_L5 O q (a2, r5, (IntKind.wrap .i64 (i4 + (1 : Int)))) x r))) none) (x left3))
noncomputable def lszInodeS : (List (Int × List Int × Int) × Int) → Option Int
  | (a0, left1) => (cond (decide ((IntKind.wrap .i64 (left1 - ((a0.length : Nat) : Int))) < (0 : Int))) (some (-1 : Int)) (lszInodeS_L5 Int fuel (a0, (IntKind.wrap .i64 (left1 - ((a0.length : Nat) : Int))), (0 : Int)) (fun left6 => (some left6)) some))
noncomputable def c_lszInodeS : Ctr := { args := [.val false (.old (.pair (.int .i64) (.pair (.old (.int .u8)) (.int .i64)))), .val false (.int .i64)], rets := [(false, [(none, (.int .i64))])], F := lszInodeS }
noncomputable def X_lszInodeS : Ctx := XT.withΓ (lk [(54, c_lszInode)]) (lk [])
noncomputable def H_lszInodeS : Hints := ⟨lk [], lk [], lk []⟩
noncomputable def L_lszInodeS_5 : LoopF c_lszInodeS.Res := ⟨⟨27, [(0, .one (.val (.old (.pair (.int .i64) (.pair (.old (.int .u8)) (.int .i64)))))), (1, .one (.val (.int .i64))), (5, .one (.val (.int .i64)))], [], []⟩, [(0, ⟨27, [(1, .one (.val (.int .i64)))], [], []⟩)], lszInodeS_L5⟩
noncomputable def T_lszInodeS : Nat → Option (LoopF c_lszInodeS.Res) := lk [(5, L_lszInodeS_5)]
theorem s_lszInodeS_5 : StepOk X_lszInodeS H_lszInodeS (c_lszInodeS.finish X_lszInodeS Tryz.f23.results.toList) T_lszInodeS (loopAt Tryz.f23 0) := ⟨L_lszInodeS_5, by kernel_rfl, fun O y x r => by kernel_rfl, fun O k y x r => by kernel_rfl⟩
theorem r_lszInodeS (a) : fnRun X_lszInodeS H_lszInodeS c_lszInodeS Tryz.f23 T_lszInodeS a = lszInodeS a := by kernel_rfl
theorem h_lszInodeS [Tabs] : CtrHolds Tryz.prog 23 c_lszInodeS := fn_ok (.cons h_lszInode Tryz.call54 .nil) .nil (H := H_lszInodeS) (tbl := T_lszInodeS) Tryz.func23 (by kernel_rfl) (loops1 (by kernel_rfl) s_lszInodeS_5) r_lszInodeS
/-! 55 lszEntry -/
noncomputable def lszEntry : ((List UInt8 × Int) × Int) → Option Int
  | ((a0, a1), left2) => (cond (decide ((IntKind.wrap .i64 (left2 - ((a0.length : Nat) : Int))) < (0 : Int))) (some (-1 : Int)) (some (IntKind.wrap .i64 (left2 - ((a0.length : Nat) : Int)))))
noncomputable def c_lszEntry : Ctr := { args := [.val true (.pair .str (.int .i64)), .val false (.int .i64)], rets := [(false, [(none, (.int .i64))])], F := lszEntry }
noncomputable def X_lszEntry : Ctx := XT.withΓ (lk []) (lk [])
noncomputable def H_lszEntry : Hints := ⟨lk [], lk [], lk []⟩
noncomputable def T_lszEntry : Nat → Option (LoopF c_lszEntry.Res) := lk []
theorem r_lszEntry (a) : fnRun X_lszEntry H_lszEntry c_lszEntry Tryz.f55 T_lszEntry a = lszEntry a := by kernel_rfl
theorem h_lszEntry [Tabs] : CtrHolds Tryz.prog 55 c_lszEntry := fn_ok .nil .nil (H := H_lszEntry) (tbl := T_lszEntry) Tryz.func55 (by kernel_rfl) (loops0 (by kernel_rfl)) r_lszEntry
/-! 24 lszEntryS -/
noncomputable def lszEntryS_L5 (O : Type) : Nat → (List (List UInt8 × Int) × Int × Int) → (Int → Option O) → (Int → Option O) → Option O
  | 0, _, _, _ => none
  | q + 1, (a2, left3, i4), x, r => (cond (decide (i4 < ((a2.length : Nat) : Int))) (cond (decide ((0 : Int) ≤ i4) && decide (i4 < ((a2.length : Nat) : Int))) ((lszEntry (((nth a2 i4).1, (nth a2 i4).2), left3)).bind fun r5 => (cond (decide (r5 < (0 : Int))) (r (-1 : Int)) (lszEntryS_L5 O q (a2, r5, (IntKind.wrap .i64 (i4 + (1 : Int)))) x r))) none) (x left3))
noncomputable def lszEntryS : (List (List UInt8 × Int) × Int) → Option Int
  | (a0, left1) => (cond (decide ((IntKind.wrap .i64 (left1 - ((a0.length : Nat) : Int))) < (0 : Int))) (some (-1 : Int)) (lszEntryS_L5 Int fuel (a0, (IntKind.wrap .i64 (left1 - ((a0.length : Nat) : Int))), (0 : Int)) (fun left6 => (some left6)) some))
noncomputable def c_lszEntryS : Ctr := { args := [.val false (.old (.pair .str (.int .i64))), .val false (.int .i64)], rets := [(false, [(none, (.int .i64))])], F := lszEntryS }
noncomputable def X_lszEntryS : Ctx := XT.withΓ (lk [(55, c_lszEntry)]) (lk [])
noncomputable def H_lszEntryS : Hints := ⟨lk [], lk [], lk []⟩
noncomputable def L_lszEntryS_5 : LoopF c_lszEntryS.Res := ⟨⟨27, [(0, .one (.val (.old (.pair .str (.int .i64))))), (1, .one (.val (.int .i64))), (5, .one (.val (.int .i64)))], [], []⟩, [(0, ⟨27, [(1, .one (.val (.int .i64)))], [], []⟩)], lszEntryS_L5⟩
noncomputable def T_lszEntryS : Nat → Option (LoopF c_lszEntryS.Res) := lk [(5, L_lszEntryS_5)]
theorem s_lszEntryS_5 : StepOk X_lszEntryS H_lszEntryS (c_lszEntryS.finish X_lszEntryS Tryz.f24.results.toList) T_lszEntryS (loopAt Tryz.f24 0) := ⟨L_lszEntryS_5, by kernel_rfl, fun O y x r => by kernel_rfl, fun O k y x r => by kernel_rfl⟩
theorem r_lszEntryS (a) : fnRun X_lszEntryS H_lszEntryS c_lszEntryS Tryz.f24 T_lszEntryS a = lszEntryS a := by kernel_rfl
theorem h_lszEntryS [Tabs] : CtrHolds Tryz.prog 24 c_lszEntryS := fn_ok (.cons h_lszEntry Tryz.call55 .nil) .nil (H := H_lszEntryS) (tbl := T_lszEntryS) Tryz.func24 (by kernel_rfl) (loops1 (by kernel_rfl) s_lszEntryS_5) r_lszEntryS
/-! 5 lszDisk -/
noncomputable def lszDisk : ((List (Int × List Int × Int) × List (List UInt8 × Int) × List (List UInt8 × Int) × Int) × Int) → Option Int
  | ((a0, a1, a2, a3), left4) => ((lszInodeS (a0, left4)).bind fun r5 => (cond (decide (r5 < (0 : Int))) (some (-1 : Int)) ((lszEntryS (a1, r5)).bind fun r6 => (cond (decide (r6 < (0 : Int))) (some (-1 : Int)) ((lszEntryS (a2, r6)).bind fun r7 => (cond (decide (r7 < (0 : Int))) (some (-1 : Int)) (some r7)))))))
noncomputable def c_lszDisk : Ctr := { args := [.val true (.pair (.old (.pair (.int .i64) (.pair (.old (.int .u8)) (.int .i64)))) (.pair (.old (.pair .str (.int .i64))) (.pair (.old (.pair .str (.int .i64))) (.int .i64)))), .val false (.int .i64)], rets := [(false, [(none, (.int .i64))])], F := lszDisk }
noncomputable def X_lszDisk : Ctx := XT.withΓ (lk [(23, c_lszInodeS), (24, c_lszEntryS)]) (lk [])
noncomputable def H_lszDisk : Hints := ⟨lk [], lk [], lk []⟩
noncomputable def T_lszDisk : Nat → Option (LoopF c_lszDisk.Res) := lk []
theorem r_lszDisk (a) : fnRun X_lszDisk H_lszDisk c_lszDisk Tryz.f5 T_lszDisk a = lszDisk a := by kernel_rfl
theorem h_lszDisk [Tabs] : CtrHolds Tryz.prog 5 c_lszDisk := fn_ok (.cons h_lszInodeS Tryz.call23 (.cons h_lszEntryS Tryz.call24 .nil)) .nil (H := H_lszDisk) (tbl := T_lszDisk) Tryz.func5 (by kernel_rfl) (loops0 (by kernel_rfl)) r_lszDisk
/-! 113 ltoByteS -/
noncomputable def ltoByteS_L3 (O : Type) : Nat → (List Int × Int × List Int) → ((List Int) → Option O) → ((List Int) → Option O) → Option O
  | 0, _, _, _ => none
  | q + 1, (a1, i2, out3), x, r => (cond (decide (i2 < ((a1.length : Nat) : Int))) (cond (decide ((0 : Int) ≤ i2) && decide (i2 < ((a1.length : Nat) : Int))) (cond (decide ((0 : Int) ≤ i2) && decide (i2 < ((out3.length : Nat) : Int))) (ltoByteS_L3 O q (a1, (IntKind.wrap .i64 (i2 + (1 : Int))), (List.set out3 (Int.toNat i2) (nth a1 i2))) x r) none) none) (x out3))
noncomputable def ltoByteS : (List Int) → Option (List Int)
  | a0 => (cond (decide ((0 : Int) ≤ ((a0.length : Nat) : Int)) && ((((a0.length : Nat) : Int) == ((a0.length : Nat) : Int)) && decide (((a0.length : Nat) : Int) ≤ (4294967296 : Int)))) (ltoByteS_L3 (List Int) fuel (a0, (0 : Int), (List.replicate (Int.toNat ((a0.length : Nat) : Int)) (0 : Int))) (fun out4 => (some out4)) some) none)
noncomputable def c_ltoByteS : Ctr := { args := [.val false (.old (.int .u8))], rets := [(false, [(some 5, (.sl (.int .u8)))])], F := ltoByteS }
noncomputable def X_ltoByteS : Ctx := XT.withΓ (lk []) (lk [])
noncomputable def H_ltoByteS : Hints := ⟨lk [], lk [], lk []⟩
noncomputable def L_ltoByteS_3 : LoopF c_ltoByteS.Res := ⟨⟨22, [(0, .one (.val (.old (.int .u8)))), (3, .one (.own 0)), (4, .one (.val (.int .i64)))], [.arr 5 (.int .u8)], []⟩, [(0, ⟨22, [(3, .one (.own 0))], [.arr 5 (.int .u8)], []⟩)], ltoByteS_L3⟩
noncomputable def T_ltoByteS : Nat → Option (LoopF c_ltoByteS.Res) := lk [(3, L_ltoByteS_3)]
theorem s_ltoByteS_3 : StepOk X_ltoByteS H_ltoByteS (c_ltoByteS.finish X_ltoByteS Tryz.f113.results.toList) T_ltoByteS (loopAt Tryz.f113 0) := ⟨L_ltoByteS_3, by kernel_rfl, fun O y x r => by kernel_rfl, fun O k y x r => by kernel_rfl⟩
theorem r_ltoByteS (a) : fnRun X_ltoByteS H_ltoByteS c_ltoByteS Tryz.f113 T_ltoByteS a = ltoByteS a := by kernel_rfl
theorem h_ltoByteS [Tabs] : CtrHolds Tryz.prog 113 c_ltoByteS := fn_ok .nil .nil (H := H_ltoByteS) (tbl := T_ltoByteS) Tryz.func113 (by kernel_rfl) (loops1 (by kernel_rfl) s_ltoByteS_3) r_ltoByteS
/-! 64 ltoInode -/
noncomputable def ltoInode : (Int × List Int × Int) → Option (Int × List Int × Int)
  | (a0, a1, a2) => ((ltoByteS a1).bind fun r3 => (some (a0, r3, a2)))
noncomputable def c_ltoInode : Ctr := { args := [.val true (.pair (.int .i64) (.pair (.old (.int .u8)) (.int .i64)))], rets := [(true, [(none, (.int .i64)), (some 5, (.sl (.int .u8))), (none, (.int .i64))])], F := ltoInode }
noncomputable def X_ltoInode : Ctx := XT.withΓ (lk [(113, c_ltoByteS)]) (lk [])
noncomputable def H_ltoInode : Hints := ⟨lk [], lk [], lk []⟩
noncomputable def T_ltoInode : Nat → Option (LoopF c_ltoInode.Res) := lk []
theorem r_ltoInode (a) : fnRun X_ltoInode H_ltoInode c_ltoInode Tryz.f64 T_ltoInode a = ltoInode a := by kernel_rfl
theorem h_ltoInode [Tabs] : CtrHolds Tryz.prog 64 c_ltoInode := fn_ok (.cons h_ltoByteS Tryz.call113 .nil) .nil (H := H_ltoInode) (tbl := T_ltoInode) Tryz.func64 (by kernel_rfl) (loops0 (by kernel_rfl)) r_ltoInode
/-! 27 ltoInodeS -/
noncomputable def ltoInodeS_L3 (O : Type) : Nat → (List (Int × List Int × Int) × Int × List (Int × List Int × Int)) → ((List (Int × List Int × Int)) → Option O) → ((List (Int × List Int × Int)) → Option O) → Option O
  | 0, _, _, _ => none
  | q + 1, (a1, i2, out3), x, r => (cond (decide (i2 < ((a1.length : Nat) : Int))) (cond (decide ((0 : Int) ≤ i2) && decide (i2 < ((a1.length : Nat) : Int))) ((ltoInode ((nth a1 i2).1, (nth a1 i2).2.1, (nth a1 i2).2.2)).bind fun (r4, r5, r6) => (cond (decide ((0 : Int) ≤ i2) && decide (i2 < ((out3.length : Nat) : Int))) (ltoInodeS_L3 O q (a1, (IntKind.wrap .i64 (i2 + (1 : Int))), (List.set out3 (Int.toNat i2) (r4, r5, r6))) x r) none)) none) (x out3))
noncomputable def ltoInodeS : (List (Int × List Int × Int)) → Option (List (Int × List Int × Int))
  | a0 => (cond (decide ((0 : Int) ≤ ((a0.length : Nat) : Int)) && ((((a0.length : Nat) : Int) == ((a0.length : Nat) : Int)) && decide (((a0.length : Nat) : Int) ≤ (4294967296 : Int)))) (ltoInodeS_L3 (List (Int × List Int × Int)) fuel (a0, (0 : Int), (List.replicate (Int.toNat ((a0.length : Nat) : Int)) ((0 : Int), [], (0 : Int)))) (fun out7 => (some out7)) some) none)
noncomputable def c_ltoInodeS : Ctr := { args := [.val false (.old (.pair (.int .i64) (.pair (.old (.int .u8)) (.int .i64))))], rets := [(false, [(some 106, (.sl (.pair (.int .i64) (.pair (.sl (.int .u8)) (.int .i64)))))])], F := ltoInodeS }
noncomputable def X_ltoInodeS : Ctx := XT.withΓ (lk [(64, c_ltoInode)]) (lk [])
noncomputable def H_ltoInodeS : Hints := ⟨lk [], lk [], lk []⟩
noncomputable def L_ltoInodeS_3 : LoopF c_ltoInodeS.Res := ⟨⟨23, [(0, .one (.val (.old (.pair (.int .i64) (.pair (.old (.int .u8)) (.int .i64)))))), (3, .one (.own 0)), (4, .one (.val (.int .i64)))], [.arr 106 (.pair (.int .i64) (.pair (.sl (.int .u8)) (.int .i64)))], []⟩, [(0, ⟨23, [(3, .one (.own 0))], [.arr 106 (.pair (.int .i64) (.pair (.sl (.int .u8)) (.int .i64)))], []⟩)], ltoInodeS_L3⟩
noncomputable def T_ltoInodeS : Nat → Option (LoopF c_ltoInodeS.Res) := lk [(3, L_ltoInodeS_3)]
theorem s_ltoInodeS_3 : StepOk X_ltoInodeS H_ltoInodeS (c_ltoInodeS.finish X_ltoInodeS Tryz.f27.results.toList) T_ltoInodeS (loopAt Tryz.f27 0) := ⟨L_ltoInodeS_3, by kernel_rfl, fun O y x r => by kernel_rfl, fun O k y x r => by kernel_rfl⟩
theorem r_ltoInodeS (a) : fnRun X_ltoInodeS H_ltoInodeS c_ltoInodeS Tryz.f27 T_ltoInodeS a = ltoInodeS a := by kernel_rfl
theorem h_ltoInodeS [Tabs] : CtrHolds Tryz.prog 27 c_ltoInodeS := fn_ok (.cons h_ltoInode Tryz.call64 .nil) .nil (H := H_ltoInodeS) (tbl := T_ltoInodeS) Tryz.func27 (by kernel_rfl) (loops1 (by kernel_rfl) s_ltoInodeS_3) r_ltoInodeS
/-! 65 ltoEntry -/
noncomputable def ltoEntry : (List UInt8 × Int) → Option (List UInt8 × Int)
  | (a0, a1) => (some (a0, a1))
noncomputable def c_ltoEntry : Ctr := { args := [.val true (.pair .str (.int .i64))], rets := [(true, [(none, .str), (none, (.int .i64))])], F := ltoEntry }
noncomputable def X_ltoEntry : Ctx := XT.withΓ (lk []) (lk [])
noncomputable def H_ltoEntry : Hints := ⟨lk [], lk [], lk []⟩
noncomputable def T_ltoEntry : Nat → Option (LoopF c_ltoEntry.Res) := lk []
theorem r_ltoEntry (a) : fnRun X_ltoEntry H_ltoEntry c_ltoEntry Tryz.f65 T_ltoEntry a = ltoEntry a := by kernel_rfl
theorem h_ltoEntry [Tabs] : CtrHolds Tryz.prog 65 c_ltoEntry := fn_ok .nil .nil (H := H_ltoEntry) (tbl := T_ltoEntry) Tryz.func65 (by kernel_rfl) (loops0 (by kernel_rfl)) r_ltoEntry
/-! 28 ltoEntryS -/
noncomputable def ltoEntryS_L3 (O : Type) : Nat → (List (List UInt8 × Int) × Int × List (List UInt8 × Int)) → ((List (List UInt8 × Int)) → Option O) → ((List (List UInt8 × Int)) → Option O) → Option O
  | 0, _, _, _ => none
  | q + 1, (a1, i2, out3), x, r => (cond (decide (i2 < ((a1.length : Nat) : Int))) (cond (decide ((0 : Int) ≤ i2) && decide (i2 < ((a1.length : Nat) : Int))) ((ltoEntry ((nth a1 i2).1, (nth a1 i2).2)).bind fun (r4, r5) => (cond (decide ((0 : Int) ≤ i2) && decide (i2 < ((out3.length : Nat) : Int))) (ltoEntryS_L3 O q (a1, (IntKind.wrap .i64 (i2 + (1 : Int))), (List.set out3 (Int.toNat i2) (r4, r5))) x r) none)) none) (x out3))
noncomputable def ltoEntryS : (List (List UInt8 × Int)) → Option (List (List UInt8 × Int))
  | a0 => (cond (decide ((0 : Int) ≤ ((a0.length : Nat) : Int)) && ((((a0.length : Nat) : Int) == ((a0.length : Nat) : Int)) && decide (((a0.length : Nat) : Int) ≤ (4294967296 : Int)))) (ltoEntryS_L3 (List (List UInt8 × Int)) fuel (a0, (0 : Int), (List.replicate (Int.toNat ((a0.length : Nat) : Int)) ([], (0 : Int)))) (fun out6 => (some out6)) some) none)
noncomputable def c_ltoEntryS : Ctr := { args := [.val false (.old (.pair .str (.int .i64)))], rets := [(false, [(some 104, (.sl (.pair .str (.int .i64))))])], F := ltoEntryS }
noncomputable def X_ltoEntryS : Ctx := XT.withΓ (lk [(65, c_ltoEntry)]) (lk [])
noncomputable def H_ltoEntryS : Hints := ⟨lk [], lk [], lk []⟩
noncomputable def L_ltoEntryS_3 : LoopF c_ltoEntryS.Res := ⟨⟨23, [(0, .one (.val (.old (.pair .str (.int .i64))))), (3, .one (.own 0)), (4, .one (.val (.int .i64)))], [.arr 104 (.pair .str (.int .i64))], []⟩, [(0, ⟨23, [(3, .one (.own 0))], [.arr 104 (.pair .str (.int .i64))], []⟩)], ltoEntryS_L3⟩
noncomputable def T_ltoEntryS : Nat → Option (LoopF c_ltoEntryS.Res) := lk [(3, L_ltoEntryS_3)]
theorem s_ltoEntryS_3 : StepOk X_ltoEntryS H_ltoEntryS (c_ltoEntryS.finish X_ltoEntryS Tryz.f28.results.toList) T_ltoEntryS (loopAt Tryz.f28 0) := ⟨L_ltoEntryS_3, by kernel_rfl, fun O y x r => by kernel_rfl, fun O k y x r => by kernel_rfl⟩
theorem r_ltoEntryS (a) : fnRun X_ltoEntryS H_ltoEntryS c_ltoEntryS Tryz.f28 T_ltoEntryS a = ltoEntryS a := by kernel_rfl
theorem h_ltoEntryS [Tabs] : CtrHolds Tryz.prog 28 c_ltoEntryS := fn_ok (.cons h_ltoEntry Tryz.call65 .nil) .nil (H := H_ltoEntryS) (tbl := T_ltoEntryS) Tryz.func28 (by kernel_rfl) (loops1 (by kernel_rfl) s_ltoEntryS_3) r_ltoEntryS
/-! 7 ltoDisk -/
noncomputable def ltoDisk : (List (Int × List Int × Int) × List (List UInt8 × Int) × List (List UInt8 × Int) × Int) → Option (List (Int × List Int × Int) × List (List UInt8 × Int) × List (List UInt8 × Int) × Int)
  | (a0, a1, a2, a3) => ((ltoInodeS a0).bind fun r4 => ((ltoEntryS a1).bind fun r5 => ((ltoEntryS a2).bind fun r6 => (some (r4, r5, r6, a3)))))
noncomputable def c_ltoDisk : Ctr := { args := [.val true (.pair (.old (.pair (.int .i64) (.pair (.old (.int .u8)) (.int .i64)))) (.pair (.old (.pair .str (.int .i64))) (.pair (.old (.pair .str (.int .i64))) (.int .i64))))], rets := [(true, [(some 106, (.sl (.pair (.int .i64) (.pair (.sl (.int .u8)) (.int .i64))))), (some 104, (.sl (.pair .str (.int .i64)))), (some 104, (.sl (.pair .str (.int .i64)))), (none, (.int .i64))])], F := ltoDisk }
noncomputable def X_ltoDisk : Ctx := XT.withΓ (lk [(27, c_ltoInodeS), (28, c_ltoEntryS)]) (lk [])
noncomputable def H_ltoDisk : Hints := ⟨lk [], lk [], lk []⟩
noncomputable def T_ltoDisk : Nat → Option (LoopF c_ltoDisk.Res) := lk []
theorem r_ltoDisk (a) : fnRun X_ltoDisk H_ltoDisk c_ltoDisk Tryz.f7 T_ltoDisk a = ltoDisk a := by kernel_rfl
theorem h_ltoDisk [Tabs] : CtrHolds Tryz.prog 7 c_ltoDisk := fn_ok (.cons h_ltoInodeS Tryz.call27 (.cons h_ltoEntryS Tryz.call28 .nil)) .nil (H := H_ltoDisk) (tbl := T_ltoDisk) Tryz.func7 (by kernel_rfl) (loops0 (by kernel_rfl)) r_ltoDisk
/-! 108 sl1In -/
noncomputable def sl1In : (Int × Int × Int) → Option Bool
  | (x0, least1, most2) => (cond (decide (x0 ≥ least1)) (some (decide (x0 ≤ most2))) (some false))
noncomputable def c_sl1In : Ctr := { args := [.val false (.int .i64), .val false (.int .i64), .val false (.int .i64)], rets := [(false, [(none, .bool)])], F := sl1In }
noncomputable def X_sl1In : Ctx := XT.withΓ (lk []) (lk [])
noncomputable def H_sl1In : Hints := ⟨lk [], lk [], lk []⟩
noncomputable def T_sl1In : Nat → Option (LoopF c_sl1In.Res) := lk []
theorem r_sl1In (a) : fnRun X_sl1In H_sl1In c_sl1In Tryz.f108 T_sl1In a = sl1In a := by kernel_rfl
theorem h_sl1In [Tabs] : CtrHolds Tryz.prog 108 c_sl1In := fn_ok .nil .nil (H := H_sl1In) (tbl := T_sl1In) Tryz.func108 (by kernel_rfl) (loops0 (by kernel_rfl)) r_sl1In
/-! 126 sl2Named -/
noncomputable def sl2Named_L2 (O : Type) : Nat → (List (List UInt8 × Int) × Int × Int) → (Unit → Option O) → (Bool → Option O) → Option O
  | 0, _, _, _ => none
  | q + 1, (l2, id3, i4), x, r => (cond (decide (i4 < ((l2.length : Nat) : Int))) (cond (decide ((0 : Int) ≤ i4) && decide (i4 < ((l2.length : Nat) : Int))) (cond ((nth l2 i4).2 == id3) (r true) (sl2Named_L2 O q (l2, id3, (IntKind.wrap .i64 (i4 + (1 : Int)))) x r)) none) (x ()))
noncomputable def sl2Named : (List (List UInt8 × Int) × Int) → Option Bool
  | (l0, id1) => (sl2Named_L2 Bool fuel (l0, id1, (0 : Int)) (fun _ => (some false)) some)
noncomputable def c_sl2Named : Ctr := { args := [.val false (.sl (.pair .str (.int .i64))), .val false (.int .i64)], rets := [(false, [(none, .bool)])], F := sl2Named }
noncomputable def X_sl2Named : Ctx := XT.withΓ (lk []) (lk [])
noncomputable def H_sl2Named : Hints := ⟨lk [], lk [], lk []⟩
noncomputable def L_sl2Named_2 : LoopF c_sl2Named.Res := ⟨⟨19, [(0, .one (.val (.sl (.pair .str (.int .i64))))), (1, .one (.val (.int .i64))), (5, .one (.val (.int .i64)))], [], []⟩, [(0, ⟨19, [], [], []⟩)], sl2Named_L2⟩
noncomputable def T_sl2Named : Nat → Option (LoopF c_sl2Named.Res) := lk [(2, L_sl2Named_2)]
theorem s_sl2Named_2 : StepOk X_sl2Named H_sl2Named (c_sl2Named.finish X_sl2Named Tryz.f126.results.toList) T_sl2Named (loopAt Tryz.f126 0) := ⟨L_sl2Named_2, by kernel_rfl, fun O y x r => by kernel_rfl, fun O k y x r => by kernel_rfl⟩
theorem r_sl2Named (a) : fnRun X_sl2Named H_sl2Named c_sl2Named Tryz.f126 T_sl2Named a = sl2Named a := by kernel_rfl
theorem h_sl2Named [Tabs] : CtrHolds Tryz.prog 126 c_sl2Named := fn_ok .nil .nil (H := H_sl2Named) (tbl := T_sl2Named) Tryz.func126 (by kernel_rfl) (loops1 (by kernel_rfl) s_sl2Named_2) r_sl2Named
/-! 107 sl2Name -/
noncomputable def sl2Name_L4 (O : Type) : Nat → (List UInt8 × Int) → (Unit → Option O) → (Bool → Option O) → Option O
  | 0, _, _, _ => none
  | q + 1, (s2, i3), x, r => (cond (decide (i3 < ((s2.length : Nat) : Int))) (cond (decide ((0 : Int) ≤ i3) && decide (i3 < ((s2.length : Nat) : Int))) ((sl1In ((IntKind.wrap .i64 (((UInt8.toNat (nth s2 i3)) : Nat) : Int)), (97 : Int), (122 : Int))).bind fun r4 => (cond (!r4) ((sl1In ((IntKind.wrap .i64 (((UInt8.toNat (nth s2 i3)) : Nat) : Int)), (48 : Int), (57 : Int))).bind fun r5 => (cond (!r5) (cond ((IntKind.wrap .i64 (((UInt8.toNat (nth s2 i3)) : Nat) : Int)) != (45 : Int)) (cond ((IntKind.wrap .i64 (((UInt8.toNat (nth s2 i3)) : Nat) : Int)) != (46 : Int)) (r false) (sl2Name_L4 O q (s2, (IntKind.wrap .i64 (i3 + (1 : Int)))) x r)) (sl2Name_L4 O q (s2, (IntKind.wrap .i64 (i3 + (1 : Int)))) x r)) (sl2Name_L4 O q (s2, (IntKind.wrap .i64 (i3 + (1 : Int)))) x r))) (sl2Name_L4 O q (s2, (IntKind.wrap .i64 (i3 + (1 : Int)))) x r))) none) (x ()))
noncomputable def sl2Name : (List UInt8) → Option Bool
  | s0 => ((sl1In (((s0.length : Nat) : Int), (1 : Int), (12 : Int))).bind fun r1 => (cond (!r1) (some false) (sl2Name_L4 Bool fuel (s0, (0 : Int)) (fun _ => (some true)) some)))
noncomputable def c_sl2Name : Ctr := { args := [.val false .str], rets := [(false, [(none, .bool)])], F := sl2Name }
noncomputable def X_sl2Name : Ctx := XT.withΓ (lk [(108, c_sl1In)]) (lk [])
noncomputable def H_sl2Name : Hints := ⟨lk [], lk [], lk []⟩
noncomputable def L_sl2Name_4 : LoopF c_sl2Name.Res := ⟨⟨35, [(0, .one (.val .str)), (3, .one (.val (.int .i64)))], [], []⟩, [(0, ⟨35, [], [], []⟩)], sl2Name_L4⟩
noncomputable def T_sl2Name : Nat → Option (LoopF c_sl2Name.Res) := lk [(4, L_sl2Name_4)]
theorem s_sl2Name_4 : StepOk X_sl2Name H_sl2Name (c_sl2Name.finish X_sl2Name Tryz.f107.results.toList) T_sl2Name (loopAt Tryz.f107 0) := ⟨L_sl2Name_4, by kernel_rfl, fun O y x r => by kernel_rfl, fun O k y x r => by kernel_rfl⟩
theorem r_sl2Name (a) : fnRun X_sl2Name H_sl2Name c_sl2Name Tryz.f107 T_sl2Name a = sl2Name a := by kernel_rfl
theorem h_sl2Name [Tabs] : CtrHolds Tryz.prog 107 c_sl2Name := fn_ok (.cons h_sl1In Tryz.call108 .nil) .nil (H := H_sl2Name) (tbl := T_sl2Name) Tryz.func107 (by kernel_rfl) (loops1 (by kernel_rfl) s_sl2Name_4) r_sl2Name
/-! 57 sl2Inode -/
noncomputable def sl2Inode_L2 (O : Type) : Nat → (Int × Int × List (Int × List Int × Int) × List (List UInt8 × Int) × List (List UInt8 × Int) × Int) → (Unit → Option O) → (Int → Option O) → Option O
  | 0, _, _, _ => none
  | q + 1, (id5, i6, d7, d8, d9, d10), x, r => (cond (decide (i6 < ((d7.length : Nat) : Int))) (cond (decide ((0 : Int) ≤ i6) && decide (i6 < ((d7.length : Nat) : Int))) (cond ((nth d7 i6).1 == id5) (r i6) (sl2Inode_L2 O q (id5, (IntKind.wrap .i64 (i6 + (1 : Int))), d7, d8, d9, d10) x r)) none) (x ()))
noncomputable def sl2Inode : ((List (Int × List Int × Int) × List (List UInt8 × Int) × List (List UInt8 × Int) × Int) × Int) → Option Int
  | ((d0, d1, d2, d3), id4) => (sl2Inode_L2 Int fuel (id4, (0 : Int), d0, d1, d2, d3) (fun _ => (some (-1 : Int))) some)
noncomputable def c_sl2Inode : Ctr := { args := [.val true (.pair (.sl (.pair (.int .i64) (.pair (.sl (.int .u8)) (.int .i64)))) (.pair (.sl (.pair .str (.int .i64))) (.pair (.sl (.pair .str (.int .i64))) (.int .i64)))), .val false (.int .i64)], rets := [(false, [(none, (.int .i64))])], F := sl2Inode }
noncomputable def X_sl2Inode : Ctx := XT.withΓ (lk []) (lk [])
noncomputable def H_sl2Inode : Hints := ⟨lk [], lk [], lk []⟩
noncomputable def L_sl2Inode_2 : LoopF c_sl2Inode.Res := ⟨⟨22, [(1, .one (.val (.int .i64))), (2, .one (.ptr 0 0)), (5, .one (.val (.int .i64)))], [.vars 35 [.val (.sl (.pair (.int .i64) (.pair (.sl (.int .u8)) (.int .i64)))), .val (.sl (.pair .str (.int .i64))), .val (.sl (.pair .str (.int .i64))), .val (.int .i64)]], []⟩, [(0, ⟨22, [], [], []⟩)], sl2Inode_L2⟩
noncomputable def T_sl2Inode : Nat → Option (LoopF c_sl2Inode.Res) := lk [(2, L_sl2Inode_2)]
theorem s_sl2Inode_2 : StepOk X_sl2Inode H_sl2Inode (c_sl2Inode.finish X_sl2Inode Tryz.f57.results.toList) T_sl2Inode (loopAt Tryz.f57 0) := ⟨L_sl2Inode_2, by kernel_rfl, fun O y x r => by kernel_rfl, fun O k y x r => by kernel_rfl⟩
theorem r_sl2Inode (a) : fnRun X_sl2Inode H_sl2Inode c_sl2Inode Tryz.f57 T_sl2Inode a = sl2Inode a := by kernel_rfl
theorem h_sl2Inode [Tabs] : CtrHolds Tryz.prog 57 c_sl2Inode := fn_ok .nil .nil (H := H_sl2Inode) (tbl := T_sl2Inode) Tryz.func57 (by kernel_rfl) (loops1 (by kernel_rfl) s_sl2Inode_2) r_sl2Inode
/-! 127 sl2Entries -/
noncomputable def sl2Entries_L7 (O : Type) : Nat → (List (List UInt8 × Int) × Int × Int × List (Int × List Int × Int) × List (List UInt8 × Int) × List (List UInt8 × Int) × Int × List (List UInt8 × Int) × Int × (List UInt8 × Int) × Int × Int × Int × Bool × Int × Bool × Bool × Bool × List (Int × List Int × Int) × List (List UInt8 × Int) × List (List UInt8 × Int) × Int) → ((List (List UInt8 × Int) × Int × List (Int × List Int × Int) × List (List UInt8 × Int) × List (List UInt8 × Int) × Int × List (List UInt8 × Int) × Int × (List UInt8 × Int) × Int × Int × Int × Bool × Int × Bool × Bool × Bool × List (Int × List Int × Int) × List (List UInt8 × Int) × List (List UInt8 × Int) × Int) → Option O) → (Bool → Option O) → Option O
  | 0, _, _, _ => none
  | q + 1, (l34, i35, k36, v37, v38, v39, v40, v41, v42, v43, v44, v45, v46, v47, v48, v49, v50, v51, d52, d53, d54, d55), x, r => (cond (decide (k36 < i35)) (cond (decide ((0 : Int) ≤ k36) && decide (k36 < ((l34.length : Nat) : Int))) (cond (decide ((0 : Int) ≤ i35) && decide (i35 < ((l34.length : Nat) : Int))) (cond ((nth l34 k36).2 == (nth l34 i35).2) (r false) (sl2Entries_L7 O q (l34, i35, (IntKind.wrap .i64 (k36 + (1 : Int))), v37, v38, v39, v40, v41, v42, v43, v44, v45, v46, v47, v48, v49, v50, v51, d52, d53, d54, d55) x r)) none) none) (x (l34, i35, v37, v38, v39, v40, v41, v42, v43, v44, v45, v46, v47, v48, v49, v50, v51, d52, d53, d54, d55)))
noncomputable def sl2Entries_L2 (O : Type) : Nat → (List (List UInt8 × Int) × Int × List (Int × List Int × Int) × List (List UInt8 × Int) × List (List UInt8 × Int) × Int) → ((List (List UInt8 × Int)) → Option O) → (Bool → Option O) → Option O
  | 0, _, _, _ => none
  | q + 1, (l5, i6, d7, d8, d9, d10), x, r => (cond (decide (i6 < ((l5.length : Nat) : Int))) (((cond (decide ((0 : Int) ≤ i6) && decide (i6 < ((l5.length : Nat) : Int))) ((sl2Name (nth l5 i6).1).bind fun r11 => (cond (!r11) ((r false).map Sum.inr) (cond (decide ((0 : Int) ≤ i6) && decide (i6 < ((l5.length : Nat) : Int))) ((sl2Inode ((d7, d8, d9, d10), (nth l5 i6).2)).bind fun r12 => (cond (decide (r12 < (0 : Int))) ((r false).map Sum.inr) (cond (decide (i6 > (0 : Int))) (cond (decide ((0 : Int) ≤ (IntKind.wrap .i64 (i6 - (1 : Int)))) && decide ((IntKind.wrap .i64 (i6 - (1 : Int))) < ((l5.length : Nat) : Int))) (cond (decide ((0 : Int) ≤ i6) && decide (i6 < ((l5.length : Nat) : Int))) (cond (!(Op.bytesLess (nth l5 (IntKind.wrap .i64 (i6 - (1 : Int)))).1 (nth l5 i6).1)) ((r false).map Sum.inr) (some (Sum.inl (l5, i6, d7, d8, d9, d10, l5, i6, (nth l5 i6), (nth l5 i6).2, (nth l5 i6).2, r12, decide (r12 < (0 : Int)), i6, decide (i6 > (0 : Int)), true, (!(Op.bytesLess (nth l5 (IntKind.wrap .i64 (i6 - (1 : Int)))).1 (nth l5 i6).1)), d7, d8, d9, d10)))) none) none) (some (Sum.inl (l5, i6, d7, d8, d9, d10, l5, i6, (nth l5 i6), (nth l5 i6).2, (nth l5 i6).2, r12, decide (r12 < (0 : Int)), i6, decide (i6 > (0 : Int)), false, false, d7, d8, d9, d10)))))) none))) none) : Option ((List (List UInt8 × Int) × Int × List (Int × List Int × Int) × List (List UInt8 × Int) × List (List UInt8 × Int) × Int × List (List UInt8 × Int) × Int × (List UInt8 × Int) × Int × Int × Int × Bool × Int × Bool × Bool × Bool × List (Int × List Int × Int) × List (List UInt8 × Int) × List (List UInt8 × Int) × Int) ⊕ O)).bind fun z => match z with | .inl (l13, i14, v15, v16, v17, v18, v19, v20, v21, v22, v23, v24, v25, v26, v27, v28, v29, d30, d31, d32, d33) => (sl2Entries_L7 O fuel (l13, i14, (0 : Int), v15, v16, v17, v18, v19, v20, v21, v22, v23, v24, v25, v26, v27, v28, v29, d30, d31, d32, d33) (fun (l56, i57, v58, v59, v60, v61, v62, v63, v64, v65, v66, v67, v68, v69, v70, v71, v72, d73, d74, d75, d76) => (sl2Entries_L2 O q (l56, (IntKind.wrap .i64 (i57 + (1 : Int))), d73, d74, d75, d76) x r)) r) | .inr o => some o) (x l5))
noncomputable def sl2Entries : ((List (Int × List Int × Int) × List (List UInt8 × Int) × List (List UInt8 × Int) × Int) × List (List UInt8 × Int)) → Option Bool
  | ((d0, d1, d2, d3), l4) => (sl2Entries_L2 Bool fuel (l4, (0 : Int), d0, d1, d2, d3) (fun l77 => (some (decide (((l77.length : Nat) : Int) ≤ (30 : Int))))) some)
noncomputable def c_sl2Entries : Ctr := { args := [.val true (.pair (.sl (.pair (.int .i64) (.pair (.sl (.int .u8)) (.int .i64)))) (.pair (.sl (.pair .str (.int .i64))) (.pair (.sl (.pair .str (.int .i64))) (.int .i64)))), .val false (.sl (.pair .str (.int .i64)))], rets := [(false, [(none, .bool)])], F := sl2Entries }
noncomputable def X_sl2Entries : Ctx := XT.withΓ (lk [(107, c_sl2Name), (57, c_sl2Inode)]) (lk [])
noncomputable def H_sl2Entries : Hints := ⟨lk [], lk [(6, ⟨67, [(1, .one (.val (.sl (.pair .str (.int .i64))))), (2, .one (.ptr 0 0)), (5, .one (.val (.int .i64))), (21, .agg [.val (.sl (.pair (.int .i64) (.pair (.sl (.int .u8)) (.int .i64)))), .val (.sl (.pair .str (.int .i64))), .val (.sl (.pair .str (.int .i64))), .val (.int .i64)]), (22, .one (.val (.sl (.pair .str (.int .i64))))), (23, .one (.val (.int .i64))), (24, .one (.rptr (.pair .str (.int .i64)))), (25, .one (.rptr (.int .i64))), (26, .one (.val (.int .i64))), (27, .one (.val (.int .i64))), (28, .one (.val .bool)), (31, .one (.val (.int .i64))), (32, .one (.val .bool)), (33, .one (.val .bool)), (46, .one (.val .bool))], [.vars 35 [.val (.sl (.pair (.int .i64) (.pair (.sl (.int .u8)) (.int .i64)))), .val (.sl (.pair .str (.int .i64))), .val (.sl (.pair .str (.int .i64))), .val (.int .i64)]], []⟩)], lk []⟩
noncomputable def L_sl2Entries_2 : LoopF c_sl2Entries.Res := ⟨⟨67, [(1, .one (.val (.sl (.pair .str (.int .i64))))), (2, .one (.ptr 0 0)), (5, .one (.val (.int .i64)))], [.vars 35 [.val (.sl (.pair (.int .i64) (.pair (.sl (.int .u8)) (.int .i64)))), .val (.sl (.pair .str (.int .i64))), .val (.sl (.pair .str (.int .i64))), .val (.int .i64)]], []⟩, [(0, ⟨67, [(1, .one (.val (.sl (.pair .str (.int .i64)))))], [], []⟩)], sl2Entries_L2⟩
noncomputable def L_sl2Entries_7 : LoopF c_sl2Entries.Res := ⟨⟨67, [(1, .one (.val (.sl (.pair .str (.int .i64))))), (2, .one (.ptr 0 0)), (5, .one (.val (.int .i64))), (6, .one (.val (.int .i64))), (21, .agg [.val (.sl (.pair (.int .i64) (.pair (.sl (.int .u8)) (.int .i64)))), .val (.sl (.pair .str (.int .i64))), .val (.sl (.pair .str (.int .i64))), .val (.int .i64)]), (22, .one (.val (.sl (.pair .str (.int .i64))))), (23, .one (.val (.int .i64))), (24, .one (.rptr (.pair .str (.int .i64)))), (25, .one (.rptr (.int .i64))), (26, .one (.val (.int .i64))), (27, .one (.val (.int .i64))), (28, .one (.val .bool)), (31, .one (.val (.int .i64))), (32, .one (.val .bool)), (33, .one (.val .bool)), (46, .one (.val .bool))], [.vars 35 [.val (.sl (.pair (.int .i64) (.pair (.sl (.int .u8)) (.int .i64)))), .val (.sl (.pair .str (.int .i64))), .val (.sl (.pair .str (.int .i64))), .val (.int .i64)]], []⟩, [(2, ⟨67, [(1, .one (.val (.sl (.pair .str (.int .i64))))), (2, .one (.ptr 0 0)), (5, .one (.val (.int .i64))), (21, .agg [.val (.sl (.pair (.int .i64) (.pair (.sl (.int .u8)) (.int .i64)))), .val (.sl (.pair .str (.int .i64))), .val (.sl (.pair .str (.int .i64))), .val (.int .i64)]), (22, .one (.val (.sl (.pair .str (.int .i64))))), (23, .one (.val (.int .i64))), (24, .one (.rptr (.pair .str (.int .i64)))), (25, .one (.rptr (.int .i64))), (26, .one (.val (.int .i64))), (27, .one (.val (.int .i64))), (28, .one (.val .bool)), (31, .one (.val (.int .i64))), (32, .one (.val .bool)), (33, .one (.val .bool)), (46, .one (.val .bool))], [.vars 35 [.val (.sl (.pair (.int .i64) (.pair (.sl (.int .u8)) (.int .i64)))), .val (.sl (.pair .str (.int .i64))), .val (.sl (.pair .str (.int .i64))), .val (.int .i64)]], []⟩)], sl2Entries_L7⟩
noncomputable def T_sl2Entries : Nat → Option (LoopF c_sl2Entries.Res) := lk [(2, L_sl2Entries_2), (7, L_sl2Entries_7)]
set_option maxHeartbeats 8000000 in
theorem s_sl2Entries_2 : StepOk X_sl2Entries H_sl2Entries (c_sl2Entries.finish X_sl2Entries Tryz.f127.results.toList) T_sl2Entries (loopAt Tryz.f127 0) := ⟨L_sl2Entries_2, by kernel_rfl, fun O y x r => by kernel_rfl, fun O k y x r => by kernel_rfl⟩
theorem s_sl2Entries_7 : StepOk X_sl2Entries H_sl2Entries (c_sl2Entries.finish X_sl2Entries Tryz.f127.results.toList) T_sl2Entries (loopAt Tryz.f127 1) := ⟨L_sl2Entries_7, by kernel_rfl, fun O y x r => by kernel_rfl, fun O k y x r => by kernel_rfl⟩
theorem r_sl2Entries (a) : fnRun X_sl2Entries H_sl2Entries c_sl2Entries Tryz.f127 T_sl2Entries a = sl2Entries a := by kernel_rfl
theorem h_sl2Entries [Tabs] : CtrHolds Tryz.prog 127 c_sl2Entries := fn_ok (.cons h_sl2Name Tryz.call107 (.cons h_sl2Inode Tryz.call57 .nil)) .nil (H := H_sl2Entries) (tbl := T_sl2Entries) Tryz.func127 (by kernel_rfl) (loops2 (by kernel_rfl) s_sl2Entries_2 s_sl2Entries_7) r_sl2Entries
/-! 80 sDiskOk -/
noncomputable def sDiskOk_L5 (O : Type) : Nat → (Int × Int × List (Int × List Int × Int) × List (List UInt8 × Int) × List (List UInt8 × Int) × Int) → ((Int × List (Int × List Int × Int) × List (List UInt8 × Int) × List (List UInt8 × Int) × Int) → Option O) → (Bool → Option O) → Option O
  | 0, _, _, _ => none
  | q + 1, (sum5, i6, d7, d8, d9, d10), x, r => (cond (decide (i6 < ((d7.length : Nat) : Int))) (cond (decide ((0 : Int) ≤ i6) && decide (i6 < ((d7.length : Nat) : Int))) ((sl1In ((nth d7 i6).1, (1 : Int), (IntKind.wrap .i64 (d10 - (1 : Int))))).bind fun r11 => (cond (!r11) (r false) (cond (decide (i6 > (0 : Int))) (cond (decide ((0 : Int) ≤ (IntKind.wrap .i64 (i6 - (1 : Int)))) && decide ((IntKind.wrap .i64 (i6 - (1 : Int))) < ((d7.length : Nat) : Int))) (cond (decide ((nth d7 (IntKind.wrap .i64 (i6 - (1 : Int)))).1 ≥ (nth d7 i6).1)) (r false) ((sl1In ((nth d7 i6).2.2, (0 : Int), (((nth d7 i6).2.1.length : Nat) : Int))).bind fun r12 => (cond (!r12) (r false) ((sl2Named (d8, (nth d7 i6).1)).bind fun r13 => (cond (!r13) ((sl2Named (d9, (nth d7 i6).1)).bind fun r14 => (cond (!r14) (r false) (sDiskOk_L5 O q ((IntKind.wrap .i64 (sum5 + (((nth d7 i6).2.1.length : Nat) : Int))), (IntKind.wrap .i64 (i6 + (1 : Int))), d7, d8, d9, d10) x r))) (sDiskOk_L5 O q ((IntKind.wrap .i64 (sum5 + (((nth d7 i6).2.1.length : Nat) : Int))), (IntKind.wrap .i64 (i6 + (1 : Int))), d7, d8, d9, d10) x r)))))) none) ((sl1In ((nth d7 i6).2.2, (0 : Int), (((nth d7 i6).2.1.length : Nat) : Int))).bind fun r15 => (cond (!r15) (r false) ((sl2Named (d8, (nth d7 i6).1)).bind fun r16 => (cond (!r16) ((sl2Named (d9, (nth d7 i6).1)).bind fun r17 => (cond (!r17) (r false) (sDiskOk_L5 O q ((IntKind.wrap .i64 (sum5 + (((nth d7 i6).2.1.length : Nat) : Int))), (IntKind.wrap .i64 (i6 + (1 : Int))), d7, d8, d9, d10) x r))) (sDiskOk_L5 O q ((IntKind.wrap .i64 (sum5 + (((nth d7 i6).2.1.length : Nat) : Int))), (IntKind.wrap .i64 (i6 + (1 : Int))), d7, d8, d9, d10) x r)))))))) none) (x (sum5, d7, d8, d9, d10)))
noncomputable def sDiskOk : (List (Int × List Int × Int) × List (List UInt8 × Int) × List (List UInt8 × Int) × Int) → Option Bool
  | (d0, d1, d2, d3) => ((sl1In (d3, (1 : Int), (1000000 : Int))).bind fun r4 => (cond (!r4) (some false) (cond (decide (((d0.length : Nat) : Int) > (60 : Int))) (some false) (sDiskOk_L5 Bool fuel ((0 : Int), (0 : Int), d0, d1, d2, d3) (fun (sum18, d19, d20, d21, d22) => (cond (decide (sum18 ≤ (60000 : Int))) ((sl2Entries ((d19, d20, d21, d22), d20)).bind fun r23 => (cond r23 ((sl2Entries ((d19, d20, d21, d22), d21)).bind fun r24 => (some r24)) (some false))) (some false))) some))))
noncomputable def c_sDiskOk : Ctr := { args := [.val true (.pair (.sl (.pair (.int .i64) (.pair (.sl (.int .u8)) (.int .i64)))) (.pair (.sl (.pair .str (.int .i64))) (.pair (.sl (.pair .str (.int .i64))) (.int .i64))))], rets := [(false, [(none, .bool)])], F := sDiskOk }
noncomputable def X_sDiskOk : Ctx := XT.withΓ (lk [(108, c_sl1In), (126, c_sl2Named), (127, c_sl2Entries)]) (lk [])
noncomputable def H_sDiskOk : Hints := ⟨lk [], lk [], lk []⟩
noncomputable def L_sDiskOk_5 : LoopF c_sDiskOk.Res := ⟨⟨95, [(1, .one (.ptr 0 0)), (3, .one (.val (.int .i64))), (4, .one (.val (.int .i64)))], [.vars 35 [.val (.sl (.pair (.int .i64) (.pair (.sl (.int .u8)) (.int .i64)))), .val (.sl (.pair .str (.int .i64))), .val (.sl (.pair .str (.int .i64))), .val (.int .i64)]], []⟩, [(0, ⟨95, [(1, .one (.ptr 0 0)), (3, .one (.val (.int .i64)))], [.vars 35 [.val (.sl (.pair (.int .i64) (.pair (.sl (.int .u8)) (.int .i64)))), .val (.sl (.pair .str (.int .i64))), .val (.sl (.pair .str (.int .i64))), .val (.int .i64)]], []⟩)], sDiskOk_L5⟩
noncomputable def T_sDiskOk : Nat → Option (LoopF c_sDiskOk.Res) := lk [(5, L_sDiskOk_5)]
theorem s_sDiskOk_5 : StepOk X_sDiskOk H_sDiskOk (c_sDiskOk.finish X_sDiskOk Tryz.f80.results.toList) T_sDiskOk (loopAt Tryz.f80 0) := ⟨L_sDiskOk_5, by kernel_rfl, fun O y x r => by kernel_rfl, fun O k y x r => by kernel_rfl⟩
theorem r_sDiskOk (a) : fnRun X_sDiskOk H_sDiskOk c_sDiskOk Tryz.f80 T_sDiskOk a = sDiskOk a := by kernel_rfl
theorem h_sDiskOk [Tabs] : CtrHolds Tryz.prog 80 c_sDiskOk := fn_ok (.cons h_sl1In Tryz.call108 (.cons h_sl2Named Tryz.call126 (.cons h_sl2Entries Tryz.call127 .nil))) .nil (H := H_sDiskOk) (tbl := T_sDiskOk) Tryz.func80 (by kernel_rfl) (loops1 (by kernel_rfl) s_sDiskOk_5) r_sDiskOk
/-! 58 sl2At -/
noncomputable def sl2At_L2 (O : Type) : Nat → (List (List UInt8 × Int) × List UInt8 × Int) → (Unit → Option O) → (Int → Option O) → Option O
  | 0, _, _, _ => none
  | q + 1, (l2, name3, i4), x, r => (cond (decide (i4 < ((l2.length : Nat) : Int))) (cond (decide ((0 : Int) ≤ i4) && decide (i4 < ((l2.length : Nat) : Int))) (cond ((nth l2 i4).1 == name3) (r i4) (sl2At_L2 O q (l2, name3, (IntKind.wrap .i64 (i4 + (1 : Int)))) x r)) none) (x ()))
noncomputable def sl2At : (List (List UInt8 × Int) × List UInt8) → Option Int
  | (l0, name1) => (sl2At_L2 Int fuel (l0, name1, (0 : Int)) (fun _ => (some (-1 : Int))) some)
noncomputable def c_sl2At : Ctr := { args := [.val false (.sl (.pair .str (.int .i64))), .val false .str], rets := [(false, [(none, (.int .i64))])], F := sl2At }
noncomputable def X_sl2At : Ctx := XT.withΓ (lk []) (lk [])
noncomputable def H_sl2At : Hints := ⟨lk [], lk [], lk []⟩
noncomputable def L_sl2At_2 : LoopF c_sl2At.Res := ⟨⟨20, [(0, .one (.val (.sl (.pair .str (.int .i64))))), (1, .one (.val .str)), (5, .one (.val (.int .i64)))], [], []⟩, [(0, ⟨20, [], [], []⟩)], sl2At_L2⟩
noncomputable def T_sl2At : Nat → Option (LoopF c_sl2At.Res) := lk [(2, L_sl2At_2)]
theorem s_sl2At_2 : StepOk X_sl2At H_sl2At (c_sl2At.finish X_sl2At Tryz.f58.results.toList) T_sl2At (loopAt Tryz.f58 0) := ⟨L_sl2At_2, by kernel_rfl, fun O y x r => by kernel_rfl, fun O k y x r => by kernel_rfl⟩
theorem r_sl2At (a) : fnRun X_sl2At H_sl2At c_sl2At Tryz.f58 T_sl2At a = sl2At a := by kernel_rfl
theorem h_sl2At [Tabs] : CtrHolds Tryz.prog 58 c_sl2At := fn_ok .nil .nil (H := H_sl2At) (tbl := T_sl2At) Tryz.func58 (by kernel_rfl) (loops1 (by kernel_rfl) s_sl2At_2) r_sl2At
/-! 56 sl2Call -/
noncomputable def sl2Call : ((List (Int × List Int × Int) × List (List UInt8 × Int) × List (List UInt8 × Int) × Int) × List UInt8) → Option Int
  | ((d0, d1, d2, d3), name4) => (((sDiskOk (d0, d1, d2, d3)).bind fun r5 => (cond (!r5) (some (name4, true, d0, d1, d2, d3)) ((sl2Name name4).bind fun r6 => (some (name4, (!r6), d0, d1, d2, d3))))).bind fun (name7, v8, d9, d10, d11, d12) => (cond v8 (some (1 : Int)) ((sl2At (d10, name7)).bind fun r13 => (cond (decide (r13 < (0 : Int))) (some (2 : Int)) (some (0 : Int))))))
noncomputable def c_sl2Call : Ctr := { args := [.val true (.pair (.sl (.pair (.int .i64) (.pair (.sl (.int .u8)) (.int .i64)))) (.pair (.sl (.pair .str (.int .i64))) (.pair (.sl (.pair .str (.int .i64))) (.int .i64)))), .val false .str], rets := [(false, [(none, (.int .i64))])], F := sl2Call }
noncomputable def X_sl2Call : Ctx := XT.withΓ (lk [(80, c_sDiskOk), (107, c_sl2Name), (58, c_sl2At)]) (lk [])
noncomputable def H_sl2Call : Hints := ⟨lk [(2, ⟨20, [(1, .one (.val .str)), (2, .one (.ptr 0 0)), (5, .one (.val .bool))], [.vars 35 [.val (.sl (.pair (.int .i64) (.pair (.sl (.int .u8)) (.int .i64)))), .val (.sl (.pair .str (.int .i64))), .val (.sl (.pair .str (.int .i64))), .val (.int .i64)]], []⟩)], lk [], lk []⟩
noncomputable def T_sl2Call : Nat → Option (LoopF c_sl2Call.Res) := lk []
theorem r_sl2Call (a) : fnRun X_sl2Call H_sl2Call c_sl2Call Tryz.f56 T_sl2Call a = sl2Call a := by kernel_rfl
theorem h_sl2Call [Tabs] : CtrHolds Tryz.prog 56 c_sl2Call := fn_ok (.cons h_sDiskOk Tryz.call80 (.cons h_sl2Name Tryz.call107 (.cons h_sl2At Tryz.call58 .nil))) .nil (H := H_sl2Call) (tbl := T_sl2Call) Tryz.func56 (by kernel_rfl) (loops0 (by kernel_rfl)) r_sl2Call
/-! 25 sBytes -/
noncomputable def sBytes : ((List (Int × List Int × Int) × List (List UInt8 × Int) × List (List UInt8 × Int) × Int) × List UInt8) → Option (List Int × Bool)
  | ((d0, d1, d2, d3), name4) => ((sl2Call ((d0, d1, d2, d3), name4)).bind fun r5 => (cond (r5 != (0 : Int)) (some ([], false)) ((sl2At (d1, name4)).bind fun r6 => (cond (decide ((0 : Int) ≤ r6) && decide (r6 < ((d1.length : Nat) : Int))) ((sl2Inode ((d0, d1, d2, d3), (nth d1 r6).2)).bind fun r7 => (cond (decide ((0 : Int) ≤ r7) && decide (r7 < ((d0.length : Nat) : Int))) (cond (decide ((0 + (nth d0 r7).2.1.length) ≤ lenBound)) (some (([] ++ (nth d0 r7).2.1), true)) none) none)) none))))
noncomputable def c_sBytes : Ctr := { args := [.val true (.pair (.sl (.pair (.int .i64) (.pair (.sl (.int .u8)) (.int .i64)))) (.pair (.sl (.pair .str (.int .i64))) (.pair (.sl (.pair .str (.int .i64))) (.int .i64)))), .val false .str], rets := [(false, [(some 5, (.sl (.int .u8)))]), (false, [(none, .bool)])], F := sBytes }
noncomputable def X_sBytes : Ctx := XT.withΓ (lk [(56, c_sl2Call), (58, c_sl2At), (57, c_sl2Inode)]) (lk [])
noncomputable def H_sBytes : Hints := ⟨lk [], lk [], lk []⟩
noncomputable def T_sBytes : Nat → Option (LoopF c_sBytes.Res) := lk []
theorem r_sBytes (a) : fnRun X_sBytes H_sBytes c_sBytes Tryz.f25 T_sBytes a = sBytes a := by kernel_rfl
theorem h_sBytes [Tabs] : CtrHolds Tryz.prog 25 c_sBytes := fn_ok (.cons h_sl2Call Tryz.call56 (.cons h_sl2At Tryz.call58 (.cons h_sl2Inode Tryz.call57 .nil))) .nil (H := H_sBytes) (tbl := T_sBytes) Tryz.func25 (by kernel_rfl) (loops0 (by kernel_rfl)) r_sBytes
/-! 59 sl6Split -/
noncomputable def sl6Split_L4 (O : Type) : Nat → (List UInt8 × Int × Int × Int × List (List UInt8)) → ((List (List UInt8)) → Option O) → ((List (List UInt8)) → Option O) → Option O
  | 0, _, _, _ => none
  | q + 1, (s2, by3, from4, i5, out6), x, r => (cond (decide (i5 ≤ ((s2.length : Nat) : Int))) ((cond (i5 == ((s2.length : Nat) : Int)) (some (s2, by3, from4, i5, true, out6)) (cond (decide ((0 : Int) ≤ i5) && decide (i5 < ((s2.length : Nat) : Int))) (some (s2, by3, from4, i5, ((((UInt8.toNat (nth s2 i5)) : Nat) : Int) == by3), out6)) none)).bind fun (s7, by8, from9, i10, v11, out12) => (cond v11 (cond (decide ((0 : Int) ≤ from9) && (decide (from9 ≤ i10) && decide (i10 ≤ ((s7.length : Nat) : Int)))) (cond (decide ((out12.length + [(cut s7 from9 i10)].length) ≤ lenBound)) (sl6Split_L4 O q (s7, by8, (IntKind.wrap .i64 (i10 + (1 : Int))), (IntKind.wrap .i64 (i10 + (1 : Int))), (out12 ++ [(cut s7 from9 i10)])) x r) none) none) (sl6Split_L4 O q (s7, by8, from9, (IntKind.wrap .i64 (i10 + (1 : Int))), out12) x r))) (x out6))
noncomputable def sl6Split : (List UInt8 × Int) → Option (List (List UInt8))
  | (s0, by1) => (sl6Split_L4 (List (List UInt8)) fuel (s0, by1, (0 : Int), (0 : Int), []) (fun out13 => (some out13)) some)
noncomputable def c_sl6Split : Ctr := { args := [.val false .str, .val false (.int .u8)], rets := [(false, [(some 9, (.sl .str))])], F := sl6Split }
noncomputable def X_sl6Split : Ctx := XT.withΓ (lk []) (lk [])
noncomputable def H_sl6Split : Hints := ⟨lk [(7, ⟨36, [(0, .one (.val .str)), (1, .one (.val (.int .u8))), (5, .one (.own 0)), (6, .one (.val (.int .i64))), (7, .one (.val (.int .i64))), (25, .one (.val .bool))], [.arr 9 .str], []⟩)], lk [], lk []⟩
noncomputable def L_sl6Split_4 : LoopF c_sl6Split.Res := ⟨⟨36, [(0, .one (.val .str)), (1, .one (.val (.int .u8))), (5, .one (.own 0)), (6, .one (.val (.int .i64))), (7, .one (.val (.int .i64)))], [.arr 9 .str], []⟩, [(0, ⟨36, [(5, .one (.own 0))], [.arr 9 .str], []⟩)], sl6Split_L4⟩
noncomputable def T_sl6Split : Nat → Option (LoopF c_sl6Split.Res) := lk [(4, L_sl6Split_4)]
theorem s_sl6Split_4 : StepOk X_sl6Split H_sl6Split (c_sl6Split.finish X_sl6Split Tryz.f59.results.toList) T_sl6Split (loopAt Tryz.f59 0) := ⟨L_sl6Split_4, by kernel_rfl, fun O y x r => by kernel_rfl, fun O k y x r => by kernel_rfl⟩
theorem r_sl6Split (a) : fnRun X_sl6Split H_sl6Split c_sl6Split Tryz.f59 T_sl6Split a = sl6Split a := by kernel_rfl
theorem h_sl6Split [Tabs] : CtrHolds Tryz.prog 59 c_sl6Split := fn_ok .nil .nil (H := H_sl6Split) (tbl := T_sl6Split) Tryz.func59 (by kernel_rfl) (loops1 (by kernel_rfl) s_sl6Split_4) r_sl6Split
/-! 60 sl6Number -/
noncomputable def sl6Number_L5 (O : Type) : Nat → (List UInt8 × Int × Int) → (Int → Option O) → (Int → Option O) → Option O
  | 0, _, _, _ => none
  | q + 1, (s2, n3, i4), x, r => (cond (decide (i4 < ((s2.length : Nat) : Int))) (cond (decide ((0 : Int) ≤ i4) && decide (i4 < ((s2.length : Nat) : Int))) ((sl1In ((IntKind.wrap .i64 (((UInt8.toNat (nth s2 i4)) : Nat) : Int)), (48 : Int), (57 : Int))).bind fun r5 => (cond (!r5) (r (-1 : Int)) (cond (decide ((0 : Int) ≤ i4) && decide (i4 < ((s2.length : Nat) : Int))) (sl6Number_L5 O q (s2, (IntKind.wrap .i64 ((IntKind.wrap .i64 (n3 * (10 : Int))) + (IntKind.wrap .i64 (IntKind.wrap .u8 ((((UInt8.toNat (nth s2 i4)) : Nat) : Int) - (48 : Int)))))), (IntKind.wrap .i64 (i4 + (1 : Int)))) x r) none))) none) (x n3))
noncomputable def sl6Number : (List UInt8) → Option Int
  | s0 => ((sl1In (((s0.length : Nat) : Int), (1 : Int), (6 : Int))).bind fun r1 => (cond (!r1) (some (-1 : Int)) (sl6Number_L5 Int fuel (s0, (0 : Int), (0 : Int)) (fun n6 => (some n6)) some)))
noncomputable def c_sl6Number : Ctr := { args := [.val false .str], rets := [(false, [(none, (.int .i64))])], F := sl6Number }
noncomputable def X_sl6Number : Ctx := XT.withΓ (lk [(108, c_sl1In)]) (lk [])
noncomputable def H_sl6Number : Hints := ⟨lk [], lk [], lk []⟩
noncomputable def L_sl6Number_5 : LoopF c_sl6Number.Res := ⟨⟨30, [(0, .one (.val .str)), (3, .one (.val (.int .i64))), (4, .one (.val (.int .i64)))], [], []⟩, [(0, ⟨30, [(3, .one (.val (.int .i64)))], [], []⟩)], sl6Number_L5⟩
noncomputable def T_sl6Number : Nat → Option (LoopF c_sl6Number.Res) := lk [(5, L_sl6Number_5)]
theorem s_sl6Number_5 : StepOk X_sl6Number H_sl6Number (c_sl6Number.finish X_sl6Number Tryz.f60.results.toList) T_sl6Number (loopAt Tryz.f60 0) := ⟨L_sl6Number_5, by kernel_rfl, fun O y x r => by kernel_rfl, fun O k y x r => by kernel_rfl⟩
theorem r_sl6Number (a) : fnRun X_sl6Number H_sl6Number c_sl6Number Tryz.f60 T_sl6Number a = sl6Number a := by kernel_rfl
theorem h_sl6Number [Tabs] : CtrHolds Tryz.prog 60 c_sl6Number := fn_ok (.cons h_sl1In Tryz.call108 .nil) .nil (H := H_sl6Number) (tbl := T_sl6Number) Tryz.func60 (by kernel_rfl) (loops1 (by kernel_rfl) s_sl6Number_5) r_sl6Number
/-! 109 sl6Digit -/
noncomputable def sl6Digit : Int → Option Int
  | c0 => ((sl1In ((IntKind.wrap .i64 c0), (48 : Int), (57 : Int))).bind fun r1 => (cond r1 (some (IntKind.wrap .i64 (IntKind.wrap .u8 (c0 - (48 : Int))))) ((sl1In ((IntKind.wrap .i64 c0), (97 : Int), (102 : Int))).bind fun r2 => (cond r2 (some (IntKind.wrap .i64 ((IntKind.wrap .i64 (IntKind.wrap .u8 (c0 - (97 : Int)))) + (10 : Int)))) (some (99 : Int))))))
noncomputable def c_sl6Digit : Ctr := { args := [.val false (.int .u8)], rets := [(false, [(none, (.int .i64))])], F := sl6Digit }
noncomputable def X_sl6Digit : Ctx := XT.withΓ (lk [(108, c_sl1In)]) (lk [])
noncomputable def H_sl6Digit : Hints := ⟨lk [], lk [], lk []⟩
noncomputable def T_sl6Digit : Nat → Option (LoopF c_sl6Digit.Res) := lk []
theorem r_sl6Digit (a) : fnRun X_sl6Digit H_sl6Digit c_sl6Digit Tryz.f109 T_sl6Digit a = sl6Digit a := by kernel_rfl
theorem h_sl6Digit [Tabs] : CtrHolds Tryz.prog 109 c_sl6Digit := fn_ok (.cons h_sl1In Tryz.call108 .nil) .nil (H := H_sl6Digit) (tbl := T_sl6Digit) Tryz.func109 (by kernel_rfl) (loops0 (by kernel_rfl)) r_sl6Digit
/-! 61 sl6UnHex -/
noncomputable def sl6UnHex_L3 (O : Type) : Nat → (List UInt8 × Int × List Int) → ((List Int) → Option O) → ((List UInt8) → Option O) → Option O
  | 0, _, _, _ => none
  | q + 1, (s1, i2, out3), x, r => (cond (decide ((IntKind.wrap .i64 (i2 + (1 : Int))) < ((s1.length : Nat) : Int))) (cond (decide ((0 : Int) ≤ i2) && decide (i2 < ((s1.length : Nat) : Int))) ((sl6Digit (((UInt8.toNat (nth s1 i2)) : Nat) : Int)).bind fun r4 => (cond (decide ((0 : Int) ≤ (IntKind.wrap .i64 (i2 + (1 : Int)))) && decide ((IntKind.wrap .i64 (i2 + (1 : Int))) < ((s1.length : Nat) : Int))) ((sl6Digit (((UInt8.toNat (nth s1 (IntKind.wrap .i64 (i2 + (1 : Int))))) : Nat) : Int)).bind fun r5 => (cond (decide ((out3.length + [(IntKind.wrap .u8 (IntKind.wrap .i64 ((IntKind.wrap .i64 (r4 * (16 : Int))) + r5)))].length) ≤ lenBound)) (sl6UnHex_L3 O q (s1, (IntKind.wrap .i64 (i2 + (2 : Int))), (out3 ++ [(IntKind.wrap .u8 (IntKind.wrap .i64 ((IntKind.wrap .i64 (r4 * (16 : Int))) + r5)))])) x r) none)) none)) none) (x out3))
noncomputable def sl6UnHex : (List UInt8) → Option (List UInt8)
  | s0 => (sl6UnHex_L3 (List UInt8) fuel (s0, (0 : Int), []) (fun out6 => (some (strOf out6))) some)
noncomputable def c_sl6UnHex : Ctr := { args := [.val false .str], rets := [(false, [(none, .str)])], F := sl6UnHex }
noncomputable def X_sl6UnHex : Ctx := XT.withΓ (lk [(109, c_sl6Digit)]) (lk [])
noncomputable def H_sl6UnHex : Hints := ⟨lk [], lk [], lk []⟩
noncomputable def L_sl6UnHex_3 : LoopF c_sl6UnHex.Res := ⟨⟨30, [(0, .one (.val .str)), (3, .one (.own 0)), (4, .one (.val (.int .i64)))], [.arr 5 (.int .u8)], []⟩, [(0, ⟨30, [(3, .one (.own 0))], [.arr 5 (.int .u8)], []⟩)], sl6UnHex_L3⟩
noncomputable def T_sl6UnHex : Nat → Option (LoopF c_sl6UnHex.Res) := lk [(3, L_sl6UnHex_3)]
theorem s_sl6UnHex_3 : StepOk X_sl6UnHex H_sl6UnHex (c_sl6UnHex.finish X_sl6UnHex Tryz.f61.results.toList) T_sl6UnHex (loopAt Tryz.f61 0) := ⟨L_sl6UnHex_3, by kernel_rfl, fun O y x r => by kernel_rfl, fun O k y x r => by kernel_rfl⟩
theorem r_sl6UnHex (a) : fnRun X_sl6UnHex H_sl6UnHex c_sl6UnHex Tryz.f61 T_sl6UnHex a = sl6UnHex a := by kernel_rfl
theorem h_sl6UnHex [Tabs] : CtrHolds Tryz.prog 61 c_sl6UnHex := fn_ok (.cons h_sl6Digit Tryz.call109 .nil) .nil (H := H_sl6UnHex) (tbl := T_sl6UnHex) Tryz.func61 (by kernel_rfl) (loops1 (by kernel_rfl) s_sl6UnHex_3) r_sl6UnHex
/-! 150 sl6Key -/
noncomputable def sl6Key : (List UInt8) → Option Bool
  | s0 => ((sl1In (((s0.length : Nat) : Int), (1 : Int), (20 : Int))).bind fun r1 => (some r1))
noncomputable def c_sl6Key : Ctr := { args := [.val false .str], rets := [(false, [(none, .bool)])], F := sl6Key }
noncomputable def X_sl6Key : Ctx := XT.withΓ (lk [(108, c_sl1In)]) (lk [])
noncomputable def H_sl6Key : Hints := ⟨lk [], lk [], lk []⟩
noncomputable def T_sl6Key : Nat → Option (LoopF c_sl6Key.Res) := lk []
theorem r_sl6Key (a) : fnRun X_sl6Key H_sl6Key c_sl6Key Tryz.f150 T_sl6Key a = sl6Key a := by kernel_rfl
theorem h_sl6Key [Tabs] : CtrHolds Tryz.prog 150 c_sl6Key := fn_ok (.cons h_sl1In Tryz.call108 .nil) .nil (H := H_sl6Key) (tbl := T_sl6Key) Tryz.func150 (by kernel_rfl) (loops0 (by kernel_rfl)) r_sl6Key
/-! 110 sl6Meta -/
noncomputable def sl6Meta : ((Int × Int × List (Int × Int × List UInt8 × List UInt8)) × Int × Int × List UInt8 × List UInt8) → Option Bool
  | ((m0, m1, m2), t3, t4, t5, t6) => ((sl1In (t3, (1 : Int), (IntKind.wrap .i64 (m0 - (1 : Int))))).bind fun r7 => (cond r7 ((sl1In (t4, (0 : Int), (3 : Int))).bind fun r8 => (cond r8 ((sl6Key t5).bind fun r9 => (cond r9 ((sl6Key t6).bind fun r10 => (cond r10 (some ((Op.bytesLess t5 t6) || (t5 == t6))) (some false))) (some false))) (some false))) (some false)))
noncomputable def c_sl6Meta : Ctr := { args := [.val true (.pair (.int .i64) (.pair (.int .i64) (.sl (.pair (.int .i64) (.pair (.int .i64) (.pair .str .str)))))), .val true (.pair (.int .i64) (.pair (.int .i64) (.pair .str .str)))], rets := [(false, [(none, .bool)])], F := sl6Meta }
noncomputable def X_sl6Meta : Ctx := XT.withΓ (lk [(108, c_sl1In), (150, c_sl6Key)]) (lk [])
noncomputable def H_sl6Meta : Hints := ⟨lk [], lk [], lk []⟩
noncomputable def T_sl6Meta : Nat → Option (LoopF c_sl6Meta.Res) := lk []
theorem r_sl6Meta (a) : fnRun X_sl6Meta H_sl6Meta c_sl6Meta Tryz.f110 T_sl6Meta a = sl6Meta a := by kernel_rfl
theorem h_sl6Meta [Tabs] : CtrHolds Tryz.prog 110 c_sl6Meta := fn_ok (.cons h_sl1In Tryz.call108 (.cons h_sl6Key Tryz.call150 .nil)) .nil (H := H_sl6Meta) (tbl := T_sl6Meta) Tryz.func110 (by kernel_rfl) (loops0 (by kernel_rfl)) r_sl6Meta
/-! 62 sManOk -/
noncomputable def sManOk_L10 (O : Type) : Nat → (Int × Int × Int × Bool × Bool × Bool × Int × Int × List (Int × Int × List UInt8 × List UInt8) × Int × Int × List UInt8 × List UInt8) → ((Int × Int × Bool × Bool × Bool × Int × Int × List (Int × Int × List UInt8 × List UInt8)) → Option O) → (Bool → Option O) → Option O
  | 0, _, _, _ => none
  | q + 1, (i22, k23, v24, v25, v26, v27, m28, m29, m30, t31, t32, t33, t34), x, r => (cond (decide (k23 < i22)) (cond (decide ((0 : Int) ≤ k23) && decide (k23 < ((m30.length : Nat) : Int))) (cond (decide (t32 > (0 : Int))) (cond ((nth m30 k23).2.1 == t32) (cond ((Op.bytesLess (nth m30 k23).2.2.1 t34) || ((nth m30 k23).2.2.1 == t34)) (cond ((Op.bytesLess t33 (nth m30 k23).2.2.2) || (t33 == (nth m30 k23).2.2.2)) (r false) (sManOk_L10 O q (i22, (IntKind.wrap .i64 (k23 + (1 : Int))), v24, v25, v26, v27, m28, m29, m30, t31, t32, t33, t34) x r)) (sManOk_L10 O q (i22, (IntKind.wrap .i64 (k23 + (1 : Int))), v24, v25, v26, v27, m28, m29, m30, t31, t32, t33, t34) x r)) (sManOk_L10 O q (i22, (IntKind.wrap .i64 (k23 + (1 : Int))), v24, v25, v26, v27, m28, m29, m30, t31, t32, t33, t34) x r)) (sManOk_L10 O q (i22, (IntKind.wrap .i64 (k23 + (1 : Int))), v24, v25, v26, v27, m28, m29, m30, t31, t32, t33, t34) x r)) none) (x (i22, v24, v25, v26, v27, m28, m29, m30)))
noncomputable def sManOk_L4 (O : Type) : Nat → (Int × Int × Int × List (Int × Int × List UInt8 × List UInt8)) → (Unit → Option O) → (Bool → Option O) → Option O
  | 0, _, _, _ => none
  | q + 1, (i5, m6, m7, m8), x, r => (cond (decide (i5 < ((m8.length : Nat) : Int))) (cond (decide ((0 : Int) ≤ i5) && decide (i5 < ((m8.length : Nat) : Int))) ((((sl6Meta ((m6, m7, m8), (nth m8 i5).1, (nth m8 i5).2.1, (nth m8 i5).2.2.1, (nth m8 i5).2.2.2)).bind fun r9 => (cond (!r9) ((r false).map Sum.inr) (cond (decide (i5 > (0 : Int))) (cond (decide ((0 : Int) ≤ (IntKind.wrap .i64 (i5 - (1 : Int)))) && decide ((IntKind.wrap .i64 (i5 - (1 : Int))) < ((m8.length : Nat) : Int))) (cond (decide ((nth m8 (IntKind.wrap .i64 (i5 - (1 : Int)))).1 ≥ (nth m8 i5).1)) ((r false).map Sum.inr) (some (Sum.inl (i5, i5, decide (i5 > (0 : Int)), true, decide ((nth m8 (IntKind.wrap .i64 (i5 - (1 : Int)))).1 ≥ (nth m8 i5).1), m6, m7, m8, (nth m8 i5).1, (nth m8 i5).2.1, (nth m8 i5).2.2.1, (nth m8 i5).2.2.2)))) none) (some (Sum.inl (i5, i5, decide (i5 > (0 : Int)), false, false, m6, m7, m8, (nth m8 i5).1, (nth m8 i5).2.1, (nth m8 i5).2.2.1, (nth m8 i5).2.2.2)))))) : Option ((Int × Int × Bool × Bool × Bool × Int × Int × List (Int × Int × List UInt8 × List UInt8) × Int × Int × List UInt8 × List UInt8) ⊕ O)).bind fun z => match z with | .inl (i10, v11, v12, v13, v14, m15, m16, m17, t18, t19, t20, t21) => (sManOk_L10 O fuel (i10, (0 : Int), v11, v12, v13, v14, m15, m16, m17, t18, t19, t20, t21) (fun (i35, v36, v37, v38, v39, m40, m41, m42) => (sManOk_L4 O q ((IntKind.wrap .i64 (i35 + (1 : Int))), m40, m41, m42) x r)) r) | .inr o => some o) none) (x ()))
noncomputable def sManOk : (Int × Int × List (Int × Int × List UInt8 × List UInt8)) → Option Bool
  | (m0, m1, m2) => ((sl1In (m0, (1 : Int), (100000 : Int))).bind fun r3 => (cond (!r3) (some false) ((sl1In (m1, (0 : Int), (IntKind.wrap .i64 (m0 - (1 : Int))))).bind fun r4 => (cond (!r4) (some false) (cond (decide (((m2.length : Nat) : Int) > (20 : Int))) (some false) (sManOk_L4 Bool fuel ((0 : Int), m0, m1, m2) (fun _ => (some true)) some))))))
noncomputable def c_sManOk : Ctr := { args := [.val true (.pair (.int .i64) (.pair (.int .i64) (.sl (.pair (.int .i64) (.pair (.int .i64) (.pair .str .str))))))], rets := [(false, [(none, .bool)])], F := sManOk }
noncomputable def X_sManOk : Ctx := XT.withΓ (lk [(108, c_sl1In), (110, c_sl6Meta)]) (lk [])
noncomputable def H_sManOk : Hints := ⟨lk [], lk [(9, ⟨92, [(1, .one (.ptr 0 0)), (3, .one (.val (.int .i64))), (4, .one (.ptr 1 0)), (43, .one (.val (.int .i64))), (44, .one (.val .bool)), (45, .one (.val .bool)), (56, .one (.val .bool))], [.vars 29 [.val (.int .i64), .val (.int .i64), .val (.sl (.pair (.int .i64) (.pair (.int .i64) (.pair .str .str))))], .vars 88 [.val (.int .i64), .val (.int .i64), .val .str, .val .str]], []⟩)], lk []⟩
noncomputable def L_sManOk_4 : LoopF c_sManOk.Res := ⟨⟨92, [(1, .one (.ptr 0 0)), (3, .one (.val (.int .i64)))], [.vars 29 [.val (.int .i64), .val (.int .i64), .val (.sl (.pair (.int .i64) (.pair (.int .i64) (.pair .str .str))))]], []⟩, [(0, ⟨92, [], [], []⟩)], sManOk_L4⟩
noncomputable def L_sManOk_10 : LoopF c_sManOk.Res := ⟨⟨92, [(1, .one (.ptr 0 0)), (3, .one (.val (.int .i64))), (4, .one (.ptr 1 0)), (5, .one (.val (.int .i64))), (43, .one (.val (.int .i64))), (44, .one (.val .bool)), (45, .one (.val .bool)), (56, .one (.val .bool))], [.vars 29 [.val (.int .i64), .val (.int .i64), .val (.sl (.pair (.int .i64) (.pair (.int .i64) (.pair .str .str))))], .vars 88 [.val (.int .i64), .val (.int .i64), .val .str, .val .str]], []⟩, [(2, ⟨92, [(1, .one (.ptr 0 0)), (3, .one (.val (.int .i64))), (43, .one (.val (.int .i64))), (44, .one (.val .bool)), (45, .one (.val .bool)), (56, .one (.val .bool))], [.vars 29 [.val (.int .i64), .val (.int .i64), .val (.sl (.pair (.int .i64) (.pair (.int .i64) (.pair .str .str))))]], []⟩)], sManOk_L10⟩
noncomputable def T_sManOk : Nat → Option (LoopF c_sManOk.Res) := lk [(4, L_sManOk_4), (10, L_sManOk_10)]
theorem s_sManOk_4 : StepOk X_sManOk H_sManOk (c_sManOk.finish X_sManOk Tryz.f62.results.toList) T_sManOk (loopAt Tryz.f62 0) := ⟨L_sManOk_4, by kernel_rfl, fun O y x r => by kernel_rfl, fun O k y x r => by kernel_rfl⟩
theorem s_sManOk_10 : StepOk X_sManOk H_sManOk (c_sManOk.finish X_sManOk Tryz.f62.results.toList) T_sManOk (loopAt Tryz.f62 1) := ⟨L_sManOk_10, by kernel_rfl, fun O y x r => by kernel_rfl, fun O k y x r => by kernel_rfl⟩
theorem r_sManOk (a) : fnRun X_sManOk H_sManOk c_sManOk Tryz.f62 T_sManOk a = sManOk a := by kernel_rfl
theorem h_sManOk [Tabs] : CtrHolds Tryz.prog 62 c_sManOk := fn_ok (.cons h_sl1In Tryz.call108 (.cons h_sl6Meta Tryz.call110 .nil)) .nil (H := H_sManOk) (tbl := T_sManOk) Tryz.func62 (by kernel_rfl) (loops2 (by kernel_rfl) s_sManOk_4 s_sManOk_10) r_sManOk
/-! 111 sl6Text -/
noncomputable def sl6TextN : Nat → Int → Option (List UInt8)
  | 0, _ => none
  | q + 1, n0 => (cond (decide (n0 < (10 : Int))) (some (strOf [(IntKind.wrap .u8 (IntKind.wrap .i64 ((48 : Int) + n0)))])) ((sl6TextN q (IntKind.wrap .i64 (Int.tdiv n0 (10 : Int)))).bind fun r1 => (cond (decide ((r1.length + (strOf [(IntKind.wrap .u8 (IntKind.wrap .i64 ((48 : Int) + (Int.tmod n0 (10 : Int)))))]).length) ≤ lenBound)) (some (r1 ++ (strOf [(IntKind.wrap .u8 (IntKind.wrap .i64 ((48 : Int) + (Int.tmod n0 (10 : Int)))))]))) none)))
noncomputable def c_sl6TextN (q : Nat) : Ctr := { args := [.val false (.int .i64)], rets := [(false, [(none, .str)])], F := sl6TextN q }
noncomputable def X_sl6Text (q : Nat) : Ctx := XT.withΓ (lk [(111, c_sl6TextN q)]) (lk [])
noncomputable def H_sl6Text : Hints := ⟨lk [], lk [], lk []⟩
noncomputable def T_sl6Text (q : Nat) : Nat → Option (LoopF (c_sl6TextN q).Res) := lk []
theorem r_sl6Text (q : Nat) (a) : fnRun (X_sl6Text q) H_sl6Text (c_sl6TextN (q + 1)) Tryz.f111 (T_sl6Text (q + 1)) a = sl6TextN (q + 1) a := by kernel_rfl
theorem h_sl6TextN [Tabs] : ∀ q, CtrHolds Tryz.prog 111 (c_sl6TextN q)
  | 0 => fun _ _ _ _ _ _ _ _ _ hF => by cases hF
  | q + 1 => fn_ok (.cons (h_sl6TextN q) Tryz.call111 .nil) .nil (H := H_sl6Text) (tbl := T_sl6Text (q + 1)) Tryz.func111 (by kernel_rfl) (loops0 (by kernel_rfl)) (r_sl6Text q)
noncomputable def sl6Text : Int → Option (List UInt8) := sl6TextN 30
noncomputable def c_sl6Text : Ctr := { args := [.val false (.int .i64)], rets := [(false, [(none, .str)])], F := sl6Text }
theorem h_sl6Text [Tabs] : CtrHolds Tryz.prog 111 c_sl6Text := h_sl6TextN 30
/-! 112 sl6Hex -/
noncomputable def sl6Hex_L4 (O : Type) : Nat → (List UInt8 × List UInt8 × Int × List Int) → ((List Int) → Option O) → ((List UInt8) → Option O) → Option O
  | 0, _, _, _ => none
  | q + 1, (s1, digits2, i3, out4), x, r => (cond (decide (i3 < ((s1.length : Nat) : Int))) (cond (decide ((0 : Int) ≤ i3) && decide (i3 < ((s1.length : Nat) : Int))) (cond (decide ((0 : Int) ≤ (Int.fdiv (((UInt8.toNat (nth s1 i3)) : Nat) : Int) (16 : Int))) && decide ((Int.fdiv (((UInt8.toNat (nth s1 i3)) : Nat) : Int) (16 : Int)) < ((digits2.length : Nat) : Int))) (cond (decide ((0 : Int) ≤ i3) && decide (i3 < ((s1.length : Nat) : Int))) (cond (decide ((0 : Int) ≤ (bits .and .u8 (((UInt8.toNat (nth s1 i3)) : Nat) : Int) (15 : Int))) && decide ((bits .and .u8 (((UInt8.toNat (nth s1 i3)) : Nat) : Int) (15 : Int)) < ((digits2.length : Nat) : Int))) (cond (decide ((out4.length + [(((UInt8.toNat (nth digits2 (Int.fdiv (((UInt8.toNat (nth s1 i3)) : Nat) : Int) (16 : Int)))) : Nat) : Int), (((UInt8.toNat (nth digits2 (bits .and .u8 (((UInt8.toNat (nth s1 i3)) : Nat) : Int) (15 : Int)))) : Nat) : Int)].length) ≤ lenBound)) (sl6Hex_L4 O q (s1, digits2, (IntKind.wrap .i64 (i3 + (1 : Int))), (out4 ++ [(((UInt8.toNat (nth digits2 (Int.fdiv (((UInt8.toNat (nth s1 i3)) : Nat) : Int) (16 : Int)))) : Nat) : Int), (((UInt8.toNat (nth digits2 (bits .and .u8 (((UInt8.toNat (nth s1 i3)) : Nat) : Int) (15 : Int)))) : Nat) : Int)])) x r) none) none) none) none) none) (x out4))
noncomputable def sl6Hex : (List UInt8) → Option (List UInt8)
  | s0 => (sl6Hex_L4 (List UInt8) fuel (s0, [48, 49, 50, 51, 52, 53, 54, 55, 56, 57, 97, 98, 99, 100, 101, 102], (0 : Int), []) (fun out5 => (some (strOf out5))) some)
noncomputable def c_sl6Hex : Ctr := { args := [.val false .str], rets := [(false, [(none, .str)])], F := sl6Hex }
noncomputable def X_sl6Hex : Ctx := XT.withΓ (lk []) (lk [])
noncomputable def H_sl6Hex : Hints := ⟨lk [], lk [], lk []⟩
noncomputable def L_sl6Hex_4 : LoopF c_sl6Hex.Res := ⟨⟨30, [(0, .one (.val .str)), (3, .one (.val .str)), (4, .one (.own 0)), (5, .one (.val (.int .i64)))], [.arr 5 (.int .u8)], []⟩, [(0, ⟨30, [(4, .one (.own 0))], [.arr 5 (.int .u8)], []⟩)], sl6Hex_L4⟩
noncomputable def T_sl6Hex : Nat → Option (LoopF c_sl6Hex.Res) := lk [(4, L_sl6Hex_4)]
theorem s_sl6Hex_4 : StepOk X_sl6Hex H_sl6Hex (c_sl6Hex.finish X_sl6Hex Tryz.f112.results.toList) T_sl6Hex (loopAt Tryz.f112 0) := ⟨L_sl6Hex_4, by kernel_rfl, fun O y x r => by kernel_rfl, fun O k y x r => by kernel_rfl⟩
theorem r_sl6Hex (a) : fnRun X_sl6Hex H_sl6Hex c_sl6Hex Tryz.f112 T_sl6Hex a = sl6Hex a := by kernel_rfl
theorem h_sl6Hex [Tabs] : CtrHolds Tryz.prog 112 c_sl6Hex := fn_ok .nil .nil (H := H_sl6Hex) (tbl := T_sl6Hex) Tryz.func112 (by kernel_rfl) (loops1 (by kernel_rfl) s_sl6Hex_4) r_sl6Hex
/-! 63 sManText -/
noncomputable def sManText_L5 (O : Type) : Nat → (List UInt8 × Int × Int × Int × List (Int × Int × List UInt8 × List UInt8)) → ((List UInt8) → Option O) → ((List UInt8) → Option O) → Option O
  | 0, _, _, _ => none
  | q + 1, (s6, i7, m8, m9, m10), x, r => (cond (decide (i7 < ((m10.length : Nat) : Int))) (cond (decide ((0 : Int) ≤ i7) && decide (i7 < ((m10.length : Nat) : Int))) (cond (decide ((s6.length + 4) ≤ lenBound)) ((sl6Text (nth m10 i7).1).bind fun r11 => (cond (decide (((s6 ++ [116, 97, 98, 32]).length + r11.length) ≤ lenBound)) (cond (decide ((((s6 ++ [116, 97, 98, 32]) ++ r11).length + 1) ≤ lenBound)) ((sl6Text (nth m10 i7).2.1).bind fun r12 => (cond (decide (((((s6 ++ [116, 97, 98, 32]) ++ r11) ++ [32]).length + r12.length) ≤ lenBound)) (cond (decide ((((((s6 ++ [116, 97, 98, 32]) ++ r11) ++ [32]) ++ r12).length + 1) ≤ lenBound)) ((sl6Hex (nth m10 i7).2.2.1).bind fun r13 => (cond (decide (((((((s6 ++ [116, 97, 98, 32]) ++ r11) ++ [32]) ++ r12) ++ [32]).length + r13.length) ≤ lenBound)) (cond (decide ((((((((s6 ++ [116, 97, 98, 32]) ++ r11) ++ [32]) ++ r12) ++ [32]) ++ r13).length + 1) ≤ lenBound)) ((sl6Hex (nth m10 i7).2.2.2).bind fun r14 => (cond (decide (((((((((s6 ++ [116, 97, 98, 32]) ++ r11) ++ [32]) ++ r12) ++ [32]) ++ r13) ++ [32]).length + r14.length) ≤ lenBound)) (cond (decide ((((((((((s6 ++ [116, 97, 98, 32]) ++ r11) ++ [32]) ++ r12) ++ [32]) ++ r13) ++ [32]) ++ r14).length + 1) ≤ lenBound)) (sManText_L5 O q ((((((((((s6 ++ [116, 97, 98, 32]) ++ r11) ++ [32]) ++ r12) ++ [32]) ++ r13) ++ [32]) ++ r14) ++ [10]), (IntKind.wrap .i64 (i7 + (1 : Int))), m8, m9, m10) x r) none) none)) none) none)) none) none)) none) none)) none) none) (x s6))
noncomputable def sManText : (Int × Int × List (Int × Int × List UInt8 × List UInt8)) → Option (List UInt8)
  | (m0, m1, m2) => ((sManOk (m0, m1, m2)).bind fun r3 => (cond (!r3) (some []) ((sl6Text m0).bind fun r4 => (cond (decide ((5 + r4.length) ≤ lenBound)) (cond (decide ((([110, 101, 120, 116, 32] ++ r4).length + 5) ≤ lenBound)) ((sl6Text m1).bind fun r5 => (cond (decide (((([110, 101, 120, 116, 32] ++ r4) ++ [32, 108, 111, 103, 32]).length + r5.length) ≤ lenBound)) (cond (decide ((((([110, 101, 120, 116, 32] ++ r4) ++ [32, 108, 111, 103, 32]) ++ r5).length + 1) ≤ lenBound)) (sManText_L5 (List UInt8) fuel ((((([110, 101, 120, 116, 32] ++ r4) ++ [32, 108, 111, 103, 32]) ++ r5) ++ [10]), (0 : Int), m0, m1, m2) (fun s15 => (cond (decide ((s15.length + 4) ≤ lenBound)) (some (s15 ++ [101, 110, 100, 10])) none)) some) none) none)) none) none))))
noncomputable def c_sManText : Ctr := { args := [.val true (.pair (.int .i64) (.pair (.int .i64) (.sl (.pair (.int .i64) (.pair (.int .i64) (.pair .str .str))))))], rets := [(false, [(none, .str)])], F := sManText }
noncomputable def X_sManText : Ctx := XT.withΓ (lk [(62, c_sManOk), (111, c_sl6Text), (112, c_sl6Hex)]) (lk [])
noncomputable def H_sManText : Hints := ⟨lk [], lk [], lk []⟩
noncomputable def L_sManText_5 : LoopF c_sManText.Res := ⟨⟨55, [(1, .one (.ptr 0 0)), (3, .one (.val .str)), (4, .one (.val (.int .i64)))], [.vars 29 [.val (.int .i64), .val (.int .i64), .val (.sl (.pair (.int .i64) (.pair (.int .i64) (.pair .str .str))))]], []⟩, [(0, ⟨55, [(3, .one (.val .str))], [], []⟩)], sManText_L5⟩
noncomputable def T_sManText : Nat → Option (LoopF c_sManText.Res) := lk [(5, L_sManText_5)]
theorem s_sManText_5 : StepOk X_sManText H_sManText (c_sManText.finish X_sManText Tryz.f63.results.toList) T_sManText (loopAt Tryz.f63 0) := ⟨L_sManText_5, by kernel_rfl, fun O y x r => by kernel_rfl, fun O k y x r => by kernel_rfl⟩
theorem r_sManText (a) : fnRun X_sManText H_sManText c_sManText Tryz.f63 T_sManText a = sManText a := by kernel_rfl
theorem h_sManText [Tabs] : CtrHolds Tryz.prog 63 c_sManText := fn_ok (.cons h_sManOk Tryz.call62 (.cons h_sl6Text Tryz.call111 (.cons h_sl6Hex Tryz.call112 .nil))) .nil (H := H_sManText) (tbl := T_sManText) Tryz.func63 (by kernel_rfl) (loops1 (by kernel_rfl) s_sManText_5) r_sManText
/-! 26 sParseMan -/
noncomputable def sParseMan_L4 (O : Type) : Nat → (List UInt8 × Int × Int × Int × Int × Int × List (List UInt8) × List (Int × Int × List UInt8 × List UInt8)) → ((List UInt8 × Int × Int × Int × Int × List (Int × Int × List UInt8 × List UInt8)) → Option O) → (((Int × Int × List (Int × Int × List UInt8 × List UInt8)) × Bool) → Option O) → Option O
  | 0, _, _, _ => none
  | q + 1, (s2, i3, v4, v5, m6, m7, lines8, m9), x, r => (cond (decide (i3 < ((lines8.length : Nat) : Int))) (cond (decide (i3 < (30 : Int))) (cond (decide ((0 : Int) ≤ i3) && decide (i3 < ((lines8.length : Nat) : Int))) ((sl6Split ((nth lines8 i3), (32 : Int))).bind fun r10 => ((cond (i3 == (0 : Int)) (some (s2, i3, i3, decide (i3 < (30 : Int)), (((r10.length : Nat) : Int) == (4 : Int)), v4, v5, m6, m7, lines8, r10, m9)) (some (s2, i3, i3, decide (i3 < (30 : Int)), false, v4, v5, m6, m7, lines8, r10, m9))).bind fun (s11, i12, v13, v14, v15, v16, v17, m18, m19, lines20, w21, m22) => (cond v15 (cond (decide ((1 : Int) < ((w21.length : Nat) : Int))) ((sl6Number (List.getD w21 1 [])).bind fun r23 => (cond (decide ((3 : Int) < ((w21.length : Nat) : Int))) ((sl6Number (List.getD w21 3 [])).bind fun r24 => (sParseMan_L4 O q (s11, (IntKind.wrap .i64 (i12 + (1 : Int))), v16, v17, r23, r24, lines20, m22) x r)) none)) none) (cond (decide (i12 > (0 : Int))) (cond (((w21.length : Nat) : Int) == (5 : Int)) (cond (decide ((1 : Int) < ((w21.length : Nat) : Int))) ((sl6Number (List.getD w21 1 [])).bind fun r25 => (cond (decide ((2 : Int) < ((w21.length : Nat) : Int))) ((sl6Number (List.getD w21 2 [])).bind fun r26 => (cond (decide ((3 : Int) < ((w21.length : Nat) : Int))) ((sl6UnHex (List.getD w21 3 [])).bind fun r27 => (cond (decide ((4 : Int) < ((w21.length : Nat) : Int))) ((sl6UnHex (List.getD w21 4 [])).bind fun r28 => (cond (decide ((m22.length + [(r25, r26, r27, r28)].length) ≤ lenBound)) (sParseMan_L4 O q (s11, (IntKind.wrap .i64 (i12 + (1 : Int))), v16, v17, m18, m19, lines20, (m22 ++ [(r25, r26, r27, r28)])) x r) none)) none)) none)) none)) none) (sParseMan_L4 O q (s11, (IntKind.wrap .i64 (i12 + (1 : Int))), v16, v17, m18, m19, lines20, m22) x r)) (sParseMan_L4 O q (s11, (IntKind.wrap .i64 (i12 + (1 : Int))), v16, v17, m18, m19, lines20, m22) x r))))) none) (x (s2, v4, v5, m6, m7, m9))) (x (s2, v4, v5, m6, m7, m9)))
noncomputable def sParseMan : (List UInt8) → Option ((Int × Int × List (Int × Int × List UInt8 × List UInt8)) × Bool)
  | s0 => ((sl6Split (s0, (10 : Int))).bind fun r1 => (sParseMan_L4 ((Int × Int × List (Int × Int × List UInt8 × List UInt8)) × Bool) fuel (s0, (0 : Int), (0 : Int), (0 : Int), (0 : Int), (0 : Int), r1, []) (fun (s29, v30, v31, m32, m33, m34) => ((sManOk (m32, m33, m34)).bind fun r35 => (cond (!r35) (some (((0 : Int), (0 : Int), []), false)) ((sManText (m32, m33, m34)).bind fun r36 => (cond (!(r36 == s29)) (some (((0 : Int), (0 : Int), []), false)) (some ((m32, m33, m34), true))))))) some))
noncomputable def c_sParseMan : Ctr := { args := [.val false .str], rets := [(true, [(none, (.int .i64)), (none, (.int .i64)), (some 88, (.sl (.pair (.int .i64) (.pair (.int .i64) (.pair .str .str)))))]), (false, [(none, .bool)])], F := sParseMan }
noncomputable def X_sParseMan : Ctx := XT.withΓ (lk [(59, c_sl6Split), (60, c_sl6Number), (61, c_sl6UnHex), (62, c_sManOk), (63, c_sManText)]) (lk [])
noncomputable def H_sParseMan : Hints := ⟨lk [(8, ⟨85, [(0, .one (.val .str)), (2, .one (.ptr 0 0)), (4, .one (.ptr 1 0)), (5, .one (.own 2)), (6, .one (.val (.int .i64))), (7, .one (.own 3)), (16, .one (.val (.int .i64))), (17, .one (.val .bool)), (26, .one (.val .bool))], [.vars 29 [.val (.int .i64), .val (.int .i64), .nils], .vars 29 [.val (.int .i64), .val (.int .i64), .own 4], .arr 9 .str, .arr 9 .str, .arr 88 (.pair (.int .i64) (.pair (.int .i64) (.pair .str .str)))], []⟩)], lk [], lk []⟩
noncomputable def L_sParseMan_4 : LoopF c_sParseMan.Res := ⟨⟨85, [(0, .one (.val .str)), (2, .one (.ptr 0 0)), (4, .one (.ptr 1 0)), (5, .one (.own 2)), (6, .one (.val (.int .i64)))], [.vars 29 [.val (.int .i64), .val (.int .i64), .nils], .vars 29 [.val (.int .i64), .val (.int .i64), .own 3], .arr 9 .str, .arr 88 (.pair (.int .i64) (.pair (.int .i64) (.pair .str .str)))], []⟩, [(0, ⟨85, [(0, .one (.val .str)), (2, .one (.ptr 0 0)), (4, .one (.ptr 1 0))], [.vars 29 [.val (.int .i64), .val (.int .i64), .nils], .vars 29 [.val (.int .i64), .val (.int .i64), .own 2], .arr 88 (.pair (.int .i64) (.pair (.int .i64) (.pair .str .str)))], []⟩)], sParseMan_L4⟩
noncomputable def T_sParseMan : Nat → Option (LoopF c_sParseMan.Res) := lk [(4, L_sParseMan_4)]
theorem s_sParseMan_4 : StepOk X_sParseMan H_sParseMan (c_sParseMan.finish X_sParseMan Tryz.f26.results.toList) T_sParseMan (loopAt Tryz.f26 0) := ⟨L_sParseMan_4, by kernel_rfl, fun O y x r => by kernel_rfl, fun O k y x r => by kernel_rfl⟩
theorem r_sParseMan (a) : fnRun X_sParseMan H_sParseMan c_sParseMan Tryz.f26 T_sParseMan a = sParseMan a := by kernel_rfl
theorem h_sParseMan [Tabs] : CtrHolds Tryz.prog 26 c_sParseMan := fn_ok (.cons h_sl6Split Tryz.call59 (.cons h_sl6Number Tryz.call60 (.cons h_sl6UnHex Tryz.call61 (.cons h_sManOk Tryz.call62 (.cons h_sManText Tryz.call63 .nil))))) .nil (H := H_sParseMan) (tbl := T_sParseMan) Tryz.func26 (by kernel_rfl) (loops1 (by kernel_rfl) s_sParseMan_4) r_sParseMan
/-! 6 sCurrent -/
noncomputable def sCurrent : (List (Int × List Int × Int) × List (List UInt8 × Int) × List (List UInt8 × Int) × Int) → Option ((Int × Int × List (Int × Int × List UInt8 × List UInt8)) × Bool)
  | (d0, d1, d2, d3) => ((sBytes ((d0, d1, d2, d3), [99, 117, 114])).bind fun (r4, r5) => (cond (!r5) (some (((0 : Int), (0 : Int), []), false)) ((sParseMan (strOf r4)).bind fun ((r6, r7, r8), r9) => (some ((r6, r7, r8), r9)))))
noncomputable def c_sCurrent : Ctr := { args := [.val true (.pair (.sl (.pair (.int .i64) (.pair (.sl (.int .u8)) (.int .i64)))) (.pair (.sl (.pair .str (.int .i64))) (.pair (.sl (.pair .str (.int .i64))) (.int .i64))))], rets := [(true, [(none, (.int .i64)), (none, (.int .i64)), (some 88, (.sl (.pair (.int .i64) (.pair (.int .i64) (.pair .str .str)))))]), (false, [(none, .bool)])], F := sCurrent }
noncomputable def X_sCurrent : Ctx := XT.withΓ (lk [(25, c_sBytes), (26, c_sParseMan)]) (lk [])
noncomputable def H_sCurrent : Hints := ⟨lk [], lk [], lk []⟩
noncomputable def T_sCurrent : Nat → Option (LoopF c_sCurrent.Res) := lk []
theorem r_sCurrent (a) : fnRun X_sCurrent H_sCurrent c_sCurrent Tryz.f6 T_sCurrent a = sCurrent a := by kernel_rfl
theorem h_sCurrent [Tabs] : CtrHolds Tryz.prog 6 c_sCurrent := fn_ok (.cons h_sBytes Tryz.call25 (.cons h_sParseMan Tryz.call26 .nil)) .nil (H := H_sCurrent) (tbl := T_sCurrent) Tryz.func6 (by kernel_rfl) (loops0 (by kernel_rfl)) r_sCurrent
/-! 67 iidOf -/
noncomputable def iidOf_L2 (O : Type) : Nat → (List UInt8 × List (List UInt8 × Int) × Int × Int) → (Unit → Option O) → (Int → Option O) → Option O
  | 0, _, _, _ => none
  | q + 1, (name5, v6, v7, v8), x, r => (cond (decide (v8 < v7)) (cond (decide ((0 : Int) ≤ v8) && decide (v8 < ((v6.length : Nat) : Int))) (cond ((nth v6 v8).1 == name5) (r (nth v6 v8).2) (iidOf_L2 O q (name5, v6, v7, (IntKind.wrap .i64 (v8 + (1 : Int)))) x r)) none) (x ()))
noncomputable def iidOf : ((List (Int × List Int × Int) × List (List UInt8 × Int) × List (List UInt8 × Int) × Int) × List UInt8) → Option Int
  | ((d0, d1, d2, d3), name4) => (iidOf_L2 Int fuel (name4, d1, ((d1.length : Nat) : Int), (0 : Int)) (fun _ => (some (0 : Int))) some)
noncomputable def c_iidOf : Ctr := { args := [.val true (.pair (.sl (.pair (.int .i64) (.pair (.sl (.int .u8)) (.int .i64)))) (.pair (.sl (.pair .str (.int .i64))) (.pair (.sl (.pair .str (.int .i64))) (.int .i64)))), .val false .str], rets := [(false, [(none, (.int .i64))])], F := iidOf }
noncomputable def X_iidOf : Ctx := XT.withΓ (lk []) (lk [])
noncomputable def H_iidOf : Hints := ⟨lk [], lk [], lk []⟩
noncomputable def L_iidOf_2 : LoopF c_iidOf.Res := ⟨⟨21, [(1, .one (.val .str)), (8, .one (.val (.sl (.pair .str (.int .i64))))), (9, .one (.val (.int .i64))), (10, .one (.val (.int .i64)))], [], []⟩, [(0, ⟨21, [], [], []⟩)], iidOf_L2⟩
noncomputable def T_iidOf : Nat → Option (LoopF c_iidOf.Res) := lk [(2, L_iidOf_2)]
theorem s_iidOf_2 : StepOk X_iidOf H_iidOf (c_iidOf.finish X_iidOf Tryz.f67.results.toList) T_iidOf (loopAt Tryz.f67 0) := ⟨L_iidOf_2, by kernel_rfl, fun O y x r => by kernel_rfl, fun O k y x r => by kernel_rfl⟩
theorem r_iidOf (a) : fnRun X_iidOf H_iidOf c_iidOf Tryz.f67 T_iidOf a = iidOf a := by kernel_rfl
theorem h_iidOf [Tabs] : CtrHolds Tryz.prog 67 c_iidOf := fn_ok .nil .nil (H := H_iidOf) (tbl := T_iidOf) Tryz.func67 (by kernel_rfl) (loops1 (by kernel_rfl) s_iidOf_2) r_iidOf
/-! 66 iinodeAt -/
noncomputable def iinodeAt_L2 (O : Type) : Nat → (Int × List (Int × List Int × Int) × Int × Int) → (Unit → Option O) → (Int → Option O) → Option O
  | 0, _, _, _ => none
  | q + 1, (id5, v6, v7, v8), x, r => (cond (decide (v8 < v7)) (cond (decide ((0 : Int) ≤ v8) && decide (v8 < ((v6.length : Nat) : Int))) (cond ((nth v6 v8).1 == id5) (r v8) (iinodeAt_L2 O q (id5, v6, v7, (IntKind.wrap .i64 (v8 + (1 : Int)))) x r)) none) (x ()))
noncomputable def iinodeAt : ((List (Int × List Int × Int) × List (List UInt8 × Int) × List (List UInt8 × Int) × Int) × Int) → Option Int
  | ((d0, d1, d2, d3), id4) => (iinodeAt_L2 Int fuel (id4, d0, ((d0.length : Nat) : Int), (0 : Int)) (fun _ => (some (-1 : Int))) some)
noncomputable def c_iinodeAt : Ctr := { args := [.val true (.pair (.sl (.pair (.int .i64) (.pair (.sl (.int .u8)) (.int .i64)))) (.pair (.sl (.pair .str (.int .i64))) (.pair (.sl (.pair .str (.int .i64))) (.int .i64)))), .val false (.int .i64)], rets := [(false, [(none, (.int .i64))])], F := iinodeAt }
noncomputable def X_iinodeAt : Ctx := XT.withΓ (lk []) (lk [])
noncomputable def H_iinodeAt : Hints := ⟨lk [], lk [], lk []⟩
noncomputable def L_iinodeAt_2 : LoopF c_iinodeAt.Res := ⟨⟨21, [(1, .one (.val (.int .i64))), (8, .one (.val (.sl (.pair (.int .i64) (.pair (.sl (.int .u8)) (.int .i64)))))), (9, .one (.val (.int .i64))), (10, .one (.val (.int .i64)))], [], []⟩, [(0, ⟨21, [], [], []⟩)], iinodeAt_L2⟩
noncomputable def T_iinodeAt : Nat → Option (LoopF c_iinodeAt.Res) := lk [(2, L_iinodeAt_2)]
theorem s_iinodeAt_2 : StepOk X_iinodeAt H_iinodeAt (c_iinodeAt.finish X_iinodeAt Tryz.f66.results.toList) T_iinodeAt (loopAt Tryz.f66 0) := ⟨L_iinodeAt_2, by kernel_rfl, fun O y x r => by kernel_rfl, fun O k y x r => by kernel_rfl⟩
theorem r_iinodeAt (a) : fnRun X_iinodeAt H_iinodeAt c_iinodeAt Tryz.f66 T_iinodeAt a = iinodeAt a := by kernel_rfl
theorem h_iinodeAt [Tabs] : CtrHolds Tryz.prog 66 c_iinodeAt := fn_ok .nil .nil (H := H_iinodeAt) (tbl := T_iinodeAt) Tryz.func66 (by kernel_rfl) (loops1 (by kernel_rfl) s_iinodeAt_2) r_iinodeAt
/-! 114 iin -/
noncomputable def iin : (Int × Int × Int) → Option Bool
  | (n0, low1, high2) => (cond (decide (n0 ≥ low1)) (some (decide (n0 ≤ high2))) (some false))
noncomputable def c_iin : Ctr := { args := [.val false (.int .i64), .val false (.int .i64), .val false (.int .i64)], rets := [(false, [(none, .bool)])], F := iin }
noncomputable def X_iin : Ctx := XT.withΓ (lk []) (lk [])
noncomputable def H_iin : Hints := ⟨lk [], lk [], lk []⟩
noncomputable def T_iin : Nat → Option (LoopF c_iin.Res) := lk []
theorem r_iin (a) : fnRun X_iin H_iin c_iin Tryz.f114 T_iin a = iin a := by kernel_rfl
theorem h_iin [Tabs] : CtrHolds Tryz.prog 114 c_iin := fn_ok .nil .nil (H := H_iin) (tbl := T_iin) Tryz.func114 (by kernel_rfl) (loops0 (by kernel_rfl)) r_iin
/-! 115 ihasId -/
noncomputable def ihasId_L2 (O : Type) : Nat → (Int × List (List UInt8 × Int) × Int × Int) → (Unit → Option O) → (Bool → Option O) → Option O
  | 0, _, _, _ => none
  | q + 1, (id2, v3, v4, v5), x, r => (cond (decide (v5 < v4)) (cond (decide ((0 : Int) ≤ v5) && decide (v5 < ((v3.length : Nat) : Int))) (cond ((nth v3 v5).2 == id2) (r true) (ihasId_L2 O q (id2, v3, v4, (IntKind.wrap .i64 (v5 + (1 : Int)))) x r)) none) (x ()))
noncomputable def ihasId : (List (List UInt8 × Int) × Int) → Option Bool
  | (l0, id1) => (ihasId_L2 Bool fuel (id1, l0, ((l0.length : Nat) : Int), (0 : Int)) (fun _ => (some false)) some)
noncomputable def c_ihasId : Ctr := { args := [.val false (.sl (.pair .str (.int .i64))), .val false (.int .i64)], rets := [(false, [(none, .bool)])], F := ihasId }
noncomputable def X_ihasId : Ctx := XT.withΓ (lk []) (lk [])
noncomputable def H_ihasId : Hints := ⟨lk [], lk [], lk []⟩
noncomputable def L_ihasId_2 : LoopF c_ihasId.Res := ⟨⟨18, [(1, .one (.val (.int .i64))), (7, .one (.val (.sl (.pair .str (.int .i64))))), (8, .one (.val (.int .i64))), (9, .one (.val (.int .i64)))], [], []⟩, [(0, ⟨18, [], [], []⟩)], ihasId_L2⟩
noncomputable def T_ihasId : Nat → Option (LoopF c_ihasId.Res) := lk [(2, L_ihasId_2)]
theorem s_ihasId_2 : StepOk X_ihasId H_ihasId (c_ihasId.finish X_ihasId Tryz.f115.results.toList) T_ihasId (loopAt Tryz.f115 0) := ⟨L_ihasId_2, by kernel_rfl, fun O y x r => by kernel_rfl, fun O k y x r => by kernel_rfl⟩
theorem r_ihasId (a) : fnRun X_ihasId H_ihasId c_ihasId Tryz.f115 T_ihasId a = ihasId a := by kernel_rfl
theorem h_ihasId [Tabs] : CtrHolds Tryz.prog 115 c_ihasId := fn_ok .nil .nil (H := H_ihasId) (tbl := T_ihasId) Tryz.func115 (by kernel_rfl) (loops1 (by kernel_rfl) s_ihasId_2) r_ihasId
/-! 151 inameOk -/
noncomputable def inameOk_L2 (O : Type) : Nat → (List UInt8 × Int) → ((List UInt8) → Option O) → (Bool → Option O) → Option O
  | 0, _, _, _ => none
  | q + 1, (s1, i2), x, r => (cond (decide (i2 < ((s1.length : Nat) : Int))) (cond (decide ((0 : Int) ≤ i2) && decide (i2 < ((s1.length : Nat) : Int))) (cond (decide ((((UInt8.toNat (nth s1 i2)) : Nat) : Int) ≥ (97 : Int))) (cond (!(decide ((((UInt8.toNat (nth s1 i2)) : Nat) : Int) ≤ (122 : Int)))) (cond (decide ((((UInt8.toNat (nth s1 i2)) : Nat) : Int) ≥ (48 : Int))) (cond (!(decide ((((UInt8.toNat (nth s1 i2)) : Nat) : Int) ≤ (57 : Int)))) (cond ((((UInt8.toNat (nth s1 i2)) : Nat) : Int) != (45 : Int)) (cond ((((UInt8.toNat (nth s1 i2)) : Nat) : Int) != (46 : Int)) (r false) (inameOk_L2 O q (s1, (IntKind.wrap .i64 (i2 + (1 : Int)))) x r)) (inameOk_L2 O q (s1, (IntKind.wrap .i64 (i2 + (1 : Int)))) x r)) (inameOk_L2 O q (s1, (IntKind.wrap .i64 (i2 + (1 : Int)))) x r)) (cond ((((UInt8.toNat (nth s1 i2)) : Nat) : Int) != (45 : Int)) (cond ((((UInt8.toNat (nth s1 i2)) : Nat) : Int) != (46 : Int)) (r false) (inameOk_L2 O q (s1, (IntKind.wrap .i64 (i2 + (1 : Int)))) x r)) (inameOk_L2 O q (s1, (IntKind.wrap .i64 (i2 + (1 : Int)))) x r))) (inameOk_L2 O q (s1, (IntKind.wrap .i64 (i2 + (1 : Int)))) x r)) (cond (decide ((((UInt8.toNat (nth s1 i2)) : Nat) : Int) ≥ (48 : Int))) (cond (!(decide ((((UInt8.toNat (nth s1 i2)) : Nat) : Int) ≤ (57 : Int)))) (cond ((((UInt8.toNat (nth s1 i2)) : Nat) : Int) != (45 : Int)) (cond ((((UInt8.toNat (nth s1 i2)) : Nat) : Int) != (46 : Int)) (r false) (inameOk_L2 O q (s1, (IntKind.wrap .i64 (i2 + (1 : Int)))) x r)) (inameOk_L2 O q (s1, (IntKind.wrap .i64 (i2 + (1 : Int)))) x r)) (inameOk_L2 O q (s1, (IntKind.wrap .i64 (i2 + (1 : Int)))) x r)) (cond ((((UInt8.toNat (nth s1 i2)) : Nat) : Int) != (45 : Int)) (cond ((((UInt8.toNat (nth s1 i2)) : Nat) : Int) != (46 : Int)) (r false) (inameOk_L2 O q (s1, (IntKind.wrap .i64 (i2 + (1 : Int)))) x r)) (inameOk_L2 O q (s1, (IntKind.wrap .i64 (i2 + (1 : Int)))) x r)))) none) (x s1))
noncomputable def inameOk : (List UInt8) → Option Bool
  | s0 => (inameOk_L2 Bool fuel (s0, (0 : Int)) (fun s3 => ((iin (((s3.length : Nat) : Int), (1 : Int), (12 : Int))).bind fun r4 => (some r4))) some)
noncomputable def c_inameOk : Ctr := { args := [.val false .str], rets := [(false, [(none, .bool)])], F := inameOk }
noncomputable def X_inameOk : Ctx := XT.withΓ (lk [(114, c_iin)]) (lk [])
noncomputable def H_inameOk : Hints := ⟨lk [], lk [], lk []⟩
noncomputable def L_inameOk_2 : LoopF c_inameOk.Res := ⟨⟨41, [(0, .one (.val .str)), (3, .one (.val (.int .i64)))], [], []⟩, [(0, ⟨41, [(0, .one (.val .str))], [], []⟩)], inameOk_L2⟩
noncomputable def T_inameOk : Nat → Option (LoopF c_inameOk.Res) := lk [(2, L_inameOk_2)]
theorem s_inameOk_2 : StepOk X_inameOk H_inameOk (c_inameOk.finish X_inameOk Tryz.f151.results.toList) T_inameOk (loopAt Tryz.f151 0) := ⟨L_inameOk_2, by kernel_rfl, fun O y x r => by kernel_rfl, fun O k y x r => by kernel_rfl⟩
theorem r_inameOk (a) : fnRun X_inameOk H_inameOk c_inameOk Tryz.f151 T_inameOk a = inameOk a := by kernel_rfl
theorem h_inameOk [Tabs] : CtrHolds Tryz.prog 151 c_inameOk := fn_ok (.cons h_iin Tryz.call114 .nil) .nil (H := H_inameOk) (tbl := T_inameOk) Tryz.func151 (by kernel_rfl) (loops1 (by kernel_rfl) s_inameOk_2) r_inameOk
/-! 116 inamesOk -/
noncomputable def inamesOk_L2 (O : Type) : Nat → (List (List UInt8 × Int) × List (List UInt8 × Int) × Int × Int × List (Int × List Int × Int) × List (List UInt8 × Int) × List (List UInt8 × Int) × Int) → ((List (List UInt8 × Int)) → Option O) → (Bool → Option O) → Option O
  | 0, _, _, _ => none
  | q + 1, (l5, v6, v7, v8, d9, d10, d11, d12), x, r => (cond (decide (v8 < v7)) (cond (decide ((0 : Int) ≤ v8) && decide (v8 < ((v6.length : Nat) : Int))) ((inameOk (nth v6 v8).1).bind fun r13 => (cond (!r13) (r false) ((iinodeAt ((d9, d10, d11, d12), (nth v6 v8).2)).bind fun r14 => (cond (decide (r14 < (0 : Int))) (r false) (cond (decide (v8 > (0 : Int))) (cond (decide ((0 : Int) ≤ (IntKind.wrap .i64 (v8 - (1 : Int)))) && decide ((IntKind.wrap .i64 (v8 - (1 : Int))) < ((l5.length : Nat) : Int))) (cond (!(Op.bytesLess (nth l5 (IntKind.wrap .i64 (v8 - (1 : Int)))).1 (nth v6 v8).1)) (r false) (cond (decide ((0 : Int) ≤ v8) && decide (v8 ≤ ((l5.length : Nat) : Int))) ((ihasId ((cut l5 (0 : Int) v8), (nth v6 v8).2)).bind fun r15 => (cond r15 (r false) (inamesOk_L2 O q (l5, v6, v7, (IntKind.wrap .i64 (v8 + (1 : Int))), d9, d10, d11, d12) x r))) none)) none) (cond (decide ((0 : Int) ≤ v8) && decide (v8 ≤ ((l5.length : Nat) : Int))) ((ihasId ((cut l5 (0 : Int) v8), (nth v6 v8).2)).bind fun r16 => (cond r16 (r false) (inamesOk_L2 O q (l5, v6, v7, (IntKind.wrap .i64 (v8 + (1 : Int))), d9, d10, d11, d12) x r))) none)))))) none) (x l5))
noncomputable def inamesOk : ((List (Int × List Int × Int) × List (List UInt8 × Int) × List (List UInt8 × Int) × Int) × List (List UInt8 × Int)) → Option Bool
  | ((d0, d1, d2, d3), l4) => (inamesOk_L2 Bool fuel (l4, l4, ((l4.length : Nat) : Int), (0 : Int), d0, d1, d2, d3) (fun l17 => (some (decide (((l17.length : Nat) : Int) ≤ (30 : Int))))) some)
noncomputable def c_inamesOk : Ctr := { args := [.val true (.pair (.sl (.pair (.int .i64) (.pair (.sl (.int .u8)) (.int .i64)))) (.pair (.sl (.pair .str (.int .i64))) (.pair (.sl (.pair .str (.int .i64))) (.int .i64)))), .val false (.sl (.pair .str (.int .i64)))], rets := [(false, [(none, .bool)])], F := inamesOk }
noncomputable def X_inamesOk : Ctx := XT.withΓ (lk [(151, c_inameOk), (66, c_iinodeAt), (115, c_ihasId)]) (lk [])
noncomputable def H_inamesOk : Hints := ⟨lk [], lk [], lk []⟩
noncomputable def L_inamesOk_2 : LoopF c_inamesOk.Res := ⟨⟨52, [(1, .one (.val (.sl (.pair .str (.int .i64))))), (2, .one (.ptr 0 0)), (7, .one (.val (.sl (.pair .str (.int .i64))))), (8, .one (.val (.int .i64))), (9, .one (.val (.int .i64)))], [.vars 35 [.val (.sl (.pair (.int .i64) (.pair (.sl (.int .u8)) (.int .i64)))), .val (.sl (.pair .str (.int .i64))), .val (.sl (.pair .str (.int .i64))), .val (.int .i64)]], []⟩, [(0, ⟨52, [(1, .one (.val (.sl (.pair .str (.int .i64)))))], [], []⟩)], inamesOk_L2⟩
noncomputable def T_inamesOk : Nat → Option (LoopF c_inamesOk.Res) := lk [(2, L_inamesOk_2)]
theorem s_inamesOk_2 : StepOk X_inamesOk H_inamesOk (c_inamesOk.finish X_inamesOk Tryz.f116.results.toList) T_inamesOk (loopAt Tryz.f116 0) := ⟨L_inamesOk_2, by kernel_rfl, fun O y x r => by kernel_rfl, fun O k y x r => by kernel_rfl⟩
theorem r_inamesOk (a) : fnRun X_inamesOk H_inamesOk c_inamesOk Tryz.f116 T_inamesOk a = inamesOk a := by kernel_rfl
theorem h_inamesOk [Tabs] : CtrHolds Tryz.prog 116 c_inamesOk := fn_ok (.cons h_inameOk Tryz.call151 (.cons h_iinodeAt Tryz.call66 (.cons h_ihasId Tryz.call115 .nil))) .nil (H := H_inamesOk) (tbl := T_inamesOk) Tryz.func116 (by kernel_rfl) (loops1 (by kernel_rfl) s_inamesOk_2) r_inamesOk
/-! 68 iDiskOk -/
noncomputable def iDiskOk_L3 (O : Type) : Nat → (Int × List (Int × List Int × Int) × Int × Int × List (Int × List Int × Int) × List (List UInt8 × Int) × List (List UInt8 × Int) × Int) → ((Int × List (Int × List Int × Int) × List (List UInt8 × Int) × List (List UInt8 × Int) × Int) → Option O) → (Bool → Option O) → Option O
  | 0, _, _, _ => none
  | q + 1, (sum4, v5, v6, v7, d8, d9, d10, d11), x, r => (cond (decide (v7 < v6)) (cond (decide ((0 : Int) ≤ v7) && decide (v7 < ((v5.length : Nat) : Int))) ((iin ((nth v5 v7).1, (1 : Int), (IntKind.wrap .i64 (d11 - (1 : Int))))).bind fun r12 => (cond (!r12) (r false) ((iin ((nth v5 v7).2.2, (0 : Int), (((nth v5 v7).2.1.length : Nat) : Int))).bind fun r13 => (cond (!r13) (r false) (cond (decide (v7 > (0 : Int))) (cond (decide ((0 : Int) ≤ (IntKind.wrap .i64 (v7 - (1 : Int)))) && decide ((IntKind.wrap .i64 (v7 - (1 : Int))) < ((d8.length : Nat) : Int))) (cond (decide ((nth d8 (IntKind.wrap .i64 (v7 - (1 : Int)))).1 ≥ (nth v5 v7).1)) (r false) ((ihasId (d9, (nth v5 v7).1)).bind fun r14 => (cond (!r14) ((ihasId (d10, (nth v5 v7).1)).bind fun r15 => (cond (!r15) (r false) (iDiskOk_L3 O q ((IntKind.wrap .i64 (sum4 + (((nth v5 v7).2.1.length : Nat) : Int))), v5, v6, (IntKind.wrap .i64 (v7 + (1 : Int))), d8, d9, d10, d11) x r))) (iDiskOk_L3 O q ((IntKind.wrap .i64 (sum4 + (((nth v5 v7).2.1.length : Nat) : Int))), v5, v6, (IntKind.wrap .i64 (v7 + (1 : Int))), d8, d9, d10, d11) x r)))) none) ((ihasId (d9, (nth v5 v7).1)).bind fun r16 => (cond (!r16) ((ihasId (d10, (nth v5 v7).1)).bind fun r17 => (cond (!r17) (r false) (iDiskOk_L3 O q ((IntKind.wrap .i64 (sum4 + (((nth v5 v7).2.1.length : Nat) : Int))), v5, v6, (IntKind.wrap .i64 (v7 + (1 : Int))), d8, d9, d10, d11) x r))) (iDiskOk_L3 O q ((IntKind.wrap .i64 (sum4 + (((nth v5 v7).2.1.length : Nat) : Int))), v5, v6, (IntKind.wrap .i64 (v7 + (1 : Int))), d8, d9, d10, d11) x r)))))))) none) (x (sum4, d8, d9, d10, d11)))
noncomputable def iDiskOk : (List (Int × List Int × Int) × List (List UInt8 × Int) × List (List UInt8 × Int) × Int) → Option Bool
  | (d0, d1, d2, d3) => (iDiskOk_L3 Bool fuel ((0 : Int), d0, ((d0.length : Nat) : Int), (0 : Int), d0, d1, d2, d3) (fun (sum18, d19, d20, d21, d22) => ((iin (d22, (1 : Int), (1000000 : Int))).bind fun r23 => (cond r23 (cond (decide (sum18 ≤ (60000 : Int))) ((inamesOk ((d19, d20, d21, d22), d20)).bind fun r24 => (cond r24 ((inamesOk ((d19, d20, d21, d22), d21)).bind fun r25 => (some r25)) (some false))) (some false)) (some false)))) some)
noncomputable def c_iDiskOk : Ctr := { args := [.val true (.pair (.sl (.pair (.int .i64) (.pair (.sl (.int .u8)) (.int .i64)))) (.pair (.sl (.pair .str (.int .i64))) (.pair (.sl (.pair .str (.int .i64))) (.int .i64))))], rets := [(false, [(none, .bool)])], F := iDiskOk }
noncomputable def X_iDiskOk : Ctx := XT.withΓ (lk [(114, c_iin), (115, c_ihasId), (116, c_inamesOk)]) (lk [])
noncomputable def H_iDiskOk : Hints := ⟨lk [], lk [], lk []⟩
noncomputable def L_iDiskOk_3 : LoopF c_iDiskOk.Res := ⟨⟨87, [(1, .one (.ptr 0 0)), (3, .one (.val (.int .i64))), (7, .one (.val (.sl (.pair (.int .i64) (.pair (.sl (.int .u8)) (.int .i64)))))), (8, .one (.val (.int .i64))), (9, .one (.val (.int .i64)))], [.vars 35 [.val (.sl (.pair (.int .i64) (.pair (.sl (.int .u8)) (.int .i64)))), .val (.sl (.pair .str (.int .i64))), .val (.sl (.pair .str (.int .i64))), .val (.int .i64)]], []⟩, [(0, ⟨87, [(1, .one (.ptr 0 0)), (3, .one (.val (.int .i64)))], [.vars 35 [.val (.sl (.pair (.int .i64) (.pair (.sl (.int .u8)) (.int .i64)))), .val (.sl (.pair .str (.int .i64))), .val (.sl (.pair .str (.int .i64))), .val (.int .i64)]], []⟩)], iDiskOk_L3⟩
noncomputable def T_iDiskOk : Nat → Option (LoopF c_iDiskOk.Res) := lk [(3, L_iDiskOk_3)]
theorem s_iDiskOk_3 : StepOk X_iDiskOk H_iDiskOk (c_iDiskOk.finish X_iDiskOk Tryz.f68.results.toList) T_iDiskOk (loopAt Tryz.f68 0) := ⟨L_iDiskOk_3, by kernel_rfl, fun O y x r => by kernel_rfl, fun O k y x r => by kernel_rfl⟩
theorem r_iDiskOk (a) : fnRun X_iDiskOk H_iDiskOk c_iDiskOk Tryz.f68 T_iDiskOk a = iDiskOk a := by kernel_rfl
theorem h_iDiskOk [Tabs] : CtrHolds Tryz.prog 68 c_iDiskOk := fn_ok (.cons h_iin Tryz.call114 (.cons h_ihasId Tryz.call115 (.cons h_inamesOk Tryz.call116 .nil))) .nil (H := H_iDiskOk) (tbl := T_iDiskOk) Tryz.func68 (by kernel_rfl) (loops1 (by kernel_rfl) s_iDiskOk_3) r_iDiskOk
/-! 69 icopyBytes -/
noncomputable def icopyBytes : (List Int) → Option (List Int)
  | b0 => (cond (decide (b0.length ≤ lenBound)) (some b0) none)
noncomputable def c_icopyBytes : Ctr := { args := [.val false (.sl (.int .u8))], rets := [(false, [(some 5, (.sl (.int .u8)))])], F := icopyBytes }
noncomputable def X_icopyBytes : Ctx := XT.withΓ (lk []) (lk [])
noncomputable def H_icopyBytes : Hints := ⟨lk [], lk [], lk []⟩
noncomputable def T_icopyBytes : Nat → Option (LoopF c_icopyBytes.Res) := lk []
theorem r_icopyBytes (a) : fnRun X_icopyBytes H_icopyBytes c_icopyBytes Tryz.f69 T_icopyBytes a = icopyBytes a := by kernel_rfl
theorem h_icopyBytes [Tabs] : CtrHolds Tryz.prog 69 c_icopyBytes := fn_ok .nil .nil (H := H_icopyBytes) (tbl := T_icopyBytes) Tryz.func69 (by kernel_rfl) (loops0 (by kernel_rfl)) r_icopyBytes
/-! 29 iBytes -/
noncomputable def iBytes : ((List (Int × List Int × Int) × List (List UInt8 × Int) × List (List UInt8 × Int) × Int) × List UInt8) → Option (List Int × Bool)
  | ((d0, d1, d2, d3), name4) => ((iidOf ((d0, d1, d2, d3), name4)).bind fun r5 => ((iinodeAt ((d0, d1, d2, d3), r5)).bind fun r6 => ((iDiskOk (d0, d1, d2, d3)).bind fun r7 => (cond (!r7) (some ([], false)) ((iidOf ((d0, d1, d2, d3), name4)).bind fun r8 => (cond (r8 == (0 : Int)) (some ([], false)) (cond (decide (r6 < (0 : Int))) (some ([], false)) (cond (decide ((0 : Int) ≤ r6) && decide (r6 < ((d0.length : Nat) : Int))) ((icopyBytes (nth d0 r6).2.1).bind fun r9 => (some (r9, true))) none))))))))
noncomputable def c_iBytes : Ctr := { args := [.val true (.pair (.sl (.pair (.int .i64) (.pair (.sl (.int .u8)) (.int .i64)))) (.pair (.sl (.pair .str (.int .i64))) (.pair (.sl (.pair .str (.int .i64))) (.int .i64)))), .val false .str], rets := [(false, [(some 5, (.sl (.int .u8)))]), (false, [(none, .bool)])], F := iBytes }
noncomputable def X_iBytes : Ctx := XT.withΓ (lk [(67, c_iidOf), (66, c_iinodeAt), (68, c_iDiskOk), (69, c_icopyBytes)]) (lk [])
noncomputable def H_iBytes : Hints := ⟨lk [], lk [], lk []⟩
noncomputable def T_iBytes : Nat → Option (LoopF c_iBytes.Res) := lk []
theorem r_iBytes (a) : fnRun X_iBytes H_iBytes c_iBytes Tryz.f29 T_iBytes a = iBytes a := by kernel_rfl
theorem h_iBytes [Tabs] : CtrHolds Tryz.prog 29 c_iBytes := fn_ok (.cons h_iidOf Tryz.call67 (.cons h_iinodeAt Tryz.call66 (.cons h_iDiskOk Tryz.call68 (.cons h_icopyBytes Tryz.call69 .nil)))) .nil (H := H_iBytes) (tbl := T_iBytes) Tryz.func29 (by kernel_rfl) (loops0 (by kernel_rfl)) r_iBytes
/-! 72 iunhex -/
noncomputable def iunhex_L3 (O : Type) : Nat → (List UInt8 × Int × List Int) → ((List Int) → Option O) → ((List UInt8) → Option O) → Option O
  | 0, _, _, _ => none
  | q + 1, (s1, i2, out3), x, r => (cond (decide ((IntKind.wrap .i64 (i2 + (1 : Int))) < ((s1.length : Nat) : Int))) (cond (decide ((0 : Int) ≤ i2) && decide (i2 < ((s1.length : Nat) : Int))) ((xIndexByte ([48, 49, 50, 51, 52, 53, 54, 55, 56, 57, 97, 98, 99, 100, 101, 102], (((UInt8.toNat (nth s1 i2)) : Nat) : Int))).bind fun r4 => (cond (decide ((0 : Int) ≤ (IntKind.wrap .i64 (i2 + (1 : Int)))) && decide ((IntKind.wrap .i64 (i2 + (1 : Int))) < ((s1.length : Nat) : Int))) ((xIndexByte ([48, 49, 50, 51, 52, 53, 54, 55, 56, 57, 97, 98, 99, 100, 101, 102], (((UInt8.toNat (nth s1 (IntKind.wrap .i64 (i2 + (1 : Int))))) : Nat) : Int))).bind fun r5 => (cond (decide ((out3.length + [(IntKind.wrap .u8 (bits .or .i64 (IntKind.wrap .i64 ((if ((0 : Int) > r4) then (0 : Int) else r4) * (16 : Int))) (if ((0 : Int) > r5) then (0 : Int) else r5)))].length) ≤ lenBound)) (iunhex_L3 O q (s1, (IntKind.wrap .i64 (i2 + (2 : Int))), (out3 ++ [(IntKind.wrap .u8 (bits .or .i64 (IntKind.wrap .i64 ((if ((0 : Int) > r4) then (0 : Int) else r4) * (16 : Int))) (if ((0 : Int) > r5) then (0 : Int) else r5)))])) x r) none)) none)) none) (x out3))
noncomputable def iunhex : (List UInt8) → Option (List UInt8)
  | s0 => (iunhex_L3 (List UInt8) fuel (s0, (0 : Int), []) (fun out6 => (some (strOf out6))) some)
noncomputable def c_iunhex : Ctr := { args := [.val false .str], rets := [(false, [(none, .str)])], F := iunhex }
noncomputable def X_iunhex : Ctx := XT.withΓ (lk [(120, c_xIndexByte)]) (lk [])
noncomputable def H_iunhex : Hints := ⟨lk [], lk [], lk []⟩
noncomputable def L_iunhex_3 : LoopF c_iunhex.Res := ⟨⟨31, [(0, .one (.val .str)), (3, .one (.own 0)), (4, .one (.val (.int .i64)))], [.arr 5 (.int .u8)], []⟩, [(0, ⟨31, [(3, .one (.own 0))], [.arr 5 (.int .u8)], []⟩)], iunhex_L3⟩
noncomputable def T_iunhex : Nat → Option (LoopF c_iunhex.Res) := lk [(3, L_iunhex_3)]
theorem s_iunhex_3 : StepOk X_iunhex H_iunhex (c_iunhex.finish X_iunhex Tryz.f72.results.toList) T_iunhex (loopAt Tryz.f72 0) := ⟨L_iunhex_3, by kernel_rfl, fun O y x r => by kernel_rfl, fun O k y x r => by kernel_rfl⟩
theorem r_iunhex (a) : fnRun X_iunhex H_iunhex c_iunhex Tryz.f72 T_iunhex a = iunhex a := by kernel_rfl
theorem h_iunhex [TabsD] : CtrHolds Tryz.prog 72 c_iunhex := fn_ok (.cons h_xIndexByte Tryz.call120 .nil) .nil (H := H_iunhex) (tbl := T_iunhex) Tryz.func72 (by kernel_rfl) (loops1 (by kernel_rfl) s_iunhex_3) r_iunhex
/-! 175 ikeyOk -/
noncomputable def ikeyOk : (List UInt8) → Option Bool
  | s0 => ((iin (((s0.length : Nat) : Int), (1 : Int), (20 : Int))).bind fun r1 => (some r1))
noncomputable def c_ikeyOk : Ctr := { args := [.val false .str], rets := [(false, [(none, .bool)])], F := ikeyOk }
noncomputable def X_ikeyOk : Ctx := XT.withΓ (lk [(114, c_iin)]) (lk [])
noncomputable def H_ikeyOk : Hints := ⟨lk [], lk [], lk []⟩
noncomputable def T_ikeyOk : Nat → Option (LoopF c_ikeyOk.Res) := lk []
theorem r_ikeyOk (a) : fnRun X_ikeyOk H_ikeyOk c_ikeyOk Tryz.f175 T_ikeyOk a = ikeyOk a := by kernel_rfl
theorem h_ikeyOk [Tabs] : CtrHolds Tryz.prog 175 c_ikeyOk := fn_ok (.cons h_iin Tryz.call114 .nil) .nil (H := H_ikeyOk) (tbl := T_ikeyOk) Tryz.func175 (by kernel_rfl) (loops0 (by kernel_rfl)) r_ikeyOk
/-! 139 imetaOk -/
noncomputable def imetaOk : ((Int × Int × List (Int × Int × List UInt8 × List UInt8)) × Int × Int × List UInt8 × List UInt8) → Option Bool
  | ((m0, m1, m2), x3, x4, x5, x6) => ((iin (x3, (1 : Int), (IntKind.wrap .i64 (m0 - (1 : Int))))).bind fun r7 => (cond r7 ((iin (x4, (0 : Int), (3 : Int))).bind fun r8 => (cond r8 ((ikeyOk x5).bind fun r9 => (cond r9 ((ikeyOk x6).bind fun r10 => (cond r10 (some ((Op.bytesLess x5 x6) || (x5 == x6))) (some false))) (some false))) (some false))) (some false)))
noncomputable def c_imetaOk : Ctr := { args := [.val true (.pair (.int .i64) (.pair (.int .i64) (.sl (.pair (.int .i64) (.pair (.int .i64) (.pair .str .str)))))), .val true (.pair (.int .i64) (.pair (.int .i64) (.pair .str .str)))], rets := [(false, [(none, .bool)])], F := imetaOk }
noncomputable def X_imetaOk : Ctx := XT.withΓ (lk [(114, c_iin), (175, c_ikeyOk)]) (lk [])
noncomputable def H_imetaOk : Hints := ⟨lk [], lk [], lk []⟩
noncomputable def T_imetaOk : Nat → Option (LoopF c_imetaOk.Res) := lk []
theorem r_imetaOk (a) : fnRun X_imetaOk H_imetaOk c_imetaOk Tryz.f139 T_imetaOk a = imetaOk a := by kernel_rfl
theorem h_imetaOk [Tabs] : CtrHolds Tryz.prog 139 c_imetaOk := fn_ok (.cons h_iin Tryz.call114 (.cons h_ikeyOk Tryz.call175 .nil)) .nil (H := H_imetaOk) (tbl := T_imetaOk) Tryz.func139 (by kernel_rfl) (loops0 (by kernel_rfl)) r_imetaOk
/-! 140 imeets -/
noncomputable def imeets : ((Int × Int × List UInt8 × List UInt8) × List UInt8 × List UInt8) → Option Bool
  | ((x0, x1, x2, x3), lo4, hi5) => (cond ((Op.bytesLess x2 hi5) || (x2 == hi5)) (some ((Op.bytesLess lo4 x3) || (lo4 == x3))) (some false))
noncomputable def c_imeets : Ctr := { args := [.val true (.pair (.int .i64) (.pair (.int .i64) (.pair .str .str))), .val false .str, .val false .str], rets := [(false, [(none, .bool)])], F := imeets }
noncomputable def X_imeets : Ctx := XT.withΓ (lk []) (lk [])
noncomputable def H_imeets : Hints := ⟨lk [], lk [], lk []⟩
noncomputable def T_imeets : Nat → Option (LoopF c_imeets.Res) := lk []
theorem r_imeets (a) : fnRun X_imeets H_imeets c_imeets Tryz.f140 T_imeets a = imeets a := by kernel_rfl
theorem h_imeets [Tabs] : CtrHolds Tryz.prog 140 c_imeets := fn_ok .nil .nil (H := H_imeets) (tbl := T_imeets) Tryz.func140 (by kernel_rfl) (loops0 (by kernel_rfl)) r_imeets
/-! 95 iManOk -/
noncomputable def iManOk_L7 (O : Type) : Nat → (List (Int × Int × List UInt8 × List UInt8) × Int × Int × Int × Bool × Bool × Bool × List (Int × Int × List UInt8 × List UInt8) × Int × Int × Int × Int × List (Int × Int × List UInt8 × List UInt8) × Int × Int × List UInt8 × List UInt8) → ((List (Int × Int × List UInt8 × List UInt8) × Int × Int × Int × Bool × Bool × Bool × Int × Int × List (Int × Int × List UInt8 × List UInt8)) → Option O) → (Bool → Option O) → Option O
  | 0, _, _, _ => none
  | q + 1, (v25, v26, v27, v28, v29, v30, v31, v32, v33, v34, m35, m36, m37, x38, x39, x40, x41), x, r => (cond (decide (v34 < v33)) (cond (decide ((0 : Int) ≤ v34) && decide (v34 < ((v32.length : Nat) : Int))) (cond (decide (x39 > (0 : Int))) (cond (x39 == (nth v32 v34).2.1) ((imeets ((x38, x39, x40, x41), (nth v32 v34).2.2.1, (nth v32 v34).2.2.2)).bind fun r42 => (cond r42 (r false) (iManOk_L7 O q (v25, v26, v27, v28, v29, v30, v31, v32, v33, (IntKind.wrap .i64 (v34 + (1 : Int))), m35, m36, m37, x38, x39, x40, x41) x r))) (iManOk_L7 O q (v25, v26, v27, v28, v29, v30, v31, v32, v33, (IntKind.wrap .i64 (v34 + (1 : Int))), m35, m36, m37, x38, x39, x40, x41) x r)) (iManOk_L7 O q (v25, v26, v27, v28, v29, v30, v31, v32, v33, (IntKind.wrap .i64 (v34 + (1 : Int))), m35, m36, m37, x38, x39, x40, x41) x r)) none) (x (v25, v26, v27, v28, v29, v30, v31, m35, m36, m37)))
noncomputable def iManOk_L2 (O : Type) : Nat → (List (Int × Int × List UInt8 × List UInt8) × Int × Int × Int × Int × List (Int × Int × List UInt8 × List UInt8)) → ((Int × Int × List (Int × Int × List UInt8 × List UInt8)) → Option O) → (Bool → Option O) → Option O
  | 0, _, _, _ => none
  | q + 1, (v3, v4, v5, m6, m7, m8), x, r => (cond (decide (v5 < v4)) (cond (decide ((0 : Int) ≤ v5) && decide (v5 < ((v3.length : Nat) : Int))) ((((imetaOk ((m6, m7, m8), (nth v3 v5).1, (nth v3 v5).2.1, (nth v3 v5).2.2.1, (nth v3 v5).2.2.2)).bind fun r9 => (cond (!r9) ((r false).map Sum.inr) (cond (decide (v5 > (0 : Int))) (cond (decide ((0 : Int) ≤ (IntKind.wrap .i64 (v5 - (1 : Int)))) && decide ((IntKind.wrap .i64 (v5 - (1 : Int))) < ((m8.length : Nat) : Int))) (cond (decide ((nth m8 (IntKind.wrap .i64 (v5 - (1 : Int)))).1 ≥ (nth v3 v5).1)) ((r false).map Sum.inr) (some (Sum.inl (v5, v3, v4, v5, v5, decide (v5 > (0 : Int)), true, decide ((nth m8 (IntKind.wrap .i64 (v5 - (1 : Int)))).1 ≥ (nth v3 v5).1), m6, m7, m8, (nth v3 v5).1, (nth v3 v5).2.1, (nth v3 v5).2.2.1, (nth v3 v5).2.2.2)))) none) (some (Sum.inl (v5, v3, v4, v5, v5, decide (v5 > (0 : Int)), false, false, m6, m7, m8, (nth v3 v5).1, (nth v3 v5).2.1, (nth v3 v5).2.2.1, (nth v3 v5).2.2.2)))))) : Option ((Int × List (Int × Int × List UInt8 × List UInt8) × Int × Int × Int × Bool × Bool × Bool × Int × Int × List (Int × Int × List UInt8 × List UInt8) × Int × Int × List UInt8 × List UInt8) ⊕ O)).bind fun z => match z with | .inl (i10, v11, v12, v13, v14, v15, v16, v17, m18, m19, m20, x21, x22, x23, x24) => (cond (decide ((0 : Int) ≤ i10) && decide (i10 ≤ ((m20.length : Nat) : Int))) (iManOk_L7 O fuel (v11, v12, v13, v14, v15, v16, v17, (cut m20 (0 : Int) i10), (((cut m20 (0 : Int) i10).length : Nat) : Int), (0 : Int), m18, m19, m20, x21, x22, x23, x24) (fun (v43, v44, v45, v46, v47, v48, v49, m50, m51, m52) => (iManOk_L2 O q (v43, v44, (IntKind.wrap .i64 (v45 + (1 : Int))), m50, m51, m52) x r)) r) none) | .inr o => some o) none) (x (m6, m7, m8)))
noncomputable def iManOk : (Int × Int × List (Int × Int × List UInt8 × List UInt8)) → Option Bool
  | (m0, m1, m2) => (iManOk_L2 Bool fuel (m2, ((m2.length : Nat) : Int), (0 : Int), m0, m1, m2) (fun (m53, m54, m55) => ((iin (m53, (1 : Int), (100000 : Int))).bind fun r56 => (cond r56 ((iin (m54, (0 : Int), (IntKind.wrap .i64 (m53 - (1 : Int))))).bind fun r57 => (cond r57 (some (decide (((m55.length : Nat) : Int) ≤ (20 : Int)))) (some false))) (some false)))) some)
noncomputable def c_iManOk : Ctr := { args := [.val true (.pair (.int .i64) (.pair (.int .i64) (.sl (.pair (.int .i64) (.pair (.int .i64) (.pair .str .str))))))], rets := [(false, [(none, .bool)])], F := iManOk }
noncomputable def X_iManOk : Ctx := XT.withΓ (lk [(139, c_imetaOk), (140, c_imeets), (114, c_iin)]) (lk [])
noncomputable def H_iManOk : Hints := ⟨lk [], lk [(6, ⟨81, [(1, .one (.ptr 0 0)), (3, .one (.val (.int .i64))), (4, .one (.ptr 1 0)), (8, .one (.val (.sl (.pair (.int .i64) (.pair (.int .i64) (.pair .str .str)))))), (9, .one (.val (.int .i64))), (10, .one (.val (.int .i64))), (20, .one (.val (.int .i64))), (21, .one (.val .bool)), (22, .one (.val .bool)), (33, .one (.val .bool))], [.vars 29 [.val (.int .i64), .val (.int .i64), .val (.sl (.pair (.int .i64) (.pair (.int .i64) (.pair .str .str))))], .vars 88 [.val (.int .i64), .val (.int .i64), .val .str, .val .str]], []⟩)], lk []⟩
noncomputable def L_iManOk_2 : LoopF c_iManOk.Res := ⟨⟨81, [(1, .one (.ptr 0 0)), (8, .one (.val (.sl (.pair (.int .i64) (.pair (.int .i64) (.pair .str .str)))))), (9, .one (.val (.int .i64))), (10, .one (.val (.int .i64)))], [.vars 29 [.val (.int .i64), .val (.int .i64), .val (.sl (.pair (.int .i64) (.pair (.int .i64) (.pair .str .str))))]], []⟩, [(0, ⟨81, [(1, .one (.ptr 0 0))], [.vars 29 [.val (.int .i64), .val (.int .i64), .val (.sl (.pair (.int .i64) (.pair (.int .i64) (.pair .str .str))))]], []⟩)], iManOk_L2⟩
noncomputable def L_iManOk_7 : LoopF c_iManOk.Res := ⟨⟨81, [(1, .one (.ptr 0 0)), (4, .one (.ptr 1 0)), (8, .one (.val (.sl (.pair (.int .i64) (.pair (.int .i64) (.pair .str .str)))))), (9, .one (.val (.int .i64))), (10, .one (.val (.int .i64))), (20, .one (.val (.int .i64))), (21, .one (.val .bool)), (22, .one (.val .bool)), (33, .one (.val .bool)), (38, .one (.val (.sl (.pair (.int .i64) (.pair (.int .i64) (.pair .str .str)))))), (39, .one (.val (.int .i64))), (40, .one (.val (.int .i64)))], [.vars 29 [.val (.int .i64), .val (.int .i64), .val (.sl (.pair (.int .i64) (.pair (.int .i64) (.pair .str .str))))], .vars 88 [.val (.int .i64), .val (.int .i64), .val .str, .val .str]], []⟩, [(2, ⟨81, [(1, .one (.ptr 0 0)), (8, .one (.val (.sl (.pair (.int .i64) (.pair (.int .i64) (.pair .str .str)))))), (9, .one (.val (.int .i64))), (10, .one (.val (.int .i64))), (20, .one (.val (.int .i64))), (21, .one (.val .bool)), (22, .one (.val .bool)), (33, .one (.val .bool))], [.vars 29 [.val (.int .i64), .val (.int .i64), .val (.sl (.pair (.int .i64) (.pair (.int .i64) (.pair .str .str))))]], []⟩)], iManOk_L7⟩
noncomputable def T_iManOk : Nat → Option (LoopF c_iManOk.Res) := lk [(2, L_iManOk_2), (7, L_iManOk_7)]
theorem s_iManOk_2 : StepOk X_iManOk H_iManOk (c_iManOk.finish X_iManOk Tryz.f95.results.toList) T_iManOk (loopAt Tryz.f95 0) := ⟨L_iManOk_2, by kernel_rfl, fun O y x r => by kernel_rfl, fun O k y x r => by kernel_rfl⟩
theorem s_iManOk_7 : StepOk X_iManOk H_iManOk (c_iManOk.finish X_iManOk Tryz.f95.results.toList) T_iManOk (loopAt Tryz.f95 1) := ⟨L_iManOk_7, by kernel_rfl, fun O y x r => by kernel_rfl, fun O k y x r => by kernel_rfl⟩
theorem r_iManOk (a) : fnRun X_iManOk H_iManOk c_iManOk Tryz.f95 T_iManOk a = iManOk a := by kernel_rfl
theorem h_iManOk [Tabs] : CtrHolds Tryz.prog 95 c_iManOk := fn_ok (.cons h_imetaOk Tryz.call139 (.cons h_imeets Tryz.call140 (.cons h_iin Tryz.call114 .nil))) .nil (H := H_iManOk) (tbl := T_iManOk) Tryz.func95 (by kernel_rfl) (loops2 (by kernel_rfl) s_iManOk_2 s_iManOk_7) r_iManOk
/-! 122 ihex -/
noncomputable def ihex_L3 (O : Type) : Nat → (List UInt8 × Int × List Int) → ((List Int) → Option O) → ((List UInt8) → Option O) → Option O
  | 0, _, _, _ => none
  | q + 1, (s1, i2, out3), x, r => (cond (decide (i2 < ((s1.length : Nat) : Int))) (cond (decide ((0 : Int) ≤ i2) && decide (i2 < ((s1.length : Nat) : Int))) (cond (decide ((0 : Int) ≤ (Int.fdiv (((UInt8.toNat (nth s1 i2)) : Nat) : Int) (16 : Int))) && decide ((Int.fdiv (((UInt8.toNat (nth s1 i2)) : Nat) : Int) (16 : Int)) < (16 : Int))) (cond (decide ((0 : Int) ≤ i2) && decide (i2 < ((s1.length : Nat) : Int))) (cond (decide ((0 : Int) ≤ (bits .and .u8 (((UInt8.toNat (nth s1 i2)) : Nat) : Int) (15 : Int))) && decide ((bits .and .u8 (((UInt8.toNat (nth s1 i2)) : Nat) : Int) (15 : Int)) < (16 : Int))) (cond (decide ((out3.length + [(((UInt8.toNat (nth [48, 49, 50, 51, 52, 53, 54, 55, 56, 57, 97, 98, 99, 100, 101, 102] (Int.fdiv (((UInt8.toNat (nth s1 i2)) : Nat) : Int) (16 : Int)))) : Nat) : Int), (((UInt8.toNat (nth [48, 49, 50, 51, 52, 53, 54, 55, 56, 57, 97, 98, 99, 100, 101, 102] (bits .and .u8 (((UInt8.toNat (nth s1 i2)) : Nat) : Int) (15 : Int)))) : Nat) : Int)].length) ≤ lenBound)) (ihex_L3 O q (s1, (IntKind.wrap .i64 (i2 + (1 : Int))), (out3 ++ [(((UInt8.toNat (nth [48, 49, 50, 51, 52, 53, 54, 55, 56, 57, 97, 98, 99, 100, 101, 102] (Int.fdiv (((UInt8.toNat (nth s1 i2)) : Nat) : Int) (16 : Int)))) : Nat) : Int), (((UInt8.toNat (nth [48, 49, 50, 51, 52, 53, 54, 55, 56, 57, 97, 98, 99, 100, 101, 102] (bits .and .u8 (((UInt8.toNat (nth s1 i2)) : Nat) : Int) (15 : Int)))) : Nat) : Int)])) x r) none) none) none) none) none) (x out3))
noncomputable def ihex : (List UInt8) → Option (List UInt8)
  | s0 => (ihex_L3 (List UInt8) fuel (s0, (0 : Int), []) (fun out4 => (some (strOf out4))) some)
noncomputable def c_ihex : Ctr := { args := [.val false .str], rets := [(false, [(none, .str)])], F := ihex }
noncomputable def X_ihex : Ctx := XT.withΓ (lk []) (lk [])
noncomputable def H_ihex : Hints := ⟨lk [], lk [], lk []⟩
noncomputable def L_ihex_3 : LoopF c_ihex.Res := ⟨⟨26, [(0, .one (.val .str)), (3, .one (.own 0)), (4, .one (.val (.int .i64)))], [.arr 5 (.int .u8)], []⟩, [(0, ⟨26, [(3, .one (.own 0))], [.arr 5 (.int .u8)], []⟩)], ihex_L3⟩
noncomputable def T_ihex : Nat → Option (LoopF c_ihex.Res) := lk [(3, L_ihex_3)]
theorem s_ihex_3 : StepOk X_ihex H_ihex (c_ihex.finish X_ihex Tryz.f122.results.toList) T_ihex (loopAt Tryz.f122 0) := ⟨L_ihex_3, by kernel_rfl, fun O y x r => by kernel_rfl, fun O k y x r => by kernel_rfl⟩
theorem r_ihex (a) : fnRun X_ihex H_ihex c_ihex Tryz.f122 T_ihex a = ihex a := by kernel_rfl
theorem h_ihex [Tabs] : CtrHolds Tryz.prog 122 c_ihex := fn_ok .nil .nil (H := H_ihex) (tbl := T_ihex) Tryz.func122 (by kernel_rfl) (loops1 (by kernel_rfl) s_ihex_3) r_ihex
/-! 73 iManText -/
noncomputable def iManText_L5 (O : Type) : Nat → (List UInt8 × List (Int × Int × List UInt8 × List UInt8) × Int × Int) → ((List UInt8) → Option O) → ((List UInt8) → Option O) → Option O
  | 0, _, _, _ => none
  | q + 1, (out6, v7, v8, v9), x, r => (cond (decide (v9 < v8)) (cond (decide ((0 : Int) ≤ v9) && decide (v9 < ((v7.length : Nat) : Int))) ((xItoa (nth v7 v9).1).bind fun r10 => (cond (decide ((4 + r10.length) ≤ lenBound)) (cond (decide ((([116, 97, 98, 32] ++ r10).length + 1) ≤ lenBound)) ((xItoa (nth v7 v9).2.1).bind fun r11 => (cond (decide (((([116, 97, 98, 32] ++ r10) ++ [32]).length + r11.length) ≤ lenBound)) (cond (decide ((((([116, 97, 98, 32] ++ r10) ++ [32]) ++ r11).length + 1) ≤ lenBound)) ((ihex (nth v7 v9).2.2.1).bind fun r12 => (cond (decide (((((([116, 97, 98, 32] ++ r10) ++ [32]) ++ r11) ++ [32]).length + r12.length) ≤ lenBound)) (cond (decide ((((((([116, 97, 98, 32] ++ r10) ++ [32]) ++ r11) ++ [32]) ++ r12).length + 1) ≤ lenBound)) ((ihex (nth v7 v9).2.2.2).bind fun r13 => (cond (decide (((((((([116, 97, 98, 32] ++ r10) ++ [32]) ++ r11) ++ [32]) ++ r12) ++ [32]).length + r13.length) ≤ lenBound)) (cond (decide ((((((((([116, 97, 98, 32] ++ r10) ++ [32]) ++ r11) ++ [32]) ++ r12) ++ [32]) ++ r13).length + 1) ≤ lenBound)) (cond (decide ((out6.length + (((((((([116, 97, 98, 32] ++ r10) ++ [32]) ++ r11) ++ [32]) ++ r12) ++ [32]) ++ r13) ++ [10]).length) ≤ lenBound)) (iManText_L5 O q ((out6 ++ (((((((([116, 97, 98, 32] ++ r10) ++ [32]) ++ r11) ++ [32]) ++ r12) ++ [32]) ++ r13) ++ [10])), v7, v8, (IntKind.wrap .i64 (v9 + (1 : Int)))) x r) none) none) none)) none) none)) none) none)) none) none)) none) (x out6))
noncomputable def iManText : (Int × Int × List (Int × Int × List UInt8 × List UInt8)) → Option (List UInt8)
  | (m0, m1, m2) => ((iManOk (m0, m1, m2)).bind fun r3 => (cond (!r3) (some []) ((xItoa m0).bind fun r4 => (cond (decide ((5 + r4.length) ≤ lenBound)) (cond (decide ((([110, 101, 120, 116, 32] ++ r4).length + 5) ≤ lenBound)) ((xItoa m1).bind fun r5 => (cond (decide (((([110, 101, 120, 116, 32] ++ r4) ++ [32, 108, 111, 103, 32]).length + r5.length) ≤ lenBound)) (cond (decide ((((([110, 101, 120, 116, 32] ++ r4) ++ [32, 108, 111, 103, 32]) ++ r5).length + 1) ≤ lenBound)) (iManText_L5 (List UInt8) fuel ((((([110, 101, 120, 116, 32] ++ r4) ++ [32, 108, 111, 103, 32]) ++ r5) ++ [10]), m2, ((m2.length : Nat) : Int), (0 : Int)) (fun out14 => (cond (decide ((out14.length + 4) ≤ lenBound)) (some (out14 ++ [101, 110, 100, 10])) none)) some) none) none)) none) none))))
noncomputable def c_iManText : Ctr := { args := [.val true (.pair (.int .i64) (.pair (.int .i64) (.sl (.pair (.int .i64) (.pair (.int .i64) (.pair .str .str))))))], rets := [(false, [(none, .str)])], F := iManText }
noncomputable def X_iManText : Ctx := XT.withΓ (lk [(95, c_iManOk), (121, c_xItoa), (122, c_ihex)]) (lk [])
noncomputable def H_iManText : Hints := ⟨lk [], lk [], lk []⟩
noncomputable def L_iManText_5 : LoopF c_iManText.Res := ⟨⟨51, [(3, .one (.val .str)), (20, .one (.val (.sl (.pair (.int .i64) (.pair (.int .i64) (.pair .str .str)))))), (21, .one (.val (.int .i64))), (22, .one (.val (.int .i64)))], [], []⟩, [(0, ⟨51, [(3, .one (.val .str))], [], []⟩)], iManText_L5⟩
noncomputable def T_iManText : Nat → Option (LoopF c_iManText.Res) := lk [(5, L_iManText_5)]
theorem s_iManText_5 : StepOk X_iManText H_iManText (c_iManText.finish X_iManText Tryz.f73.results.toList) T_iManText (loopAt Tryz.f73 0) := ⟨L_iManText_5, by kernel_rfl, fun O y x r => by kernel_rfl, fun O k y x r => by kernel_rfl⟩
theorem r_iManText (a) : fnRun X_iManText H_iManText c_iManText Tryz.f73 T_iManText a = iManText a := by kernel_rfl
theorem h_iManText [TabsD] : CtrHolds Tryz.prog 73 c_iManText := fn_ok (.cons h_iManOk Tryz.call95 (.cons h_xItoa Tryz.call121 (.cons h_ihex Tryz.call122 .nil))) .nil (H := H_iManText) (tbl := T_iManText) Tryz.func73 (by kernel_rfl) (loops1 (by kernel_rfl) s_iManText_5) r_iManText
/-! 30 iParseMan -/
noncomputable def iParseMan_L3 (O : Type) : Nat → (List UInt8 × Int × Int × Int × Int × Int × Int × List (List UInt8) × List (Int × Int × List UInt8 × List UInt8)) → ((List UInt8 × Int × Int × Int × Int × List (Int × Int × List UInt8 × List UInt8)) → Option O) → (((Int × Int × List (Int × Int × List UInt8 × List UInt8)) × Bool) → Option O) → Option O
  | 0, _, _, _ => none
  | q + 1, (s2, v3, v4, v5, v6, m7, m8, v9, m10), x, r => (cond (decide (v4 < v3)) (cond (decide ((0 : Int) ≤ v4) && decide (v4 < ((v9.length : Nat) : Int))) ((xSplit ((nth v9 v4), [32])).bind fun r11 => ((cond (v4 == (0 : Int)) (some (s2, v3, v4, (((r11.length : Nat) : Int) == (4 : Int)), v5, v6, m7, m8, r11, v9, m10)) (some (s2, v3, v4, false, v5, v6, m7, m8, r11, v9, m10))).bind fun (s12, v13, v14, v15, v16, v17, m18, m19, p20, v21, m22) => (cond v15 (cond (decide ((1 : Int) < ((p20.length : Nat) : Int))) ((xAtoi (List.getD p20 1 [])).bind fun (r23, _) => (cond (decide ((3 : Int) < ((p20.length : Nat) : Int))) ((xAtoi (List.getD p20 3 [])).bind fun (r24, _) => (iParseMan_L3 O q (s12, v13, (IntKind.wrap .i64 (v14 + (1 : Int))), v16, v17, r23, r24, v21, m22) x r)) none)) none) ((cond (((p20.length : Nat) : Int) == (5 : Int)) (some (s12, v13, v14, decide (((m22.length : Nat) : Int) ≤ (20 : Int)), v16, v17, m18, m19, p20, v21, m22)) (some (s12, v13, v14, false, v16, v17, m18, m19, p20, v21, m22))).bind fun (s25, v26, v27, v28, v29, v30, m31, m32, p33, v34, m35) => (cond v28 (cond (decide ((1 : Int) < ((p33.length : Nat) : Int))) ((xAtoi (List.getD p33 1 [])).bind fun (r36, _) => (cond (decide ((2 : Int) < ((p33.length : Nat) : Int))) ((xAtoi (List.getD p33 2 [])).bind fun (r37, _) => (cond (decide ((3 : Int) < ((p33.length : Nat) : Int))) ((iunhex (List.getD p33 3 [])).bind fun r38 => (cond (decide ((4 : Int) < ((p33.length : Nat) : Int))) ((iunhex (List.getD p33 4 [])).bind fun r39 => (cond (decide ((m35.length + [(r36, r37, r38, r39)].length) ≤ lenBound)) (iParseMan_L3 O q (s25, v26, (IntKind.wrap .i64 (v27 + (1 : Int))), v29, v30, m31, m32, v34, (m35 ++ [(r36, r37, r38, r39)])) x r) none)) none)) none)) none)) none) (iParseMan_L3 O q (s25, v26, (IntKind.wrap .i64 (v27 + (1 : Int))), v29, v30, m31, m32, v34, m35) x r)))))) none) (x (s2, v5, v6, m7, m8, m10)))
noncomputable def iParseMan : (List UInt8) → Option ((Int × Int × List (Int × Int × List UInt8 × List UInt8)) × Bool)
  | s0 => ((xSplit (s0, [10])).bind fun r1 => (iParseMan_L3 ((Int × Int × List (Int × Int × List UInt8 × List UInt8)) × Bool) fuel (s0, ((r1.length : Nat) : Int), (0 : Int), (0 : Int), (0 : Int), (0 : Int), (0 : Int), r1, []) (fun (s40, v41, v42, m43, m44, m45) => ((iManText (m43, m44, m45)).bind fun r46 => (cond (r46 == []) (some (((0 : Int), (0 : Int), []), false)) (cond (!(r46 == s40)) (some (((0 : Int), (0 : Int), []), false)) (some ((m43, m44, m45), true)))))) some))
noncomputable def c_iParseMan : Ctr := { args := [.val false .str], rets := [(true, [(none, (.int .i64)), (none, (.int .i64)), (some 88, (.sl (.pair (.int .i64) (.pair (.int .i64) (.pair .str .str)))))]), (false, [(none, .bool)])], F := iParseMan }
noncomputable def X_iParseMan : Ctx := XT.withΓ (lk [(70, c_xSplit), (71, c_xAtoi), (72, c_iunhex), (73, c_iManText)]) (lk [])
noncomputable def H_iParseMan : Hints := ⟨lk [(7, ⟨99, [(0, .one (.val .str)), (2, .one (.ptr 0 0)), (4, .one (.ptr 1 0)), (7, .one (.own 2)), (14, .one (.own 3)), (15, .one (.val (.int .i64))), (16, .one (.val (.int .i64))), (23, .one (.val .bool))], [.vars 29 [.val (.int .i64), .val (.int .i64), .nils], .vars 29 [.val (.int .i64), .val (.int .i64), .own 4], .arr 9 .str, .arr 9 .str, .arr 88 (.pair (.int .i64) (.pair (.int .i64) (.pair .str .str)))], []⟩), (10, ⟨99, [(0, .one (.val .str)), (2, .one (.ptr 0 0)), (4, .one (.ptr 1 0)), (7, .one (.own 2)), (14, .one (.own 3)), (15, .one (.val (.int .i64))), (16, .one (.val (.int .i64))), (47, .one (.val .bool))], [.vars 29 [.val (.int .i64), .val (.int .i64), .nils], .vars 29 [.val (.int .i64), .val (.int .i64), .own 4], .arr 9 .str, .arr 9 .str, .arr 88 (.pair (.int .i64) (.pair (.int .i64) (.pair .str .str)))], []⟩)], lk [], lk []⟩
noncomputable def L_iParseMan_3 : LoopF c_iParseMan.Res := ⟨⟨99, [(0, .one (.val .str)), (2, .one (.ptr 0 0)), (4, .one (.ptr 1 0)), (14, .one (.own 2)), (15, .one (.val (.int .i64))), (16, .one (.val (.int .i64)))], [.vars 29 [.val (.int .i64), .val (.int .i64), .nils], .vars 29 [.val (.int .i64), .val (.int .i64), .own 3], .arr 9 .str, .arr 88 (.pair (.int .i64) (.pair (.int .i64) (.pair .str .str)))], []⟩, [(0, ⟨99, [(0, .one (.val .str)), (2, .one (.ptr 0 0)), (4, .one (.ptr 1 0))], [.vars 29 [.val (.int .i64), .val (.int .i64), .nils], .vars 29 [.val (.int .i64), .val (.int .i64), .own 2], .arr 88 (.pair (.int .i64) (.pair (.int .i64) (.pair .str .str)))], []⟩)], iParseMan_L3⟩
noncomputable def T_iParseMan : Nat → Option (LoopF c_iParseMan.Res) := lk [(3, L_iParseMan_3)]
theorem s_iParseMan_3 : StepOk X_iParseMan H_iParseMan (c_iParseMan.finish X_iParseMan Tryz.f30.results.toList) T_iParseMan (loopAt Tryz.f30 0) := ⟨L_iParseMan_3, by kernel_rfl, fun O y x r => by kernel_rfl, fun O k y x r => by kernel_rfl⟩
theorem r_iParseMan (a) : fnRun X_iParseMan H_iParseMan c_iParseMan Tryz.f30 T_iParseMan a = iParseMan a := by kernel_rfl
theorem h_iParseMan [TabsD] : CtrHolds Tryz.prog 30 c_iParseMan := fn_ok (.cons h_xSplit Tryz.call70 (.cons h_xAtoi Tryz.call71 (.cons h_iunhex Tryz.call72 (.cons h_iManText Tryz.call73 .nil)))) .nil (H := H_iParseMan) (tbl := T_iParseMan) Tryz.func30 (by kernel_rfl) (loops1 (by kernel_rfl) s_iParseMan_3) r_iParseMan
/-! 8 iCurrent -/
noncomputable def iCurrent : (List (Int × List Int × Int) × List (List UInt8 × Int) × List (List UInt8 × Int) × Int) → Option ((Int × Int × List (Int × Int × List UInt8 × List UInt8)) × Bool)
  | (d0, d1, d2, d3) => ((iBytes ((d0, d1, d2, d3), [99, 117, 114])).bind fun (r4, r5) => (cond (!r5) (some (((0 : Int), (0 : Int), []), false)) ((iParseMan (strOf r4)).bind fun ((r6, r7, r8), r9) => (some ((r6, r7, r8), r9)))))
noncomputable def c_iCurrent : Ctr := { args := [.val true (.pair (.sl (.pair (.int .i64) (.pair (.sl (.int .u8)) (.int .i64)))) (.pair (.sl (.pair .str (.int .i64))) (.pair (.sl (.pair .str (.int .i64))) (.int .i64))))], rets := [(true, [(none, (.int .i64)), (none, (.int .i64)), (some 88, (.sl (.pair (.int .i64) (.pair (.int .i64) (.pair .str .str)))))]), (false, [(none, .bool)])], F := iCurrent }
noncomputable def X_iCurrent : Ctx := XT.withΓ (lk [(29, c_iBytes), (30, c_iParseMan)]) (lk [])
noncomputable def H_iCurrent : Hints := ⟨lk [], lk [], lk []⟩
noncomputable def T_iCurrent : Nat → Option (LoopF c_iCurrent.Res) := lk []
theorem r_iCurrent (a) : fnRun X_iCurrent H_iCurrent c_iCurrent Tryz.f8 T_iCurrent a = iCurrent a := by kernel_rfl
theorem h_iCurrent [TabsD] : CtrHolds Tryz.prog 8 c_iCurrent := fn_ok (.cons h_iBytes Tryz.call29 (.cons h_iParseMan Tryz.call30 .nil)) .nil (H := H_iCurrent) (tbl := T_iCurrent) Tryz.func8 (by kernel_rfl) (loops0 (by kernel_rfl)) r_iCurrent
/-! 74 leqMeta -/
noncomputable def leqMeta : ((Int × Int × List UInt8 × List UInt8) × Int × Int × List UInt8 × List UInt8) → Option Bool
  | ((a0, a1, a2, a3), b4, b5, b6, b7) => (cond (a0 != b4) (some false) (cond (a1 != b5) (some false) (cond (!(a2 == b6)) (some false) (cond (!(a3 == b7)) (some false) (some true)))))
noncomputable def c_leqMeta : Ctr := { args := [.val true (.pair (.int .i64) (.pair (.int .i64) (.pair .str .str))), .val true (.pair (.int .i64) (.pair (.int .i64) (.pair .str .str)))], rets := [(false, [(none, .bool)])], F := leqMeta }
noncomputable def X_leqMeta : Ctx := XT.withΓ (lk []) (lk [])
noncomputable def H_leqMeta : Hints := ⟨lk [], lk [], lk []⟩
noncomputable def T_leqMeta : Nat → Option (LoopF c_leqMeta.Res) := lk []
theorem r_leqMeta (a) : fnRun X_leqMeta H_leqMeta c_leqMeta Tryz.f74 T_leqMeta a = leqMeta a := by kernel_rfl
theorem h_leqMeta [Tabs] : CtrHolds Tryz.prog 74 c_leqMeta := fn_ok .nil .nil (H := H_leqMeta) (tbl := T_leqMeta) Tryz.func74 (by kernel_rfl) (loops0 (by kernel_rfl)) r_leqMeta
/-! 31 leqMetaS -/
noncomputable def leqMetaS_L4 (O : Type) : Nat → (List (Int × Int × List UInt8 × List UInt8) × List (Int × Int × List UInt8 × List UInt8) × Int) → (Unit → Option O) → (Bool → Option O) → Option O
  | 0, _, _, _ => none
  | q + 1, (a2, b3, i4), x, r => (cond (decide (i4 < ((a2.length : Nat) : Int))) (cond (decide ((0 : Int) ≤ i4) && decide (i4 < ((a2.length : Nat) : Int))) (cond (decide ((0 : Int) ≤ i4) && decide (i4 < ((b3.length : Nat) : Int))) ((leqMeta (((nth a2 i4).1, (nth a2 i4).2.1, (nth a2 i4).2.2.1, (nth a2 i4).2.2.2), (nth b3 i4).1, (nth b3 i4).2.1, (nth b3 i4).2.2.1, (nth b3 i4).2.2.2)).bind fun r5 => (cond (!r5) (r false) (leqMetaS_L4 O q (a2, b3, (IntKind.wrap .i64 (i4 + (1 : Int)))) x r))) none) none) (x ()))
noncomputable def leqMetaS : (List (Int × Int × List UInt8 × List UInt8) × List (Int × Int × List UInt8 × List UInt8)) → Option Bool
  | (a0, b1) => (cond (((a0.length : Nat) : Int) != ((b1.length : Nat) : Int)) (some false) (leqMetaS_L4 Bool fuel (a0, b1, (0 : Int)) (fun _ => (some true)) some))
noncomputable def c_leqMetaS : Ctr := { args := [.val false (.sl (.pair (.int .i64) (.pair (.int .i64) (.pair .str .str)))), .val false (.sl (.pair (.int .i64) (.pair (.int .i64) (.pair .str .str))))], rets := [(false, [(none, .bool)])], F := leqMetaS }
noncomputable def X_leqMetaS : Ctx := XT.withΓ (lk [(74, c_leqMeta)]) (lk [])
noncomputable def H_leqMetaS : Hints := ⟨lk [], lk [], lk []⟩
noncomputable def L_leqMetaS_4 : LoopF c_leqMetaS.Res := ⟨⟨27, [(0, .one (.val (.sl (.pair (.int .i64) (.pair (.int .i64) (.pair .str .str)))))), (1, .one (.val (.sl (.pair (.int .i64) (.pair (.int .i64) (.pair .str .str)))))), (5, .one (.val (.int .i64)))], [], []⟩, [(0, ⟨27, [], [], []⟩)], leqMetaS_L4⟩
noncomputable def T_leqMetaS : Nat → Option (LoopF c_leqMetaS.Res) := lk [(4, L_leqMetaS_4)]
theorem s_leqMetaS_4 : StepOk X_leqMetaS H_leqMetaS (c_leqMetaS.finish X_leqMetaS Tryz.f31.results.toList) T_leqMetaS (loopAt Tryz.f31 0) := ⟨L_leqMetaS_4, by kernel_rfl, fun O y x r => by kernel_rfl, fun O k y x r => by kernel_rfl⟩
theorem r_leqMetaS (a) : fnRun X_leqMetaS H_leqMetaS c_leqMetaS Tryz.f31 T_leqMetaS a = leqMetaS a := by kernel_rfl
theorem h_leqMetaS [Tabs] : CtrHolds Tryz.prog 31 c_leqMetaS := fn_ok (.cons h_leqMeta Tryz.call74 .nil) .nil (H := H_leqMetaS) (tbl := T_leqMetaS) Tryz.func31 (by kernel_rfl) (loops1 (by kernel_rfl) s_leqMetaS_4) r_leqMetaS
/-! 9 leqManifest -/
noncomputable def leqManifest : ((Int × Int × List (Int × Int × List UInt8 × List UInt8)) × Int × Int × List (Int × Int × List UInt8 × List UInt8)) → Option Bool
  | ((a0, a1, a2), b3, b4, b5) => (cond (a0 != b3) (some false) (cond (a1 != b4) (some false) ((leqMetaS (a2, b5)).bind fun r6 => (cond (!r6) (some false) (some true)))))
noncomputable def c_leqManifest : Ctr := { args := [.val true (.pair (.int .i64) (.pair (.int .i64) (.sl (.pair (.int .i64) (.pair (.int .i64) (.pair .str .str)))))), .val true (.pair (.int .i64) (.pair (.int .i64) (.sl (.pair (.int .i64) (.pair (.int .i64) (.pair .str .str))))))], rets := [(false, [(none, .bool)])], F := leqManifest }
noncomputable def X_leqManifest : Ctx := XT.withΓ (lk [(31, c_leqMetaS)]) (lk [])
noncomputable def H_leqManifest : Hints := ⟨lk [], lk [], lk []⟩
noncomputable def T_leqManifest : Nat → Option (LoopF c_leqManifest.Res) := lk []
theorem r_leqManifest (a) : fnRun X_leqManifest H_leqManifest c_leqManifest Tryz.f9 T_leqManifest a = leqManifest a := by kernel_rfl
theorem h_leqManifest [Tabs] : CtrHolds Tryz.prog 9 c_leqManifest := fn_ok (.cons h_leqMetaS Tryz.call31 .nil) .nil (H := H_leqManifest) (tbl := T_leqManifest) Tryz.func9 (by kernel_rfl) (loops0 (by kernel_rfl)) r_leqManifest
/-! 123 leqByteS -/
noncomputable def leqByteS_L4 (O : Type) : Nat → (List Int × List Int × Int) → (Unit → Option O) → (Bool → Option O) → Option O
  | 0, _, _, _ => none
  | q + 1, (a2, b3, i4), x, r => (cond (decide (i4 < ((a2.length : Nat) : Int))) (cond (decide ((0 : Int) ≤ i4) && decide (i4 < ((a2.length : Nat) : Int))) (cond (decide ((0 : Int) ≤ i4) && decide (i4 < ((b3.length : Nat) : Int))) (cond ((nth a2 i4) != (nth b3 i4)) (r false) (leqByteS_L4 O q (a2, b3, (IntKind.wrap .i64 (i4 + (1 : Int)))) x r)) none) none) (x ()))
noncomputable def leqByteS : (List Int × List Int) → Option Bool
  | (a0, b1) => (cond (((a0.length : Nat) : Int) != ((b1.length : Nat) : Int)) (some false) (leqByteS_L4 Bool fuel (a0, b1, (0 : Int)) (fun _ => (some true)) some))
noncomputable def c_leqByteS : Ctr := { args := [.val false (.sl (.int .u8)), .val false (.sl (.int .u8))], rets := [(false, [(none, .bool)])], F := leqByteS }
noncomputable def X_leqByteS : Ctx := XT.withΓ (lk []) (lk [])
noncomputable def H_leqByteS : Hints := ⟨lk [], lk [], lk []⟩
noncomputable def L_leqByteS_4 : LoopF c_leqByteS.Res := ⟨⟨26, [(0, .one (.val (.sl (.int .u8)))), (1, .one (.val (.sl (.int .u8)))), (5, .one (.val (.int .i64)))], [], []⟩, [(0, ⟨26, [], [], []⟩)], leqByteS_L4⟩
noncomputable def T_leqByteS : Nat → Option (LoopF c_leqByteS.Res) := lk [(4, L_leqByteS_4)]
theorem s_leqByteS_4 : StepOk X_leqByteS H_leqByteS (c_leqByteS.finish X_leqByteS Tryz.f123.results.toList) T_leqByteS (loopAt Tryz.f123 0) := ⟨L_leqByteS_4, by kernel_rfl, fun O y x r => by kernel_rfl, fun O k y x r => by kernel_rfl⟩
theorem r_leqByteS (a) : fnRun X_leqByteS H_leqByteS c_leqByteS Tryz.f123 T_leqByteS a = leqByteS a := by kernel_rfl
theorem h_leqByteS [Tabs] : CtrHolds Tryz.prog 123 c_leqByteS := fn_ok .nil .nil (H := H_leqByteS) (tbl := T_leqByteS) Tryz.func123 (by kernel_rfl) (loops1 (by kernel_rfl) s_leqByteS_4) r_leqByteS
/-! 75 leqInode -/
noncomputable def leqInode : ((Int × List Int × Int) × Int × List Int × Int) → Option Bool
  | ((a0, a1, a2), b3, b4, b5) => (cond (a0 != b3) (some false) ((leqByteS (a1, b4)).bind fun r6 => (cond (!r6) (some false) (cond (a2 != b5) (some false) (some true)))))
noncomputable def c_leqInode : Ctr := { args := [.val true (.pair (.int .i64) (.pair (.sl (.int .u8)) (.int .i64))), .val true (.pair (.int .i64) (.pair (.sl (.int .u8)) (.int .i64)))], rets := [(false, [(none, .bool)])], F := leqInode }
noncomputable def X_leqInode : Ctx := XT.withΓ (lk [(123, c_leqByteS)]) (lk [])
noncomputable def H_leqInode : Hints := ⟨lk [], lk [], lk []⟩
noncomputable def T_leqInode : Nat → Option (LoopF c_leqInode.Res) := lk []
theorem r_leqInode (a) : fnRun X_leqInode H_leqInode c_leqInode Tryz.f75 T_leqInode a = leqInode a := by kernel_rfl
theorem h_leqInode [Tabs] : CtrHolds Tryz.prog 75 c_leqInode := fn_ok (.cons h_leqByteS Tryz.call123 .nil) .nil (H := H_leqInode) (tbl := T_leqInode) Tryz.func75 (by kernel_rfl) (loops0 (by kernel_rfl)) r_leqInode
/-! 32 leqInodeS -/
noncomputable def leqInodeS_L4 (O : Type) : Nat → (List (Int × List Int × Int) × List (Int × List Int × Int) × Int) → (Unit → Option O) → (Bool → Option O) → Option O
  | 0, _, _, _ => none
  | q + 1, (a2, b3, i4), x, r => (cond (decide (i4 < ((a2.length : Nat) : Int))) (cond (decide ((0 : Int) ≤ i4) && decide (i4 < ((a2.length : Nat) : Int))) (cond (decide ((0 : Int) ≤ i4) && decide (i4 < ((b3.length : Nat) : Int))) ((leqInode (((nth a2 i4).1, (nth a2 i4).2.1, (nth a2 i4).2.2), (nth b3 i4).1, (nth b3 i4).2.1, (nth b3 i4).2.2)).bind fun r5 => (cond (!r5) (r false) (leqInodeS_L4 O q (a2, b3, (IntKind.wrap .i64 (i4 + (1 : Int)))) x r))) none) none) (x ()))
noncomputable def leqInodeS : (List (Int × List Int × Int) × List (Int × List Int × Int)) → Option Bool
  | (a0, b1) => (cond (((a0.length : Nat) : Int) != ((b1.length : Nat) : Int)) (some false) (leqInodeS_L4 Bool fuel (a0, b1, (0 : Int)) (fun _ => (some true)) some))
noncomputable def c_leqInodeS : Ctr := { args := [.val false (.sl (.pair (.int .i64) (.pair (.sl (.int .u8)) (.int .i64)))), .val false (.sl (.pair (.int .i64) (.pair (.sl (.int .u8)) (.int .i64))))], rets := [(false, [(none, .bool)])], F := leqInodeS }
noncomputable def X_leqInodeS : Ctx := XT.withΓ (lk [(75, c_leqInode)]) (lk [])
noncomputable def H_leqInodeS : Hints := ⟨lk [], lk [], lk []⟩
noncomputable def L_leqInodeS_4 : LoopF c_leqInodeS.Res := ⟨⟨27, [(0, .one (.val (.sl (.pair (.int .i64) (.pair (.sl (.int .u8)) (.int .i64)))))), (1, .one (.val (.sl (.pair (.int .i64) (.pair (.sl (.int .u8)) (.int .i64)))))), (5, .one (.val (.int .i64)))], [], []⟩, [(0, ⟨27, [], [], []⟩)], leqInodeS_L4⟩
noncomputable def T_leqInodeS : Nat → Option (LoopF c_leqInodeS.Res) := lk [(4, L_leqInodeS_4)]
theorem s_leqInodeS_4 : StepOk X_leqInodeS H_leqInodeS (c_leqInodeS.finish X_leqInodeS Tryz.f32.results.toList) T_leqInodeS (loopAt Tryz.f32 0) := ⟨L_leqInodeS_4, by kernel_rfl, fun O y x r => by kernel_rfl, fun O k y x r => by kernel_rfl⟩
theorem r_leqInodeS (a) : fnRun X_leqInodeS H_leqInodeS c_leqInodeS Tryz.f32 T_leqInodeS a = leqInodeS a := by kernel_rfl
theorem h_leqInodeS [Tabs] : CtrHolds Tryz.prog 32 c_leqInodeS := fn_ok (.cons h_leqInode Tryz.call75 .nil) .nil (H := H_leqInodeS) (tbl := T_leqInodeS) Tryz.func32 (by kernel_rfl) (loops1 (by kernel_rfl) s_leqInodeS_4) r_leqInodeS
/-! 76 leqEntry -/
noncomputable def leqEntry : ((List UInt8 × Int) × List UInt8 × Int) → Option Bool
  | ((a0, a1), b2, b3) => (cond (!(a0 == b2)) (some false) (cond (a1 != b3) (some false) (some true)))
noncomputable def c_leqEntry : Ctr := { args := [.val true (.pair .str (.int .i64)), .val true (.pair .str (.int .i64))], rets := [(false, [(none, .bool)])], F := leqEntry }
noncomputable def X_leqEntry : Ctx := XT.withΓ (lk []) (lk [])
noncomputable def H_leqEntry : Hints := ⟨lk [], lk [], lk []⟩
noncomputable def T_leqEntry : Nat → Option (LoopF c_leqEntry.Res) := lk []
theorem r_leqEntry (a) : fnRun X_leqEntry H_leqEntry c_leqEntry Tryz.f76 T_leqEntry a = leqEntry a := by kernel_rfl
theorem h_leqEntry [Tabs] : CtrHolds Tryz.prog 76 c_leqEntry := fn_ok .nil .nil (H := H_leqEntry) (tbl := T_leqEntry) Tryz.func76 (by kernel_rfl) (loops0 (by kernel_rfl)) r_leqEntry
/-! 33 leqEntryS -/
noncomputable def leqEntryS_L4 (O : Type) : Nat → (List (List UInt8 × Int) × List (List UInt8 × Int) × Int) → (Unit → Option O) → (Bool → Option O) → Option O
  | 0, _, _, _ => none
  | q + 1, (a2, b3, i4), x, r => (cond (decide (i4 < ((a2.length : Nat) : Int))) (cond (decide ((0 : Int) ≤ i4) && decide (i4 < ((a2.length : Nat) : Int))) (cond (decide ((0 : Int) ≤ i4) && decide (i4 < ((b3.length : Nat) : Int))) ((leqEntry (((nth a2 i4).1, (nth a2 i4).2), (nth b3 i4).1, (nth b3 i4).2)).bind fun r5 => (cond (!r5) (r false) (leqEntryS_L4 O q (a2, b3, (IntKind.wrap .i64 (i4 + (1 : Int)))) x r))) none) none) (x ()))
noncomputable def leqEntryS : (List (List UInt8 × Int) × List (List UInt8 × Int)) → Option Bool
  | (a0, b1) => (cond (((a0.length : Nat) : Int) != ((b1.length : Nat) : Int)) (some false) (leqEntryS_L4 Bool fuel (a0, b1, (0 : Int)) (fun _ => (some true)) some))
noncomputable def c_leqEntryS : Ctr := { args := [.val false (.sl (.pair .str (.int .i64))), .val false (.sl (.pair .str (.int .i64)))], rets := [(false, [(none, .bool)])], F := leqEntryS }
noncomputable def X_leqEntryS : Ctx := XT.withΓ (lk [(76, c_leqEntry)]) (lk [])
noncomputable def H_leqEntryS : Hints := ⟨lk [], lk [], lk []⟩
noncomputable def L_leqEntryS_4 : LoopF c_leqEntryS.Res := ⟨⟨27, [(0, .one (.val (.sl (.pair .str (.int .i64))))), (1, .one (.val (.sl (.pair .str (.int .i64))))), (5, .one (.val (.int .i64)))], [], []⟩, [(0, ⟨27, [], [], []⟩)], leqEntryS_L4⟩
noncomputable def T_leqEntryS : Nat → Option (LoopF c_leqEntryS.Res) := lk [(4, L_leqEntryS_4)]
theorem s_leqEntryS_4 : StepOk X_leqEntryS H_leqEntryS (c_leqEntryS.finish X_leqEntryS Tryz.f33.results.toList) T_leqEntryS (loopAt Tryz.f33 0) := ⟨L_leqEntryS_4, by kernel_rfl, fun O y x r => by kernel_rfl, fun O k y x r => by kernel_rfl⟩
theorem r_leqEntryS (a) : fnRun X_leqEntryS H_leqEntryS c_leqEntryS Tryz.f33 T_leqEntryS a = leqEntryS a := by kernel_rfl
theorem h_leqEntryS [Tabs] : CtrHolds Tryz.prog 33 c_leqEntryS := fn_ok (.cons h_leqEntry Tryz.call76 .nil) .nil (H := H_leqEntryS) (tbl := T_leqEntryS) Tryz.func33 (by kernel_rfl) (loops1 (by kernel_rfl) s_leqEntryS_4) r_leqEntryS
/-! 10 leqDisk -/
noncomputable def leqDisk : ((List (Int × List Int × Int) × List (List UInt8 × Int) × List (List UInt8 × Int) × Int) × List (Int × List Int × Int) × List (List UInt8 × Int) × List (List UInt8 × Int) × Int) → Option Bool
  | ((a0, a1, a2, a3), b4, b5, b6, b7) => ((leqInodeS (a0, b4)).bind fun r8 => (cond (!r8) (some false) ((leqEntryS (a1, b5)).bind fun r9 => (cond (!r9) (some false) ((leqEntryS (a2, b6)).bind fun r10 => (cond (!r10) (some false) (cond (a3 != b7) (some false) (some true))))))))
noncomputable def c_leqDisk : Ctr := { args := [.val true (.pair (.sl (.pair (.int .i64) (.pair (.sl (.int .u8)) (.int .i64)))) (.pair (.sl (.pair .str (.int .i64))) (.pair (.sl (.pair .str (.int .i64))) (.int .i64)))), .val true (.pair (.sl (.pair (.int .i64) (.pair (.sl (.int .u8)) (.int .i64)))) (.pair (.sl (.pair .str (.int .i64))) (.pair (.sl (.pair .str (.int .i64))) (.int .i64))))], rets := [(false, [(none, .bool)])], F := leqDisk }
noncomputable def X_leqDisk : Ctx := XT.withΓ (lk [(32, c_leqInodeS), (33, c_leqEntryS)]) (lk [])
noncomputable def H_leqDisk : Hints := ⟨lk [], lk [], lk []⟩
noncomputable def T_leqDisk : Nat → Option (LoopF c_leqDisk.Res) := lk []
theorem r_leqDisk (a) : fnRun X_leqDisk H_leqDisk c_leqDisk Tryz.f10 T_leqDisk a = leqDisk a := by kernel_rfl
theorem h_leqDisk [Tabs] : CtrHolds Tryz.prog 10 c_leqDisk := fn_ok (.cons h_leqInodeS Tryz.call32 (.cons h_leqEntryS Tryz.call33 .nil)) .nil (H := H_leqDisk) (tbl := T_leqDisk) Tryz.func10 (by kernel_rfl) (loops0 (by kernel_rfl)) r_leqDisk
/-! 77 lmarkByteSM -/
noncomputable def lmarkByteSM_L2 (O : Type) : Nat → (List Unit × Int × Int) → (Int → Option O) → (Int → Option O) → Option O
  | 0, _, _, _ => none
  | q + 1, (a2, k3, i4), x, r => (cond (decide (i4 < ((a2.length : Nat) : Int))) (cond (decide ((0 : Int) ≤ i4) && decide (i4 < ((a2.length : Nat) : Int))) (lmarkByteSM_L2 O q (a2, (IntKind.wrap .i64 (k3 + (1 : Int))), (IntKind.wrap .i64 (i4 + (1 : Int)))) x r) none) (x k3))
noncomputable def lmarkByteSM : (List Unit × Int) → Option Int
  | (a0, k1) => (lmarkByteSM_L2 Int fuel (a0, k1, (0 : Int)) (fun k5 => (some k5)) some)
noncomputable def c_lmarkByteSM : Ctr := { args := [.val false (.sl .any), .val false (.int .i64)], rets := [(false, [(none, (.int .i64))])], F := lmarkByteSM }
noncomputable def m_lmarkByteSM : MCtr := ⟨false, (.sl (.int .u8)), lmarkByteSM⟩
noncomputable def X_lmarkByteSM : Ctx := XT.withΓ (lk []) (lk [])
noncomputable def H_lmarkByteSM : Hints := ⟨lk [], lk [], lk []⟩
noncomputable def L_lmarkByteSM_2 : LoopF c_lmarkByteSM.Res := ⟨⟨20, [(0, .one (.val (.sl .any))), (1, .one (.val (.int .i64))), (5, .one (.val (.int .i64)))], [], []⟩, [(0, ⟨20, [(1, .one (.val (.int .i64)))], [], []⟩)], lmarkByteSM_L2⟩
noncomputable def T_lmarkByteSM : Nat → Option (LoopF c_lmarkByteSM.Res) := lk [(2, L_lmarkByteSM_2)]
theorem s_lmarkByteSM_2 : StepOk X_lmarkByteSM H_lmarkByteSM (c_lmarkByteSM.finish X_lmarkByteSM Tryz.f77.results.toList) T_lmarkByteSM (loopAt Tryz.f77 0) := ⟨L_lmarkByteSM_2, by kernel_rfl, fun O y x r => by kernel_rfl, fun O k y x r => by kernel_rfl⟩
theorem r_lmarkByteSM (a) : fnRun X_lmarkByteSM H_lmarkByteSM c_lmarkByteSM Tryz.f77 T_lmarkByteSM a = lmarkByteSM a := by kernel_rfl
theorem h_lmarkByteSM [Tabs] : CtrHolds Tryz.prog 77 c_lmarkByteSM := fn_ok .nil .nil (H := H_lmarkByteSM) (tbl := T_lmarkByteSM) Tryz.func77 (by kernel_rfl) (loops1 (by kernel_rfl) s_lmarkByteSM_2) r_lmarkByteSM
/-! 34 lmarkInodeSM -/
noncomputable def lmarkInodeSM_L2 (O : Type) : Nat → (List (Unit × List Unit × Unit) × Int × Int) → (Int → Option O) → (Int → Option O) → Option O
  | 0, _, _, _ => none
  | q + 1, (a2, k3, i4), x, r => (cond (decide (i4 < ((a2.length : Nat) : Int))) (cond (decide ((0 : Int) ≤ i4) && decide (i4 < ((a2.length : Nat) : Int))) (cond (decide ((0 : Int) ≤ i4) && decide (i4 < ((a2.length : Nat) : Int))) ((lmarkByteSM ((nth a2 i4).2.1, (IntKind.wrap .i64 (k3 + (1 : Int))))).bind fun r5 => (cond (decide ((0 : Int) ≤ i4) && decide (i4 < ((a2.length : Nat) : Int))) (lmarkInodeSM_L2 O q (a2, (IntKind.wrap .i64 (r5 + (1 : Int))), (IntKind.wrap .i64 (i4 + (1 : Int)))) x r) none)) none) none) (x k3))
noncomputable def lmarkInodeSM : (List (Unit × List Unit × Unit) × Int) → Option Int
  | (a0, k1) => (lmarkInodeSM_L2 Int fuel (a0, k1, (0 : Int)) (fun k6 => (some k6)) some)
noncomputable def c_lmarkInodeSM : Ctr := { args := [.val false (.sl (.pair .any (.pair (.sl .any) .any))), .val false (.int .i64)], rets := [(false, [(none, (.int .i64))])], F := lmarkInodeSM }
noncomputable def m_lmarkInodeSM : MCtr := ⟨false, (.sl (.pair (.int .i64) (.pair (.sl (.int .u8)) (.int .i64)))), lmarkInodeSM⟩
noncomputable def X_lmarkInodeSM : Ctx := XT.withΓ (lk [(77, c_lmarkByteSM)]) (lk [])
noncomputable def H_lmarkInodeSM : Hints := ⟨lk [], lk [], lk []⟩
noncomputable def L_lmarkInodeSM_2 : LoopF c_lmarkInodeSM.Res := ⟨⟨34, [(0, .one (.val (.sl (.pair .any (.pair (.sl .any) .any))))), (1, .one (.val (.int .i64))), (5, .one (.val (.int .i64)))], [], []⟩, [(0, ⟨34, [(1, .one (.val (.int .i64)))], [], []⟩)], lmarkInodeSM_L2⟩
noncomputable def T_lmarkInodeSM : Nat → Option (LoopF c_lmarkInodeSM.Res) := lk [(2, L_lmarkInodeSM_2)]
theorem s_lmarkInodeSM_2 : StepOk X_lmarkInodeSM H_lmarkInodeSM (c_lmarkInodeSM.finish X_lmarkInodeSM Tryz.f34.results.toList) T_lmarkInodeSM (loopAt Tryz.f34 0) := ⟨L_lmarkInodeSM_2, by kernel_rfl, fun O y x r => by kernel_rfl, fun O k y x r => by kernel_rfl⟩
theorem r_lmarkInodeSM (a) : fnRun X_lmarkInodeSM H_lmarkInodeSM c_lmarkInodeSM Tryz.f34 T_lmarkInodeSM a = lmarkInodeSM a := by kernel_rfl
theorem h_lmarkInodeSM [Tabs] : CtrHolds Tryz.prog 34 c_lmarkInodeSM := fn_ok (.cons h_lmarkByteSM Tryz.call77 .nil) .nil (H := H_lmarkInodeSM) (tbl := T_lmarkInodeSM) Tryz.func34 (by kernel_rfl) (loops1 (by kernel_rfl) s_lmarkInodeSM_2) r_lmarkInodeSM
/-! 53 lmarkText -/
noncomputable def lmarkText_L4 (O : Type) : Nat → (Int × List UInt8) → ((List UInt8) → Option O) → ((List UInt8) → Option O) → Option O
  | 0, _, _, _ => none
  | q + 1, (k1, out2), x, r => (cond (decide (k1 > (0 : Int))) (cond (decide (((strOf [(IntKind.wrap .u8 (IntKind.wrap .i64 ((48 : Int) + (Int.tmod k1 (10 : Int)))))]).length + out2.length) ≤ lenBound)) (lmarkText_L4 O q ((IntKind.wrap .i64 (Int.tdiv k1 (10 : Int))), ((strOf [(IntKind.wrap .u8 (IntKind.wrap .i64 ((48 : Int) + (Int.tmod k1 (10 : Int)))))]) ++ out2)) x r) none) (x out2))
noncomputable def lmarkText : Int → Option (List UInt8)
  | k0 => (cond (decide (k0 ≤ (0 : Int))) (some [109, 48]) (lmarkText_L4 (List UInt8) fuel (k0, []) (fun out3 => (cond (decide ((1 + out3.length) ≤ lenBound)) (some ([109] ++ out3)) none)) some))
noncomputable def c_lmarkText : Ctr := { args := [.val false (.int .i64)], rets := [(false, [(none, .str)])], F := lmarkText }
noncomputable def X_lmarkText : Ctx := XT.withΓ (lk []) (lk [])
noncomputable def H_lmarkText : Hints := ⟨lk [], lk [], lk []⟩
noncomputable def L_lmarkText_4 : LoopF c_lmarkText.Res := ⟨⟨20, [(0, .one (.val (.int .i64))), (3, .one (.val .str))], [], []⟩, [(0, ⟨20, [(3, .one (.val .str))], [], []⟩)], lmarkText_L4⟩
noncomputable def T_lmarkText : Nat → Option (LoopF c_lmarkText.Res) := lk [(4, L_lmarkText_4)]
theorem s_lmarkText_4 : StepOk X_lmarkText H_lmarkText (c_lmarkText.finish X_lmarkText Tryz.f53.results.toList) T_lmarkText (loopAt Tryz.f53 0) := ⟨L_lmarkText_4, by kernel_rfl, fun O y x r => by kernel_rfl, fun O k y x r => by kernel_rfl⟩
theorem r_lmarkText (a) : fnRun X_lmarkText H_lmarkText c_lmarkText Tryz.f53 T_lmarkText a = lmarkText a := by kernel_rfl
theorem h_lmarkText [Tabs] : CtrHolds Tryz.prog 53 c_lmarkText := fn_ok .nil .nil (H := H_lmarkText) (tbl := T_lmarkText) Tryz.func53 (by kernel_rfl) (loops1 (by kernel_rfl) s_lmarkText_4) r_lmarkText
/-! 35 lmarkEntrySM -/
noncomputable def lmarkEntrySM_L2 (O : Type) : Nat → (List (Unit × Unit) × Int × Int) → (Int → Option O) → (Int → Option O) → Option O
  | 0, _, _, _ => none
  | q + 1, (a2, k3, i4), x, r => (cond (decide (i4 < ((a2.length : Nat) : Int))) ((lmarkText k3).bind fun r5 => (cond (decide ((0 : Int) ≤ i4) && decide (i4 < ((a2.length : Nat) : Int))) (cond (decide ((0 : Int) ≤ i4) && decide (i4 < ((a2.length : Nat) : Int))) (lmarkEntrySM_L2 O q (a2, (IntKind.wrap .i64 ((IntKind.wrap .i64 (k3 + (1 : Int))) + (1 : Int))), (IntKind.wrap .i64 (i4 + (1 : Int)))) x r) none) none)) (x k3))
noncomputable def lmarkEntrySM : (List (Unit × Unit) × Int) → Option Int
  | (a0, k1) => (lmarkEntrySM_L2 Int fuel (a0, k1, (0 : Int)) (fun k6 => (some k6)) some)
noncomputable def c_lmarkEntrySM : Ctr := { args := [.val false (.sl (.pair .any .any)), .val false (.int .i64)], rets := [(false, [(none, (.int .i64))])], F := lmarkEntrySM }
noncomputable def m_lmarkEntrySM : MCtr := ⟨false, (.sl (.pair .str (.int .i64))), lmarkEntrySM⟩
noncomputable def X_lmarkEntrySM : Ctx := XT.withΓ (lk [(53, c_lmarkText)]) (lk [])
noncomputable def H_lmarkEntrySM : Hints := ⟨lk [], lk [], lk []⟩
noncomputable def L_lmarkEntrySM_2 : LoopF c_lmarkEntrySM.Res := ⟨⟨28, [(0, .one (.val (.sl (.pair .any .any)))), (1, .one (.val (.int .i64))), (5, .one (.val (.int .i64)))], [], []⟩, [(0, ⟨28, [(1, .one (.val (.int .i64)))], [], []⟩)], lmarkEntrySM_L2⟩
noncomputable def T_lmarkEntrySM : Nat → Option (LoopF c_lmarkEntrySM.Res) := lk [(2, L_lmarkEntrySM_2)]
theorem s_lmarkEntrySM_2 : StepOk X_lmarkEntrySM H_lmarkEntrySM (c_lmarkEntrySM.finish X_lmarkEntrySM Tryz.f35.results.toList) T_lmarkEntrySM (loopAt Tryz.f35 0) := ⟨L_lmarkEntrySM_2, by kernel_rfl, fun O y x r => by kernel_rfl, fun O k y x r => by kernel_rfl⟩
theorem r_lmarkEntrySM (a) : fnRun X_lmarkEntrySM H_lmarkEntrySM c_lmarkEntrySM Tryz.f35 T_lmarkEntrySM a = lmarkEntrySM a := by kernel_rfl
theorem h_lmarkEntrySM [Tabs] : CtrHolds Tryz.prog 35 c_lmarkEntrySM := fn_ok (.cons h_lmarkText Tryz.call53 .nil) .nil (H := H_lmarkEntrySM) (tbl := T_lmarkEntrySM) Tryz.func35 (by kernel_rfl) (loops1 (by kernel_rfl) s_lmarkEntrySM_2) r_lmarkEntrySM
/-! 11 lmarkDiskM -/
noncomputable def lmarkDiskM : ((List (Unit × List Unit × Unit) × List (Unit × Unit) × List (Unit × Unit) × Unit) × Int) → Option Int
  | ((a0, a1, a2, _), k3) => ((lmarkInodeSM (a0, k3)).bind fun r4 => ((lmarkEntrySM (a1, r4)).bind fun r5 => ((lmarkEntrySM (a2, r5)).bind fun r6 => (some r6))))
noncomputable def c_lmarkDiskM : Ctr := { args := [.val true (.pair (.sl (.pair .any (.pair (.sl .any) .any))) (.pair (.sl (.pair .any .any)) (.pair (.sl (.pair .any .any)) .any))), .val false (.int .i64)], rets := [(false, [(none, (.int .i64))])], F := lmarkDiskM }
noncomputable def m_lmarkDiskM : MCtr := ⟨true, (.pair (.sl (.pair (.int .i64) (.pair (.sl (.int .u8)) (.int .i64)))) (.pair (.sl (.pair .str (.int .i64))) (.pair (.sl (.pair .str (.int .i64))) (.int .i64)))), lmarkDiskM⟩
noncomputable def X_lmarkDiskM : Ctx := XT.withΓ (lk [(34, c_lmarkInodeSM), (35, c_lmarkEntrySM)]) (lk [])
noncomputable def H_lmarkDiskM : Hints := ⟨lk [], lk [], lk []⟩
noncomputable def T_lmarkDiskM : Nat → Option (LoopF c_lmarkDiskM.Res) := lk []
theorem r_lmarkDiskM (a) : fnRun X_lmarkDiskM H_lmarkDiskM c_lmarkDiskM Tryz.f11 T_lmarkDiskM a = lmarkDiskM a := by kernel_rfl
theorem h_lmarkDiskM [Tabs] : CtrHolds Tryz.prog 11 c_lmarkDiskM := fn_ok (.cons h_lmarkInodeSM Tryz.call34 (.cons h_lmarkEntrySM Tryz.call35 .nil)) .nil (H := H_lmarkDiskM) (tbl := T_lmarkDiskM) Tryz.func11 (by kernel_rfl) (loops0 (by kernel_rfl)) r_lmarkDiskM
/-! 36 lmarkMetaS -/
noncomputable def lmarkMetaS_L2 (O : Type) : Nat → (Int × Int × List (Int × Int × List UInt8 × List UInt8)) → ((Int × List (Int × Int × List UInt8 × List UInt8)) → Option O) → ((Int × List (Int × Int × List UInt8 × List UInt8)) → Option O) → Option O
  | 0, _, _, _ => none
  | q + 1, (k2, i3, a4), x, r => (cond (decide (i3 < ((a4.length : Nat) : Int))) (cond (decide ((0 : Int) ≤ i3) && decide (i3 < ((a4.length : Nat) : Int))) (cond (decide ((0 : Int) ≤ i3) && decide (i3 < (((List.set a4 (Int.toNat i3) (k2, (nth a4 i3).2.1, (nth a4 i3).2.2.1, (nth a4 i3).2.2.2)).length : Nat) : Int))) ((lmarkText (IntKind.wrap .i64 ((IntKind.wrap .i64 (k2 + (1 : Int))) + (1 : Int)))).bind fun r5 => (cond (decide ((0 : Int) ≤ i3) && decide (i3 < (((List.set (List.set a4 (Int.toNat i3) (k2, (nth a4 i3).2.1, (nth a4 i3).2.2.1, (nth a4 i3).2.2.2)) (Int.toNat i3) ((nth (List.set a4 (Int.toNat i3) (k2, (nth a4 i3).2.1, (nth a4 i3).2.2.1, (nth a4 i3).2.2.2)) i3).1, (IntKind.wrap .i64 (k2 + (1 : Int))), (nth (List.set a4 (Int.toNat i3) (k2, (nth a4 i3).2.1, (nth a4 i3).2.2.1, (nth a4 i3).2.2.2)) i3).2.2.1, (nth (List.set a4 (Int.toNat i3) (k2, (nth a4 i3).2.1, (nth a4 i3).2.2.1, (nth a4 i3).2.2.2)) i3).2.2.2)).length : Nat) : Int))) ((lmarkText (IntKind.wrap .i64 ((IntKind.wrap .i64 ((IntKind.wrap .i64 (k2 + (1 : Int))) + (1 : Int))) + (1 : Int)))).bind fun r6 => (cond (decide ((0 : Int) ≤ i3) && decide (i3 < (((List.set (List.set (List.set a4 (Int.toNat i3) (k2, (nth a4 i3).2.1, (nth a4 i3).2.2.1, (nth a4 i3).2.2.2)) (Int.toNat i3) ((nth (List.set a4 (Int.toNat i3) (k2, (nth a4 i3).2.1, (nth a4 i3).2.2.1, (nth a4 i3).2.2.2)) i3).1, (IntKind.wrap .i64 (k2 + (1 : Int))), (nth (List.set a4 (Int.toNat i3) (k2, (nth a4 i3).2.1, (nth a4 i3).2.2.1, (nth a4 i3).2.2.2)) i3).2.2.1, (nth (List.set a4 (Int.toNat i3) (k2, (nth a4 i3).2.1, (nth a4 i3).2.2.1, (nth a4 i3).2.2.2)) i3).2.2.2)) (Int.toNat i3) ((nth (List.set (List.set a4 (Int.toNat i3) (k2, (nth a4 i3).2.1, (nth a4 i3).2.2.1, (nth a4 i3).2.2.2)) (Int.toNat i3) ((nth (List.set a4 (Int.toNat i3) (k2, (nth a4 i3).2.1, (nth a4 i3).2.2.1, (nth a4 i3).2.2.2)) i3).1, (IntKind.wrap .i64 (k2 + (1 : Int))), (nth (List.set a4 (Int.toNat i3) (k2, (nth a4 i3).2.1, (nth a4 i3).2.2.1, (nth a4 i3).2.2.2)) i3).2.2.1, (nth (List.set a4 (Int.toNat i3) (k2, (nth a4 i3).2.1, (nth a4 i3).2.2.1, (nth a4 i3).2.2.2)) i3).2.2.2)) i3).1, (nth (List.set (List.set a4 (Int.toNat i3) (k2, (nth a4 i3).2.1, (nth a4 i3).2.2.1, (nth a4 i3).2.2.2)) (Int.toNat i3) ((nth (List.set a4 (Int.toNat i3) (k2, (nth a4 i3).2.1, (nth a4 i3).2.2.1, (nth a4 i3).2.2.2)) i3).1, (IntKind.wrap .i64 (k2 + (1 : Int))), (nth (List.set a4 (Int.toNat i3) (k2, (nth a4 i3).2.1, (nth a4 i3).2.2.1, (nth a4 i3).2.2.2)) i3).2.2.1, (nth (List.set a4 (Int.toNat i3) (k2, (nth a4 i3).2.1, (nth a4 i3).2.2.1, (nth a4 i3).2.2.2)) i3).2.2.2)) i3).2.1, r5, (nth (List.set (List.set a4 (Int.toNat i3) (k2, (nth a4 i3).2.1, (nth a4 i3).2.2.1, (nth a4 i3).2.2.2)) (Int.toNat i3) ((nth (List.set a4 (Int.toNat i3) (k2, (nth a4 i3).2.1, (nth a4 i3).2.2.1, (nth a4 i3).2.2.2)) i3).1, (IntKind.wrap .i64 (k2 + (1 : Int))), (nth (List.set a4 (Int.toNat i3) (k2, (nth a4 i3).2.1, (nth a4 i3).2.2.1, (nth a4 i3).2.2.2)) i3).2.2.1, (nth (List.set a4 (Int.toNat i3) (k2, (nth a4 i3).2.1, (nth a4 i3).2.2.1, (nth a4 i3).2.2.2)) i3).2.2.2)) i3).2.2.2)).length : Nat) : Int))) (lmarkMetaS_L2 O q ((IntKind.wrap .i64 ((IntKind.wrap .i64 ((IntKind.wrap .i64 ((IntKind.wrap .i64 (k2 + (1 : Int))) + (1 : Int))) + (1 : Int))) + (1 : Int))), (IntKind.wrap .i64 (i3 + (1 : Int))), (List.set (List.set (List.set (List.set a4 (Int.toNat i3) (k2, (nth a4 i3).2.1, (nth a4 i3).2.2.1, (nth a4 i3).2.2.2)) (Int.toNat i3) ((nth (List.set a4 (Int.toNat i3) (k2, (nth a4 i3).2.1, (nth a4 i3).2.2.1, (nth a4 i3).2.2.2)) i3).1, (IntKind.wrap .i64 (k2 + (1 : Int))), (nth (List.set a4 (Int.toNat i3) (k2, (nth a4 i3).2.1, (nth a4 i3).2.2.1, (nth a4 i3).2.2.2)) i3).2.2.1, (nth (List.set a4 (Int.toNat i3) (k2, (nth a4 i3).2.1, (nth a4 i3).2.2.1, (nth a4 i3).2.2.2)) i3).2.2.2)) (Int.toNat i3) ((nth (List.set (List.set a4 (Int.toNat i3) (k2, (nth a4 i3).2.1, (nth a4 i3).2.2.1, (nth a4 i3).2.2.2)) (Int.toNat i3) ((nth (List.set a4 (Int.toNat i3) (k2, (nth a4 i3).2.1, (nth a4 i3).2.2.1, (nth a4 i3).2.2.2)) i3).1, (IntKind.wrap .i64 (k2 + (1 : Int))), (nth (List.set a4 (Int.toNat i3) (k2, (nth a4 i3).2.1, (nth a4 i3).2.2.1, (nth a4 i3).2.2.2)) i3).2.2.1, (nth (List.set a4 (Int.toNat i3) (k2, (nth a4 i3).2.1, (nth a4 i3).2.2.1, (nth a4 i3).2.2.2)) i3).2.2.2)) i3).1, (nth (List.set (List.set a4 (Int.toNat i3) (k2, (nth a4 i3).2.1, (nth a4 i3).2.2.1, (nth a4 i3).2.2.2)) (Int.toNat i3) ((nth (List.set a4 (Int.toNat i3) (k2, (nth a4 i3).2.1, (nth a4 i3).2.2.1, (nth a4 i3).2.2.2)) i3).1, (IntKind.wrap .i64 (k2 + (1 : Int))), (nth (List.set a4 (Int.toNat i3) (k2, (nth a4 i3).2.1, (nth a4 i3).2.2.1, (nth a4 i3).2.2.2)) i3).2.2.1, (nth (List.set a4 (Int.toNat i3) (k2, (nth a4 i3).2.1, (nth a4 i3).2.2.1, (nth a4 i3).2.2.2)) i3).2.2.2)) i3).2.1, r5, (nth (List.set (List.set a4 (Int.toNat i3) (k2, (nth a4 i3).2.1, (nth a4 i3).2.2.1, (nth a4 i3).2.2.2)) (Int.toNat i3) ((nth (List.set a4 (Int.toNat i3) (k2, (nth a4 i3).2.1, (nth a4 i3).2.2.1, (nth a4 i3).2.2.2)) i3).1, (IntKind.wrap .i64 (k2 + (1 : Int))), (nth (List.set a4 (Int.toNat i3) (k2, (nth a4 i3).2.1, (nth a4 i3).2.2.1, (nth a4 i3).2.2.2)) i3).2.2.1, (nth (List.set a4 (Int.toNat i3) (k2, (nth a4 i3).2.1, (nth a4 i3).2.2.1, (nth a4 i3).2.2.2)) i3).2.2.2)) i3).2.2.2)) (Int.toNat i3) ((nth (List.set (List.set (List.set a4 (Int.toNat i3) (k2, (nth a4 i3).2.1, (nth a4 i3).2.2.1, (nth a4 i3).2.2.2)) (Int.toNat i3) ((nth (List.set a4 (Int.toNat i3) (k2, (nth a4 i3).2.1, (nth a4 i3).2.2.1, (nth a4 i3).2.2.2)) i3).1, (IntKind.wrap .i64 (k2 + (1 : Int))), (nth (List.set a4 (Int.toNat i3) (k2, (nth a4 i3).2.1, (nth a4 i3).2.2.1, (nth a4 i3).2.2.2)) i3).2.2.1, (nth (List.set a4 (Int.toNat i3) (k2, (nth a4 i3).2.1, (nth a4 i3).2.2.1, (nth a4 i3).2.2.2)) i3).2.2.2)) (Int.toNat i3) ((nth (List.set (List.set a4 (Int.toNat i3) (k2, (nth a4 i3).2.1, (nth a4 i3).2.2.1, (nth a4 i3).2.2.2)) (Int.toNat i3) ((nth (List.set a4 (Int.toNat i3) (k2, (nth a4 i3).2.1, (nth a4 i3).2.2.1, (nth a4 i3).2.2.2)) i3).1, (IntKind.wrap .i64 (k2 + (1 : Int))), (nth (List.set a4 (Int.toNat i3) (k2, (nth a4 i3).2.1, (nth a4 i3).2.2.1, (nth a4 i3).2.2.2)) i3).2.2.1, (nth (List.set a4 (Int.toNat i3) (k2, (nth a4 i3).2.1, (nth a4 i3).2.2.1, (nth a4 i3).2.2.2)) i3).2.2.2)) i3).1, (nth (List.set (List.set a4 (Int.toNat i3) (k2, (nth a4 i3).2.1, (nth a4 i3).2.2.1, (nth a4 i3).2.2.2)) (Int.toNat i3) ((nth (List.set a4 (Int.toNat i3) (k2, (nth a4 i3).2.1, (nth a4 i3).2.2.1, (nth a4 i3).2.2.2)) i3).1, (IntKind.wrap .i64 (k2 + (1 : Int))), (nth (List.set a4 (Int.toNat i3) (k2, (nth a4 i3).2.1, (nth a4 i3).2.2.1, (nth a4 i3).2.2.2)) i3).2.2.1, (nth (List.set a4 (Int.toNat i3) (k2, (nth a4 i3).2.1, (nth a4 i3).2.2.1, (nth a4 i3).2.2.2)) i3).2.2.2)) i3).2.1, r5, (nth (List.set (List.set a4 (Int.toNat i3) (k2, (nth a4 i3).2.1, (nth a4 i3).2.2.1, (nth a4 i3).2.2.2)) (Int.toNat i3) ((nth (List.set a4 (Int.toNat i3) (k2, (nth a4 i3).2.1, (nth a4 i3).2.2.1, (nth a4 i3).2.2.2)) i3).1, (IntKind.wrap .i64 (k2 + (1 : Int))), (nth (List.set a4 (Int.toNat i3) (k2, (nth a4 i3).2.1, (nth a4 i3).2.2.1, (nth a4 i3).2.2.2)) i3).2.2.1, (nth (List.set a4 (Int.toNat i3) (k2, (nth a4 i3).2.1, (nth a4 i3).2.2.1, (nth a4 i3).2.2.2)) i3).2.2.2)) i3).2.2.2)) i3).1, (nth (List.set (List.set (List.set a4 (Int.toNat i3) (k2, (nth a4 i3).2.1, (nth a4 i3).2.2.1, (nth a4 i3).2.2.2)) (Int.toNat i3) ((nth (List.set a4 (Int.toNat i3) (k2, (nth a4 i3).2.1, (nth a4 i3).2.2.1, (nth a4 i3).2.2.2)) i3).1, (IntKind.wrap .i64 (k2 + (1 : Int))), (nth (List.set a4 (Int.toNat i3) (k2, (nth a4 i3).2.1, (nth a4 i3).2.2.1, (nth a4 i3).2.2.2)) i3).2.2.1, (nth (List.set a4 (Int.toNat i3) (k2, (nth a4 i3).2.1, (nth a4 i3).2.2.1, (nth a4 i3).2.2.2)) i3).2.2.2)) (Int.toNat i3) ((nth (List.set (List.set a4 (Int.toNat i3) (k2, (nth a4 i3).2.1, (nth a4 i3).2.2.1, (nth a4 i3).2.2.2)) (Int.toNat i3) ((nth (List.set a4 (Int.toNat i3) (k2, (nth a4 i3).2.1, (nth a4 i3).2.2.1, (nth a4 i3).2.2.2)) i3).1, (IntKind.wrap .i64 (k2 + (1 : Int))), (nth (List.set a4 (Int.toNat i3) (k2, (nth a4 i3).2.1, (nth a4 i3).2.2.1, (nth a4 i3).2.2.2)) i3).2.2.1, (nth (List.set a4 (Int.toNat i3) (k2, (nth a4 i3).2.1, (nth a4 i3).2.2.1, (nth a4 i3).2.2.2)) i3).2.2.2)) i3).1, (nth (List.set (List.set a4 (Int.toNat i3) (k2, (nth a4 i3).2.1, (nth a4 i3).2.2.1, (nth a4 i3).2.2.2)) (Int.toNat i3) ((nth (List.set a4 (Int.toNat i3) (k2, (nth a4 i3).2.1, (nth a4 i3).2.2.1, (nth a4 i3).2.2.2)) i3).1, (IntKind.wrap .i64 (k2 + (1 : Int))), (nth (List.set a4 (Int.toNat i3) (k2, (nth a4 i3).2.1, (nth a4 i3).2.2.1, (nth a4 i3).2.2.2)) i3).2.2.1, (nth (List.set a4 (Int.toNat i3) (k2, (nth a4 i3).2.1, (nth a4 i3).2.2.1, (nth a4 i3).2.2.2)) i3).2.2.2)) i3).2.1, r5, (nth (List.set (List.set a4 (Int.toNat i3) (k2, (nth a4 i3).2.1, (nth a4 i3).2.2.1, (nth a4 i3).2.2.2)) (Int.toNat i3) ((nth (List.set a4 (Int.toNat i3) (k2, (nth a4 i3).2.1, (nth a4 i3).2.2.1, (nth a4 i3).2.2.2)) i3).1, (IntKind.wrap .i64 (k2 + (1 : Int))), (nth (List.set a4 (Int.toNat i3) (k2, (nth a4 i3).2.1, (nth a4 i3).2.2.1, (nth a4 i3).2.2.2)) i3).2.2.1, (nth (List.set a4 (Int.toNat i3) (k2, (nth a4 i3).2.1, (nth a4 i3).2.2.1, (nth a4 i3).2.2.2)) i3).2.2.2)) i3).2.2.2)) i3).2.1, (nth (List.set (List.set (List.set a4 (Int.toNat i3) (k2, (nth a4 i3).2.1, (nth a4 i3).2.2.1, (nth a4 i3).2.2.2)) (Int.toNat i3) ((nth (List.set a4 (Int.toNat i3) (k2, (nth a4 i3).2.1, (nth a4 i3).2.2.1, (nth a4 i3).2.2.2)) i3).1, (IntKind.wrap .i64 (k2 + (1 : Int))), (nth (List.set a4 (Int.toNat i3) (k2, (nth a4 i3).2.1, (nth a4 i3).2.2.1, (nth a4 i3).2.2.2)) i3).2.2.1, (nth (List.set a4 (Int.toNat i3) (k2, (nth a4 i3).2.1, (nth a4 i3).2.2.1, (nth a4 i3).2.2.2)) i3).2.2.2)) (Int.toNat i3) ((nth (List.set (List.set a4 (Int.toNat i3) (k2, (nth a4 i3).2.1, (nth a4 i3).2.2.1, (nth a4 i3).2.2.2)) (Int.toNat i3) ((nth (List.set a4 (Int.toNat i3) (k2, (nth a4 i3).2.1, (nth a4 i3).2.2.1, (nth a4 i3).2.2.2)) i3).1, (IntKind.wrap .i64 (k2 + (1 : Int))), (nth (List.set a4 (Int.toNat i3) (k2, (nth a4 i3).2.1, (nth a4 i3).2.2.1, (nth a4 i3).2.2.2)) i3).2.2.1, (nth (List.set a4 (Int.toNat i3) (k2, (nth a4 i3).2.1, (nth a4 i3).2.2.1, (nth a4 i3).2.2.2)) i3).2.2.2)) i3).1, (nth (List.set (List.set a4 (Int.toNat i3) (k2, (nth a4 i3).2.1, (nth a4 i3).2.2.1, (nth a4 i3).2.2.2)) (Int.toNat i3) ((nth (List.set a4 (Int.toNat i3) (k2, (nth a4 i3).2.1, (nth a4 i3).2.2.1, (nth a4 i3).2.2.2)) i3).1, (IntKind.wrap .i64 (k2 + (1 : Int))), (nth (List.set a4 (Int.toNat i3) (k2, (nth a4 i3).2.1, (nth a4 i3).2.2.1, (nth a4 i3).2.2.2)) i3).2.2.1, (nth (List.set a4 (Int.toNat i3) (k2, (nth a4 i3).2.1, (nth a4 i3).2.2.1, (nth a4 i3).2.2.2)) i3).2.2.2)) i3).2.1, r5, (nth (List.set (List.set a4 (Int.toNat i3) (k2, (nth a4 i3).2.1, (nth a4 i3).2.2.1, (nth a4 i3).2.2.2)) (Int.toNat i3) ((nth (List.set a4 (Int.toNat i3) (k2, (nth a4 i3).2.1, (nth a4 i3).2.2.1, (nth a4 i3).2.2.2)) i3).1, (IntKind.wrap .i64 (k2 + (1 : Int))), (nth (List.set a4 (Int.toNat i3) (k2, (nth a4 i3).2.1, (nth a4 i3).2.2.1, (nth a4 i3).2.2.2)) i3).2.2.1, (nth (List.set a4 (Int.toNat i3) (k2, (nth a4 i3).2.1, (nth a4 i3).2.2.1, (nth a4 i3).2.2.2)) i3).2.2.2)) i3).2.2.2)) i3).2.2.1, r6))) x r) none)) none)) none) none) (x (k2, a4)))
noncomputable def lmarkMetaS : (List (Int × Int × List UInt8 × List UInt8) × Int) → Option (Int × List (Int × Int × List UInt8 × List UInt8))
  | (a0, k1) => (lmarkMetaS_L2 (Int × List (Int × Int × List UInt8 × List UInt8)) fuel (k1, (0 : Int), a0) (fun (k7, b8) => (some (k7, b8))) some)
noncomputable def c_lmarkMetaS : Ctr := { args := [.lent false [(some 88, (.sl (.pair (.int .i64) (.pair (.int .i64) (.pair .str .str)))))], .val false (.int .i64)], rets := [(false, [(none, (.int .i64))])], F := lmarkMetaS }
noncomputable def X_lmarkMetaS : Ctx := XT.withΓ (lk [(53, c_lmarkText)]) (lk [])
noncomputable def H_lmarkMetaS : Hints := ⟨lk [], lk [], lk []⟩
noncomputable def L_lmarkMetaS_2 : LoopF c_lmarkMetaS.Res := ⟨⟨43, [(0, .one (.own 0)), (1, .one (.val (.int .i64))), (5, .one (.val (.int .i64)))], [.arr 88 (.pair (.int .i64) (.pair (.int .i64) (.pair .str .str)))], [0]⟩, [(0, ⟨43, [(1, .one (.val (.int .i64)))], [.arr 88 (.pair (.int .i64) (.pair (.int .i64) (.pair .str .str)))], [0]⟩)], lmarkMetaS_L2⟩
noncomputable def T_lmarkMetaS : Nat → Option (LoopF c_lmarkMetaS.Res) := lk [(2, L_lmarkMetaS_2)]
theorem s_lmarkMetaS_2 : StepOk X_lmarkMetaS H_lmarkMetaS (c_lmarkMetaS.finish X_lmarkMetaS Tryz.f36.results.toList) T_lmarkMetaS (loopAt Tryz.f36 0) := ⟨L_lmarkMetaS_2, by kernel_rfl, fun O y x r => by kernel_rfl, fun O k y x r => by kernel_rfl⟩
theorem r_lmarkMetaS (a) : fnRun X_lmarkMetaS H_lmarkMetaS c_lmarkMetaS Tryz.f36 T_lmarkMetaS a = lmarkMetaS a := by kernel_rfl
theorem h_lmarkMetaS [Tabs] : CtrHolds Tryz.prog 36 c_lmarkMetaS := fn_ok (.cons h_lmarkText Tryz.call53 .nil) .nil (H := H_lmarkMetaS) (tbl := T_lmarkMetaS) Tryz.func36 (by kernel_rfl) (loops1 (by kernel_rfl) s_lmarkMetaS_2) r_lmarkMetaS
/-! 36 lmarkMetaSM -/
noncomputable def lmarkMetaSM_L2 (O : Type) : Nat → (List (Unit × Unit × Unit × Unit) × Int × Int) → (Int → Option O) → (Int → Option O) → Option O
  | 0, _, _, _ => none
  | q + 1, (a2, k3, i4), x, r => (cond (decide (i4 < ((a2.length : Nat) : Int))) (cond (decide ((0 : Int) ≤ i4) && decide (i4 < ((a2.length : Nat) : Int))) (cond (decide ((0 : Int) ≤ i4) && decide (i4 < ((a2.length : Nat) : Int))) ((lmarkText (IntKind.wrap .i64 ((IntKind.wrap .i64 (k3 + (1 : Int))) + (1 : Int)))).bind fun r5 => (cond (decide ((0 : Int) ≤ i4) && decide (i4 < ((a2.length : Nat) : Int))) ((lmarkText (IntKind.wrap .i64 ((IntKind.wrap .i64 ((IntKind.wrap .i64 (k3 + (1 : Int))) + (1 : Int))) + (1 : Int)))).bind fun r6 => (cond (decide ((0 : Int) ≤ i4) && decide (i4 < ((a2.length : Nat) : Int))) (lmarkMetaSM_L2 O q (a2, (IntKind.wrap .i64 ((IntKind.wrap .i64 ((IntKind.wrap .i64 ((IntKind.wrap .i64 (k3 + (1 : Int))) + (1 : Int))) + (1 : Int))) + (1 : Int))), (IntKind.wrap .i64 (i4 + (1 : Int)))) x r) none)) none)) none) none) (x k3))
noncomputable def lmarkMetaSM : (List (Unit × Unit × Unit × Unit) × Int) → Option Int
  | (a0, k1) => (lmarkMetaSM_L2 Int fuel (a0, k1, (0 : Int)) (fun k7 => (some k7)) some)
noncomputable def c_lmarkMetaSM : Ctr := { args := [.val false (.sl (.pair .any (.pair .any (.pair .any .any)))), .val false (.int .i64)], rets := [(false, [(none, (.int .i64))])], F := lmarkMetaSM }
noncomputable def m_lmarkMetaSM : MCtr := ⟨false, (.sl (.pair (.int .i64) (.pair (.int .i64) (.pair .str .str)))), lmarkMetaSM⟩
noncomputable def X_lmarkMetaSM : Ctx := XT.withΓ (lk [(53, c_lmarkText)]) (lk [])
noncomputable def H_lmarkMetaSM : Hints := ⟨lk [], lk [], lk []⟩
noncomputable def L_lmarkMetaSM_2 : LoopF c_lmarkMetaSM.Res := ⟨⟨43, [(0, .one (.val (.sl (.pair .any (.pair .any (.pair .any .any)))))), (1, .one (.val (.int .i64))), (5, .one (.val (.int .i64)))], [], []⟩, [(0, ⟨43, [(1, .one (.val (.int .i64)))], [], []⟩)], lmarkMetaSM_L2⟩
noncomputable def T_lmarkMetaSM : Nat → Option (LoopF c_lmarkMetaSM.Res) := lk [(2, L_lmarkMetaSM_2)]
theorem s_lmarkMetaSM_2 : StepOk X_lmarkMetaSM H_lmarkMetaSM (c_lmarkMetaSM.finish X_lmarkMetaSM Tryz.f36.results.toList) T_lmarkMetaSM (loopAt Tryz.f36 0) := ⟨L_lmarkMetaSM_2, by kernel_rfl, fun O y x r => by kernel_rfl, fun O k y x r => by kernel_rfl⟩
theorem r_lmarkMetaSM (a) : fnRun X_lmarkMetaSM H_lmarkMetaSM c_lmarkMetaSM Tryz.f36 T_lmarkMetaSM a = lmarkMetaSM a := by kernel_rfl
theorem h_lmarkMetaSM [Tabs] : CtrHolds Tryz.prog 36 c_lmarkMetaSM := fn_ok (.cons h_lmarkText Tryz.call53 .nil) .nil (H := H_lmarkMetaSM) (tbl := T_lmarkMetaSM) Tryz.func36 (by kernel_rfl) (loops1 (by kernel_rfl) s_lmarkMetaSM_2) r_lmarkMetaSM
/-! 12 lmarkManifest -/
noncomputable def lmarkManifest : ((Int × Int × List (Int × Int × List UInt8 × List UInt8)) × Int) → Option (Int × List (Int × Int × List UInt8 × List UInt8))
  | ((a0, a1, a2), k3) => ((lmarkMetaS (a2, k3)).bind fun (r4, r5) => (some (r4, r5)))
noncomputable def c_lmarkManifest : Ctr := { args := [.lent true [(none, (.int .i64)), (none, (.int .i64)), (some 88, (.sl (.pair (.int .i64) (.pair (.int .i64) (.pair .str .str)))))], .val false (.int .i64)], rets := [(false, [(none, (.int .i64))])], F := lmarkManifest }
noncomputable def X_lmarkManifest : Ctx := XT.withΓ (lk [(36, c_lmarkMetaS)]) (lk [])
noncomputable def H_lmarkManifest : Hints := ⟨lk [], lk [], lk []⟩
noncomputable def T_lmarkManifest : Nat → Option (LoopF c_lmarkManifest.Res) := lk []
theorem r_lmarkManifest (a) : fnRun X_lmarkManifest H_lmarkManifest c_lmarkManifest Tryz.f12 T_lmarkManifest a = lmarkManifest a := by kernel_rfl
theorem h_lmarkManifest [Tabs] : CtrHolds Tryz.prog 12 c_lmarkManifest := fn_ok (.cons h_lmarkMetaS Tryz.call36 .nil) .nil (H := H_lmarkManifest) (tbl := T_lmarkManifest) Tryz.func12 (by kernel_rfl) (loops0 (by kernel_rfl)) r_lmarkManifest
/-! 37 lheldMetaS -/
noncomputable def lheldMetaS_L2 (O : Type) : Nat → (List (Int × Int × List UInt8 × List UInt8) × Int × Int) → (Int → Option O) → (Int → Option O) → Option O
  | 0, _, _, _ => none
  | q + 1, (a2, k3, i4), x, r => (cond (decide (i4 < ((a2.length : Nat) : Int))) (cond (decide ((0 : Int) ≤ i4) && decide (i4 < ((a2.length : Nat) : Int))) (cond ((nth a2 i4).1 != k3) (r (-1 : Int)) (cond (decide ((0 : Int) ≤ i4) && decide (i4 < ((a2.length : Nat) : Int))) (cond ((nth a2 i4).2.1 != (IntKind.wrap .i64 (k3 + (1 : Int)))) (r (-1 : Int)) (cond (decide ((0 : Int) ≤ i4) && decide (i4 < ((a2.length : Nat) : Int))) ((lmarkText (IntKind.wrap .i64 ((IntKind.wrap .i64 (k3 + (1 : Int))) + (1 : Int)))).bind fun r5 => (cond (!((nth a2 i4).2.2.1 == r5)) (r (-1 : Int)) (cond (decide ((0 : Int) ≤ i4) && decide (i4 < ((a2.length : Nat) : Int))) ((lmarkText (IntKind.wrap .i64 ((IntKind.wrap .i64 ((IntKind.wrap .i64 (k3 + (1 : Int))) + (1 : Int))) + (1 : Int)))).bind fun r6 => (cond (!((nth a2 i4).2.2.2 == r6)) (r (-1 : Int)) (lheldMetaS_L2 O q (a2, (IntKind.wrap .i64 ((IntKind.wrap .i64 ((IntKind.wrap .i64 ((IntKind.wrap .i64 (k3 + (1 : Int))) + (1 : Int))) + (1 : Int))) + (1 : Int))), (IntKind.wrap .i64 (i4 + (1 : Int)))) x r))) none))) none)) none)) none) (x k3))
noncomputable def lheldMetaS : (List (Int × Int × List UInt8 × List UInt8) × Int) → Option Int
  | (a0, k1) => (lheldMetaS_L2 Int fuel (a0, k1, (0 : Int)) (fun k7 => (some k7)) some)
noncomputable def c_lheldMetaS : Ctr := { args := [.val false (.sl (.pair (.int .i64) (.pair (.int .i64) (.pair .str .str)))), .val false (.int .i64)], rets := [(false, [(none, (.int .i64))])], F := lheldMetaS }
noncomputable def X_lheldMetaS : Ctx := XT.withΓ (lk [(53, c_lmarkText)]) (lk [])
noncomputable def H_lheldMetaS : Hints := ⟨lk [], lk [], lk []⟩
noncomputable def L_lheldMetaS_2 : LoopF c_lheldMetaS.Res := ⟨⟨51, [(0, .one (.val (.sl (.pair (.int .i64) (.pair (.int .i64) (.pair .str .str)))))), (1, .one (.val (.int .i64))), (5, .one (.val (.int .i64)))], [], []⟩, [(0, ⟨51, [(1, .one (.val (.int .i64)))], [], []⟩)], lheldMetaS_L2⟩
noncomputable def T_lheldMetaS : Nat → Option (LoopF c_lheldMetaS.Res) := lk [(2, L_lheldMetaS_2)]
theorem s_lheldMetaS_2 : StepOk X_lheldMetaS H_lheldMetaS (c_lheldMetaS.finish X_lheldMetaS Tryz.f37.results.toList) T_lheldMetaS (loopAt Tryz.f37 0) := ⟨L_lheldMetaS_2, by kernel_rfl, fun O y x r => by kernel_rfl, fun O k y x r => by kernel_rfl⟩
theorem r_lheldMetaS (a) : fnRun X_lheldMetaS H_lheldMetaS c_lheldMetaS Tryz.f37 T_lheldMetaS a = lheldMetaS a := by kernel_rfl
theorem h_lheldMetaS [Tabs] : CtrHolds Tryz.prog 37 c_lheldMetaS := fn_ok (.cons h_lmarkText Tryz.call53 .nil) .nil (H := H_lheldMetaS) (tbl := T_lheldMetaS) Tryz.func37 (by kernel_rfl) (loops1 (by kernel_rfl) s_lheldMetaS_2) r_lheldMetaS
/-! 13 lheldManifest -/
noncomputable def lheldManifest : ((Int × Int × List (Int × Int × List UInt8 × List UInt8)) × Int) → Option Int
  | ((a0, a1, a2), k3) => ((lheldMetaS (a2, k3)).bind fun r4 => (cond (decide (r4 < (0 : Int))) (some (-1 : Int)) (some r4)))
noncomputable def c_lheldManifest : Ctr := { args := [.val true (.pair (.int .i64) (.pair (.int .i64) (.sl (.pair (.int .i64) (.pair (.int .i64) (.pair .str .str)))))), .val false (.int .i64)], rets := [(false, [(none, (.int .i64))])], F := lheldManifest }
noncomputable def X_lheldManifest : Ctx := XT.withΓ (lk [(37, c_lheldMetaS)]) (lk [])
noncomputable def H_lheldManifest : Hints := ⟨lk [], lk [], lk []⟩
noncomputable def T_lheldManifest : Nat → Option (LoopF c_lheldManifest.Res) := lk []
theorem r_lheldManifest (a) : fnRun X_lheldManifest H_lheldManifest c_lheldManifest Tryz.f13 T_lheldManifest a = lheldManifest a := by kernel_rfl
theorem h_lheldManifest [Tabs] : CtrHolds Tryz.prog 13 c_lheldManifest := fn_ok (.cons h_lheldMetaS Tryz.call37 .nil) .nil (H := H_lheldManifest) (tbl := T_lheldManifest) Tryz.func13 (by kernel_rfl) (loops0 (by kernel_rfl)) r_lheldManifest
/-! 3 lFnExactCurrent -/
noncomputable def lFnExactCurrent : (List (Int × List Int × Int) × List (List UInt8 × Int) × List (List UInt8 × Int) × Int) → Option Bool
  | (aD0, aD1, aD2, aD3) => ((lszDisk ((aD0, aD1, aD2, aD3), (1048576 : Int))).bind fun r4 => (cond (decide (r4 < (0 : Int))) (some true) ((ltoDisk (aD0, aD1, aD2, aD3)).bind fun (r5, r6, r7, r8) => ((sCurrent (r5, r6, r7, r8)).bind fun ((r9, r10, r11), r12) => ((ltoDisk (aD0, aD1, aD2, aD3)).bind fun (r13, r14, r15, r16) => ((iCurrent (r13, r14, r15, r16)).bind fun ((r17, r18, r19), r20) => ((leqManifest ((r17, r18, r19), r9, r10, r11)).bind fun r21 => (cond (!r21) (some false) (cond (!(r20 == r12)) (some false) ((ltoDisk (aD0, aD1, aD2, aD3)).bind fun (r22, r23, r24, r25) => ((leqDisk ((r13, r14, r15, r16), r22, r23, r24, r25)).bind fun r26 => (cond (!r26) (some false) ((lmarkDiskM ((Ty.shapeVal (.pair (.sl (.pair (.int .i64) (.pair (.sl (.int .u8)) (.int .i64)))) (.pair (.sl (.pair .str (.int .i64))) (.pair (.sl (.pair .str (.int .i64))) (.int .i64)))) (r13, r14, r15, r16)), (1 : Int))).bind fun r27 => (cond (decide (r27 < (0 : Int))) (some false) ((leqManifest ((r17, r18, r19), r9, r10, r11)).bind fun r28 => (cond (!r28) (some false) (cond (!(r20 == r12)) (some false) ((lmarkManifest ((r17, r18, r19), (1 : Int))).bind fun (r29, r30) => ((lheldManifest ((r17, r18, r30), (1 : Int))).bind fun r31 => (cond (decide (r31 < (0 : Int))) (some false) (cond (r31 != r29) (some false) ((ltoDisk (aD0, aD1, aD2, aD3)).bind fun (r32, r33, r34, r35) => ((iCurrent (r32, r33, r34, r35)).bind fun ((r36, r37, r38), r39) => ((leqManifest ((r36, r37, r38), r9, r10, r11)).bind fun r40 => (cond (!r40) (some false) (cond (!(r39 == r12)) (some false) ((lheldManifest ((r17, r18, r30), (1 : Int))).bind fun r41 => (cond (decide (r41 < (0 : Int))) (some false) (cond (r41 != r29) (some false) (some true))))))))))))))))))))))))))))))
noncomputable def c_lFnExactCurrent : Ctr := { args := [.val true (.pair (.old (.pair (.int .i64) (.pair (.old (.int .u8)) (.int .i64)))) (.pair (.old (.pair .str (.int .i64))) (.pair (.old (.pair .str (.int .i64))) (.int .i64))))], rets := [(false, [(none, .bool)])], F := lFnExactCurrent }
noncomputable def X_lFnExactCurrent : Ctx := (XT.withΓ (lk [(5, c_lszDisk), (7, c_ltoDisk), (6, c_sCurrent), (8, c_iCurrent), (9, c_leqManifest), (10, c_leqDisk), (12, c_lmarkManifest), (13, c_lheldManifest)]) (lk [])).withM (lk [(11, m_lmarkDiskM)])
noncomputable def H_lFnExactCurrent : Hints := ⟨lk [], lk [], lk []⟩
noncomputable def T_lFnExactCurrent : Nat → Option (LoopF c_lFnExactCurrent.Res) := lk []
theorem r_lFnExactCurrent (a) : fnRun X_lFnExactCurrent H_lFnExactCurrent c_lFnExactCurrent Tryz.f3 T_lFnExactCurrent a = lFnExactCurrent a := by kernel_rfl
theorem h_lFnExactCurrent [TabsD] {W : World} (hs : Tabs.sep = true) (hN : W.heap.size ≤ Tabs.N) (hS : ∀ b p, ¬ Tabs.S b p) : CtrAt W Tryz.prog 3 c_lFnExactCurrent := law_fn_ok (.cons h_lszDisk Tryz.call5 (.cons h_ltoDisk Tryz.call7 (.cons h_sCurrent Tryz.call6 (.cons h_iCurrent Tryz.call8 (.cons h_leqManifest Tryz.call9 (.cons h_leqDisk Tryz.call10 (.cons h_lmarkManifest Tryz.call12 (.cons h_lheldManifest Tryz.call13 .nil)))))))) .nil (m := [(11, m_lmarkDiskM)]) (.cons (fun T => @h_lmarkDiskM T) Tryz.call11 .nil) hs hN hS (H := H_lFnExactCurrent) (tbl := T_lFnExactCurrent) Tryz.func3 (by kernel_rfl) (loops0 (by kernel_rfl)) r_lFnExactCurrent
/-! 162 lszPair -/
noncomputable def lszPair : ((List UInt8 × List UInt8 × Bool) × Int) → Option Int
  | ((a0, a1, a2), left3) => (cond (decide ((IntKind.wrap .i64 (left3 - ((a0.length : Nat) : Int))) < (0 : Int))) (some (-1 : Int)) (cond (decide ((IntKind.wrap .i64 ((IntKind.wrap .i64 (left3 - ((a0.length : Nat) : Int))) - ((a1.length : Nat) : Int))) < (0 : Int))) (some (-1 : Int)) (some (IntKind.wrap .i64 ((IntKind.wrap .i64 (left3 - ((a0.length : Nat) : Int))) - ((a1.length : Nat) : Int))))))
noncomputable def c_lszPair : Ctr := { args := [.val true (.pair .str (.pair .str .bool)), .val false (.int .i64)], rets := [(false, [(none, (.int .i64))])], F := lszPair }
noncomputable def X_lszPair : Ctx := XT.withΓ (lk []) (lk [])
noncomputable def H_lszPair : Hints := ⟨lk [], lk [], lk []⟩
noncomputable def T_lszPair : Nat → Option (LoopF c_lszPair.Res) := lk []
theorem r_lszPair (a) : fnRun X_lszPair H_lszPair c_lszPair Tryz.f162 T_lszPair a = lszPair a := by kernel_rfl
theorem h_lszPair [Tabs] : CtrHolds Tryz.prog 162 c_lszPair := fn_ok .nil .nil (H := H_lszPair) (tbl := T_lszPair) Tryz.func162 (by kernel_rfl) (loops0 (by kernel_rfl)) r_lszPair
/-! 124 lszNode -/
noncomputable def lszNode : (((List UInt8 × List UInt8 × Bool) × Int) × Int) → Option Int
  | (((a0, a1, a2), a3), left4) => ((lszPair ((a0, a1, a2), left4)).bind fun r5 => (cond (decide (r5 < (0 : Int))) (some (-1 : Int)) (some r5)))
noncomputable def c_lszNode : Ctr := { args := [.val true (.pair (.pair .str (.pair .str .bool)) (.int .i64)), .val false (.int .i64)], rets := [(false, [(none, (.int .i64))])], F := lszNode }
noncomputable def X_lszNode : Ctx := XT.withΓ (lk [(162, c_lszPair)]) (lk [])
noncomputable def H_lszNode : Hints := ⟨lk [], lk [], lk []⟩
noncomputable def T_lszNode : Nat → Option (LoopF c_lszNode.Res) := lk []
theorem r_lszNode (a) : fnRun X_lszNode H_lszNode c_lszNode Tryz.f124 T_lszNode a = lszNode a := by kernel_rfl
theorem h_lszNode [Tabs] : CtrHolds Tryz.prog 124 c_lszNode := fn_ok (.cons h_lszPair Tryz.call162 .nil) .nil (H := H_lszNode) (tbl := T_lszNode) Tryz.func124 (by kernel_rfl) (loops0 (by kernel_rfl)) r_lszNode
/-! 78 lszNodeS -/
noncomputable def lszNodeS_L5 (O : Type) : Nat → (List ((List UInt8 × List UInt8 × Bool) × Int) × Int × Int) → (Int → Option O) → (Int → Option O) → Option O
  | 0, _, _, _ => none
  | q + 1, (a2, left3, i4), x, r => (cond (decide (i4 < ((a2.length : Nat) : Int))) (cond (decide ((0 : Int) ≤ i4) && decide (i4 < ((a2.length : Nat) : Int))) ((lszNode ((((nth a2 i4).1.1, (nth a2 i4).1.2.1, (nth a2 i4).1.2.2), (nth a2 i4).2), left3)).bind fun r5 => (cond (decide (r5 < (0 : Int))) (r (-1 : Int)) (lszNodeS_L5 O q (a2, r5, (IntKind.wrap .i64 (i4 + (1 : Int)))) x r))) none) (x left3))
noncomputable def lszNodeS : (List ((List UInt8 × List UInt8 × Bool) × Int) × Int) → Option Int
  | (a0, left1) => (cond (decide ((IntKind.wrap .i64 (left1 - ((a0.length : Nat) : Int))) < (0 : Int))) (some (-1 : Int)) (lszNodeS_L5 Int fuel (a0, (IntKind.wrap .i64 (left1 - ((a0.length : Nat) : Int))), (0 : Int)) (fun left6 => (some left6)) some))
noncomputable def c_lszNodeS : Ctr := { args := [.val false (.old (.pair (.pair .str (.pair .str .bool)) (.int .i64))), .val false (.int .i64)], rets := [(false, [(none, (.int .i64))])], F := lszNodeS }
noncomputable def X_lszNodeS : Ctx := XT.withΓ (lk [(124, c_lszNode)]) (lk [])
noncomputable def H_lszNodeS : Hints := ⟨lk [], lk [], lk []⟩
noncomputable def L_lszNodeS_5 : LoopF c_lszNodeS.Res := ⟨⟨27, [(0, .one (.val (.old (.pair (.pair .str (.pair .str .bool)) (.int .i64))))), (1, .one (.val (.int .i64))), (5, .one (.val (.int .i64)))], [], []⟩, [(0, ⟨27, [(1, .one (.val (.int .i64)))], [], []⟩)], lszNodeS_L5⟩
noncomputable def T_lszNodeS : Nat → Option (LoopF c_lszNodeS.Res) := lk [(5, L_lszNodeS_5)]
theorem s_lszNodeS_5 : StepOk X_lszNodeS H_lszNodeS (c_lszNodeS.finish X_lszNodeS Tryz.f78.results.toList) T_lszNodeS (loopAt Tryz.f78 0) := ⟨L_lszNodeS_5, by kernel_rfl, fun O y x r => by kernel_rfl, fun O k y x r => by kernel_rfl⟩
theorem r_lszNodeS (a) : fnRun X_lszNodeS H_lszNodeS c_lszNodeS Tryz.f78 T_lszNodeS a = lszNodeS a := by kernel_rfl
theorem h_lszNodeS [Tabs] : CtrHolds Tryz.prog 78 c_lszNodeS := fn_ok (.cons h_lszNode Tryz.call124 .nil) .nil (H := H_lszNodeS) (tbl := T_lszNodeS) Tryz.func78 (by kernel_rfl) (loops1 (by kernel_rfl) s_lszNodeS_5) r_lszNodeS
/-! 38 lszMem -/
noncomputable def lszMem : (List ((List UInt8 × List UInt8 × Bool) × Int) × Int) → Option Int
  | (a0, left1) => ((lszNodeS (a0, left1)).bind fun r2 => (cond (decide (r2 < (0 : Int))) (some (-1 : Int)) (some r2)))
noncomputable def c_lszMem : Ctr := { args := [.val true (.old (.pair (.pair .str (.pair .str .bool)) (.int .i64))), .val false (.int .i64)], rets := [(false, [(none, (.int .i64))])], F := lszMem }
noncomputable def X_lszMem : Ctx := XT.withΓ (lk [(78, c_lszNodeS)]) (lk [])
noncomputable def H_lszMem : Hints := ⟨lk [], lk [], lk []⟩
noncomputable def T_lszMem : Nat → Option (LoopF c_lszMem.Res) := lk []
theorem r_lszMem (a) : fnRun X_lszMem H_lszMem c_lszMem Tryz.f38 T_lszMem a = lszMem a := by kernel_rfl
theorem h_lszMem [Tabs] : CtrHolds Tryz.prog 38 c_lszMem := fn_ok (.cons h_lszNodeS Tryz.call78 .nil) .nil (H := H_lszMem) (tbl := T_lszMem) Tryz.func38 (by kernel_rfl) (loops0 (by kernel_rfl)) r_lszMem
/-! 125 lszMeta -/
noncomputable def lszMeta : ((Int × Int × List UInt8 × List UInt8) × Int) → Option Int
  | ((a0, a1, a2, a3), left4) => (cond (decide ((IntKind.wrap .i64 (left4 - ((a2.length : Nat) : Int))) < (0 : Int))) (some (-1 : Int)) (cond (decide ((IntKind.wrap .i64 ((IntKind.wrap .i64 (left4 - ((a2.length : Nat) : Int))) - ((a3.length : Nat) : Int))) < (0 : Int))) (some (-1 : Int)) (some (IntKind.wrap .i64 ((IntKind.wrap .i64 (left4 - ((a2.length : Nat) : Int))) - ((a3.length : Nat) : Int))))))
noncomputable def c_lszMeta : Ctr := { args := [.val true (.pair (.int .i64) (.pair (.int .i64) (.pair .str .str))), .val false (.int .i64)], rets := [(false, [(none, (.int .i64))])], F := lszMeta }
noncomputable def X_lszMeta : Ctx := XT.withΓ (lk []) (lk [])
noncomputable def H_lszMeta : Hints := ⟨lk [], lk [], lk []⟩
noncomputable def T_lszMeta : Nat → Option (LoopF c_lszMeta.Res) := lk []
theorem r_lszMeta (a) : fnRun X_lszMeta H_lszMeta c_lszMeta Tryz.f125 T_lszMeta a = lszMeta a := by kernel_rfl
theorem h_lszMeta [Tabs] : CtrHolds Tryz.prog 125 c_lszMeta := fn_ok .nil .nil (H := H_lszMeta) (tbl := T_lszMeta) Tryz.func125 (by kernel_rfl) (loops0 (by kernel_rfl)) r_lszMeta
/-! 79 lszMetaS -/
noncomputable def lszMetaS_L5 (O : Type) : Nat → (List (Int × Int × List UInt8 × List UInt8) × Int × Int) → (Int → Option O) → (Int → Option O) → Option O
  | 0, _, _, _ => none
  | q + 1, (a2, left3, i4), x, r => (cond (decide (i4 < ((a2.length : Nat) : Int))) (cond (decide ((0 : Int) ≤ i4) && decide (i4 < ((a2.length : Nat) : Int))) ((lszMeta (((nth a2 i4).1, (nth a2 i4).2.1, (nth a2 i4).2.2.1, (nth a2 i4).2.2.2), left3)).bind fun r5 => (cond (decide (r5 < (0 : Int))) (r (-1 : Int)) (lszMetaS_L5 O q (a2, r5, (IntKind.wrap .i64 (i4 + (1 : Int)))) x r))) none) (x left3))
noncomputable def lszMetaS : (List (Int × Int × List UInt8 × List UInt8) × Int) → Option Int
  | (a0, left1) => (cond (decide ((IntKind.wrap .i64 (left1 - ((a0.length : Nat) : Int))) < (0 : Int))) (some (-1 : Int)) (lszMetaS_L5 Int fuel (a0, (IntKind.wrap .i64 (left1 - ((a0.length : Nat) : Int))), (0 : Int)) (fun left6 => (some left6)) some))
noncomputable def c_lszMetaS : Ctr := { args := [.val false (.old (.pair (.int .i64) (.pair (.int .i64) (.pair .str .str)))), .val false (.int .i64)], rets := [(false, [(none, (.int .i64))])], F := lszMetaS }
noncomputable def X_lszMetaS : Ctx := XT.withΓ (lk [(125, c_lszMeta)]) (lk [])
noncomputable def H_lszMetaS : Hints := ⟨lk [], lk [], lk []⟩
noncomputable def L_lszMetaS_5 : LoopF c_lszMetaS.Res := ⟨⟨27, [(0, .one (.val (.old (.pair (.int .i64) (.pair (.int .i64) (.pair .str .str)))))), (1, .one (.val (.int .i64))), (5, .one (.val (.int .i64)))], [], []⟩, [(0, ⟨27, [(1, .one (.val (.int .i64)))], [], []⟩)], lszMetaS_L5⟩
noncomputable def T_lszMetaS : Nat → Option (LoopF c_lszMetaS.Res) := lk [(5, L_lszMetaS_5)]
theorem s_lszMetaS_5 : StepOk X_lszMetaS H_lszMetaS (c_lszMetaS.finish X_lszMetaS Tryz.f79.results.toList) T_lszMetaS (loopAt Tryz.f79 0) := ⟨L_lszMetaS_5, by kernel_rfl, fun O y x r => by kernel_rfl, fun O k y x r => by kernel_rfl⟩
theorem r_lszMetaS (a) : fnRun X_lszMetaS H_lszMetaS c_lszMetaS Tryz.f79 T_lszMetaS a = lszMetaS a := by kernel_rfl
theorem h_lszMetaS [Tabs] : CtrHolds Tryz.prog 79 c_lszMetaS := fn_ok (.cons h_lszMeta Tryz.call125 .nil) .nil (H := H_lszMetaS) (tbl := T_lszMetaS) Tryz.func79 (by kernel_rfl) (loops1 (by kernel_rfl) s_lszMetaS_5) r_lszMetaS
/-! 39 lszManifest -/
noncomputable def lszManifest : ((Int × Int × List (Int × Int × List UInt8 × List UInt8)) × Int) → Option Int
  | ((a0, a1, a2), left3) => ((lszMetaS (a2, left3)).bind fun r4 => (cond (decide (r4 < (0 : Int))) (some (-1 : Int)) (some r4)))
noncomputable def c_lszManifest : Ctr := { args := [.val true (.pair (.int .i64) (.pair (.int .i64) (.old (.pair (.int .i64) (.pair (.int .i64) (.pair .str .str)))))), .val false (.int .i64)], rets := [(false, [(none, (.int .i64))])], F := lszManifest }
noncomputable def X_lszManifest : Ctx := XT.withΓ (lk [(79, c_lszMetaS)]) (lk [])
noncomputable def H_lszManifest : Hints := ⟨lk [], lk [], lk []⟩
noncomputable def T_lszManifest : Nat → Option (LoopF c_lszManifest.Res) := lk []
theorem r_lszManifest (a) : fnRun X_lszManifest H_lszManifest c_lszManifest Tryz.f39 T_lszManifest a = lszManifest a := by kernel_rfl
theorem h_lszManifest [Tabs] : CtrHolds Tryz.prog 39 c_lszManifest := fn_ok (.cons h_lszMetaS Tryz.call79 .nil) .nil (H := H_lszManifest) (tbl := T_lszManifest) Tryz.func39 (by kernel_rfl) (loops0 (by kernel_rfl)) r_lszManifest
/-! 14 lszStore -/
noncomputable def lszStore : (((List (Int × List Int × Int) × List (List UInt8 × Int) × List (List UInt8 × Int) × Int) × List ((List UInt8 × List UInt8 × Bool) × Int) × Int × Int × List (Int × Int × List UInt8 × List UInt8)) × Int) → Option Int
  | (((a0, a1, a2, a3), a4, a5, a6, a7), left8) => ((lszDisk ((a0, a1, a2, a3), left8)).bind fun r9 => (cond (decide (r9 < (0 : Int))) (some (-1 : Int)) ((lszMem (a4, r9)).bind fun r10 => (cond (decide (r10 < (0 : Int))) (some (-1 : Int)) ((lszManifest ((a5, a6, a7), r10)).bind fun r11 => (cond (decide (r11 < (0 : Int))) (some (-1 : Int)) (some r11)))))))
noncomputable def c_lszStore : Ctr := { args := [.val true (.pair (.pair (.old (.pair (.int .i64) (.pair (.old (.int .u8)) (.int .i64)))) (.pair (.old (.pair .str (.int .i64))) (.pair (.old (.pair .str (.int .i64))) (.int .i64)))) (.pair (.old (.pair (.pair .str (.pair .str .bool)) (.int .i64))) (.pair (.int .i64) (.pair (.int .i64) (.old (.pair (.int .i64) (.pair (.int .i64) (.pair .str .str)))))))), .val false (.int .i64)], rets := [(false, [(none, (.int .i64))])], F := lszStore }
noncomputable def X_lszStore : Ctx := XT.withΓ (lk [(5, c_lszDisk), (38, c_lszMem), (39, c_lszManifest)]) (lk [])
noncomputable def H_lszStore : Hints := ⟨lk [], lk [], lk []⟩
noncomputable def T_lszStore : Nat → Option (LoopF c_lszStore.Res) := lk []
theorem r_lszStore (a) : fnRun X_lszStore H_lszStore c_lszStore Tryz.f14 T_lszStore a = lszStore a := by kernel_rfl
theorem h_lszStore [Tabs] : CtrHolds Tryz.prog 14 c_lszStore := fn_ok (.cons h_lszDisk Tryz.call5 (.cons h_lszMem Tryz.call38 (.cons h_lszManifest Tryz.call39 .nil))) .nil (H := H_lszStore) (tbl := T_lszStore) Tryz.func14 (by kernel_rfl) (loops0 (by kernel_rfl)) r_lszStore
/-! 174 ltoPair -/
noncomputable def ltoPair : (List UInt8 × List UInt8 × Bool) → Option (List UInt8 × List UInt8 × Bool)
  | (a0, a1, a2) => (some (a0, a1, a2))
noncomputable def c_ltoPair : Ctr := { args := [.val true (.pair .str (.pair .str .bool))], rets := [(true, [(none, .str), (none, .str), (none, .bool)])], F := ltoPair }
noncomputable def X_ltoPair : Ctx := XT.withΓ (lk []) (lk [])
noncomputable def H_ltoPair : Hints := ⟨lk [], lk [], lk []⟩
noncomputable def T_ltoPair : Nat → Option (LoopF c_ltoPair.Res) := lk []
theorem r_ltoPair (a) : fnRun X_ltoPair H_ltoPair c_ltoPair Tryz.f174 T_ltoPair a = ltoPair a := by kernel_rfl
theorem h_ltoPair [Tabs] : CtrHolds Tryz.prog 174 c_ltoPair := fn_ok .nil .nil (H := H_ltoPair) (tbl := T_ltoPair) Tryz.func174 (by kernel_rfl) (loops0 (by kernel_rfl)) r_ltoPair
/-! 136 ltoNode -/
noncomputable def ltoNode : ((List UInt8 × List UInt8 × Bool) × Int) → Option (List UInt8 × List UInt8 × Bool × Int)
  | ((a0, a1, a2), a3) => ((ltoPair (a0, a1, a2)).bind fun (r4, r5, r6) => (some (r4, r5, r6, a3)))
noncomputable def c_ltoNode : Ctr := { args := [.val true (.pair (.pair .str (.pair .str .bool)) (.int .i64))], rets := [(true, [(none, .str), (none, .str), (none, .bool), (none, (.int .i64))])], F := ltoNode }
noncomputable def X_ltoNode : Ctx := XT.withΓ (lk [(174, c_ltoPair)]) (lk [])
noncomputable def H_ltoNode : Hints := ⟨lk [], lk [], lk []⟩
noncomputable def T_ltoNode : Nat → Option (LoopF c_ltoNode.Res) := lk []
theorem r_ltoNode (a) : fnRun X_ltoNode H_ltoNode c_ltoNode Tryz.f136 T_ltoNode a = ltoNode a := by kernel_rfl
theorem h_ltoNode [Tabs] : CtrHolds Tryz.prog 136 c_ltoNode := fn_ok (.cons h_ltoPair Tryz.call174 .nil) .nil (H := H_ltoNode) (tbl := T_ltoNode) Tryz.func136 (by kernel_rfl) (loops0 (by kernel_rfl)) r_ltoNode
/-! 92 ltoNodeS -/
noncomputable def ltoNodeS_L3 (O : Type) : Nat → (List ((List UInt8 × List UInt8 × Bool) × Int) × Int × List ((List UInt8 × List UInt8 × Bool) × Int)) → ((List ((List UInt8 × List UInt8 × Bool) × Int)) → Option O) → ((List ((List UInt8 × List UInt8 × Bool) × Int)) → Option O) → Option O
  | 0, _, _, _ => none
  | q + 1, (a1, i2, out3), x, r => (cond (decide (i2 < ((a1.length : Nat) : Int))) (cond (decide ((0 : Int) ≤ i2) && decide (i2 < ((a1.length : Nat) : Int))) ((ltoNode (((nth a1 i2).1.1, (nth a1 i2).1.2.1, (nth a1 i2).1.2.2), (nth a1 i2).2)).bind fun (r4, r5, r6, r7) => (cond (decide ((0 : Int) ≤ i2) && decide (i2 < ((out3.length : Nat) : Int))) (ltoNodeS_L3 O q (a1, (IntKind.wrap .i64 (i2 + (1 : Int))), (List.set out3 (Int.toNat i2) ((r4, r5, r6), r7))) x r) none)) none) (x out3))
noncomputable def ltoNodeS : (List ((List UInt8 × List UInt8 × Bool) × Int)) → Option (List ((List UInt8 × List UInt8 × Bool) × Int))
  | a0 => (cond (decide ((0 : Int) ≤ ((a0.length : Nat) : Int)) && ((((a0.length : Nat) : Int) == ((a0.length : Nat) : Int)) && decide (((a0.length : Nat) : Int) ≤ (4294967296 : Int)))) (ltoNodeS_L3 (List ((List UInt8 × List UInt8 × Bool) × Int)) fuel (a0, (0 : Int), (List.replicate (Int.toNat ((a0.length : Nat) : Int)) (([], [], false), (0 : Int)))) (fun out8 => (some out8)) some) none)
noncomputable def c_ltoNodeS : Ctr := { args := [.val false (.old (.pair (.pair .str (.pair .str .bool)) (.int .i64)))], rets := [(false, [(some 141, (.sl (.pair (.pair .str (.pair .str .bool)) (.int .i64))))])], F := ltoNodeS }
noncomputable def X_ltoNodeS : Ctx := XT.withΓ (lk [(136, c_ltoNode)]) (lk [])
noncomputable def H_ltoNodeS : Hints := ⟨lk [], lk [], lk []⟩
noncomputable def L_ltoNodeS_3 : LoopF c_ltoNodeS.Res := ⟨⟨23, [(0, .one (.val (.old (.pair (.pair .str (.pair .str .bool)) (.int .i64))))), (3, .one (.own 0)), (4, .one (.val (.int .i64)))], [.arr 141 (.pair (.pair .str (.pair .str .bool)) (.int .i64))], []⟩, [(0, ⟨23, [(3, .one (.own 0))], [.arr 141 (.pair (.pair .str (.pair .str .bool)) (.int .i64))], []⟩)], ltoNodeS_L3⟩
noncomputable def T_ltoNodeS : Nat → Option (LoopF c_ltoNodeS.Res) := lk [(3, L_ltoNodeS_3)]
theorem s_ltoNodeS_3 : StepOk X_ltoNodeS H_ltoNodeS (c_ltoNodeS.finish X_ltoNodeS Tryz.f92.results.toList) T_ltoNodeS (loopAt Tryz.f92 0) := ⟨L_ltoNodeS_3, by kernel_rfl, fun O y x r => by kernel_rfl, fun O k y x r => by kernel_rfl⟩
theorem r_ltoNodeS (a) : fnRun X_ltoNodeS H_ltoNodeS c_ltoNodeS Tryz.f92 T_ltoNodeS a = ltoNodeS a := by kernel_rfl
theorem h_ltoNodeS [Tabs] : CtrHolds Tryz.prog 92 c_ltoNodeS := fn_ok (.cons h_ltoNode Tryz.call136 .nil) .nil (H := H_ltoNodeS) (tbl := T_ltoNodeS) Tryz.func92 (by kernel_rfl) (loops1 (by kernel_rfl) s_ltoNodeS_3) r_ltoNodeS
/-! 43 ltoMem -/
noncomputable def ltoMem : (List ((List UInt8 × List UInt8 × Bool) × Int)) → Option (List ((List UInt8 × List UInt8 × Bool) × Int))
  | a0 => ((ltoNodeS a0).bind fun r1 => (some r1))
noncomputable def c_ltoMem : Ctr := { args := [.val true (.old (.pair (.pair .str (.pair .str .bool)) (.int .i64)))], rets := [(true, [(some 141, (.sl (.pair (.pair .str (.pair .str .bool)) (.int .i64))))])], F := ltoMem }
noncomputable def X_ltoMem : Ctx := XT.withΓ (lk [(92, c_ltoNodeS)]) (lk [])
noncomputable def H_ltoMem : Hints := ⟨lk [], lk [], lk []⟩
noncomputable def T_ltoMem : Nat → Option (LoopF c_ltoMem.Res) := lk []
theorem r_ltoMem (a) : fnRun X_ltoMem H_ltoMem c_ltoMem Tryz.f43 T_ltoMem a = ltoMem a := by kernel_rfl
theorem h_ltoMem [Tabs] : CtrHolds Tryz.prog 43 c_ltoMem := fn_ok (.cons h_ltoNodeS Tryz.call92 .nil) .nil (H := H_ltoMem) (tbl := T_ltoMem) Tryz.func43 (by kernel_rfl) (loops0 (by kernel_rfl)) r_ltoMem
/-! 137 ltoMeta -/
noncomputable def ltoMeta : (Int × Int × List UInt8 × List UInt8) → Option (Int × Int × List UInt8 × List UInt8)
  | (a0, a1, a2, a3) => (some (a0, a1, a2, a3))
noncomputable def c_ltoMeta : Ctr := { args := [.val true (.pair (.int .i64) (.pair (.int .i64) (.pair .str .str)))], rets := [(true, [(none, (.int .i64)), (none, (.int .i64)), (none, .str), (none, .str)])], F := ltoMeta }
noncomputable def X_ltoMeta : Ctx := XT.withΓ (lk []) (lk [])
noncomputable def H_ltoMeta : Hints := ⟨lk [], lk [], lk []⟩
noncomputable def T_ltoMeta : Nat → Option (LoopF c_ltoMeta.Res) := lk []
theorem r_ltoMeta (a) : fnRun X_ltoMeta H_ltoMeta c_ltoMeta Tryz.f137 T_ltoMeta a = ltoMeta a := by kernel_rfl
theorem h_ltoMeta [Tabs] : CtrHolds Tryz.prog 137 c_ltoMeta := fn_ok .nil .nil (H := H_ltoMeta) (tbl := T_ltoMeta) Tryz.func137 (by kernel_rfl) (loops0 (by kernel_rfl)) r_ltoMeta
/-! 93 ltoMetaS -/
noncomputable def ltoMetaS_L3 (O : Type) : Nat → (List (Int × Int × List UInt8 × List UInt8) × Int × List (Int × Int × List UInt8 × List UInt8)) → ((List (Int × Int × List UInt8 × List UInt8)) → Option O) → ((List (Int × Int × List UInt8 × List UInt8)) → Option O) → Option O
  | 0, _, _, _ => none
  | q + 1, (a1, i2, out3), x, r => (cond (decide (i2 < ((a1.length : Nat) : Int))) (cond (decide ((0 : Int) ≤ i2) && decide (i2 < ((a1.length : Nat) : Int))) ((ltoMeta ((nth a1 i2).1, (nth a1 i2).2.1, (nth a1 i2).2.2.1, (nth a1 i2).2.2.2)).bind fun (r4, r5, r6, r7) => (cond (decide ((0 : Int) ≤ i2) && decide (i2 < ((out3.length : Nat) : Int))) (ltoMetaS_L3 O q (a1, (IntKind.wrap .i64 (i2 + (1 : Int))), (List.set out3 (Int.toNat i2) (r4, r5, r6, r7))) x r) none)) none) (x out3))
noncomputable def ltoMetaS : (List (Int × Int × List UInt8 × List UInt8)) → Option (List (Int × Int × List UInt8 × List UInt8))
  | a0 => (cond (decide ((0 : Int) ≤ ((a0.length : Nat) : Int)) && ((((a0.length : Nat) : Int) == ((a0.length : Nat) : Int)) && decide (((a0.length : Nat) : Int) ≤ (4294967296 : Int)))) (ltoMetaS_L3 (List (Int × Int × List UInt8 × List UInt8)) fuel (a0, (0 : Int), (List.replicate (Int.toNat ((a0.length : Nat) : Int)) ((0 : Int), (0 : Int), [], []))) (fun out8 => (some out8)) some) none)
noncomputable def c_ltoMetaS : Ctr := { args := [.val false (.old (.pair (.int .i64) (.pair (.int .i64) (.pair .str .str))))], rets := [(false, [(some 88, (.sl (.pair (.int .i64) (.pair (.int .i64) (.pair .str .str)))))])], F := ltoMetaS }
noncomputable def X_ltoMetaS : Ctx := XT.withΓ (lk [(137, c_ltoMeta)]) (lk [])
noncomputable def H_ltoMetaS : Hints := ⟨lk [], lk [], lk []⟩
noncomputable def L_ltoMetaS_3 : LoopF c_ltoMetaS.Res := ⟨⟨23, [(0, .one (.val (.old (.pair (.int .i64) (.pair (.int .i64) (.pair .str .str)))))), (3, .one (.own 0)), (4, .one (.val (.int .i64)))], [.arr 88 (.pair (.int .i64) (.pair (.int .i64) (.pair .str .str)))], []⟩, [(0, ⟨23, [(3, .one (.own 0))], [.arr 88 (.pair (.int .i64) (.pair (.int .i64) (.pair .str .str)))], []⟩)], ltoMetaS_L3⟩
noncomputable def T_ltoMetaS : Nat → Option (LoopF c_ltoMetaS.Res) := lk [(3, L_ltoMetaS_3)]
theorem s_ltoMetaS_3 : StepOk X_ltoMetaS H_ltoMetaS (c_ltoMetaS.finish X_ltoMetaS Tryz.f93.results.toList) T_ltoMetaS (loopAt Tryz.f93 0) := ⟨L_ltoMetaS_3, by kernel_rfl, fun O y x r => by kernel_rfl, fun O k y x r => by kernel_rfl⟩
theorem r_ltoMetaS (a) : fnRun X_ltoMetaS H_ltoMetaS c_ltoMetaS Tryz.f93 T_ltoMetaS a = ltoMetaS a := by kernel_rfl
theorem h_ltoMetaS [Tabs] : CtrHolds Tryz.prog 93 c_ltoMetaS := fn_ok (.cons h_ltoMeta Tryz.call137 .nil) .nil (H := H_ltoMetaS) (tbl := T_ltoMetaS) Tryz.func93 (by kernel_rfl) (loops1 (by kernel_rfl) s_ltoMetaS_3) r_ltoMetaS
/-! 44 ltoManifest -/
noncomputable def ltoManifest : (Int × Int × List (Int × Int × List UInt8 × List UInt8)) → Option (Int × Int × List (Int × Int × List UInt8 × List UInt8))
  | (a0, a1, a2) => ((ltoMetaS a2).bind fun r3 => (some (a0, a1, r3)))
noncomputable def c_ltoManifest : Ctr := { args := [.val true (.pair (.int .i64) (.pair (.int .i64) (.old (.pair (.int .i64) (.pair (.int .i64) (.pair .str .str))))))], rets := [(true, [(none, (.int .i64)), (none, (.int .i64)), (some 88, (.sl (.pair (.int .i64) (.pair (.int .i64) (.pair .str .str)))))])], F := ltoManifest }
noncomputable def X_ltoManifest : Ctx := XT.withΓ (lk [(93, c_ltoMetaS)]) (lk [])
noncomputable def H_ltoManifest : Hints := ⟨lk [], lk [], lk []⟩
noncomputable def T_ltoManifest : Nat → Option (LoopF c_ltoManifest.Res) := lk []
theorem r_ltoManifest (a) : fnRun X_ltoManifest H_ltoManifest c_ltoManifest Tryz.f44 T_ltoManifest a = ltoManifest a := by kernel_rfl
theorem h_ltoManifest [Tabs] : CtrHolds Tryz.prog 44 c_ltoManifest := fn_ok (.cons h_ltoMetaS Tryz.call93 .nil) .nil (H := H_ltoManifest) (tbl := T_ltoManifest) Tryz.func44 (by kernel_rfl) (loops0 (by kernel_rfl)) r_ltoManifest
/-! 16 ltoStore -/
noncomputable def ltoStore : ((List (Int × List Int × Int) × List (List UInt8 × Int) × List (List UInt8 × Int) × Int) × List ((List UInt8 × List UInt8 × Bool) × Int) × Int × Int × List (Int × Int × List UInt8 × List UInt8)) → Option (List (Int × List Int × Int) × List (List UInt8 × Int) × List (List UInt8 × Int) × Int × List ((List UInt8 × List UInt8 × Bool) × Int) × Int × Int × List (Int × Int × List UInt8 × List UInt8))
  | ((a0, a1, a2, a3), a4, a5, a6, a7) => ((ltoDisk (a0, a1, a2, a3)).bind fun (r8, r9, r10, r11) => ((ltoMem a4).bind fun r12 => ((ltoManifest (a5, a6, a7)).bind fun (r13, r14, r15) => (some (r8, r9, r10, r11, r12, r13, r14, r15)))))
noncomputable def c_ltoStore : Ctr := { args := [.val true (.pair (.pair (.old (.pair (.int .i64) (.pair (.old (.int .u8)) (.int .i64)))) (.pair (.old (.pair .str (.int .i64))) (.pair (.old (.pair .str (.int .i64))) (.int .i64)))) (.pair (.old (.pair (.pair .str (.pair .str .bool)) (.int .i64))) (.pair (.int .i64) (.pair (.int .i64) (.old (.pair (.int .i64) (.pair (.int .i64) (.pair .str .str))))))))], rets := [(true, [(some 106, (.sl (.pair (.int .i64) (.pair (.sl (.int .u8)) (.int .i64))))), (some 104, (.sl (.pair .str (.int .i64)))), (some 104, (.sl (.pair .str (.int .i64)))), (none, (.int .i64)), (some 141, (.sl (.pair (.pair .str (.pair .str .bool)) (.int .i64)))), (none, (.int .i64)), (none, (.int .i64)), (some 88, (.sl (.pair (.int .i64) (.pair (.int .i64) (.pair .str .str)))))])], F := ltoStore }
noncomputable def X_ltoStore : Ctx := XT.withΓ (lk [(7, c_ltoDisk), (43, c_ltoMem), (44, c_ltoManifest)]) (lk [])
noncomputable def H_ltoStore : Hints := ⟨lk [], lk [], lk []⟩
noncomputable def T_ltoStore : Nat → Option (LoopF c_ltoStore.Res) := lk []
theorem r_ltoStore (a) : fnRun X_ltoStore H_ltoStore c_ltoStore Tryz.f16 T_ltoStore a = ltoStore a := by kernel_rfl
theorem h_ltoStore [Tabs] : CtrHolds Tryz.prog 16 c_ltoStore := fn_ok (.cons h_ltoDisk Tryz.call7 (.cons h_ltoMem Tryz.call43 (.cons h_ltoManifest Tryz.call44 .nil))) .nil (H := H_ltoStore) (tbl := T_ltoStore) Tryz.func16 (by kernel_rfl) (loops0 (by kernel_rfl)) r_ltoStore
/-! 128 sPairOk -/
noncomputable def sPairOk : (List UInt8 × List UInt8 × Bool) → Option Bool
  | (p0, p1, p2) => ((sl1In (((p0.length : Nat) : Int), (1 : Int), (20 : Int))).bind fun r3 => (cond r3 (cond (decide (((p1.length : Nat) : Int) ≤ (20 : Int))) (cond (!p2) (some true) (some (p1 == []))) (some false)) (some false)))
noncomputable def c_sPairOk : Ctr := { args := [.val true (.pair .str (.pair .str .bool))], rets := [(false, [(none, .bool)])], F := sPairOk }
noncomputable def X_sPairOk : Ctx := XT.withΓ (lk [(108, c_sl1In)]) (lk [])
noncomputable def H_sPairOk : Hints := ⟨lk [], lk [], lk []⟩
noncomputable def T_sPairOk : Nat → Option (LoopF c_sPairOk.Res) := lk []
theorem r_sPairOk (a) : fnRun X_sPairOk H_sPairOk c_sPairOk Tryz.f128 T_sPairOk a = sPairOk a := by kernel_rfl
theorem h_sPairOk [Tabs] : CtrHolds Tryz.prog 128 c_sPairOk := fn_ok (.cons h_sl1In Tryz.call108 .nil) .nil (H := H_sPairOk) (tbl := T_sPairOk) Tryz.func128 (by kernel_rfl) (loops0 (by kernel_rfl)) r_sPairOk
/-! 81 sMemOk -/
noncomputable def sMemOk_L2 (O : Type) : Nat → (Int × List ((List UInt8 × List UInt8 × Bool) × Int)) → ((List ((List UInt8 × List UInt8 × Bool) × Int)) → Option O) → (Bool → Option O) → Option O
  | 0, _, _, _ => none
  | q + 1, (i1, m2), x, r => (cond (decide (i1 < ((m2.length : Nat) : Int))) (cond (decide ((0 : Int) ≤ i1) && decide (i1 < ((m2.length : Nat) : Int))) ((sPairOk ((nth m2 i1).1.1, (nth m2 i1).1.2.1, (nth m2 i1).1.2.2)).bind fun r3 => (cond (!r3) (r false) ((sl1In ((nth m2 i1).2, (1 : Int), (4 : Int))).bind fun r4 => (cond (!r4) (r false) (cond (decide (i1 > (0 : Int))) (cond (decide ((0 : Int) ≤ (IntKind.wrap .i64 (i1 - (1 : Int)))) && decide ((IntKind.wrap .i64 (i1 - (1 : Int))) < ((m2.length : Nat) : Int))) (cond (!(Op.bytesLess (nth m2 (IntKind.wrap .i64 (i1 - (1 : Int)))).1.1 (nth m2 i1).1.1)) (r false) (sMemOk_L2 O q ((IntKind.wrap .i64 (i1 + (1 : Int))), m2) x r)) none) (sMemOk_L2 O q ((IntKind.wrap .i64 (i1 + (1 : Int))), m2) x r)))))) none) (x m2))
noncomputable def sMemOk : (List ((List UInt8 × List UInt8 × Bool) × Int)) → Option Bool
  | m0 => (sMemOk_L2 Bool fuel ((0 : Int), m0) (fun m5 => (some (decide (((m5.length : Nat) : Int) ≤ (60 : Int))))) some)
noncomputable def c_sMemOk : Ctr := { args := [.val true (.sl (.pair (.pair .str (.pair .str .bool)) (.int .i64)))], rets := [(false, [(none, .bool)])], F := sMemOk }
noncomputable def X_sMemOk : Ctx := XT.withΓ (lk [(128, c_sPairOk), (108, c_sl1In)]) (lk [])
noncomputable def H_sMemOk : Hints := ⟨lk [], lk [], lk []⟩
noncomputable def L_sMemOk_2 : LoopF c_sMemOk.Res := ⟨⟨49, [(1, .one (.ptr 0 0)), (3, .one (.val (.int .i64)))], [.vars 55 [.val (.sl (.pair (.pair .str (.pair .str .bool)) (.int .i64)))]], []⟩, [(0, ⟨49, [(1, .one (.ptr 0 0))], [.vars 55 [.val (.sl (.pair (.pair .str (.pair .str .bool)) (.int .i64)))]], []⟩)], sMemOk_L2⟩
noncomputable def T_sMemOk : Nat → Option (LoopF c_sMemOk.Res) := lk [(2, L_sMemOk_2)]
theorem s_sMemOk_2 : StepOk X_sMemOk H_sMemOk (c_sMemOk.finish X_sMemOk Tryz.f81.results.toList) T_sMemOk (loopAt Tryz.f81 0) := ⟨L_sMemOk_2, by kernel_rfl, fun O y x r => by kernel_rfl, fun O k y x r => by kernel_rfl⟩
theorem r_sMemOk (a) : fnRun X_sMemOk H_sMemOk c_sMemOk Tryz.f81 T_sMemOk a = sMemOk a := by kernel_rfl
theorem h_sMemOk [Tabs] : CtrHolds Tryz.prog 81 c_sMemOk := fn_ok (.cons h_sPairOk Tryz.call128 (.cons h_sl1In Tryz.call108 .nil)) .nil (H := H_sMemOk) (tbl := T_sMemOk) Tryz.func81 (by kernel_rfl) (loops1 (by kernel_rfl) s_sMemOk_2) r_sMemOk
/-! 82 sl7Log -/
noncomputable def sl7Log : Int → Option (List UInt8)
  | n0 => ((sl6Text n0).bind fun r1 => (cond (decide ((4 + r1.length) ≤ lenBound)) (some ([108, 111, 103, 45] ++ r1)) none))
noncomputable def c_sl7Log : Ctr := { args := [.val false (.int .i64)], rets := [(false, [(none, .str)])], F := sl7Log }
noncomputable def X_sl7Log : Ctx := XT.withΓ (lk [(111, c_sl6Text)]) (lk [])
noncomputable def H_sl7Log : Hints := ⟨lk [], lk [], lk []⟩
noncomputable def T_sl7Log : Nat → Option (LoopF c_sl7Log.Res) := lk []
theorem r_sl7Log (a) : fnRun X_sl7Log H_sl7Log c_sl7Log Tryz.f82 T_sl7Log a = sl7Log a := by kernel_rfl
theorem h_sl7Log [Tabs] : CtrHolds Tryz.prog 82 c_sl7Log := fn_ok (.cons h_sl6Text Tryz.call111 .nil) .nil (H := H_sl7Log) (tbl := T_sl7Log) Tryz.func82 (by kernel_rfl) (loops0 (by kernel_rfl)) r_sl7Log
/-! 163 sl1FourAt -/
noncomputable def sl1FourAt : (List Int × Int) → Option (Int × Bool)
  | (b0, at1) => (cond (decide (at1 < (0 : Int))) (some ((0 : Int), false)) (cond (decide (at1 > (IntKind.wrap .i64 (((b0.length : Nat) : Int) - (4 : Int))))) (some ((0 : Int), false)) (cond (decide ((0 : Int) ≤ at1) && decide (at1 < ((b0.length : Nat) : Int))) (cond (decide ((0 : Int) ≤ (IntKind.wrap .i64 (at1 + (1 : Int)))) && decide ((IntKind.wrap .i64 (at1 + (1 : Int))) < ((b0.length : Nat) : Int))) (cond (decide ((0 : Int) ≤ (IntKind.wrap .i64 (at1 + (2 : Int)))) && decide ((IntKind.wrap .i64 (at1 + (2 : Int))) < ((b0.length : Nat) : Int))) (cond (decide ((0 : Int) ≤ (IntKind.wrap .i64 (at1 + (3 : Int)))) && decide ((IntKind.wrap .i64 (at1 + (3 : Int))) < ((b0.length : Nat) : Int))) (some ((bits .or .i64 (bits .or .i64 (bits .or .i64 (IntKind.wrap .i64 ((IntKind.wrap .i64 (nth b0 at1)) * (16777216 : Int))) (IntKind.wrap .i64 ((IntKind.wrap .i64 (nth b0 (IntKind.wrap .i64 (at1 + (1 : Int))))) * (65536 : Int)))) (IntKind.wrap .i64 ((IntKind.wrap .i64 (nth b0 (IntKind.wrap .i64 (at1 + (2 : Int))))) * (256 : Int)))) (IntKind.wrap .i64 (nth b0 (IntKind.wrap .i64 (at1 + (3 : Int)))))), true)) none) none) none) none)))
noncomputable def c_sl1FourAt : Ctr := { args := [.val false (.sl (.int .u8)), .val false (.int .i64)], rets := [(false, [(none, (.int .i64))]), (false, [(none, .bool)])], F := sl1FourAt }
noncomputable def X_sl1FourAt : Ctx := XT.withΓ (lk []) (lk [])
noncomputable def H_sl1FourAt : Hints := ⟨lk [], lk [], lk []⟩
noncomputable def T_sl1FourAt : Nat → Option (LoopF c_sl1FourAt.Res) := lk []
theorem r_sl1FourAt (a) : fnRun X_sl1FourAt H_sl1FourAt c_sl1FourAt Tryz.f163 T_sl1FourAt a = sl1FourAt a := by kernel_rfl
theorem h_sl1FourAt [Tabs] : CtrHolds Tryz.prog 163 c_sl1FourAt := fn_ok .nil .nil (H := H_sl1FourAt) (tbl := T_sl1FourAt) Tryz.func163 (by kernel_rfl) (loops0 (by kernel_rfl)) r_sl1FourAt
/-! 164 sGetNum -/
noncomputable def sGetNum_L3 (O : Type) : Nat → (List Int × Int × Int × Int) → (Unit → Option O) → ((Int × Int × Bool) → Option O) → Option O
  | 0, _, _, _ => none
  | q + 1, (b2, at3, n4, k5), x, r => (cond (decide (k5 < (5 : Int))) (cond (decide (at3 ≥ (0 : Int))) (cond (decide (at3 < ((b2.length : Nat) : Int))) (cond (decide ((IntKind.wrap .i64 (at3 + k5)) < ((b2.length : Nat) : Int))) (cond (decide ((0 : Int) ≤ (IntKind.wrap .i64 (at3 + k5))) && decide ((IntKind.wrap .i64 (at3 + k5)) < ((b2.length : Nat) : Int))) (((cond (k5 == (0 : Int)) (cond ((IntKind.wrap .i64 (nth b2 (IntKind.wrap .i64 (at3 + k5)))) == (128 : Int)) ((r ((0 : Int), (0 : Int), false)).map Sum.inr) (some (Sum.inl (b2, at3, n4, k5, (IntKind.wrap .i64 (nth b2 (IntKind.wrap .i64 (at3 + k5)))), at3, decide (at3 ≥ (0 : Int)), at3, b2, ((b2.length : Nat) : Int), decide (at3 < ((b2.length : Nat) : Int)), at3, k5, (IntKind.wrap .i64 (at3 + k5)), b2, ((b2.length : Nat) : Int), decide ((IntKind.wrap .i64 (at3 + k5)) < ((b2.length : Nat) : Int)))))) (some (Sum.inl (b2, at3, n4, k5, (IntKind.wrap .i64 (nth b2 (IntKind.wrap .i64 (at3 + k5)))), at3, decide (at3 ≥ (0 : Int)), at3, b2, ((b2.length : Nat) : Int), decide (at3 < ((b2.length : Nat) : Int)), at3, k5, (IntKind.wrap .i64 (at3 + k5)), b2, ((b2.length : Nat) : Int), decide ((IntKind.wrap .i64 (at3 + k5)) < ((b2.length : Nat) : Int)))))) : Option ((List Int × Int × Int × Int × Int × Int × Bool × Int × List Int × Int × Bool × Int × Int × Int × List Int × Int × Bool) ⊕ O)).bind fun z => match z with | .inl (b6, at7, n8, k9, c10, v11, v12, v13, v14, v15, v16, v17, v18, v19, v20, v21, v22) => (cond (decide (c10 < (128 : Int))) (cond (decide ((bits .or .i64 (IntKind.wrap .i64 (n8 * (128 : Int))) (bits .and .i64 c10 (127 : Int))) > (1000000000 : Int))) (r ((0 : Int), (0 : Int), false)) (r ((bits .or .i64 (IntKind.wrap .i64 (n8 * (128 : Int))) (bits .and .i64 c10 (127 : Int))), (IntKind.wrap .i64 ((IntKind.wrap .i64 (at7 + k9)) + (1 : Int))), true))) (sGetNum_L3 O q (b6, at7, (bits .or .i64 (IntKind.wrap .i64 (n8 * (128 : Int))) (bits .and .i64 c10 (127 : Int))), (IntKind.wrap .i64 (k9 + (1 : Int)))) x r)) | .inr o => some o) none) (x ())) (x ())) (x ())) (x ()))
noncomputable def sGetNum : (List Int × Int) → Option (Int × Int × Bool)
  | (b0, at1) => (sGetNum_L3 (Int × Int × Bool) fuel (b0, at1, (0 : Int), (0 : Int)) (fun _ => (some ((0 : Int), (0 : Int), false))) some)
noncomputable def c_sGetNum : Ctr := { args := [.val false (.sl (.int .u8)), .val false (.int .i64)], rets := [(false, [(none, (.int .i64))]), (false, [(none, (.int .i64))]), (false, [(none, .bool)])], F := sGetNum }
noncomputable def X_sGetNum : Ctx := XT.withΓ (lk []) (lk [])
noncomputable def H_sGetNum : Hints := ⟨lk [], lk [(8, ⟨59, [(0, .one (.val (.sl (.int .u8)))), (1, .one (.val (.int .i64))), (7, .one (.val (.int .i64))), (8, .one (.val (.int .i64))), (9, .one (.val (.int .i64))), (13, .one (.val (.int .i64))), (14, .one (.val .bool)), (17, .one (.val (.int .i64))), (18, .one (.val (.sl (.int .u8)))), (19, .one (.val (.int .i64))), (20, .one (.val .bool)), (23, .one (.val (.int .i64))), (24, .one (.val (.int .i64))), (25, .one (.val (.int .i64))), (26, .one (.val (.sl (.int .u8)))), (27, .one (.val (.int .i64))), (28, .one (.val .bool))], [], []⟩)], lk []⟩
noncomputable def L_sGetNum_3 : LoopF c_sGetNum.Res := ⟨⟨59, [(0, .one (.val (.sl (.int .u8)))), (1, .one (.val (.int .i64))), (7, .one (.val (.int .i64))), (8, .one (.val (.int .i64)))], [], []⟩, [(0, ⟨59, [], [], []⟩)], sGetNum_L3⟩
noncomputable def T_sGetNum : Nat → Option (LoopF c_sGetNum.Res) := lk [(3, L_sGetNum_3)]
theorem s_sGetNum_3 : StepOk X_sGetNum H_sGetNum (c_sGetNum.finish X_sGetNum Tryz.f164.results.toList) T_sGetNum (loopAt Tryz.f164 0) := ⟨L_sGetNum_3, by kernel_rfl, fun O y x r => by kernel_rfl, fun O k y x r => by kernel_rfl⟩
theorem r_sGetNum (a) : fnRun X_sGetNum H_sGetNum c_sGetNum Tryz.f164 T_sGetNum a = sGetNum a := by kernel_rfl
theorem h_sGetNum [Tabs] : CtrHolds Tryz.prog 164 c_sGetNum := fn_ok .nil .nil (H := H_sGetNum) (tbl := T_sGetNum) Tryz.func164 (by kernel_rfl) (loops1 (by kernel_rfl) s_sGetNum_3) r_sGetNum
/-! 165 sSum -/
noncomputable def sSum_L7 (O : Type) : Nat → (List Int × Int × Int × Int) → ((List Int × Int × Int) → Option O) → (Int → Option O) → Option O
  | 0, _, _, _ => none
  | q + 1, (b4, x5, i6, k7), x, r => (cond (decide (k7 < (8 : Int))) (cond ((bits .and .i64 x5 (1 : Int)) == (1 : Int)) (sSum_L7 O q (b4, (bits .xor .i64 (Int.fdiv x5 (2 : Int)) (2197175160 : Int)), i6, (IntKind.wrap .i64 (k7 + (1 : Int)))) x r) (sSum_L7 O q (b4, (Int.fdiv x5 (2 : Int)), i6, (IntKind.wrap .i64 (k7 + (1 : Int)))) x r)) (x (b4, x5, i6)))
noncomputable def sSum_L3 (O : Type) : Nat → (List Int × Int × Int) → (Int → Option O) → (Int → Option O) → Option O
  | 0, _, _, _ => none
  | q + 1, (b1, x2, i3), x, r => (cond (decide (i3 < ((b1.length : Nat) : Int))) (cond (decide ((0 : Int) ≤ i3) && decide (i3 < ((b1.length : Nat) : Int))) (sSum_L7 O fuel (b1, (bits .xor .i64 x2 (IntKind.wrap .i64 (nth b1 i3))), i3, (0 : Int)) (fun (b8, x9, i10) => (sSum_L3 O q (b8, x9, (IntKind.wrap .i64 (i10 + (1 : Int)))) x r)) r) none) (x x2))
noncomputable def sSum : (List Int) → Option Int
  | b0 => (sSum_L3 Int fuel (b0, (4294967295 : Int), (0 : Int)) (fun x11 => (some (bits .xor .i64 x11 (4294967295 : Int)))) some)
noncomputable def c_sSum : Ctr := { args := [.val false (.sl (.int .u8))], rets := [(false, [(none, (.int .i64))])], F := sSum }
noncomputable def X_sSum : Ctx := XT.withΓ (lk []) (lk [])
noncomputable def H_sSum : Hints := ⟨lk [], lk [], lk []⟩
noncomputable def L_sSum_3 : LoopF c_sSum.Res := ⟨⟨34, [(0, .one (.val (.sl (.int .u8)))), (3, .one (.val (.int .i64))), (4, .one (.val (.int .i64)))], [], []⟩, [(0, ⟨34, [(3, .one (.val (.int .i64)))], [], []⟩)], sSum_L3⟩
noncomputable def L_sSum_7 : LoopF c_sSum.Res := ⟨⟨34, [(0, .one (.val (.sl (.int .u8)))), (3, .one (.val (.int .i64))), (4, .one (.val (.int .i64))), (5, .one (.val (.int .i64)))], [], []⟩, [(2, ⟨34, [(0, .one (.val (.sl (.int .u8)))), (3, .one (.val (.int .i64))), (4, .one (.val (.int .i64)))], [], []⟩)], sSum_L7⟩
noncomputable def T_sSum : Nat → Option (LoopF c_sSum.Res) := lk [(3, L_sSum_3), (7, L_sSum_7)]
theorem s_sSum_3 : StepOk X_sSum H_sSum (c_sSum.finish X_sSum Tryz.f165.results.toList) T_sSum (loopAt Tryz.f165 0) := ⟨L_sSum_3, by kernel_rfl, fun O y x r => by kernel_rfl, fun O k y x r => by kernel_rfl⟩
theorem s_sSum_7 : StepOk X_sSum H_sSum (c_sSum.finish X_sSum Tryz.f165.results.toList) T_sSum (loopAt Tryz.f165 1) := ⟨L_sSum_7, by kernel_rfl, fun O y x r => by kernel_rfl, fun O k y x r => by kernel_rfl⟩
theorem r_sSum (a) : fnRun X_sSum H_sSum c_sSum Tryz.f165 T_sSum a = sSum a := by kernel_rfl
theorem h_sSum [Tabs] : CtrHolds Tryz.prog 165 c_sSum := fn_ok .nil .nil (H := H_sSum) (tbl := T_sSum) Tryz.func165 (by kernel_rfl) (loops2 (by kernel_rfl) s_sSum_3 s_sSum_7) r_sSum
/-! 129 sUnframe -/
noncomputable def sUnframe : (List Int × Int) → Option (List Int × Int × Bool)
  | (b0, at1) => ((sl1FourAt (b0, at1)).bind fun (r2, r3) => (cond (!r3) (some ([], at1, false)) ((sGetNum (b0, (IntKind.wrap .i64 (at1 + (4 : Int))))).bind fun (r4, r5, r6) => (cond (!r6) (some ([], at1, false)) (cond (decide (r4 > (IntKind.wrap .i64 (((b0.length : Nat) : Int) - r5)))) (some ([], at1, false)) (cond (decide ((0 : Int) ≤ r5) && (decide (r5 ≤ (IntKind.wrap .i64 (r5 + r4))) && decide ((IntKind.wrap .i64 (r5 + r4)) ≤ ((b0.length : Nat) : Int)))) (cond (decide ((0 + (cut b0 r5 (IntKind.wrap .i64 (r5 + r4))).length) ≤ lenBound)) ((sSum ([] ++ (cut b0 r5 (IntKind.wrap .i64 (r5 + r4))))).bind fun r7 => (cond (r7 != r2) (some ([], at1, false)) (some (([] ++ (cut b0 r5 (IntKind.wrap .i64 (r5 + r4)))), (IntKind.wrap .i64 (r5 + r4)), true)))) none) none))))))
noncomputable def c_sUnframe : Ctr := { args := [.val false (.sl (.int .u8)), .val false (.int .i64)], rets := [(false, [(none, (.sl (.int .u8)))]), (false, [(none, (.int .i64))]), (false, [(none, .bool)])], F := sUnframe }
noncomputable def X_sUnframe : Ctx := XT.withΓ (lk [(163, c_sl1FourAt), (164, c_sGetNum), (165, c_sSum)]) (lk [])
noncomputable def H_sUnframe : Hints := ⟨lk [], lk [], lk []⟩
noncomputable def T_sUnframe : Nat → Option (LoopF c_sUnframe.Res) := lk []
theorem r_sUnframe (a) : fnRun X_sUnframe H_sUnframe c_sUnframe Tryz.f129 T_sUnframe a = sUnframe a := by kernel_rfl
theorem h_sUnframe [Tabs] : CtrHolds Tryz.prog 129 c_sUnframe := fn_ok (.cons h_sl1FourAt Tryz.call163 (.cons h_sGetNum Tryz.call164 (.cons h_sSum Tryz.call165 .nil))) .nil (H := H_sUnframe) (tbl := T_sUnframe) Tryz.func129 (by kernel_rfl) (loops0 (by kernel_rfl)) r_sUnframe
/-! 83 sRecords -/
noncomputable def sRecords_L3 (O : Type) : Nat → (List Int × Int × List (List Int)) → (Empty → Option O) → ((List (List Int) × Int) → Option O) → Option O
  | 0, _, _, _ => none
  | q + 1, (b1, at2, out3), x, r => ((sUnframe (b1, at2)).bind fun (r4, r5, r6) => (cond (!r6) (r (out3, at2)) (cond (decide ((out3.length + [r4].length) ≤ lenBound)) (sRecords_L3 O q (b1, r5, (out3 ++ [r4])) x r) none)))
noncomputable def sRecords : (List Int) → Option (List (List Int) × Int)
  | b0 => (sRecords_L3 (List (List Int) × Int) fuel (b0, (0 : Int), []) (fun z => z.elim) some)
noncomputable def c_sRecords : Ctr := { args := [.val false (.sl (.int .u8))], rets := [(false, [(some 66, (.sl (.sl (.int .u8))))]), (false, [(none, (.int .i64))])], F := sRecords }
noncomputable def X_sRecords : Ctx := XT.withΓ (lk [(129, c_sUnframe)]) (lk [])
noncomputable def H_sRecords : Hints := ⟨lk [], lk [], lk []⟩
noncomputable def L_sRecords_3 : LoopF c_sRecords.Res := ⟨⟨26, [(0, .one (.val (.sl (.int .u8)))), (4, .one (.own 0)), (5, .one (.val (.int .i64)))], [.arr 66 (.sl (.int .u8))], []⟩, [], sRecords_L3⟩
noncomputable def T_sRecords : Nat → Option (LoopF c_sRecords.Res) := lk [(3, L_sRecords_3)]
theorem s_sRecords_3 : StepOk X_sRecords H_sRecords (c_sRecords.finish X_sRecords Tryz.f83.results.toList) T_sRecords (loopAt Tryz.f83 0) := ⟨L_sRecords_3, by kernel_rfl, fun O y x r => by kernel_rfl, fun O k y x r => by kernel_rfl⟩
theorem r_sRecords (a) : fnRun X_sRecords H_sRecords c_sRecords Tryz.f83 T_sRecords a = sRecords a := by kernel_rfl
theorem h_sRecords [Tabs] : CtrHolds Tryz.prog 83 c_sRecords := fn_ok (.cons h_sUnframe Tryz.call129 .nil) .nil (H := H_sRecords) (tbl := T_sRecords) Tryz.func83 (by kernel_rfl) (loops1 (by kernel_rfl) s_sRecords_3) r_sRecords
/-! 166 sGetText -/
noncomputable def sGetText : (List Int × Int) → Option (List UInt8 × Int × Bool)
  | (b0, at1) => ((sGetNum (b0, at1)).bind fun (r2, r3, r4) => (cond (!r4) (some ([], (0 : Int), false)) (cond (decide (r2 > (IntKind.wrap .i64 (((b0.length : Nat) : Int) - r3)))) (some ([], (0 : Int), false)) (cond (decide ((0 : Int) ≤ r3) && (decide (r3 ≤ (IntKind.wrap .i64 (r3 + r2))) && decide ((IntKind.wrap .i64 (r3 + r2)) ≤ ((b0.length : Nat) : Int)))) (some ((strOf (cut b0 r3 (IntKind.wrap .i64 (r3 + r2)))), (IntKind.wrap .i64 (r3 + r2)), true)) none))))
noncomputable def c_sGetText : Ctr := { args := [.val false (.sl (.int .u8)), .val false (.int .i64)], rets := [(false, [(none, .str)]), (false, [(none, (.int .i64))]), (false, [(none, .bool)])], F := sGetText }
noncomputable def X_sGetText : Ctx := XT.withΓ (lk [(164, c_sGetNum)]) (lk [])
noncomputable def H_sGetText : Hints := ⟨lk [], lk [], lk []⟩
noncomputable def T_sGetText : Nat → Option (LoopF c_sGetText.Res) := lk []
theorem r_sGetText (a) : fnRun X_sGetText H_sGetText c_sGetText Tryz.f166 T_sGetText a = sGetText a := by kernel_rfl
theorem h_sGetText [Tabs] : CtrHolds Tryz.prog 166 c_sGetText := fn_ok (.cons h_sGetNum Tryz.call164 .nil) .nil (H := H_sGetText) (tbl := T_sGetText) Tryz.func166 (by kernel_rfl) (loops0 (by kernel_rfl)) r_sGetText
/-! 130 sl7Read -/
noncomputable def sl7Read : (List Int) → Option ((List UInt8 × List UInt8 × Bool) × Int × Bool)
  | b0 => ((sGetText (b0, (0 : Int))).bind fun (r1, r2, r3) => (cond (!r3) (some (([], [], false), (0 : Int), false)) (cond (decide (r2 ≥ ((b0.length : Nat) : Int))) (some (([], [], false), (0 : Int), false)) (cond (decide ((0 : Int) ≤ r2) && decide (r2 < ((b0.length : Nat) : Int))) (cond (decide ((nth b0 r2) > (1 : Int))) (some (([], [], false), (0 : Int), false)) ((sGetText (b0, (IntKind.wrap .i64 (r2 + (1 : Int))))).bind fun (r4, r5, r6) => (cond (decide ((0 : Int) ≤ r2) && decide (r2 < ((b0.length : Nat) : Int))) (cond (!r6) (some (([], [], false), (0 : Int), false)) (cond (r5 != (IntKind.wrap .i64 (((b0.length : Nat) : Int) - (1 : Int)))) (some (([], [], false), (0 : Int), false)) ((sPairOk (r1, r4, ((nth b0 r2) == (1 : Int)))).bind fun r7 => (cond (!r7) (some (([], [], false), (0 : Int), false)) (cond (decide ((0 : Int) ≤ r5) && decide (r5 < ((b0.length : Nat) : Int))) ((sl1In ((IntKind.wrap .i64 (nth b0 r5)), (1 : Int), (4 : Int))).bind fun r8 => (cond (!r8) (some (([], [], false), (0 : Int), false)) (cond (decide ((0 : Int) ≤ r5) && decide (r5 < ((b0.length : Nat) : Int))) (some ((r1, r4, ((nth b0 r2) == (1 : Int))), (IntKind.wrap .i64 (nth b0 r5)), true)) none))) none))))) none))) none))))
noncomputable def c_sl7Read : Ctr := { args := [.val false (.sl (.int .u8))], rets := [(true, [(none, .str), (none, .str), (none, .bool)]), (false, [(none, (.int .i64))]), (false, [(none, .bool)])], F := sl7Read }
noncomputable def X_sl7Read : Ctx := XT.withΓ (lk [(166, c_sGetText), (128, c_sPairOk), (108, c_sl1In)]) (lk [])
noncomputable def H_sl7Read : Hints := ⟨lk [], lk [], lk [(8, [0, 6, 1, 2, 3, 4, 5, 7, 8])]⟩
noncomputable def T_sl7Read : Nat → Option (LoopF c_sl7Read.Res) := lk []
theorem r_sl7Read (a) : fnRun X_sl7Read H_sl7Read c_sl7Read Tryz.f130 T_sl7Read a = sl7Read a := by kernel_rfl
theorem h_sl7Read [Tabs] : CtrHolds Tryz.prog 130 c_sl7Read := fn_ok (.cons h_sGetText Tryz.call166 (.cons h_sPairOk Tryz.call128 (.cons h_sl1In Tryz.call108 .nil))) .nil (H := H_sl7Read) (tbl := T_sl7Read) Tryz.func130 (by kernel_rfl) (loops0 (by kernel_rfl)) r_sl7Read
/-! 131 sMemPut -/
noncomputable def sMemPut_L5 (O : Type) : Nat → (Int × Int × List UInt8 × List UInt8 × Bool × List ((List UInt8 × List UInt8 × Bool) × Int)) → ((Int × Int × List UInt8 × List UInt8 × Bool × List ((List UInt8 × List UInt8 × Bool) × Int)) → Option O) → ((List ((List UInt8 × List UInt8 × Bool) × Int) × Bool) → Option O) → Option O
  | 0, _, _, _ => none
  | q + 1, (tower8, k9, p10, p11, p12, out13), x, r => (cond (decide (k9 < ((out13.length : Nat) : Int))) (cond (decide ((0 : Int) ≤ k9) && decide (k9 < ((out13.length : Nat) : Int))) (cond (Op.bytesLess (nth out13 k9).1.1 p10) (sMemPut_L5 O q (tower8, (IntKind.wrap .i64 (k9 + (1 : Int))), p10, p11, p12, out13) x r) (x (tower8, k9, p10, p11, p12, out13))) none) (x (tower8, k9, p10, p11, p12, out13)))
noncomputable def sMemPut : (List ((List UInt8 × List UInt8 × Bool) × Int) × (List UInt8 × List UInt8 × Bool) × Int) → Option (List ((List UInt8 × List UInt8 × Bool) × Int) × Bool)
  | (m0, (p1, p2, p3), tower4) => (cond (decide ((0 + m0.length) ≤ lenBound)) ((sMemOk m0).bind fun r5 => (cond (!r5) (some (([] ++ m0), false)) ((sPairOk (p1, p2, p3)).bind fun r6 => (cond (!r6) (some (([] ++ m0), false)) ((sl1In (tower4, (1 : Int), (4 : Int))).bind fun r7 => (cond (!r7) (some (([] ++ m0), false)) (sMemPut_L5 (List ((List UInt8 × List UInt8 × Bool) × Int) × Bool) fuel (tower4, (0 : Int), p1, p2, p3, ([] ++ m0)) (fun (tower14, k15, p16, p17, p18, out19) => ((cond (decide (k15 < ((out19.length : Nat) : Int))) (cond (decide ((0 : Int) ≤ k15) && decide (k15 < ((out19.length : Nat) : Int))) (some (tower14, k15, ((nth out19 k15).1.1 == p16), p16, p17, p18, out19)) none) (some (tower14, k15, false, p16, p17, p18, out19))).bind fun (tower20, k21, v22, p23, p24, p25, out26) => (cond v22 (cond (decide ((0 : Int) ≤ k21) && decide (k21 < ((out26.length : Nat) : Int))) (some ((List.set out26 (Int.toNat k21) ((p23, p24, p25), (nth out26 k21).2)), true)) none) (cond (((out26.length : Nat) : Int) == (60 : Int)) (some (out26, false)) (cond (decide ((0 : Int) ≤ k21) && decide (k21 ≤ ((out26.length : Nat) : Int))) (cond (decide ((0 + (cut out26 (0 : Int) k21).length) ≤ lenBound)) (cond (decide ((([] ++ (cut out26 (0 : Int) k21)).length + [((p23, p24, p25), tower20)].length) ≤ lenBound)) (cond (decide ((0 : Int) ≤ k21) && (decide (k21 ≤ ((out26.length : Nat) : Int)) && decide (((out26.length : Nat) : Int) ≤ ((out26.length : Nat) : Int)))) (cond (decide (((([] ++ (cut out26 (0 : Int) k21)) ++ [((p23, p24, p25), tower20)]).length + (cut out26 k21 ((out26.length : Nat) : Int)).length) ≤ lenBound)) (some (((([] ++ (cut out26 (0 : Int) k21)) ++ [((p23, p24, p25), tower20)]) ++ (cut out26 k21 ((out26.length : Nat) : Int))), true)) none) none) none) none) none))))) some))))))) none)
noncomputable def c_sMemPut : Ctr := { args := [.val true (.sl (.pair (.pair .str (.pair .str .bool)) (.int .i64))), .val true (.pair .str (.pair .str .bool)), .val false (.int .i64)], rets := [(true, [(some 141, (.sl (.pair (.pair .str (.pair .str .bool)) (.int .i64))))]), (false, [(none, .bool)])], F := sMemPut }
noncomputable def X_sMemPut : Ctx := XT.withΓ (lk [(81, c_sMemOk), (128, c_sPairOk), (108, c_sl1In)]) (lk [])
noncomputable def H_sMemPut : Hints := ⟨lk [(8, ⟨97, [(2, .one (.val (.int .i64))), (4, .one (.ptr 0 0)), (6, .one (.ptr 1 0)), (8, .one (.ptr 2 0)), (9, .one (.val (.int .i64))), (65, .one (.val .bool))], [.vars 93 [.val .str, .val .str, .val .bool], .vars 55 [.nils], .vars 55 [.own 3], .arr 141 (.pair (.pair .str (.pair .str .bool)) (.int .i64))], []⟩)], lk [], lk []⟩
noncomputable def L_sMemPut_5 : LoopF c_sMemPut.Res := ⟨⟨97, [(2, .one (.val (.int .i64))), (4, .one (.ptr 0 0)), (6, .one (.ptr 1 0)), (8, .one (.ptr 2 0)), (9, .one (.val (.int .i64)))], [.vars 93 [.val .str, .val .str, .val .bool], .vars 55 [.nils], .vars 55 [.own 3], .arr 141 (.pair (.pair .str (.pair .str .bool)) (.int .i64))], []⟩, [(0, ⟨97, [(2, .one (.val (.int .i64))), (4, .one (.ptr 0 0)), (6, .one (.ptr 1 0)), (8, .one (.ptr 2 0)), (9, .one (.val (.int .i64)))], [.vars 93 [.val .str, .val .str, .val .bool], .vars 55 [.nils], .vars 55 [.own 3], .arr 141 (.pair (.pair .str (.pair .str .bool)) (.int .i64))], []⟩)], sMemPut_L5⟩
noncomputable def T_sMemPut : Nat → Option (LoopF c_sMemPut.Res) := lk [(5, L_sMemPut_5)]
theorem s_sMemPut_5 : StepOk X_sMemPut H_sMemPut (c_sMemPut.finish X_sMemPut Tryz.f131.results.toList) T_sMemPut (loopAt Tryz.f131 0) := ⟨L_sMemPut_5, by kernel_rfl, fun O y x r => by kernel_rfl, fun O k y x r => by kernel_rfl⟩
theorem r_sMemPut (a) : fnRun X_sMemPut H_sMemPut c_sMemPut Tryz.f131 T_sMemPut a = sMemPut a := by kernel_rfl
theorem h_sMemPut [Tabs] : CtrHolds Tryz.prog 131 c_sMemPut := fn_ok (.cons h_sMemOk Tryz.call81 (.cons h_sPairOk Tryz.call128 (.cons h_sl1In Tryz.call108 .nil))) .nil (H := H_sMemPut) (tbl := T_sMemPut) Tryz.func131 (by kernel_rfl) (loops1 (by kernel_rfl) s_sMemPut_5) r_sMemPut
/-! 84 sl7Mem -/
noncomputable def sl7Mem_L3 (O : Type) : Nat → (List (List Int) × Int × List ((List UInt8 × List UInt8 × Bool) × Int)) → ((List ((List UInt8 × List UInt8 × Bool) × Int)) → Option O) → ((List ((List UInt8 × List UInt8 × Bool) × Int) × Bool) → Option O) → Option O
  | 0, _, _, _ => none
  | q + 1, (list1, i2, m3), x, r => (cond (decide (i2 < ((list1.length : Nat) : Int))) (cond (decide ((0 : Int) ≤ i2) && decide (i2 < ((list1.length : Nat) : Int))) ((sl7Read (nth list1 i2)).bind fun ((r4, r5, r6), r7, r8) => (cond (!r8) (r (m3, false)) ((sMemPut (m3, (r4, r5, r6), r7)).bind fun (r9, r10) => (cond (!r10) (r (m3, false)) (sl7Mem_L3 O q (list1, (IntKind.wrap .i64 (i2 + (1 : Int))), r9) x r))))) none) (x m3))
noncomputable def sl7Mem : (List (List Int)) → Option (List ((List UInt8 × List UInt8 × Bool) × Int) × Bool)
  | list0 => (sl7Mem_L3 (List ((List UInt8 × List UInt8 × Bool) × Int) × Bool) fuel (list0, (0 : Int), []) (fun m11 => (some (m11, true))) some)
noncomputable def c_sl7Mem : Ctr := { args := [.val false (.sl (.sl (.int .u8)))], rets := [(true, [(some 141, (.sl (.pair (.pair .str (.pair .str .bool)) (.int .i64))))]), (false, [(none, .bool)])], F := sl7Mem }
noncomputable def X_sl7Mem : Ctx := XT.withΓ (lk [(130, c_sl7Read), (131, c_sMemPut)]) (lk [])
noncomputable def H_sl7Mem : Hints := ⟨lk [], lk [], lk []⟩
noncomputable def L_sl7Mem_3 : LoopF c_sl7Mem.Res := ⟨⟨42, [(0, .one (.val (.sl (.sl (.int .u8))))), (2, .one (.ptr 0 0)), (4, .one (.ptr 1 0)), (5, .one (.val (.int .i64)))], [.vars 55 [.nils], .vars 55 [.own 2], .arr 141 (.pair (.pair .str (.pair .str .bool)) (.int .i64))], []⟩, [(0, ⟨42, [(2, .one (.ptr 0 0)), (4, .one (.ptr 1 0))], [.vars 55 [.nils], .vars 55 [.own 2], .arr 141 (.pair (.pair .str (.pair .str .bool)) (.int .i64))], []⟩)], sl7Mem_L3⟩
noncomputable def T_sl7Mem : Nat → Option (LoopF c_sl7Mem.Res) := lk [(3, L_sl7Mem_3)]
theorem s_sl7Mem_3 : StepOk X_sl7Mem H_sl7Mem (c_sl7Mem.finish X_sl7Mem Tryz.f84.results.toList) T_sl7Mem (loopAt Tryz.f84 0) := ⟨L_sl7Mem_3, by kernel_rfl, fun O y x r => by kernel_rfl, fun O k y x r => by kernel_rfl⟩
theorem r_sl7Mem (a) : fnRun X_sl7Mem H_sl7Mem c_sl7Mem Tryz.f84 T_sl7Mem a = sl7Mem a := by kernel_rfl
theorem h_sl7Mem [Tabs] : CtrHolds Tryz.prog 84 c_sl7Mem := fn_ok (.cons h_sl7Read Tryz.call130 (.cons h_sMemPut Tryz.call131 .nil)) .nil (H := H_sl7Mem) (tbl := T_sl7Mem) Tryz.func84 (by kernel_rfl) (loops1 (by kernel_rfl) s_sl7Mem_3) r_sl7Mem
/-! 85 sl7SameMem -/
noncomputable def sl7SameMem_L4 (O : Type) : Nat → (Int × List ((List UInt8 × List UInt8 × Bool) × Int) × List ((List UInt8 × List UInt8 × Bool) × Int)) → (Unit → Option O) → (Bool → Option O) → Option O
  | 0, _, _, _ => none
  | q + 1, (i2, a3, b4), x, r => (cond (decide (i2 < ((a3.length : Nat) : Int))) (cond (decide ((0 : Int) ≤ i2) && decide (i2 < ((a3.length : Nat) : Int))) (cond (decide ((0 : Int) ≤ i2) && decide (i2 < ((b4.length : Nat) : Int))) (cond (!(((nth a3 i2).1.1 == (nth b4 i2).1.1) && (((nth a3 i2).1.2.1 == (nth b4 i2).1.2.1) && (((nth a3 i2).1.2.2 == (nth b4 i2).1.2.2) && ((nth a3 i2).2 == (nth b4 i2).2))))) (r false) (sl7SameMem_L4 O q ((IntKind.wrap .i64 (i2 + (1 : Int))), a3, b4) x r)) none) none) (x ()))
noncomputable def sl7SameMem : (List ((List UInt8 × List UInt8 × Bool) × Int) × List ((List UInt8 × List UInt8 × Bool) × Int)) → Option Bool
  | (a0, b1) => (cond (((a0.length : Nat) : Int) != ((b1.length : Nat) : Int)) (some false) (sl7SameMem_L4 Bool fuel ((0 : Int), a0, b1) (fun _ => (some true)) some))
noncomputable def c_sl7SameMem : Ctr := { args := [.val true (.sl (.pair (.pair .str (.pair .str .bool)) (.int .i64))), .val true (.sl (.pair (.pair .str (.pair .str .bool)) (.int .i64)))], rets := [(false, [(none, .bool)])], F := sl7SameMem }
noncomputable def X_sl7SameMem : Ctx := XT.withΓ (lk []) (lk [])
noncomputable def H_sl7SameMem : Hints := ⟨lk [], lk [], lk []⟩
noncomputable def L_sl7SameMem_4 : LoopF c_sl7SameMem.Res := ⟨⟨31, [(2, .one (.ptr 0 0)), (3, .one (.ptr 1 0)), (5, .one (.val (.int .i64)))], [.vars 55 [.val (.sl (.pair (.pair .str (.pair .str .bool)) (.int .i64)))], .vars 55 [.val (.sl (.pair (.pair .str (.pair .str .bool)) (.int .i64)))]], []⟩, [(0, ⟨31, [], [], []⟩)], sl7SameMem_L4⟩
noncomputable def T_sl7SameMem : Nat → Option (LoopF c_sl7SameMem.Res) := lk [(4, L_sl7SameMem_4)]
theorem s_sl7SameMem_4 : StepOk X_sl7SameMem H_sl7SameMem (c_sl7SameMem.finish X_sl7SameMem Tryz.f85.results.toList) T_sl7SameMem (loopAt Tryz.f85 0) := ⟨L_sl7SameMem_4, by kernel_rfl, fun O y x r => by kernel_rfl, fun O k y x r => by kernel_rfl⟩
theorem r_sl7SameMem (a) : fnRun X_sl7SameMem H_sl7SameMem c_sl7SameMem Tryz.f85 T_sl7SameMem a = sl7SameMem a := by kernel_rfl
theorem h_sl7SameMem [Tabs] : CtrHolds Tryz.prog 85 c_sl7SameMem := fn_ok .nil .nil (H := H_sl7SameMem) (tbl := T_sl7SameMem) Tryz.func85 (by kernel_rfl) (loops1 (by kernel_rfl) s_sl7SameMem_4) r_sl7SameMem
/-! 89 sl7Tab -/
noncomputable def sl7Tab : Int → Option (List UInt8)
  | n0 => ((sl6Text n0).bind fun r1 => (cond (decide ((4 + r1.length) ≤ lenBound)) (some ([116, 97, 98, 45] ++ r1)) none))
noncomputable def c_sl7Tab : Ctr := { args := [.val false (.int .i64)], rets := [(false, [(none, .str)])], F := sl7Tab }
noncomputable def X_sl7Tab : Ctx := XT.withΓ (lk [(111, c_sl6Text)]) (lk [])
noncomputable def H_sl7Tab : Hints := ⟨lk [], lk [], lk []⟩
noncomputable def T_sl7Tab : Nat → Option (LoopF c_sl7Tab.Res) := lk []
theorem r_sl7Tab (a) : fnRun X_sl7Tab H_sl7Tab c_sl7Tab Tryz.f89 T_sl7Tab a = sl7Tab a := by kernel_rfl
theorem h_sl7Tab [Tabs] : CtrHolds Tryz.prog 89 c_sl7Tab := fn_ok (.cons h_sl6Text Tryz.call111 .nil) .nil (H := H_sl7Tab) (tbl := T_sl7Tab) Tryz.func89 (by kernel_rfl) (loops0 (by kernel_rfl)) r_sl7Tab
/-! 132 sl5Index -/
noncomputable def sl5Index_L11 (O : Type) : Nat → (List Int × Int × Int × Bool × Int × List (List UInt8) × List Int) → ((List Int × Int × Int × Bool × List (List UInt8) × List Int) → Option O) → ((List (List UInt8) × List Int × List Int × Bool) → Option O) → Option O
  | 0, _, _, _ => none
  | q + 1, (body9, n10, k11, is12, i13, keys14, places15), x, r => (cond (decide (i13 < n10)) (cond is12 (cond (decide (i13 < (100 : Int))) ((sGetText (body9, k11)).bind fun (r16, r17, r18) => ((sGetNum (body9, r17)).bind fun (r19, r20, r21) => ((cond r18 (some (body9, n10, r21, i13, r16, r19, r20, is12, i13, decide (i13 < (100 : Int)), keys14, places15)) (some (body9, n10, false, i13, r16, r19, r20, is12, i13, decide (i13 < (100 : Int)), keys14, places15))).bind fun (body22, n23, is24, i25, s26, p27, end28, v29, v30, v31, keys32, places33) => (cond (decide ((keys32.length + [s26].length) ≤ lenBound)) (cond (decide ((places33.length + [p27].length) ≤ lenBound)) (sl5Index_L11 O q (body22, n23, end28, is24, (IntKind.wrap .i64 (i25 + (1 : Int))), (keys32 ++ [s26]), (places33 ++ [p27])) x r) none) none)))) (x (body9, n10, k11, is12, keys14, places15))) (x (body9, n10, k11, is12, keys14, places15))) (x (body9, n10, k11, is12, keys14, places15)))
noncomputable def sl5Index : (List Int) → Option (List (List UInt8) × List Int × List Int × Bool)
  | b0 => ((sl1FourAt (b0, (IntKind.wrap .i64 (((b0.length : Nat) : Int) - (4 : Int))))).bind fun (r1, r2) => (cond (!r2) (some ([], [], [], false)) (cond (decide (r1 > (IntKind.wrap .i64 (((b0.length : Nat) : Int) - (4 : Int))))) (some ([], [], [], false)) (cond (decide ((0 : Int) ≤ (IntKind.wrap .i64 (((b0.length : Nat) : Int) - (4 : Int)))) && decide ((IntKind.wrap .i64 (((b0.length : Nat) : Int) - (4 : Int))) ≤ ((b0.length : Nat) : Int))) ((sUnframe ((cut b0 (0 : Int) (IntKind.wrap .i64 (((b0.length : Nat) : Int) - (4 : Int)))), r1)).bind fun (r3, r4, r5) => (cond (!r5) (some ([], [], [], false)) (cond (r4 != (IntKind.wrap .i64 (((b0.length : Nat) : Int) - (4 : Int)))) (some ([], [], [], false)) ((sGetNum (r3, (0 : Int))).bind fun (r6, r7, r8) => (sl5Index_L11 (List (List UInt8) × List Int × List Int × Bool) fuel (r3, r6, r7, r8, (0 : Int), [], []) (fun (body34, n35, k36, is37, keys38, places39) => (cond (!is37) (some (keys38, places39, [], false)) (cond (((keys38.length : Nat) : Int) != n35) (some (keys38, places39, [], false)) (cond ((IntKind.wrap .i64 (((body34.length : Nat) : Int) - k36)) != (8 : Int)) (some (keys38, places39, [], false)) (cond (decide ((0 : Int) ≤ k36) && (decide (k36 ≤ ((body34.length : Nat) : Int)) && decide (((body34.length : Nat) : Int) ≤ ((body34.length : Nat) : Int)))) (some (keys38, places39, (cut body34 k36 ((body34.length : Nat) : Int)), true)) none))))) some))))) none))))
noncomputable def c_sl5Index : Ctr := { args := [.val false (.sl (.int .u8))], rets := [(false, [(none, (.sl .str))]), (false, [(none, (.sl (.int .i64)))]), (false, [(none, (.sl (.int .u8)))]), (false, [(none, .bool)])], F := sl5Index }
noncomputable def X_sl5Index : Ctx := XT.withΓ (lk [(163, c_sl1FourAt), (129, c_sUnframe), (164, c_sGetNum), (166, c_sGetText)]) (lk [])
noncomputable def H_sl5Index : Hints := ⟨lk [(16, ⟨136, [(6, .one (.own 0)), (7, .one (.own 1)), (10, .one (.val (.sl (.int .u8)))), (13, .one (.val (.int .i64))), (15, .one (.val .bool)), (16, .one (.val (.int .i64))), (17, .one (.val .str)), (20, .one (.val (.int .i64))), (21, .one (.val (.int .i64))), (78, .one (.val .bool)), (81, .one (.val (.int .i64))), (82, .one (.val .bool))], [.arr 9 .str, .arr 3 (.int .i64)], []⟩)], lk [], lk []⟩
noncomputable def L_sl5Index_11 : LoopF c_sl5Index.Res := ⟨⟨136, [(6, .one (.own 0)), (7, .one (.own 1)), (10, .one (.val (.sl (.int .u8)))), (13, .one (.val (.int .i64))), (14, .one (.val (.int .i64))), (15, .one (.val .bool)), (16, .one (.val (.int .i64)))], [.arr 9 .str, .arr 3 (.int .i64)], []⟩, [(0, ⟨136, [(6, .one (.own 0)), (7, .one (.own 1)), (10, .one (.val (.sl (.int .u8)))), (13, .one (.val (.int .i64))), (14, .one (.val (.int .i64))), (15, .one (.val .bool))], [.arr 9 .str, .arr 3 (.int .i64)], []⟩)], sl5Index_L11⟩
noncomputable def T_sl5Index : Nat → Option (LoopF c_sl5Index.Res) := lk [(11, L_sl5Index_11)]
theorem s_sl5Index_11 : StepOk X_sl5Index H_sl5Index (c_sl5Index.finish X_sl5Index Tryz.f132.results.toList) T_sl5Index (loopAt Tryz.f132 0) := ⟨L_sl5Index_11, by kernel_rfl, fun O y x r => by kernel_rfl, fun O k y x r => by kernel_rfl⟩
theorem r_sl5Index (a) : fnRun X_sl5Index H_sl5Index c_sl5Index Tryz.f132 T_sl5Index a = sl5Index a := by kernel_rfl
theorem h_sl5Index [Tabs] : CtrHolds Tryz.prog 132 c_sl5Index := fn_ok (.cons h_sl1FourAt Tryz.call163 (.cons h_sUnframe Tryz.call129 (.cons h_sGetNum Tryz.call164 (.cons h_sGetText Tryz.call166 .nil)))) .nil (H := H_sl5Index) (tbl := T_sl5Index) Tryz.func132 (by kernel_rfl) (loops1 (by kernel_rfl) s_sl5Index_11) r_sl5Index
/-! 133 sl5Pairs -/
noncomputable def sl5Pairs_L7 (O : Type) : Nat → (List Int × List UInt8 × Int × List (List UInt8 × List UInt8 × Bool)) → ((List (List UInt8 × List UInt8 × Bool)) → Option O) → ((List (List UInt8 × List UInt8 × Bool) × Bool) → Option O) → Option O
  | 0, _, _, _ => none
  | q + 1, (body5, last6, k7, out8), x, r => (cond (decide (k7 < ((body5.length : Nat) : Int))) ((sGetNum (body5, k7)).bind fun (r9, r10, r11) => ((sGetText (body5, r10)).bind fun (r12, r13, r14) => (cond (!r11) (r (out8, false)) (cond (!r14) (r (out8, false)) (cond (decide (r9 > ((last6.length : Nat) : Int))) (r (out8, false)) (cond (decide (r13 ≥ ((body5.length : Nat) : Int))) (r (out8, false)) (cond (decide ((0 : Int) ≤ r13) && decide (r13 < ((body5.length : Nat) : Int))) (cond (decide ((nth body5 r13) > (1 : Int))) (r (out8, false)) ((sGetText (body5, (IntKind.wrap .i64 (r13 + (1 : Int))))).bind fun (r15, r16, r17) => (cond (!r17) (r (out8, false)) (cond (decide ((0 : Int) ≤ r9) && decide (r9 ≤ ((last6.length : Nat) : Int))) (cond (decide (((cut last6 (0 : Int) r9).length + r12.length) ≤ lenBound)) (cond (decide ((0 : Int) ≤ r13) && decide (r13 < ((body5.length : Nat) : Int))) (cond (decide ((out8.length + [(((cut last6 (0 : Int) r9) ++ r12), r15, ((nth body5 r13) == (1 : Int)))].length) ≤ lenBound)) (sl5Pairs_L7 O q (body5, ((cut last6 (0 : Int) r9) ++ r12), r16, (out8 ++ [(((cut last6 (0 : Int) r9) ++ r12), r15, ((nth body5 r13) == (1 : Int)))])) x r) none) none) none) none)))) none))))))) (x out8))
noncomputable def sl5Pairs : (List Int × Int) → Option (List (List UInt8 × List UInt8 × Bool) × Bool)
  | (b0, at1) => ((sUnframe (b0, at1)).bind fun (r2, r3, r4) => (cond (!r4) (some ([], false)) (sl5Pairs_L7 (List (List UInt8 × List UInt8 × Bool) × Bool) fuel (r2, [], (0 : Int), []) (fun out18 => (some (out18, true))) some)))
noncomputable def c_sl5Pairs : Ctr := { args := [.val false (.sl (.int .u8)), .val false (.int .i64)], rets := [(false, [(some 93, (.sl (.pair .str (.pair .str .bool))))]), (false, [(none, .bool)])], F := sl5Pairs }
noncomputable def X_sl5Pairs : Ctx := XT.withΓ (lk [(129, c_sUnframe), (164, c_sGetNum), (166, c_sGetText)]) (lk [])
noncomputable def H_sl5Pairs : Hints := ⟨lk [], lk [], lk []⟩
noncomputable def L_sl5Pairs_7 : LoopF c_sl5Pairs.Res := ⟨⟨108, [(6, .one (.own 0)), (7, .one (.val (.sl (.int .u8)))), (10, .one (.val .str)), (11, .one (.val (.int .i64)))], [.arr 93 (.pair .str (.pair .str .bool))], []⟩, [(0, ⟨108, [(6, .one (.own 0))], [.arr 93 (.pair .str (.pair .str .bool))], []⟩)], sl5Pairs_L7⟩
noncomputable def T_sl5Pairs : Nat → Option (LoopF c_sl5Pairs.Res) := lk [(7, L_sl5Pairs_7)]
theorem s_sl5Pairs_7 : StepOk X_sl5Pairs H_sl5Pairs (c_sl5Pairs.finish X_sl5Pairs Tryz.f133.results.toList) T_sl5Pairs (loopAt Tryz.f133 0) := ⟨L_sl5Pairs_7, by kernel_rfl, fun O y x r => by kernel_rfl, fun O k y x r => by kernel_rfl⟩
theorem r_sl5Pairs (a) : fnRun X_sl5Pairs H_sl5Pairs c_sl5Pairs Tryz.f133 T_sl5Pairs a = sl5Pairs a := by kernel_rfl
theorem h_sl5Pairs [Tabs] : CtrHolds Tryz.prog 133 c_sl5Pairs := fn_ok (.cons h_sUnframe Tryz.call129 (.cons h_sGetNum Tryz.call164 (.cons h_sGetText Tryz.call166 .nil))) .nil (H := H_sl5Pairs) (tbl := T_sl5Pairs) Tryz.func133 (by kernel_rfl) (loops1 (by kernel_rfl) s_sl5Pairs_7) r_sl5Pairs
/-! 167 sl4Rising -/
noncomputable def sl4Rising_L2 (O : Type) : Nat → (List (List UInt8 × List UInt8 × Bool) × Int) → (Unit → Option O) → (Bool → Option O) → Option O
  | 0, _, _, _ => none
  | q + 1, (l1, i2), x, r => (cond (decide (i2 < ((l1.length : Nat) : Int))) (cond (decide ((0 : Int) ≤ i2) && decide (i2 < ((l1.length : Nat) : Int))) ((sPairOk ((nth l1 i2).1, (nth l1 i2).2.1, (nth l1 i2).2.2)).bind fun r3 => (cond (!r3) (r false) (cond (decide (i2 > (0 : Int))) (cond (decide ((0 : Int) ≤ (IntKind.wrap .i64 (i2 - (1 : Int)))) && decide ((IntKind.wrap .i64 (i2 - (1 : Int))) < ((l1.length : Nat) : Int))) (cond (decide ((0 : Int) ≤ i2) && decide (i2 < ((l1.length : Nat) : Int))) (cond (!(Op.bytesLess (nth l1 (IntKind.wrap .i64 (i2 - (1 : Int)))).1 (nth l1 i2).1)) (r false) (sl4Rising_L2 O q (l1, (IntKind.wrap .i64 (i2 + (1 : Int)))) x r)) none) none) (sl4Rising_L2 O q (l1, (IntKind.wrap .i64 (i2 + (1 : Int)))) x r)))) none) (x ()))
noncomputable def sl4Rising : (List (List UInt8 × List UInt8 × Bool)) → Option Bool
  | l0 => (sl4Rising_L2 Bool fuel (l0, (0 : Int)) (fun _ => (some true)) some)
noncomputable def c_sl4Rising : Ctr := { args := [.val false (.sl (.pair .str (.pair .str .bool)))], rets := [(false, [(none, .bool)])], F := sl4Rising }
noncomputable def X_sl4Rising : Ctx := XT.withΓ (lk [(128, c_sPairOk)]) (lk [])
noncomputable def H_sl4Rising : Hints := ⟨lk [], lk [], lk []⟩
noncomputable def L_sl4Rising_2 : LoopF c_sl4Rising.Res := ⟨⟨34, [(0, .one (.val (.sl (.pair .str (.pair .str .bool))))), (3, .one (.val (.int .i64)))], [], []⟩, [(0, ⟨34, [], [], []⟩)], sl4Rising_L2⟩
noncomputable def T_sl4Rising : Nat → Option (LoopF c_sl4Rising.Res) := lk [(2, L_sl4Rising_2)]
theorem s_sl4Rising_2 : StepOk X_sl4Rising H_sl4Rising (c_sl4Rising.finish X_sl4Rising Tryz.f167.results.toList) T_sl4Rising (loopAt Tryz.f167 0) := ⟨L_sl4Rising_2, by kernel_rfl, fun O y x r => by kernel_rfl, fun O k y x r => by kernel_rfl⟩
theorem r_sl4Rising (a) : fnRun X_sl4Rising H_sl4Rising c_sl4Rising Tryz.f167 T_sl4Rising a = sl4Rising a := by kernel_rfl
theorem h_sl4Rising [Tabs] : CtrHolds Tryz.prog 167 c_sl4Rising := fn_ok (.cons h_sPairOk Tryz.call128 .nil) .nil (H := H_sl4Rising) (tbl := T_sl4Rising) Tryz.func167 (by kernel_rfl) (loops1 (by kernel_rfl) s_sl4Rising_2) r_sl4Rising
/-! 168 sPutNum -/
noncomputable def sPutNum_L8 (O : Type) : Nat → (Int × Bool × Int × List Int) → ((Int × List Int) → Option O) → ((List Int) → Option O) → Option O
  | 0, _, _, _ => none
  | q + 1, (n6, high7, k8, out9), x, r => (cond (decide (k8 > (0 : Int))) (cond (decide ((IntKind.wrap .u64 k8) < (0 : Int))) none ((cond high7 (some (n6, high7, k8, (bits .and .i64 (Int.fdiv n6 ((2 : Int) ^ (min (Int.toNat (IntKind.wrap .u64 k8)) 64))) (127 : Int)), true, out9)) (some (n6, high7, k8, (bits .and .i64 (Int.fdiv n6 ((2 : Int) ^ (min (Int.toNat (IntKind.wrap .u64 k8)) 64))) (127 : Int)), decide ((bits .and .i64 (Int.fdiv n6 ((2 : Int) ^ (min (Int.toNat (IntKind.wrap .u64 k8)) 64))) (127 : Int)) > (0 : Int)), out9))).bind fun (n10, high11, k12, g13, v14, out15) => (cond v14 (cond (decide ((out15.length + [(IntKind.wrap .u8 (bits .or .i64 g13 (128 : Int)))].length) ≤ lenBound)) (sPutNum_L8 O q (n10, true, (IntKind.wrap .i64 (k12 - (7 : Int))), (out15 ++ [(IntKind.wrap .u8 (bits .or .i64 g13 (128 : Int)))])) x r) none) (sPutNum_L8 O q (n10, high11, (IntKind.wrap .i64 (k12 - (7 : Int))), out15) x r)))) (x (n6, out9)))
noncomputable def sPutNum : (List Int × Int) → Option (List Int)
  | (b0, n1) => (cond (decide ((0 + b0.length) ≤ lenBound)) ((cond (decide (n1 > (1000000000 : Int))) (some ((1000000000 : Int), ([] ++ b0))) (some (n1, ([] ++ b0)))).bind fun (n2, out3) => ((cond (decide (n2 < (0 : Int))) (some ((0 : Int), out3)) (some (n2, out3))).bind fun (n4, out5) => (sPutNum_L8 (List Int) fuel (n4, false, (28 : Int), out5) (fun (n16, out17) => (cond (decide ((out17.length + [(IntKind.wrap .u8 (bits .and .i64 n16 (127 : Int)))].length) ≤ lenBound)) (some (out17 ++ [(IntKind.wrap .u8 (bits .and .i64 n16 (127 : Int)))])) none)) some))) none)
noncomputable def c_sPutNum : Ctr := { args := [.val false (.sl (.int .u8)), .val false (.int .i64)], rets := [(false, [(some 5, (.sl (.int .u8)))])], F := sPutNum }
noncomputable def X_sPutNum : Ctx := XT.withΓ (lk []) (lk [])
noncomputable def H_sPutNum : Hints := ⟨lk [(4, ⟨42, [(1, .one (.val (.int .i64))), (5, .one (.own 0))], [.arr 5 (.int .u8)], []⟩), (6, ⟨42, [(1, .one (.val (.int .i64))), (5, .one (.own 0))], [.arr 5 (.int .u8)], []⟩), (12, ⟨42, [(1, .one (.val (.int .i64))), (5, .one (.own 0)), (6, .one (.val .bool)), (7, .one (.val (.int .i64))), (8, .one (.val (.int .i64))), (29, .one (.val .bool))], [.arr 5 (.int .u8)], []⟩)], lk [], lk []⟩
noncomputable def L_sPutNum_8 : LoopF c_sPutNum.Res := ⟨⟨42, [(1, .one (.val (.int .i64))), (5, .one (.own 0)), (6, .one (.val .bool)), (7, .one (.val (.int .i64)))], [.arr 5 (.int .u8)], []⟩, [(0, ⟨42, [(1, .one (.val (.int .i64))), (5, .one (.own 0))], [.arr 5 (.int .u8)], []⟩)], sPutNum_L8⟩
noncomputable def T_sPutNum : Nat → Option (LoopF c_sPutNum.Res) := lk [(8, L_sPutNum_8)]
theorem s_sPutNum_8 : StepOk X_sPutNum H_sPutNum (c_sPutNum.finish X_sPutNum Tryz.f168.results.toList) T_sPutNum (loopAt Tryz.f168 0) := ⟨L_sPutNum_8, by kernel_rfl, fun O y x r => by kernel_rfl, fun O k y x r => by kernel_rfl⟩
theorem r_sPutNum (a) : fnRun X_sPutNum H_sPutNum c_sPutNum Tryz.f168 T_sPutNum a = sPutNum a := by kernel_rfl
theorem h_sPutNum [Tabs] : CtrHolds Tryz.prog 168 c_sPutNum := fn_ok .nil .nil (H := H_sPutNum) (tbl := T_sPutNum) Tryz.func168 (by kernel_rfl) (loops1 (by kernel_rfl) s_sPutNum_8) r_sPutNum
/-! 169 sPutText -/
noncomputable def sPutText : (List Int × List UInt8) → Option (List Int)
  | (b0, s1) => ((sPutNum (b0, ((s1.length : Nat) : Int))).bind fun r2 => (cond (decide ((r2.length + (bytesOf s1).length) ≤ lenBound)) (some (r2 ++ (bytesOf s1))) none))
noncomputable def c_sPutText : Ctr := { args := [.val false (.sl (.int .u8)), .val false .str], rets := [(false, [(some 5, (.sl (.int .u8)))])], F := sPutText }
noncomputable def X_sPutText : Ctx := XT.withΓ (lk [(168, c_sPutNum)]) (lk [])
noncomputable def H_sPutText : Hints := ⟨lk [], lk [], lk []⟩
noncomputable def T_sPutText : Nat → Option (LoopF c_sPutText.Res) := lk []
theorem r_sPutText (a) : fnRun X_sPutText H_sPutText c_sPutText Tryz.f169 T_sPutText a = sPutText a := by kernel_rfl
theorem h_sPutText [Tabs] : CtrHolds Tryz.prog 169 c_sPutText := fn_ok (.cons h_sPutNum Tryz.call168 .nil) .nil (H := H_sPutText) (tbl := T_sPutText) Tryz.func169 (by kernel_rfl) (loops0 (by kernel_rfl)) r_sPutText
/-! 197 sl5Common -/
noncomputable def sl5Common_L2 (O : Type) : Nat → (List UInt8 × List UInt8 × Int) → (Int → Option O) → (Int → Option O) → Option O
  | 0, _, _, _ => none
  | q + 1, (a2, b3, n4), x, r => (cond (decide (n4 < ((a2.length : Nat) : Int))) (cond (decide (n4 < ((b3.length : Nat) : Int))) (cond (decide ((0 : Int) ≤ n4) && decide (n4 < ((a2.length : Nat) : Int))) (cond (decide ((0 : Int) ≤ n4) && decide (n4 < ((b3.length : Nat) : Int))) (cond ((((UInt8.toNat (nth a2 n4)) : Nat) : Int) == (((UInt8.toNat (nth b3 n4)) : Nat) : Int)) (sl5Common_L2 O q (a2, b3, (IntKind.wrap .i64 (n4 + (1 : Int)))) x r) (x n4)) none) none) (x n4)) (x n4))
noncomputable def sl5Common : (List UInt8 × List UInt8) → Option Int
  | (a0, b1) => (sl5Common_L2 Int fuel (a0, b1, (0 : Int)) (fun n5 => (some n5)) some)
noncomputable def c_sl5Common : Ctr := { args := [.val false .str, .val false .str], rets := [(false, [(none, (.int .i64))])], F := sl5Common }
noncomputable def X_sl5Common : Ctx := XT.withΓ (lk []) (lk [])
noncomputable def H_sl5Common : Hints := ⟨lk [], lk [], lk []⟩
noncomputable def L_sl5Common_2 : LoopF c_sl5Common.Res := ⟨⟨28, [(0, .one (.val .str)), (1, .one (.val .str)), (5, .one (.val (.int .i64)))], [], []⟩, [(0, ⟨28, [(5, .one (.val (.int .i64)))], [], []⟩)], sl5Common_L2⟩
noncomputable def T_sl5Common : Nat → Option (LoopF c_sl5Common.Res) := lk [(2, L_sl5Common_2)]
theorem s_sl5Common_2 : StepOk X_sl5Common H_sl5Common (c_sl5Common.finish X_sl5Common Tryz.f197.results.toList) T_sl5Common (loopAt Tryz.f197 0) := ⟨L_sl5Common_2, by kernel_rfl, fun O y x r => by kernel_rfl, fun O k y x r => by kernel_rfl⟩
theorem r_sl5Common (a) : fnRun X_sl5Common H_sl5Common c_sl5Common Tryz.f197 T_sl5Common a = sl5Common a := by kernel_rfl
theorem h_sl5Common [Tabs] : CtrHolds Tryz.prog 197 c_sl5Common := fn_ok .nil .nil (H := H_sl5Common) (tbl := T_sl5Common) Tryz.func197 (by kernel_rfl) (loops1 (by kernel_rfl) s_sl5Common_2) r_sl5Common
/-! 173 sl1Four -/
noncomputable def sl1Four : Int → Option (List Int)
  | x0 => (some [(IntKind.wrap .u8 (Int.fdiv x0 (16777216 : Int))), (IntKind.wrap .u8 (Int.fdiv x0 (65536 : Int))), (IntKind.wrap .u8 (Int.fdiv x0 (256 : Int))), (IntKind.wrap .u8 x0)])
noncomputable def c_sl1Four : Ctr := { args := [.val false (.int .i64)], rets := [(false, [(some 5, (.sl (.int .u8)))])], F := sl1Four }
noncomputable def X_sl1Four : Ctx := XT.withΓ (lk []) (lk [])
noncomputable def H_sl1Four : Hints := ⟨lk [], lk [], lk []⟩
noncomputable def T_sl1Four : Nat → Option (LoopF c_sl1Four.Res) := lk []
theorem r_sl1Four (a) : fnRun X_sl1Four H_sl1Four c_sl1Four Tryz.f173 T_sl1Four a = sl1Four a := by kernel_rfl
theorem h_sl1Four [Tabs] : CtrHolds Tryz.prog 173 c_sl1Four := fn_ok .nil .nil (H := H_sl1Four) (tbl := T_sl1Four) Tryz.func173 (by kernel_rfl) (loops0 (by kernel_rfl)) r_sl1Four
end Go.Rx
