import Derived.Test.YtecdihlfbncedaaGreatDoorTab
set_option linter.all false
set_option maxRecDepth 1000000
namespace Go.Rx
open Go.Proofs
open IntKind (wrap)
noncomputable section
abbrev y0 : Ty := .int .i64
abbrev y1 : Ty := .pair .str (.pair .str .bool)
abbrev y2 : Ty := .pair y0 (.pair y0 (.pair .str .str))
abbrev y3 : Ty := .pair (.sl (.pair y0 (.pair (.sl (.int .u8)) y0))) (.pair (.sl (.pair .str y0)) (.pair (.sl (.pair .str y0)) y0))
abbrev y4 : Ty := .sl (.int .u8)
abbrev y5 : Ty := .sl (.pair .str y0)
abbrev y6 : Ty := .sl (.pair y1 y0)
abbrev y7 : Ty := .sl (.pair y0 (.pair y4 y0))
abbrev y8 : Ty := .pair (.old (.pair y0 (.pair (.old (.int .u8)) y0))) (.pair (.old (.pair .str y0)) (.pair (.old (.pair .str y0)) y0))
abbrev y9 : Ty := .pair y0 (.pair y0 (.sl y2))
abbrev y10 : Ty := .int .u8
abbrev y11 : Ty := .pair (.pair (.sl (.pair .any (.pair (.sl .any) .any))) (.pair (.sl (.pair .any .any)) (.pair (.sl (.pair .any .any)) .any))) (.pair (.sl (.pair (.pair .any (.pair .any .any)) .any)) (.pair .any (.pair .any (.sl (.pair .any (.pair .any (.pair .any .any)))))))
abbrev y12 : Ty := .pair y1 y0
abbrev Tx := List UInt8
def H0 : Hints := ⟨lk [], lk [], lk []⟩
def T0 {R : Type} : Nat → Option (LoopF R) := lk []
def lszByteS : (List Int × Int) → Option Int
  | (a0, left1) => (cond (decide ((wrap .i64 (left1 - (a0.length : Int))) < 0)) (some (-1)) (some (wrap .i64 (left1 - (a0.length : Int)))))
def c_lszByteS : Ctr := { args := [.val false (.old y10), .val false y0], rets := [(false, [(none, y0)])], F := lszByteS }
def X_lszByteS : Ctx := XT.withΓ (lk []) (lk [])
theorem r_lszByteS (a) : fnRun X_lszByteS H0 c_lszByteS Tryz.f106 T0 a = lszByteS a := by kernel_rfl
theorem h_lszByteS [Tabs] : CtrHolds Tryz.prog 106 c_lszByteS := fn_ok .nil .nil Tryz.func106 (by kernel_rfl) (loops0 (by kernel_rfl)) r_lszByteS
def lszInode : ((Int × List Int × Int) × Int) → Option Int
  | ((a0, a1, a2), left3) => ((lszByteS (a1, left3)).bind fun r4 => (cond (decide (r4 < 0)) (some (-1)) (some r4)))
def c_lszInode : Ctr := { args := [.val true (.pair y0 (.pair (.old y10) y0)), .val false y0], rets := [(false, [(none, y0)])], F := lszInode }
def X_lszInode : Ctx := XT.withΓ (lk [(106, c_lszByteS)]) (lk [])
theorem r_lszInode (a) : fnRun X_lszInode H0 c_lszInode Tryz.f54 T0 a = lszInode a := by kernel_rfl
theorem h_lszInode [Tabs] : CtrHolds Tryz.prog 54 c_lszInode := fn_ok (.cons h_lszByteS Tryz.call106 .nil) .nil Tryz.func54 (by kernel_rfl) (loops0 (by kernel_rfl)) r_lszInode
def lszInodeS_L5 (O : Type) : Nat → (List (Int × List Int × Int) × Int × Int) → (Int → Option O) → (Int → Option O) → Option O
  | 0, _, _, _ => none
  | q + 1, (a2, left3, i4), x, r => (cond (decide (i4 < (a2.length : Int))) (cond (decide (0 ≤ i4) && decide (i4 < (a2.length : Int))) ((lszInode (((nth a2 i4).1, (nth a2 i4).2.1, (nth a2 i4).2.2), left3)).bind fun r5 => (cond (decide (r5 < 0)) (r (-1)) (lszInodeS_L5 O q (a2, r5, (wrap .i64 (i4 + 1))) x r))) none) (x left3))
def lszInodeS : (List (Int × List Int × Int) × Int) → Option Int
  | (a0, left1) => (cond (decide ((wrap .i64 (left1 - (a0.length : Int))) < 0)) (some (-1)) (lszInodeS_L5 Int fuel (a0, (wrap .i64 (left1 - (a0.length : Int))), 0) (fun left6 => (some left6)) some))
def c_lszInodeS : Ctr := { args := [.val false (.old (.pair y0 (.pair (.old y10) y0))), .val false y0], rets := [(false, [(none, y0)])], F := lszInodeS }
def X_lszInodeS : Ctx := XT.withΓ (lk [(54, c_lszInode)]) (lk [])
def L_lszInodeS_5 : LoopF c_lszInodeS.Res := ⟨⟨27, [(0, .one (.val (.old (.pair y0 (.pair (.old y10) y0))))), (1, .one (.val y0)), (5, .one (.val y0))], [], []⟩, [(0, ⟨27, [(1, .one (.val y0))], [], []⟩)], lszInodeS_L5⟩
def T_lszInodeS : Nat → Option (LoopF c_lszInodeS.Res) := lk [(5, L_lszInodeS_5)]
theorem s_lszInodeS_5 : StepOk X_lszInodeS H0 (c_lszInodeS.finish X_lszInodeS Tryz.f23.results.toList) T_lszInodeS (loopAt Tryz.f23 0) := ⟨L_lszInodeS_5, by kernel_rfl, fun O y x r => by kernel_rfl, fun O k y x r => by kernel_rfl⟩
theorem r_lszInodeS (a) : fnRun X_lszInodeS H0 c_lszInodeS Tryz.f23 T_lszInodeS a = lszInodeS a := by kernel_rfl
theorem h_lszInodeS [Tabs] : CtrHolds Tryz.prog 23 c_lszInodeS := fn_ok (.cons h_lszInode Tryz.call54 .nil) .nil Tryz.func23 (by kernel_rfl) (loops1 (by kernel_rfl) s_lszInodeS_5) r_lszInodeS
def lszEntry : ((Tx × Int) × Int) → Option Int
  | ((a0, a1), left2) => (cond (decide ((wrap .i64 (left2 - (a0.length : Int))) < 0)) (some (-1)) (some (wrap .i64 (left2 - (a0.length : Int)))))
def c_lszEntry : Ctr := { args := [.val true (.pair .str y0), .val false y0], rets := [(false, [(none, y0)])], F := lszEntry }
def X_lszEntry : Ctx := XT.withΓ (lk []) (lk [])
theorem r_lszEntry (a) : fnRun X_lszEntry H0 c_lszEntry Tryz.f55 T0 a = lszEntry a := by kernel_rfl
theorem h_lszEntry [Tabs] : CtrHolds Tryz.prog 55 c_lszEntry := fn_ok .nil .nil Tryz.func55 (by kernel_rfl) (loops0 (by kernel_rfl)) r_lszEntry
def lszEntryS_L5 (O : Type) : Nat → (List (Tx × Int) × Int × Int) → (Int → Option O) → (Int → Option O) → Option O
  | 0, _, _, _ => none
  | q + 1, (a2, left3, i4), x, r => (cond (decide (i4 < (a2.length : Int))) (cond (decide (0 ≤ i4) && decide (i4 < (a2.length : Int))) ((lszEntry (((nth a2 i4).1, (nth a2 i4).2), left3)).bind fun r5 => (cond (decide (r5 < 0)) (r (-1)) (lszEntryS_L5 O q (a2, r5, (wrap .i64 (i4 + 1))) x r))) none) (x left3))
def lszEntryS : (List (Tx × Int) × Int) → Option Int
  | (a0, left1) => (cond (decide ((wrap .i64 (left1 - (a0.length : Int))) < 0)) (some (-1)) (lszEntryS_L5 Int fuel (a0, (wrap .i64 (left1 - (a0.length : Int))), 0) (fun left6 => (some left6)) some))
def c_lszEntryS : Ctr := { args := [.val false (.old (.pair .str y0)), .val false y0], rets := [(false, [(none, y0)])], F := lszEntryS }
def X_lszEntryS : Ctx := XT.withΓ (lk [(55, c_lszEntry)]) (lk [])
def L_lszEntryS_5 : LoopF c_lszEntryS.Res := ⟨⟨27, [(0, .one (.val (.old (.pair .str y0)))), (1, .one (.val y0)), (5, .one (.val y0))], [], []⟩, [(0, ⟨27, [(1, .one (.val y0))], [], []⟩)], lszEntryS_L5⟩
def T_lszEntryS : Nat → Option (LoopF c_lszEntryS.Res) := lk [(5, L_lszEntryS_5)]
theorem s_lszEntryS_5 : StepOk X_lszEntryS H0 (c_lszEntryS.finish X_lszEntryS Tryz.f24.results.toList) T_lszEntryS (loopAt Tryz.f24 0) := ⟨L_lszEntryS_5, by kernel_rfl, fun O y x r => by kernel_rfl, fun O k y x r => by kernel_rfl⟩
theorem r_lszEntryS (a) : fnRun X_lszEntryS H0 c_lszEntryS Tryz.f24 T_lszEntryS a = lszEntryS a := by kernel_rfl
theorem h_lszEntryS [Tabs] : CtrHolds Tryz.prog 24 c_lszEntryS := fn_ok (.cons h_lszEntry Tryz.call55 .nil) .nil Tryz.func24 (by kernel_rfl) (loops1 (by kernel_rfl) s_lszEntryS_5) r_lszEntryS
def lszDisk : ((List (Int × List Int × Int) × List (Tx × Int) × List (Tx × Int) × Int) × Int) → Option Int
  | ((a0, a1, a2, a3), left4) => ((lszInodeS (a0, left4)).bind fun r5 => (cond (decide (r5 < 0)) (some (-1)) ((lszEntryS (a1, r5)).bind fun r6 => (cond (decide (r6 < 0)) (some (-1)) ((lszEntryS (a2, r6)).bind fun r7 => (cond (decide (r7 < 0)) (some (-1)) (some r7)))))))
def c_lszDisk : Ctr := { args := [.val true y8, .val false y0], rets := [(false, [(none, y0)])], F := lszDisk }
def X_lszDisk : Ctx := XT.withΓ (lk [(23, c_lszInodeS), (24, c_lszEntryS)]) (lk [])
theorem r_lszDisk (a) : fnRun X_lszDisk H0 c_lszDisk Tryz.f5 T0 a = lszDisk a := by kernel_rfl
theorem h_lszDisk [Tabs] : CtrHolds Tryz.prog 5 c_lszDisk := fn_ok (.cons h_lszInodeS Tryz.call23 (.cons h_lszEntryS Tryz.call24 .nil)) .nil Tryz.func5 (by kernel_rfl) (loops0 (by kernel_rfl)) r_lszDisk
def ltoByteS_L3 (O : Type) : Nat → (List Int × Int × List Int) → ((List Int) → Option O) → ((List Int) → Option O) → Option O
  | 0, _, _, _ => none
  | q + 1, (a1, i2, out3), x, r => (cond (decide (i2 < (a1.length : Int))) (cond (decide (0 ≤ i2) && decide (i2 < (a1.length : Int))) (cond (decide (0 ≤ i2) && decide (i2 < (out3.length : Int))) (ltoByteS_L3 O q (a1, (wrap .i64 (i2 + 1)), (List.set out3 (Int.toNat i2) (nth a1 i2))) x r) none) none) (x out3))
def ltoByteS : (List Int) → Option (List Int)
  | a0 => (cond (decide (0 ≤ (a0.length : Int)) && (((a0.length : Int) == (a0.length : Int)) && decide ((a0.length : Int) ≤ 4294967296))) (ltoByteS_L3 (List Int) fuel (a0, 0, (List.replicate (Int.toNat (a0.length : Int)) 0)) (fun out4 => (some out4)) some) none)
def c_ltoByteS : Ctr := { args := [.val false (.old y10)], rets := [(false, [(some 5, y4)])], F := ltoByteS }
def X_ltoByteS : Ctx := XT.withΓ (lk []) (lk [])
def L_ltoByteS_3 : LoopF c_ltoByteS.Res := ⟨⟨22, [(0, .one (.val (.old y10))), (3, .one (.own 0)), (4, .one (.val y0))], [.arr 5 y10], []⟩, [(0, ⟨22, [(3, .one (.own 0))], [.arr 5 y10], []⟩)], ltoByteS_L3⟩
def T_ltoByteS : Nat → Option (LoopF c_ltoByteS.Res) := lk [(3, L_ltoByteS_3)]
theorem s_ltoByteS_3 : StepOk X_ltoByteS H0 (c_ltoByteS.finish X_ltoByteS Tryz.f113.results.toList) T_ltoByteS (loopAt Tryz.f113 0) := ⟨L_ltoByteS_3, by kernel_rfl, fun O y x r => by kernel_rfl, fun O k y x r => by kernel_rfl⟩
theorem r_ltoByteS (a) : fnRun X_ltoByteS H0 c_ltoByteS Tryz.f113 T_ltoByteS a = ltoByteS a := by kernel_rfl
theorem h_ltoByteS [Tabs] : CtrHolds Tryz.prog 113 c_ltoByteS := fn_ok .nil .nil Tryz.func113 (by kernel_rfl) (loops1 (by kernel_rfl) s_ltoByteS_3) r_ltoByteS
def ltoInode : (Int × List Int × Int) → Option (Int × List Int × Int)
  | (a0, a1, a2) => ((ltoByteS a1).bind fun r3 => (some (a0, r3, a2)))
def c_ltoInode : Ctr := { args := [.val true (.pair y0 (.pair (.old y10) y0))], rets := [(true, [(none, y0), (some 5, y4), (none, y0)])], F := ltoInode }
def X_ltoInode : Ctx := XT.withΓ (lk [(113, c_ltoByteS)]) (lk [])
theorem r_ltoInode (a) : fnRun X_ltoInode H0 c_ltoInode Tryz.f64 T0 a = ltoInode a := by kernel_rfl
theorem h_ltoInode [Tabs] : CtrHolds Tryz.prog 64 c_ltoInode := fn_ok (.cons h_ltoByteS Tryz.call113 .nil) .nil Tryz.func64 (by kernel_rfl) (loops0 (by kernel_rfl)) r_ltoInode
def ltoInodeS_L3 (O : Type) : Nat → (List (Int × List Int × Int) × Int × List (Int × List Int × Int)) → ((List (Int × List Int × Int)) → Option O) → ((List (Int × List Int × Int)) → Option O) → Option O
  | 0, _, _, _ => none
  | q + 1, (a1, i2, out3), x, r => (cond (decide (i2 < (a1.length : Int))) (cond (decide (0 ≤ i2) && decide (i2 < (a1.length : Int))) ((ltoInode ((nth a1 i2).1, (nth a1 i2).2.1, (nth a1 i2).2.2)).bind fun (r4, r5, r6) => (cond (decide (0 ≤ i2) && decide (i2 < (out3.length : Int))) (ltoInodeS_L3 O q (a1, (wrap .i64 (i2 + 1)), (List.set out3 (Int.toNat i2) (r4, r5, r6))) x r) none)) none) (x out3))
def ltoInodeS : (List (Int × List Int × Int)) → Option (List (Int × List Int × Int))
  | a0 => (cond (decide (0 ≤ (a0.length : Int)) && (((a0.length : Int) == (a0.length : Int)) && decide ((a0.length : Int) ≤ 4294967296))) (ltoInodeS_L3 (List (Int × List Int × Int)) fuel (a0, 0, (List.replicate (Int.toNat (a0.length : Int)) (0, [], 0))) (fun out7 => (some out7)) some) none)
def c_ltoInodeS : Ctr := { args := [.val false (.old (.pair y0 (.pair (.old y10) y0)))], rets := [(false, [(some 106, y7)])], F := ltoInodeS }
def X_ltoInodeS : Ctx := XT.withΓ (lk [(64, c_ltoInode)]) (lk [])
def L_ltoInodeS_3 : LoopF c_ltoInodeS.Res := ⟨⟨23, [(0, .one (.val (.old (.pair y0 (.pair (.old y10) y0))))), (3, .one (.own 0)), (4, .one (.val y0))], [.arr 106 (.pair y0 (.pair y4 y0))], []⟩, [(0, ⟨23, [(3, .one (.own 0))], [.arr 106 (.pair y0 (.pair y4 y0))], []⟩)], ltoInodeS_L3⟩
def T_ltoInodeS : Nat → Option (LoopF c_ltoInodeS.Res) := lk [(3, L_ltoInodeS_3)]
theorem s_ltoInodeS_3 : StepOk X_ltoInodeS H0 (c_ltoInodeS.finish X_ltoInodeS Tryz.f27.results.toList) T_ltoInodeS (loopAt Tryz.f27 0) := ⟨L_ltoInodeS_3, by kernel_rfl, fun O y x r => by kernel_rfl, fun O k y x r => by kernel_rfl⟩
theorem r_ltoInodeS (a) : fnRun X_ltoInodeS H0 c_ltoInodeS Tryz.f27 T_ltoInodeS a = ltoInodeS a := by kernel_rfl
theorem h_ltoInodeS [Tabs] : CtrHolds Tryz.prog 27 c_ltoInodeS := fn_ok (.cons h_ltoInode Tryz.call64 .nil) .nil Tryz.func27 (by kernel_rfl) (loops1 (by kernel_rfl) s_ltoInodeS_3) r_ltoInodeS
def ltoEntry : (Tx × Int) → Option (Tx × Int)
  | (a0, a1) => (some (a0, a1))
def c_ltoEntry : Ctr := { args := [.val true (.pair .str y0)], rets := [(true, [(none, .str), (none, y0)])], F := ltoEntry }
def X_ltoEntry : Ctx := XT.withΓ (lk []) (lk [])
theorem r_ltoEntry (a) : fnRun X_ltoEntry H0 c_ltoEntry Tryz.f65 T0 a = ltoEntry a := by kernel_rfl
theorem h_ltoEntry [Tabs] : CtrHolds Tryz.prog 65 c_ltoEntry := fn_ok .nil .nil Tryz.func65 (by kernel_rfl) (loops0 (by kernel_rfl)) r_ltoEntry
def ltoEntryS_L3 (O : Type) : Nat → (List (Tx × Int) × Int × List (Tx × Int)) → ((List (Tx × Int)) → Option O) → ((List (Tx × Int)) → Option O) → Option O
  | 0, _, _, _ => none
  | q + 1, (a1, i2, out3), x, r => (cond (decide (i2 < (a1.length : Int))) (cond (decide (0 ≤ i2) && decide (i2 < (a1.length : Int))) ((ltoEntry ((nth a1 i2).1, (nth a1 i2).2)).bind fun (r4, r5) => (cond (decide (0 ≤ i2) && decide (i2 < (out3.length : Int))) (ltoEntryS_L3 O q (a1, (wrap .i64 (i2 + 1)), (List.set out3 (Int.toNat i2) (r4, r5))) x r) none)) none) (x out3))
def ltoEntryS : (List (Tx × Int)) → Option (List (Tx × Int))
  | a0 => (cond (decide (0 ≤ (a0.length : Int)) && (((a0.length : Int) == (a0.length : Int)) && decide ((a0.length : Int) ≤ 4294967296))) (ltoEntryS_L3 (List (List UInt8 × Int)) fuel (a0, 0, (List.replicate (Int.toNat (a0.length : Int)) ([], 0))) (fun out6 => (some out6)) some) none)
def c_ltoEntryS : Ctr := { args := [.val false (.old (.pair .str y0))], rets := [(false, [(some 104, y5)])], F := ltoEntryS }
def X_ltoEntryS : Ctx := XT.withΓ (lk [(65, c_ltoEntry)]) (lk [])
def L_ltoEntryS_3 : LoopF c_ltoEntryS.Res := ⟨⟨23, [(0, .one (.val (.old (.pair .str y0)))), (3, .one (.own 0)), (4, .one (.val y0))], [.arr 104 (.pair .str y0)], []⟩, [(0, ⟨23, [(3, .one (.own 0))], [.arr 104 (.pair .str y0)], []⟩)], ltoEntryS_L3⟩
def T_ltoEntryS : Nat → Option (LoopF c_ltoEntryS.Res) := lk [(3, L_ltoEntryS_3)]
theorem s_ltoEntryS_3 : StepOk X_ltoEntryS H0 (c_ltoEntryS.finish X_ltoEntryS Tryz.f28.results.toList) T_ltoEntryS (loopAt Tryz.f28 0) := ⟨L_ltoEntryS_3, by kernel_rfl, fun O y x r => by kernel_rfl, fun O k y x r => by kernel_rfl⟩
theorem r_ltoEntryS (a) : fnRun X_ltoEntryS H0 c_ltoEntryS Tryz.f28 T_ltoEntryS a = ltoEntryS a := by kernel_rfl
theorem h_ltoEntryS [Tabs] : CtrHolds Tryz.prog 28 c_ltoEntryS := fn_ok (.cons h_ltoEntry Tryz.call65 .nil) .nil Tryz.func28 (by kernel_rfl) (loops1 (by kernel_rfl) s_ltoEntryS_3) r_ltoEntryS
def ltoDisk : (List (Int × List Int × Int) × List (Tx × Int) × List (Tx × Int) × Int) → Option (List (Int × List Int × Int) × List (Tx × Int) × List (Tx × Int) × Int)
  | (a0, a1, a2, a3) => ((ltoInodeS a0).bind fun r4 => ((ltoEntryS a1).bind fun r5 => ((ltoEntryS a2).bind fun r6 => (some (r4, r5, r6, a3)))))
def c_ltoDisk : Ctr := { args := [.val true y8], rets := [(true, [(some 106, y7), (some 104, y5), (some 104, y5), (none, y0)])], F := ltoDisk }
def X_ltoDisk : Ctx := XT.withΓ (lk [(27, c_ltoInodeS), (28, c_ltoEntryS)]) (lk [])
theorem r_ltoDisk (a) : fnRun X_ltoDisk H0 c_ltoDisk Tryz.f7 T0 a = ltoDisk a := by kernel_rfl
theorem h_ltoDisk [Tabs] : CtrHolds Tryz.prog 7 c_ltoDisk := fn_ok (.cons h_ltoInodeS Tryz.call27 (.cons h_ltoEntryS Tryz.call28 .nil)) .nil Tryz.func7 (by kernel_rfl) (loops0 (by kernel_rfl)) r_ltoDisk
def sl1In : (Int × Int × Int) → Option Bool
  | (x0, least1, most2) => (cond (decide (x0 ≥ least1)) (some (decide (x0 ≤ most2))) (some false))
def c_sl1In : Ctr := { args := [.val false y0, .val false y0, .val false y0], rets := [(false, [(none, .bool)])], F := sl1In }
def X_sl1In : Ctx := XT.withΓ (lk []) (lk [])
theorem r_sl1In (a) : fnRun X_sl1In H0 c_sl1In Tryz.f108 T0 a = sl1In a := by kernel_rfl
theorem h_sl1In [Tabs] : CtrHolds Tryz.prog 108 c_sl1In := fn_ok .nil .nil Tryz.func108 (by kernel_rfl) (loops0 (by kernel_rfl)) r_sl1In
def sl2Named_L2 (O : Type) : Nat → (List (Tx × Int) × Int × Int) → (Unit → Option O) → (Bool → Option O) → Option O
  | 0, _, _, _ => none
  | q + 1, (l2, id3, i4), x, r => (cond (decide (i4 < (l2.length : Int))) (cond (decide (0 ≤ i4) && decide (i4 < (l2.length : Int))) (cond ((nth l2 i4).2 == id3) (r true) (sl2Named_L2 O q (l2, id3, (wrap .i64 (i4 + 1))) x r)) none) (x ()))
def sl2Named : (List (Tx × Int) × Int) → Option Bool
  | (l0, id1) => (sl2Named_L2 Bool fuel (l0, id1, 0) (fun _ => (some false)) some)
def c_sl2Named : Ctr := { args := [.val false y5, .val false y0], rets := [(false, [(none, .bool)])], F := sl2Named }
def X_sl2Named : Ctx := XT.withΓ (lk []) (lk [])
def L_sl2Named_2 : LoopF c_sl2Named.Res := ⟨⟨19, [(0, .one (.val y5)), (1, .one (.val y0)), (5, .one (.val y0))], [], []⟩, [(0, ⟨19, [], [], []⟩)], sl2Named_L2⟩
def T_sl2Named : Nat → Option (LoopF c_sl2Named.Res) := lk [(2, L_sl2Named_2)]
theorem s_sl2Named_2 : StepOk X_sl2Named H0 (c_sl2Named.finish X_sl2Named Tryz.f126.results.toList) T_sl2Named (loopAt Tryz.f126 0) := ⟨L_sl2Named_2, by kernel_rfl, fun O y x r => by kernel_rfl, fun O k y x r => by kernel_rfl⟩
theorem r_sl2Named (a) : fnRun X_sl2Named H0 c_sl2Named Tryz.f126 T_sl2Named a = sl2Named a := by kernel_rfl
theorem h_sl2Named [Tabs] : CtrHolds Tryz.prog 126 c_sl2Named := fn_ok .nil .nil Tryz.func126 (by kernel_rfl) (loops1 (by kernel_rfl) s_sl2Named_2) r_sl2Named
def sl2Name_L4 (O : Type) : Nat → (Tx × Int) → (Unit → Option O) → (Bool → Option O) → Option O
  | 0, _, _, _ => none
  | q + 1, (s2, i3), x, r => (cond (decide (i3 < (s2.length : Int))) (cond (decide (0 ≤ i3) && decide (i3 < (s2.length : Int))) ((sl1In ((wrap .i64 (((UInt8.toNat (nth s2 i3)) : Nat) : Int)), 97, 122)).bind fun r4 => (cond (!r4) ((sl1In ((wrap .i64 (((UInt8.toNat (nth s2 i3)) : Nat) : Int)), 48, 57)).bind fun r5 => (cond (!r5) (cond ((wrap .i64 (((UInt8.toNat (nth s2 i3)) : Nat) : Int)) != 45) (cond ((wrap .i64 (((UInt8.toNat (nth s2 i3)) : Nat) : Int)) != 46) (r false) (sl2Name_L4 O q (s2, (wrap .i64 (i3 + 1))) x r)) (sl2Name_L4 O q (s2, (wrap .i64 (i3 + 1))) x r)) (sl2Name_L4 O q (s2, (wrap .i64 (i3 + 1))) x r))) (sl2Name_L4 O q (s2, (wrap .i64 (i3 + 1))) x r))) none) (x ()))
def sl2Name : (Tx) → Option Bool
  | s0 => ((sl1In ((s0.length : Int), 1, 12)).bind fun r1 => (cond (!r1) (some false) (sl2Name_L4 Bool fuel (s0, 0) (fun _ => (some true)) some)))
def c_sl2Name : Ctr := { args := [.val false .str], rets := [(false, [(none, .bool)])], F := sl2Name }
def X_sl2Name : Ctx := XT.withΓ (lk [(108, c_sl1In)]) (lk [])
def L_sl2Name_4 : LoopF c_sl2Name.Res := ⟨⟨35, [(0, .one (.val .str)), (3, .one (.val y0))], [], []⟩, [(0, ⟨35, [], [], []⟩)], sl2Name_L4⟩
def T_sl2Name : Nat → Option (LoopF c_sl2Name.Res) := lk [(4, L_sl2Name_4)]
theorem s_sl2Name_4 : StepOk X_sl2Name H0 (c_sl2Name.finish X_sl2Name Tryz.f107.results.toList) T_sl2Name (loopAt Tryz.f107 0) := ⟨L_sl2Name_4, by kernel_rfl, fun O y x r => by kernel_rfl, fun O k y x r => by kernel_rfl⟩
theorem r_sl2Name (a) : fnRun X_sl2Name H0 c_sl2Name Tryz.f107 T_sl2Name a = sl2Name a := by kernel_rfl
theorem h_sl2Name [Tabs] : CtrHolds Tryz.prog 107 c_sl2Name := fn_ok (.cons h_sl1In Tryz.call108 .nil) .nil Tryz.func107 (by kernel_rfl) (loops1 (by kernel_rfl) s_sl2Name_4) r_sl2Name
def sl2Inode_L2 (O : Type) : Nat → (Int × Int × List (Int × List Int × Int) × List (Tx × Int) × List (Tx × Int) × Int) → (Unit → Option O) → (Int → Option O) → Option O
  | 0, _, _, _ => none
  | q + 1, (id5, i6, d7, d8, d9, d10), x, r => (cond (decide (i6 < (d7.length : Int))) (cond (decide (0 ≤ i6) && decide (i6 < (d7.length : Int))) (cond ((nth d7 i6).1 == id5) (r i6) (sl2Inode_L2 O q (id5, (wrap .i64 (i6 + 1)), d7, d8, d9, d10) x r)) none) (x ()))
def sl2Inode : ((List (Int × List Int × Int) × List (Tx × Int) × List (Tx × Int) × Int) × Int) → Option Int
  | ((d0, d1, d2, d3), id4) => (sl2Inode_L2 Int fuel (id4, 0, d0, d1, d2, d3) (fun _ => (some (-1))) some)
def c_sl2Inode : Ctr := { args := [.val true y3, .val false y0], rets := [(false, [(none, y0)])], F := sl2Inode }
def X_sl2Inode : Ctx := XT.withΓ (lk []) (lk [])
def L_sl2Inode_2 : LoopF c_sl2Inode.Res := ⟨⟨22, [(1, .one (.val y0)), (2, .one (.ptr 0 0)), (5, .one (.val y0))], [.vars 35 [.val y7, .val y5, .val y5, .val y0]], []⟩, [(0, ⟨22, [], [], []⟩)], sl2Inode_L2⟩
def T_sl2Inode : Nat → Option (LoopF c_sl2Inode.Res) := lk [(2, L_sl2Inode_2)]
theorem s_sl2Inode_2 : StepOk X_sl2Inode H0 (c_sl2Inode.finish X_sl2Inode Tryz.f57.results.toList) T_sl2Inode (loopAt Tryz.f57 0) := ⟨L_sl2Inode_2, by kernel_rfl, fun O y x r => by kernel_rfl, fun O k y x r => by kernel_rfl⟩
theorem r_sl2Inode (a) : fnRun X_sl2Inode H0 c_sl2Inode Tryz.f57 T_sl2Inode a = sl2Inode a := by kernel_rfl
theorem h_sl2Inode [Tabs] : CtrHolds Tryz.prog 57 c_sl2Inode := fn_ok .nil .nil Tryz.func57 (by kernel_rfl) (loops1 (by kernel_rfl) s_sl2Inode_2) r_sl2Inode
def sl2Entries_L7 (O : Type) : Nat → (List (Tx × Int) × Int × Int × List (Int × List Int × Int) × List (Tx × Int) × List (Tx × Int) × Int × List (Tx × Int) × Int × (Tx × Int) × Int × Int × Int × Bool × Int × Bool × Bool × Bool × List (Int × List Int × Int) × List (Tx × Int) × List (Tx × Int) × Int) → ((List (Tx × Int) × Int × List (Int × List Int × Int) × List (Tx × Int) × List (Tx × Int) × Int × List (Tx × Int) × Int × (Tx × Int) × Int × Int × Int × Bool × Int × Bool × Bool × Bool × List (Int × List Int × Int) × List (Tx × Int) × List (Tx × Int) × Int) → Option O) → (Bool → Option O) → Option O
  | 0, _, _, _ => none
  | q + 1, (l34, i35, k36, v37, v38, v39, v40, v41, v42, v43, v44, v45, v46, v47, v48, v49, v50, v51, d52, d53, d54, d55), x, r => (cond (decide (k36 < i35)) (cond (decide (0 ≤ k36) && decide (k36 < (l34.length : Int))) (cond (decide (0 ≤ i35) && decide (i35 < (l34.length : Int))) (cond ((nth l34 k36).2 == (nth l34 i35).2) (r false) (sl2Entries_L7 O q (l34, i35, (wrap .i64 (k36 + 1)), v37, v38, v39, v40, v41, v42, v43, v44, v45, v46, v47, v48, v49, v50, v51, d52, d53, d54, d55) x r)) none) none) (x (l34, i35, v37, v38, v39, v40, v41, v42, v43, v44, v45, v46, v47, v48, v49, v50, v51, d52, d53, d54, d55)))
def sl2Entries_L2 (O : Type) : Nat → (List (Tx × Int) × Int × List (Int × List Int × Int) × List (Tx × Int) × List (Tx × Int) × Int) → ((List (Tx × Int)) → Option O) → (Bool → Option O) → Option O
  | 0, _, _, _ => none
  | q + 1, (l5, i6, d7, d8, d9, d10), x, r => (cond (decide (i6 < (l5.length : Int))) (((cond (decide (0 ≤ i6) && decide (i6 < (l5.length : Int))) ((sl2Name (nth l5 i6).1).bind fun r11 => (cond (!r11) ((r false).map Sum.inr) (cond (decide (0 ≤ i6) && decide (i6 < (l5.length : Int))) ((sl2Inode ((d7, d8, d9, d10), (nth l5 i6).2)).bind fun r12 => (cond (decide (r12 < 0)) ((r false).map Sum.inr) (cond (decide (i6 > 0)) (cond (decide (0 ≤ (wrap .i64 (i6 - 1))) && decide ((wrap .i64 (i6 - 1)) < (l5.length : Int))) (cond (decide (0 ≤ i6) && decide (i6 < (l5.length : Int))) (cond (!(Op.bytesLess (nth l5 (wrap .i64 (i6 - 1))).1 (nth l5 i6).1)) ((r false).map Sum.inr) (some (Sum.inl (l5, i6, d7, d8, d9, d10, l5, i6, (nth l5 i6), (nth l5 i6).2, (nth l5 i6).2, r12, decide (r12 < 0), i6, decide (i6 > 0), true, (!(Op.bytesLess (nth l5 (wrap .i64 (i6 - 1))).1 (nth l5 i6).1)), d7, d8, d9, d10)))) none) none) (some (Sum.inl (l5, i6, d7, d8, d9, d10, l5, i6, (nth l5 i6), (nth l5 i6).2, (nth l5 i6).2, r12, decide (r12 < 0), i6, decide (i6 > 0), false, false, d7, d8, d9, d10)))))) none))) none) : Option ((List (List UInt8 × Int) × Int × List (Int × List Int × Int) × List (List UInt8 × Int) × List (List UInt8 × Int) × Int × List (List UInt8 × Int) × Int × (List UInt8 × Int) × Int × Int × Int × Bool × Int × Bool × Bool × Bool × List (Int × List Int × Int) × List (List UInt8 × Int) × List (List UInt8 × Int) × Int) ⊕ O)).bind fun z => match z with | .inl (l13, i14, v15, v16, v17, v18, v19, v20, v21, v22, v23, v24, v25, v26, v27, v28, v29, d30, d31, d32, d33) => (sl2Entries_L7 O fuel (l13, i14, 0, v15, v16, v17, v18, v19, v20, v21, v22, v23, v24, v25, v26, v27, v28, v29, d30, d31, d32, d33) (fun (l56, i57, v58, v59, v60, v61, v62, v63, v64, v65, v66, v67, v68, v69, v70, v71, v72, d73, d74, d75, d76) => (sl2Entries_L2 O q (l56, (wrap .i64 (i57 + 1)), d73, d74, d75, d76) x r)) r) | .inr o => some o) (x l5))
def sl2Entries : ((List (Int × List Int × Int) × List (Tx × Int) × List (Tx × Int) × Int) × List (Tx × Int)) → Option Bool
  | ((d0, d1, d2, d3), l4) => (sl2Entries_L2 Bool fuel (l4, 0, d0, d1, d2, d3) (fun l77 => (some (decide ((l77.length : Int) ≤ 30)))) some)
def c_sl2Entries : Ctr := { args := [.val true y3, .val false y5], rets := [(false, [(none, .bool)])], F := sl2Entries }
def X_sl2Entries : Ctx := XT.withΓ (lk [(107, c_sl2Name), (57, c_sl2Inode)]) (lk [])
def H_sl2Entries : Hints := ⟨lk [], lk [(6, ⟨67, [(1, .one (.val y5)), (2, .one (.ptr 0 0)), (5, .one (.val y0)), (21, .agg [.val y7, .val y5, .val y5, .val y0]), (22, .one (.val y5)), (23, .one (.val y0)), (24, .one (.rptr (.pair .str y0))), (25, .one (.rptr y0)), (26, .one (.val y0)), (27, .one (.val y0)), (28, .one (.val .bool)), (31, .one (.val y0)), (32, .one (.val .bool)), (33, .one (.val .bool)), (46, .one (.val .bool))], [.vars 35 [.val y7, .val y5, .val y5, .val y0]], []⟩)], lk []⟩
def L_sl2Entries_2 : LoopF c_sl2Entries.Res := ⟨⟨67, [(1, .one (.val y5)), (2, .one (.ptr 0 0)), (5, .one (.val y0))], [.vars 35 [.val y7, .val y5, .val y5, .val y0]], []⟩, [(0, ⟨67, [(1, .one (.val y5))], [], []⟩)], sl2Entries_L2⟩
def L_sl2Entries_7 : LoopF c_sl2Entries.Res := ⟨⟨67, [(1, .one (.val y5)), (2, .one (.ptr 0 0)), (5, .one (.val y0)), (6, .one (.val y0)), (21, .agg [.val y7, .val y5, .val y5, .val y0]), (22, .one (.val y5)), (23, .one (.val y0)), (24, .one (.rptr (.pair .str y0))), (25, .one (.rptr y0)), (26, .one (.val y0)), (27, .one (.val y0)), (28, .one (.val .bool)), (31, .one (.val y0)), (32, .one (.val .bool)), (33, .one (.val .bool)), (46, .one (.val .bool))], [.vars 35 [.val y7, .val y5, .val y5, .val y0]], []⟩, [(2, ⟨67, [(1, .one (.val y5)), (2, .one (.ptr 0 0)), (5, .one (.val y0)), (21, .agg [.val y7, .val y5, .val y5, .val y0]), (22, .one (.val y5)), (23, .one (.val y0)), (24, .one (.rptr (.pair .str y0))), (25, .one (.rptr y0)), (26, .one (.val y0)), (27, .one (.val y0)), (28, .one (.val .bool)), (31, .one (.val y0)), (32, .one (.val .bool)), (33, .one (.val .bool)), (46, .one (.val .bool))], [.vars 35 [.val y7, .val y5, .val y5, .val y0]], []⟩)], sl2Entries_L7⟩
def T_sl2Entries : Nat → Option (LoopF c_sl2Entries.Res) := lk [(2, L_sl2Entries_2), (7, L_sl2Entries_7)]
set_option maxHeartbeats 8000000 in
theorem s_sl2Entries_2 : StepOk X_sl2Entries H_sl2Entries (c_sl2Entries.finish X_sl2Entries Tryz.f127.results.toList) T_sl2Entries (loopAt Tryz.f127 0) := ⟨L_sl2Entries_2, by kernel_rfl, fun O y x r => by kernel_rfl, fun O k y x r => by kernel_rfl⟩
theorem s_sl2Entries_7 : StepOk X_sl2Entries H_sl2Entries (c_sl2Entries.finish X_sl2Entries Tryz.f127.results.toList) T_sl2Entries (loopAt Tryz.f127 1) := ⟨L_sl2Entries_7, by kernel_rfl, fun O y x r => by kernel_rfl, fun O k y x r => by kernel_rfl⟩
theorem r_sl2Entries (a) : fnRun X_sl2Entries H_sl2Entries c_sl2Entries Tryz.f127 T_sl2Entries a = sl2Entries a := by kernel_rfl
theorem h_sl2Entries [Tabs] : CtrHolds Tryz.prog 127 c_sl2Entries := fn_ok (.cons h_sl2Name Tryz.call107 (.cons h_sl2Inode Tryz.call57 .nil)) .nil Tryz.func127 (by kernel_rfl) (loops2 (by kernel_rfl) s_sl2Entries_2 s_sl2Entries_7) r_sl2Entries
def sDiskOk_L5 (O : Type) : Nat → (Int × Int × List (Int × List Int × Int) × List (Tx × Int) × List (Tx × Int) × Int) → ((Int × List (Int × List Int × Int) × List (Tx × Int) × List (Tx × Int) × Int) → Option O) → (Bool → Option O) → Option O
  | 0, _, _, _ => none
  | q + 1, (sum5, i6, d7, d8, d9, d10), x, r => (cond (decide (i6 < (d7.length : Int))) (cond (decide (0 ≤ i6) && decide (i6 < (d7.length : Int))) ((sl1In ((nth d7 i6).1, 1, (wrap .i64 (d10 - 1)))).bind fun r11 => (cond (!r11) (r false) (cond (decide (i6 > 0)) (cond (decide (0 ≤ (wrap .i64 (i6 - 1))) && decide ((wrap .i64 (i6 - 1)) < (d7.length : Int))) (cond (decide ((nth d7 (wrap .i64 (i6 - 1))).1 ≥ (nth d7 i6).1)) (r false) ((sl1In ((nth d7 i6).2.2, 0, (((nth d7 i6).2.1.length : Nat) : Int))).bind fun r12 => (cond (!r12) (r false) ((sl2Named (d8, (nth d7 i6).1)).bind fun r13 => (cond (!r13) ((sl2Named (d9, (nth d7 i6).1)).bind fun r14 => (cond (!r14) (r false) (sDiskOk_L5 O q ((wrap .i64 (sum5 + (((nth d7 i6).2.1.length : Nat) : Int))), (wrap .i64 (i6 + 1)), d7, d8, d9, d10) x r))) (sDiskOk_L5 O q ((wrap .i64 (sum5 + (((nth d7 i6).2.1.length : Nat) : Int))), (wrap .i64 (i6 + 1)), d7, d8, d9, d10) x r)))))) none) ((sl1In ((nth d7 i6).2.2, 0, (((nth d7 i6).2.1.length : Nat) : Int))).bind fun r15 => (cond (!r15) (r false) ((sl2Named (d8, (nth d7 i6).1)).bind fun r16 => (cond (!r16) ((sl2Named (d9, (nth d7 i6).1)).bind fun r17 => (cond (!r17) (r false) (sDiskOk_L5 O q ((wrap .i64 (sum5 + (((nth d7 i6).2.1.length : Nat) : Int))), (wrap .i64 (i6 + 1)), d7, d8, d9, d10) x r))) (sDiskOk_L5 O q ((wrap .i64 (sum5 + (((nth d7 i6).2.1.length : Nat) : Int))), (wrap .i64 (i6 + 1)), d7, d8, d9, d10) x r)))))))) none) (x (sum5, d7, d8, d9, d10)))
def sDiskOk : (List (Int × List Int × Int) × List (Tx × Int) × List (Tx × Int) × Int) → Option Bool
  | (d0, d1, d2, d3) => ((sl1In (d3, 1, 1000000)).bind fun r4 => (cond (!r4) (some false) (cond (decide ((d0.length : Int) > 60)) (some false) (sDiskOk_L5 Bool fuel (0, 0, d0, d1, d2, d3) (fun (sum18, d19, d20, d21, d22) => (cond (decide (sum18 ≤ 60000)) ((sl2Entries ((d19, d20, d21, d22), d20)).bind fun r23 => (cond r23 ((sl2Entries ((d19, d20, d21, d22), d21)).bind fun r24 => (some r24)) (some false))) (some false))) some))))
def c_sDiskOk : Ctr := { args := [.val true y3], rets := [(false, [(none, .bool)])], F := sDiskOk }
def X_sDiskOk : Ctx := XT.withΓ (lk [(108, c_sl1In), (126, c_sl2Named), (127, c_sl2Entries)]) (lk [])
def L_sDiskOk_5 : LoopF c_sDiskOk.Res := ⟨⟨95, [(1, .one (.ptr 0 0)), (3, .one (.val y0)), (4, .one (.val y0))], [.vars 35 [.val y7, .val y5, .val y5, .val y0]], []⟩, [(0, ⟨95, [(1, .one (.ptr 0 0)), (3, .one (.val y0))], [.vars 35 [.val y7, .val y5, .val y5, .val y0]], []⟩)], sDiskOk_L5⟩
def T_sDiskOk : Nat → Option (LoopF c_sDiskOk.Res) := lk [(5, L_sDiskOk_5)]
theorem s_sDiskOk_5 : StepOk X_sDiskOk H0 (c_sDiskOk.finish X_sDiskOk Tryz.f80.results.toList) T_sDiskOk (loopAt Tryz.f80 0) := ⟨L_sDiskOk_5, by kernel_rfl, fun O y x r => by kernel_rfl, fun O k y x r => by kernel_rfl⟩
theorem r_sDiskOk (a) : fnRun X_sDiskOk H0 c_sDiskOk Tryz.f80 T_sDiskOk a = sDiskOk a := by kernel_rfl
theorem h_sDiskOk [Tabs] : CtrHolds Tryz.prog 80 c_sDiskOk := fn_ok (.cons h_sl1In Tryz.call108 (.cons h_sl2Named Tryz.call126 (.cons h_sl2Entries Tryz.call127 .nil))) .nil Tryz.func80 (by kernel_rfl) (loops1 (by kernel_rfl) s_sDiskOk_5) r_sDiskOk
def sl2At_L2 (O : Type) : Nat → (List (Tx × Int) × Tx × Int) → (Unit → Option O) → (Int → Option O) → Option O
  | 0, _, _, _ => none
  | q + 1, (l2, name3, i4), x, r => (cond (decide (i4 < (l2.length : Int))) (cond (decide (0 ≤ i4) && decide (i4 < (l2.length : Int))) (cond ((nth l2 i4).1 == name3) (r i4) (sl2At_L2 O q (l2, name3, (wrap .i64 (i4 + 1))) x r)) none) (x ()))
def sl2At : (List (Tx × Int) × Tx) → Option Int
  | (l0, name1) => (sl2At_L2 Int fuel (l0, name1, 0) (fun _ => (some (-1))) some)
def c_sl2At : Ctr := { args := [.val false y5, .val false .str], rets := [(false, [(none, y0)])], F := sl2At }
def X_sl2At : Ctx := XT.withΓ (lk []) (lk [])
def L_sl2At_2 : LoopF c_sl2At.Res := ⟨⟨20, [(0, .one (.val y5)), (1, .one (.val .str)), (5, .one (.val y0))], [], []⟩, [(0, ⟨20, [], [], []⟩)], sl2At_L2⟩
def T_sl2At : Nat → Option (LoopF c_sl2At.Res) := lk [(2, L_sl2At_2)]
theorem s_sl2At_2 : StepOk X_sl2At H0 (c_sl2At.finish X_sl2At Tryz.f58.results.toList) T_sl2At (loopAt Tryz.f58 0) := ⟨L_sl2At_2, by kernel_rfl, fun O y x r => by kernel_rfl, fun O k y x r => by kernel_rfl⟩
theorem r_sl2At (a) : fnRun X_sl2At H0 c_sl2At Tryz.f58 T_sl2At a = sl2At a := by kernel_rfl
theorem h_sl2At [Tabs] : CtrHolds Tryz.prog 58 c_sl2At := fn_ok .nil .nil Tryz.func58 (by kernel_rfl) (loops1 (by kernel_rfl) s_sl2At_2) r_sl2At
def sl2Call : ((List (Int × List Int × Int) × List (Tx × Int) × List (Tx × Int) × Int) × Tx) → Option Int
  | ((d0, d1, d2, d3), name4) => (((sDiskOk (d0, d1, d2, d3)).bind fun r5 => (cond (!r5) (some (name4, true, d0, d1, d2, d3)) ((sl2Name name4).bind fun r6 => (some (name4, (!r6), d0, d1, d2, d3))))).bind fun (name7, v8, d9, d10, d11, d12) => (cond v8 (some 1) ((sl2At (d10, name7)).bind fun r13 => (cond (decide (r13 < 0)) (some 2) (some 0)))))
def c_sl2Call : Ctr := { args := [.val true y3, .val false .str], rets := [(false, [(none, y0)])], F := sl2Call }
def X_sl2Call : Ctx := XT.withΓ (lk [(80, c_sDiskOk), (107, c_sl2Name), (58, c_sl2At)]) (lk [])
def H_sl2Call : Hints := ⟨lk [(2, ⟨20, [(1, .one (.val .str)), (2, .one (.ptr 0 0)), (5, .one (.val .bool))], [.vars 35 [.val y7, .val y5, .val y5, .val y0]], []⟩)], lk [], lk []⟩
theorem r_sl2Call (a) : fnRun X_sl2Call H_sl2Call c_sl2Call Tryz.f56 T0 a = sl2Call a := by kernel_rfl
theorem h_sl2Call [Tabs] : CtrHolds Tryz.prog 56 c_sl2Call := fn_ok (.cons h_sDiskOk Tryz.call80 (.cons h_sl2Name Tryz.call107 (.cons h_sl2At Tryz.call58 .nil))) .nil Tryz.func56 (by kernel_rfl) (loops0 (by kernel_rfl)) r_sl2Call
def sBytes : ((List (Int × List Int × Int) × List (Tx × Int) × List (Tx × Int) × Int) × Tx) → Option (List Int × Bool)
  | ((d0, d1, d2, d3), name4) => ((sl2Call ((d0, d1, d2, d3), name4)).bind fun r5 => (cond (r5 != 0) (some ([], false)) ((sl2At (d1, name4)).bind fun r6 => (cond (decide (0 ≤ r6) && decide (r6 < (d1.length : Int))) ((sl2Inode ((d0, d1, d2, d3), (nth d1 r6).2)).bind fun r7 => (cond (decide (0 ≤ r7) && decide (r7 < (d0.length : Int))) (cond (decide ((0 + (nth d0 r7).2.1.length) ≤ lenBound)) (some (([] ++ (nth d0 r7).2.1), true)) none) none)) none))))
def c_sBytes : Ctr := { args := [.val true y3, .val false .str], rets := [(false, [(some 5, y4)]), (false, [(none, .bool)])], F := sBytes }
def X_sBytes : Ctx := XT.withΓ (lk [(56, c_sl2Call), (58, c_sl2At), (57, c_sl2Inode)]) (lk [])
theorem r_sBytes (a) : fnRun X_sBytes H0 c_sBytes Tryz.f25 T0 a = sBytes a := by kernel_rfl
theorem h_sBytes [Tabs] : CtrHolds Tryz.prog 25 c_sBytes := fn_ok (.cons h_sl2Call Tryz.call56 (.cons h_sl2At Tryz.call58 (.cons h_sl2Inode Tryz.call57 .nil))) .nil Tryz.func25 (by kernel_rfl) (loops0 (by kernel_rfl)) r_sBytes
def sl6Split_L4 (O : Type) : Nat → (Tx × Int × Int × Int × List (Tx)) → ((List (Tx)) → Option O) → ((List (Tx)) → Option O) → Option O
  | 0, _, _, _ => none
  | q + 1, (s2, by3, from4, i5, out6), x, r => (cond (decide (i5 ≤ (s2.length : Int))) ((cond (i5 == (s2.length : Int)) (some (s2, by3, from4, i5, true, out6)) (cond (decide (0 ≤ i5) && decide (i5 < (s2.length : Int))) (some (s2, by3, from4, i5, ((((UInt8.toNat (nth s2 i5)) : Nat) : Int) == by3), out6)) none)).bind fun (s7, by8, from9, i10, v11, out12) => (cond v11 (cond (decide (0 ≤ from9) && (decide (from9 ≤ i10) && decide (i10 ≤ (s7.length : Int)))) (cond (decide ((out12.length + [(cut s7 from9 i10)].length) ≤ lenBound)) (sl6Split_L4 O q (s7, by8, (wrap .i64 (i10 + 1)), (wrap .i64 (i10 + 1)), (out12 ++ [(cut s7 from9 i10)])) x r) none) none) (sl6Split_L4 O q (s7, by8, from9, (wrap .i64 (i10 + 1)), out12) x r))) (x out6))
def sl6Split : (Tx × Int) → Option (List (Tx))
  | (s0, by1) => (sl6Split_L4 (List (List UInt8)) fuel (s0, by1, 0, 0, []) (fun out13 => (some out13)) some)
def c_sl6Split : Ctr := { args := [.val false .str, .val false y10], rets := [(false, [(some 9, (.sl .str))])], F := sl6Split }
def X_sl6Split : Ctx := XT.withΓ (lk []) (lk [])
def H_sl6Split : Hints := ⟨lk [(7, ⟨36, [(0, .one (.val .str)), (1, .one (.val y10)), (5, .one (.own 0)), (6, .one (.val y0)), (7, .one (.val y0)), (25, .one (.val .bool))], [.arr 9 .str], []⟩)], lk [], lk []⟩
def L_sl6Split_4 : LoopF c_sl6Split.Res := ⟨⟨36, [(0, .one (.val .str)), (1, .one (.val y10)), (5, .one (.own 0)), (6, .one (.val y0)), (7, .one (.val y0))], [.arr 9 .str], []⟩, [(0, ⟨36, [(5, .one (.own 0))], [.arr 9 .str], []⟩)], sl6Split_L4⟩
def T_sl6Split : Nat → Option (LoopF c_sl6Split.Res) := lk [(4, L_sl6Split_4)]
theorem s_sl6Split_4 : StepOk X_sl6Split H_sl6Split (c_sl6Split.finish X_sl6Split Tryz.f59.results.toList) T_sl6Split (loopAt Tryz.f59 0) := ⟨L_sl6Split_4, by kernel_rfl, fun O y x r => by kernel_rfl, fun O k y x r => by kernel_rfl⟩
theorem r_sl6Split (a) : fnRun X_sl6Split H_sl6Split c_sl6Split Tryz.f59 T_sl6Split a = sl6Split a := by kernel_rfl
theorem h_sl6Split [Tabs] : CtrHolds Tryz.prog 59 c_sl6Split := fn_ok .nil .nil Tryz.func59 (by kernel_rfl) (loops1 (by kernel_rfl) s_sl6Split_4) r_sl6Split
def sl6Number_L5 (O : Type) : Nat → (Tx × Int × Int) → (Int → Option O) → (Int → Option O) → Option O
  | 0, _, _, _ => none
  | q + 1, (s2, n3, i4), x, r => (cond (decide (i4 < (s2.length : Int))) (cond (decide (0 ≤ i4) && decide (i4 < (s2.length : Int))) ((sl1In ((wrap .i64 (((UInt8.toNat (nth s2 i4)) : Nat) : Int)), 48, 57)).bind fun r5 => (cond (!r5) (r (-1)) (cond (decide (0 ≤ i4) && decide (i4 < (s2.length : Int))) (sl6Number_L5 O q (s2, (wrap .i64 ((wrap .i64 (n3 * 10)) + (wrap .i64 (IntKind.wrap .u8 ((((UInt8.toNat (nth s2 i4)) : Nat) : Int) - 48))))), (wrap .i64 (i4 + 1))) x r) none))) none) (x n3))
def sl6Number : (Tx) → Option Int
  | s0 => ((sl1In ((s0.length : Int), 1, 6)).bind fun r1 => (cond (!r1) (some (-1)) (sl6Number_L5 Int fuel (s0, 0, 0) (fun n6 => (some n6)) some)))
def c_sl6Number : Ctr := { args := [.val false .str], rets := [(false, [(none, y0)])], F := sl6Number }
def X_sl6Number : Ctx := XT.withΓ (lk [(108, c_sl1In)]) (lk [])
def L_sl6Number_5 : LoopF c_sl6Number.Res := ⟨⟨30, [(0, .one (.val .str)), (3, .one (.val y0)), (4, .one (.val y0))], [], []⟩, [(0, ⟨30, [(3, .one (.val y0))], [], []⟩)], sl6Number_L5⟩
def T_sl6Number : Nat → Option (LoopF c_sl6Number.Res) := lk [(5, L_sl6Number_5)]
theorem s_sl6Number_5 : StepOk X_sl6Number H0 (c_sl6Number.finish X_sl6Number Tryz.f60.results.toList) T_sl6Number (loopAt Tryz.f60 0) := ⟨L_sl6Number_5, by kernel_rfl, fun O y x r => by kernel_rfl, fun O k y x r => by kernel_rfl⟩
theorem r_sl6Number (a) : fnRun X_sl6Number H0 c_sl6Number Tryz.f60 T_sl6Number a = sl6Number a := by kernel_rfl
theorem h_sl6Number [Tabs] : CtrHolds Tryz.prog 60 c_sl6Number := fn_ok (.cons h_sl1In Tryz.call108 .nil) .nil Tryz.func60 (by kernel_rfl) (loops1 (by kernel_rfl) s_sl6Number_5) r_sl6Number
def sl6Digit : Int → Option Int
  | c0 => ((sl1In ((wrap .i64 c0), 48, 57)).bind fun r1 => (cond r1 (some (wrap .i64 (IntKind.wrap .u8 (c0 - 48)))) ((sl1In ((wrap .i64 c0), 97, 102)).bind fun r2 => (cond r2 (some (wrap .i64 ((wrap .i64 (IntKind.wrap .u8 (c0 - 97))) + 10))) (some 99)))))
def c_sl6Digit : Ctr := { args := [.val false y10], rets := [(false, [(none, y0)])], F := sl6Digit }
def X_sl6Digit : Ctx := XT.withΓ (lk [(108, c_sl1In)]) (lk [])
theorem r_sl6Digit (a) : fnRun X_sl6Digit H0 c_sl6Digit Tryz.f109 T0 a = sl6Digit a := by kernel_rfl
theorem h_sl6Digit [Tabs] : CtrHolds Tryz.prog 109 c_sl6Digit := fn_ok (.cons h_sl1In Tryz.call108 .nil) .nil Tryz.func109 (by kernel_rfl) (loops0 (by kernel_rfl)) r_sl6Digit
def sl6UnHex_L3 (O : Type) : Nat → (Tx × Int × List Int) → ((List Int) → Option O) → ((Tx) → Option O) → Option O
  | 0, _, _, _ => none
  | q + 1, (s1, i2, out3), x, r => (cond (decide ((wrap .i64 (i2 + 1)) < (s1.length : Int))) (cond (decide (0 ≤ i2) && decide (i2 < (s1.length : Int))) ((sl6Digit (((UInt8.toNat (nth s1 i2)) : Nat) : Int)).bind fun r4 => (cond (decide (0 ≤ (wrap .i64 (i2 + 1))) && decide ((wrap .i64 (i2 + 1)) < (s1.length : Int))) ((sl6Digit (((UInt8.toNat (nth s1 (wrap .i64 (i2 + 1)))) : Nat) : Int)).bind fun r5 => (cond (decide ((out3.length + [(IntKind.wrap .u8 (wrap .i64 ((wrap .i64 (r4 * 16)) + r5)))].length) ≤ lenBound)) (sl6UnHex_L3 O q (s1, (wrap .i64 (i2 + 2)), (out3 ++ [(IntKind.wrap .u8 (wrap .i64 ((wrap .i64 (r4 * 16)) + r5)))])) x r) none)) none)) none) (x out3))
def sl6UnHex : (Tx) → Option (Tx)
  | s0 => (sl6UnHex_L3 (List UInt8) fuel (s0, 0, []) (fun out6 => (some (strOf out6))) some)
def c_sl6UnHex : Ctr := { args := [.val false .str], rets := [(false, [(none, .str)])], F := sl6UnHex }
def X_sl6UnHex : Ctx := XT.withΓ (lk [(109, c_sl6Digit)]) (lk [])
def L_sl6UnHex_3 : LoopF c_sl6UnHex.Res := ⟨⟨30, [(0, .one (.val .str)), (3, .one (.own 0)), (4, .one (.val y0))], [.arr 5 y10], []⟩, [(0, ⟨30, [(3, .one (.own 0))], [.arr 5 y10], []⟩)], sl6UnHex_L3⟩
def T_sl6UnHex : Nat → Option (LoopF c_sl6UnHex.Res) := lk [(3, L_sl6UnHex_3)]
theorem s_sl6UnHex_3 : StepOk X_sl6UnHex H0 (c_sl6UnHex.finish X_sl6UnHex Tryz.f61.results.toList) T_sl6UnHex (loopAt Tryz.f61 0) := ⟨L_sl6UnHex_3, by kernel_rfl, fun O y x r => by kernel_rfl, fun O k y x r => by kernel_rfl⟩
theorem r_sl6UnHex (a) : fnRun X_sl6UnHex H0 c_sl6UnHex Tryz.f61 T_sl6UnHex a = sl6UnHex a := by kernel_rfl
theorem h_sl6UnHex [Tabs] : CtrHolds Tryz.prog 61 c_sl6UnHex := fn_ok (.cons h_sl6Digit Tryz.call109 .nil) .nil Tryz.func61 (by kernel_rfl) (loops1 (by kernel_rfl) s_sl6UnHex_3) r_sl6UnHex
def sl6Key : (Tx) → Option Bool
  | s0 => ((sl1In ((s0.length : Int), 1, 20)).bind fun r1 => (some r1))
def c_sl6Key : Ctr := { args := [.val false .str], rets := [(false, [(none, .bool)])], F := sl6Key }
def X_sl6Key : Ctx := XT.withΓ (lk [(108, c_sl1In)]) (lk [])
theorem r_sl6Key (a) : fnRun X_sl6Key H0 c_sl6Key Tryz.f150 T0 a = sl6Key a := by kernel_rfl
theorem h_sl6Key [Tabs] : CtrHolds Tryz.prog 150 c_sl6Key := fn_ok (.cons h_sl1In Tryz.call108 .nil) .nil Tryz.func150 (by kernel_rfl) (loops0 (by kernel_rfl)) r_sl6Key
def sl6Meta : ((Int × Int × List (Int × Int × Tx × Tx)) × Int × Int × Tx × Tx) → Option Bool
  | ((m0, m1, m2), t3, t4, t5, t6) => ((sl1In (t3, 1, (wrap .i64 (m0 - 1)))).bind fun r7 => (cond r7 ((sl1In (t4, 0, 3)).bind fun r8 => (cond r8 ((sl6Key t5).bind fun r9 => (cond r9 ((sl6Key t6).bind fun r10 => (cond r10 (some ((Op.bytesLess t5 t6) || (t5 == t6))) (some false))) (some false))) (some false))) (some false)))
def c_sl6Meta : Ctr := { args := [.val true y9, .val true y2], rets := [(false, [(none, .bool)])], F := sl6Meta }
def X_sl6Meta : Ctx := XT.withΓ (lk [(108, c_sl1In), (150, c_sl6Key)]) (lk [])
theorem r_sl6Meta (a) : fnRun X_sl6Meta H0 c_sl6Meta Tryz.f110 T0 a = sl6Meta a := by kernel_rfl
theorem h_sl6Meta [Tabs] : CtrHolds Tryz.prog 110 c_sl6Meta := fn_ok (.cons h_sl1In Tryz.call108 (.cons h_sl6Key Tryz.call150 .nil)) .nil Tryz.func110 (by kernel_rfl) (loops0 (by kernel_rfl)) r_sl6Meta
def sManOk_L10 (O : Type) : Nat → (Int × Int × Int × Bool × Bool × Bool × Int × Int × List (Int × Int × Tx × Tx) × Int × Int × Tx × Tx) → ((Int × Int × Bool × Bool × Bool × Int × Int × List (Int × Int × Tx × Tx)) → Option O) → (Bool → Option O) → Option O
  | 0, _, _, _ => none
  | q + 1, (i22, k23, v24, v25, v26, v27, m28, m29, m30, t31, t32, t33, t34), x, r => (cond (decide (k23 < i22)) (cond (decide (0 ≤ k23) && decide (k23 < (m30.length : Int))) (cond (decide (t32 > 0)) (cond ((nth m30 k23).2.1 == t32) (cond ((Op.bytesLess (nth m30 k23).2.2.1 t34) || ((nth m30 k23).2.2.1 == t34)) (cond ((Op.bytesLess t33 (nth m30 k23).2.2.2) || (t33 == (nth m30 k23).2.2.2)) (r false) (sManOk_L10 O q (i22, (wrap .i64 (k23 + 1)), v24, v25, v26, v27, m28, m29, m30, t31, t32, t33, t34) x r)) (sManOk_L10 O q (i22, (wrap .i64 (k23 + 1)), v24, v25, v26, v27, m28, m29, m30, t31, t32, t33, t34) x r)) (sManOk_L10 O q (i22, (wrap .i64 (k23 + 1)), v24, v25, v26, v27, m28, m29, m30, t31, t32, t33, t34) x r)) (sManOk_L10 O q (i22, (wrap .i64 (k23 + 1)), v24, v25, v26, v27, m28, m29, m30, t31, t32, t33, t34) x r)) none) (x (i22, v24, v25, v26, v27, m28, m29, m30)))
def sManOk_L4 (O : Type) : Nat → (Int × Int × Int × List (Int × Int × Tx × Tx)) → (Unit → Option O) → (Bool → Option O) → Option O
  | 0, _, _, _ => none
  | q + 1, (i5, m6, m7, m8), x, r => (cond (decide (i5 < (m8.length : Int))) (cond (decide (0 ≤ i5) && decide (i5 < (m8.length : Int))) ((((sl6Meta ((m6, m7, m8), (nth m8 i5).1, (nth m8 i5).2.1, (nth m8 i5).2.2.1, (nth m8 i5).2.2.2)).bind fun r9 => (cond (!r9) ((r false).map Sum.inr) (cond (decide (i5 > 0)) (cond (decide (0 ≤ (wrap .i64 (i5 - 1))) && decide ((wrap .i64 (i5 - 1)) < (m8.length : Int))) (cond (decide ((nth m8 (wrap .i64 (i5 - 1))).1 ≥ (nth m8 i5).1)) ((r false).map Sum.inr) (some (Sum.inl (i5, i5, decide (i5 > 0), true, decide ((nth m8 (wrap .i64 (i5 - 1))).1 ≥ (nth m8 i5).1), m6, m7, m8, (nth m8 i5).1, (nth m8 i5).2.1, (nth m8 i5).2.2.1, (nth m8 i5).2.2.2)))) none) (some (Sum.inl (i5, i5, decide (i5 > 0), false, false, m6, m7, m8, (nth m8 i5).1, (nth m8 i5).2.1, (nth m8 i5).2.2.1, (nth m8 i5).2.2.2)))))) : Option ((Int × Int × Bool × Bool × Bool × Int × Int × List (Int × Int × List UInt8 × List UInt8) × Int × Int × List UInt8 × List UInt8) ⊕ O)).bind fun z => match z with | .inl (i10, v11, v12, v13, v14, m15, m16, m17, t18, t19, t20, t21) => (sManOk_L10 O fuel (i10, 0, v11, v12, v13, v14, m15, m16, m17, t18, t19, t20, t21) (fun (i35, v36, v37, v38, v39, m40, m41, m42) => (sManOk_L4 O q ((wrap .i64 (i35 + 1)), m40, m41, m42) x r)) r) | .inr o => some o) none) (x ()))
def sManOk : (Int × Int × List (Int × Int × Tx × Tx)) → Option Bool
  | (m0, m1, m2) => ((sl1In (m0, 1, 100000)).bind fun r3 => (cond (!r3) (some false) ((sl1In (m1, 0, (wrap .i64 (m0 - 1)))).bind fun r4 => (cond (!r4) (some false) (cond (decide ((m2.length : Int) > 20)) (some false) (sManOk_L4 Bool fuel (0, m0, m1, m2) (fun _ => (some true)) some))))))
def c_sManOk : Ctr := { args := [.val true y9], rets := [(false, [(none, .bool)])], F := sManOk }
def X_sManOk : Ctx := XT.withΓ (lk [(108, c_sl1In), (110, c_sl6Meta)]) (lk [])
def H_sManOk : Hints := ⟨lk [], lk [(9, ⟨92, [(1, .one (.ptr 0 0)), (3, .one (.val y0)), (4, .one (.ptr 1 0)), (43, .one (.val y0)), (44, .one (.val .bool)), (45, .one (.val .bool)), (56, .one (.val .bool))], [.vars 29 [.val y0, .val y0, .val (.sl y2)], .vars 88 [.val y0, .val y0, .val .str, .val .str]], []⟩)], lk []⟩
def L_sManOk_4 : LoopF c_sManOk.Res := ⟨⟨92, [(1, .one (.ptr 0 0)), (3, .one (.val y0))], [.vars 29 [.val y0, .val y0, .val (.sl y2)]], []⟩, [(0, ⟨92, [], [], []⟩)], sManOk_L4⟩
def L_sManOk_10 : LoopF c_sManOk.Res := ⟨⟨92, [(1, .one (.ptr 0 0)), (3, .one (.val y0)), (4, .one (.ptr 1 0)), (5, .one (.val y0)), (43, .one (.val y0)), (44, .one (.val .bool)), (45, .one (.val .bool)), (56, .one (.val .bool))], [.vars 29 [.val y0, .val y0, .val (.sl y2)], .vars 88 [.val y0, .val y0, .val .str, .val .str]], []⟩, [(2, ⟨92, [(1, .one (.ptr 0 0)), (3, .one (.val y0)), (43, .one (.val y0)), (44, .one (.val .bool)), (45, .one (.val .bool)), (56, .one (.val .bool))], [.vars 29 [.val y0, .val y0, .val (.sl y2)]], []⟩)], sManOk_L10⟩
def T_sManOk : Nat → Option (LoopF c_sManOk.Res) := lk [(4, L_sManOk_4), (10, L_sManOk_10)]
theorem s_sManOk_4 : StepOk X_sManOk H_sManOk (c_sManOk.finish X_sManOk Tryz.f62.results.toList) T_sManOk (loopAt Tryz.f62 0) := ⟨L_sManOk_4, by kernel_rfl, fun O y x r => by kernel_rfl, fun O k y x r => by kernel_rfl⟩
theorem s_sManOk_10 : StepOk X_sManOk H_sManOk (c_sManOk.finish X_sManOk Tryz.f62.results.toList) T_sManOk (loopAt Tryz.f62 1) := ⟨L_sManOk_10, by kernel_rfl, fun O y x r => by kernel_rfl, fun O k y x r => by kernel_rfl⟩
theorem r_sManOk (a) : fnRun X_sManOk H_sManOk c_sManOk Tryz.f62 T_sManOk a = sManOk a := by kernel_rfl
theorem h_sManOk [Tabs] : CtrHolds Tryz.prog 62 c_sManOk := fn_ok (.cons h_sl1In Tryz.call108 (.cons h_sl6Meta Tryz.call110 .nil)) .nil Tryz.func62 (by kernel_rfl) (loops2 (by kernel_rfl) s_sManOk_4 s_sManOk_10) r_sManOk
def sl6TextN : Nat → Int → Option (Tx)
  | 0, _ => none
  | q + 1, n0 => (cond (decide (n0 < 10)) (some (strOf [(IntKind.wrap .u8 (wrap .i64 (48 + n0)))])) ((sl6TextN q (wrap .i64 (Int.tdiv n0 10))).bind fun r1 => (cond (decide ((r1.length + (strOf [(IntKind.wrap .u8 (wrap .i64 (48 + (Int.tmod n0 10))))]).length) ≤ lenBound)) (some (r1 ++ (strOf [(IntKind.wrap .u8 (wrap .i64 (48 + (Int.tmod n0 10))))]))) none)))
def c_sl6TextN (q : Nat) : Ctr := { args := [.val false y0], rets := [(false, [(none, .str)])], F := sl6TextN q }
def X_sl6Text (q : Nat) : Ctx := XT.withΓ (lk [(111, c_sl6TextN q)]) (lk [])
def T_sl6Text (q : Nat) : Nat → Option (LoopF (c_sl6TextN q).Res) := lk []
theorem r_sl6Text (q : Nat) (a) : fnRun (X_sl6Text q) H0 (c_sl6TextN (q + 1)) Tryz.f111 (T_sl6Text (q + 1)) a = sl6TextN (q + 1) a := by kernel_rfl
theorem h_sl6TextN [Tabs] : ∀ q, CtrHolds Tryz.prog 111 (c_sl6TextN q)
  | 0 => fun _ _ _ _ _ _ _ _ _ hF => by cases hF
  | q + 1 => fn_ok (.cons (h_sl6TextN q) Tryz.call111 .nil) .nil (H := H0) (tbl := T_sl6Text (q + 1)) Tryz.func111 (by kernel_rfl) (loops0 (by kernel_rfl)) (r_sl6Text q)
def sl6Text : Int → Option (Tx) := sl6TextN 30
def c_sl6Text : Ctr := { args := [.val false y0], rets := [(false, [(none, .str)])], F := sl6Text }
theorem h_sl6Text [Tabs] : CtrHolds Tryz.prog 111 c_sl6Text := h_sl6TextN 30
def sl6Hex_L4 (O : Type) : Nat → (Tx × Tx × Int × List Int) → ((List Int) → Option O) → ((Tx) → Option O) → Option O
  | 0, _, _, _ => none
  | q + 1, (s1, digits2, i3, out4), x, r => (cond (decide (i3 < (s1.length : Int))) (cond (decide (0 ≤ i3) && decide (i3 < (s1.length : Int))) (cond (decide (0 ≤ (Int.fdiv (((UInt8.toNat (nth s1 i3)) : Nat) : Int) 16)) && decide ((Int.fdiv (((UInt8.toNat (nth s1 i3)) : Nat) : Int) 16) < (digits2.length : Int))) (cond (decide (0 ≤ i3) && decide (i3 < (s1.length : Int))) (cond (decide (0 ≤ (bits .and .u8 (((UInt8.toNat (nth s1 i3)) : Nat) : Int) 15)) && decide ((bits .and .u8 (((UInt8.toNat (nth s1 i3)) : Nat) : Int) 15) < (digits2.length : Int))) (cond (decide ((out4.length + [(((UInt8.toNat (nth digits2 (Int.fdiv (((UInt8.toNat (nth s1 i3)) : Nat) : Int) 16))) : Nat) : Int), (((UInt8.toNat (nth digits2 (bits .and .u8 (((UInt8.toNat (nth s1 i3)) : Nat) : Int) 15))) : Nat) : Int)].length) ≤ lenBound)) (sl6Hex_L4 O q (s1, digits2, (wrap .i64 (i3 + 1)), (out4 ++ [(((UInt8.toNat (nth digits2 (Int.fdiv (((UInt8.toNat (nth s1 i3)) : Nat) : Int) 16))) : Nat) : Int), (((UInt8.toNat (nth digits2 (bits .and .u8 (((UInt8.toNat (nth s1 i3)) : Nat) : Int) 15))) : Nat) : Int)])) x r) none) none) none) none) none) (x out4))
def sl6Hex : (Tx) → Option (Tx)
  | s0 => (sl6Hex_L4 (List UInt8) fuel (s0, [48, 49, 50, 51, 52, 53, 54, 55, 56, 57, 97, 98, 99, 100, 101, 102], 0, []) (fun out5 => (some (strOf out5))) some)
def c_sl6Hex : Ctr := { args := [.val false .str], rets := [(false, [(none, .str)])], F := sl6Hex }
def X_sl6Hex : Ctx := XT.withΓ (lk []) (lk [])
def L_sl6Hex_4 : LoopF c_sl6Hex.Res := ⟨⟨30, [(0, .one (.val .str)), (3, .one (.val .str)), (4, .one (.own 0)), (5, .one (.val y0))], [.arr 5 y10], []⟩, [(0, ⟨30, [(4, .one (.own 0))], [.arr 5 y10], []⟩)], sl6Hex_L4⟩
def T_sl6Hex : Nat → Option (LoopF c_sl6Hex.Res) := lk [(4, L_sl6Hex_4)]
theorem s_sl6Hex_4 : StepOk X_sl6Hex H0 (c_sl6Hex.finish X_sl6Hex Tryz.f112.results.toList) T_sl6Hex (loopAt Tryz.f112 0) := ⟨L_sl6Hex_4, by kernel_rfl, fun O y x r => by kernel_rfl, fun O k y x r => by kernel_rfl⟩
theorem r_sl6Hex (a) : fnRun X_sl6Hex H0 c_sl6Hex Tryz.f112 T_sl6Hex a = sl6Hex a := by kernel_rfl
theorem h_sl6Hex [Tabs] : CtrHolds Tryz.prog 112 c_sl6Hex := fn_ok .nil .nil Tryz.func112 (by kernel_rfl) (loops1 (by kernel_rfl) s_sl6Hex_4) r_sl6Hex
def sManText_L5 (O : Type) : Nat → (Tx × Int × Int × Int × List (Int × Int × Tx × Tx)) → ((Tx) → Option O) → ((Tx) → Option O) → Option O
  | 0, _, _, _ => none
  | q + 1, (s6, i7, m8, m9, m10), x, r => (cond (decide (i7 < (m10.length : Int))) (cond (decide (0 ≤ i7) && decide (i7 < (m10.length : Int))) (cond (decide ((s6.length + 4) ≤ lenBound)) ((sl6Text (nth m10 i7).1).bind fun r11 => (cond (decide (((s6 ++ [116, 97, 98, 32]).length + r11.length) ≤ lenBound)) (cond (decide ((((s6 ++ [116, 97, 98, 32]) ++ r11).length + 1) ≤ lenBound)) ((sl6Text (nth m10 i7).2.1).bind fun r12 => (cond (decide (((((s6 ++ [116, 97, 98, 32]) ++ r11) ++ [32]).length + r12.length) ≤ lenBound)) (cond (decide ((((((s6 ++ [116, 97, 98, 32]) ++ r11) ++ [32]) ++ r12).length + 1) ≤ lenBound)) ((sl6Hex (nth m10 i7).2.2.1).bind fun r13 => (cond (decide (((((((s6 ++ [116, 97, 98, 32]) ++ r11) ++ [32]) ++ r12) ++ [32]).length + r13.length) ≤ lenBound)) (cond (decide ((((((((s6 ++ [116, 97, 98, 32]) ++ r11) ++ [32]) ++ r12) ++ [32]) ++ r13).length + 1) ≤ lenBound)) ((sl6Hex (nth m10 i7).2.2.2).bind fun r14 => (cond (decide (((((((((s6 ++ [116, 97, 98, 32]) ++ r11) ++ [32]) ++ r12) ++ [32]) ++ r13) ++ [32]).length + r14.length) ≤ lenBound)) (cond (decide ((((((((((s6 ++ [116, 97, 98, 32]) ++ r11) ++ [32]) ++ r12) ++ [32]) ++ r13) ++ [32]) ++ r14).length + 1) ≤ lenBound)) (sManText_L5 O q ((((((((((s6 ++ [116, 97, 98, 32]) ++ r11) ++ [32]) ++ r12) ++ [32]) ++ r13) ++ [32]) ++ r14) ++ [10]), (wrap .i64 (i7 + 1)), m8, m9, m10) x r) none) none)) none) none)) none) none)) none) none)) none) none) (x s6))
def sManText : (Int × Int × List (Int × Int × Tx × Tx)) → Option (Tx)
  | (m0, m1, m2) => ((sManOk (m0, m1, m2)).bind fun r3 => (cond (!r3) (some []) ((sl6Text m0).bind fun r4 => (cond (decide ((5 + r4.length) ≤ lenBound)) (cond (decide ((([110, 101, 120, 116, 32] ++ r4).length + 5) ≤ lenBound)) ((sl6Text m1).bind fun r5 => (cond (decide (((([110, 101, 120, 116, 32] ++ r4) ++ [32, 108, 111, 103, 32]).length + r5.length) ≤ lenBound)) (cond (decide ((((([110, 101, 120, 116, 32] ++ r4) ++ [32, 108, 111, 103, 32]) ++ r5).length + 1) ≤ lenBound)) (sManText_L5 (List UInt8) fuel ((((([110, 101, 120, 116, 32] ++ r4) ++ [32, 108, 111, 103, 32]) ++ r5) ++ [10]), 0, m0, m1, m2) (fun s15 => (cond (decide ((s15.length + 4) ≤ lenBound)) (some (s15 ++ [101, 110, 100, 10])) none)) some) none) none)) none) none))))
def c_sManText : Ctr := { args := [.val true y9], rets := [(false, [(none, .str)])], F := sManText }
def X_sManText : Ctx := XT.withΓ (lk [(62, c_sManOk), (111, c_sl6Text), (112, c_sl6Hex)]) (lk [])
def L_sManText_5 : LoopF c_sManText.Res := ⟨⟨55, [(1, .one (.ptr 0 0)), (3, .one (.val .str)), (4, .one (.val y0))], [.vars 29 [.val y0, .val y0, .val (.sl y2)]], []⟩, [(0, ⟨55, [(3, .one (.val .str))], [], []⟩)], sManText_L5⟩
def T_sManText : Nat → Option (LoopF c_sManText.Res) := lk [(5, L_sManText_5)]
theorem s_sManText_5 : StepOk X_sManText H0 (c_sManText.finish X_sManText Tryz.f63.results.toList) T_sManText (loopAt Tryz.f63 0) := ⟨L_sManText_5, by kernel_rfl, fun O y x r => by kernel_rfl, fun O k y x r => by kernel_rfl⟩
theorem r_sManText (a) : fnRun X_sManText H0 c_sManText Tryz.f63 T_sManText a = sManText a := by kernel_rfl
theorem h_sManText [Tabs] : CtrHolds Tryz.prog 63 c_sManText := fn_ok (.cons h_sManOk Tryz.call62 (.cons h_sl6Text Tryz.call111 (.cons h_sl6Hex Tryz.call112 .nil))) .nil Tryz.func63 (by kernel_rfl) (loops1 (by kernel_rfl) s_sManText_5) r_sManText
def sParseMan_L4 (O : Type) : Nat → (Tx × Int × Int × Int × Int × Int × List (Tx) × List (Int × Int × Tx × Tx)) → ((Tx × Int × Int × Int × Int × List (Int × Int × Tx × Tx)) → Option O) → (((Int × Int × List (Int × Int × Tx × Tx)) × Bool) → Option O) → Option O
  | 0, _, _, _ => none
  | q + 1, (s2, i3, v4, v5, m6, m7, lines8, m9), x, r => (cond (decide (i3 < (lines8.length : Int))) (cond (decide (i3 < 30)) (cond (decide (0 ≤ i3) && decide (i3 < (lines8.length : Int))) ((sl6Split ((nth lines8 i3), 32)).bind fun r10 => ((cond (i3 == 0) (some (s2, i3, i3, decide (i3 < 30), ((r10.length : Int) == 4), v4, v5, m6, m7, lines8, r10, m9)) (some (s2, i3, i3, decide (i3 < 30), false, v4, v5, m6, m7, lines8, r10, m9))).bind fun (s11, i12, v13, v14, v15, v16, v17, m18, m19, lines20, w21, m22) => (cond v15 (cond (decide (1 < (w21.length : Int))) ((sl6Number (List.getD w21 1 [])).bind fun r23 => (cond (decide (3 < (w21.length : Int))) ((sl6Number (List.getD w21 3 [])).bind fun r24 => (sParseMan_L4 O q (s11, (wrap .i64 (i12 + 1)), v16, v17, r23, r24, lines20, m22) x r)) none)) none) (cond (decide (i12 > 0)) (cond ((w21.length : Int) == 5) (cond (decide (1 < (w21.length : Int))) ((sl6Number (List.getD w21 1 [])).bind fun r25 => (cond (decide (2 < (w21.length : Int))) ((sl6Number (List.getD w21 2 [])).bind fun r26 => (cond (decide (3 < (w21.length : Int))) ((sl6UnHex (List.getD w21 3 [])).bind fun r27 => (cond (decide (4 < (w21.length : Int))) ((sl6UnHex (List.getD w21 4 [])).bind fun r28 => (cond (decide ((m22.length + [(r25, r26, r27, r28)].length) ≤ lenBound)) (sParseMan_L4 O q (s11, (wrap .i64 (i12 + 1)), v16, v17, m18, m19, lines20, (m22 ++ [(r25, r26, r27, r28)])) x r) none)) none)) none)) none)) none) (sParseMan_L4 O q (s11, (wrap .i64 (i12 + 1)), v16, v17, m18, m19, lines20, m22) x r)) (sParseMan_L4 O q (s11, (wrap .i64 (i12 + 1)), v16, v17, m18, m19, lines20, m22) x r))))) none) (x (s2, v4, v5, m6, m7, m9))) (x (s2, v4, v5, m6, m7, m9)))
def sParseMan : (Tx) → Option ((Int × Int × List (Int × Int × Tx × Tx)) × Bool)
  | s0 => ((sl6Split (s0, 10)).bind fun r1 => (sParseMan_L4 ((Int × Int × List (Int × Int × List UInt8 × List UInt8)) × Bool) fuel (s0, 0, 0, 0, 0, 0, r1, []) (fun (s29, v30, v31, m32, m33, m34) => ((sManOk (m32, m33, m34)).bind fun r35 => (cond (!r35) (some ((0, 0, []), false)) ((sManText (m32, m33, m34)).bind fun r36 => (cond (!(r36 == s29)) (some ((0, 0, []), false)) (some ((m32, m33, m34), true))))))) some))
def c_sParseMan : Ctr := { args := [.val false .str], rets := [(true, [(none, y0), (none, y0), (some 88, (.sl y2))]), (false, [(none, .bool)])], F := sParseMan }
def X_sParseMan : Ctx := XT.withΓ (lk [(59, c_sl6Split), (60, c_sl6Number), (61, c_sl6UnHex), (62, c_sManOk), (63, c_sManText)]) (lk [])
def H_sParseMan : Hints := ⟨lk [(8, ⟨85, [(0, .one (.val .str)), (2, .one (.ptr 0 0)), (4, .one (.ptr 1 0)), (5, .one (.own 2)), (6, .one (.val y0)), (7, .one (.own 3)), (16, .one (.val y0)), (17, .one (.val .bool)), (26, .one (.val .bool))], [.vars 29 [.val y0, .val y0, .nils], .vars 29 [.val y0, .val y0, .own 4], .arr 9 .str, .arr 9 .str, .arr 88 y2], []⟩)], lk [], lk []⟩
def L_sParseMan_4 : LoopF c_sParseMan.Res := ⟨⟨85, [(0, .one (.val .str)), (2, .one (.ptr 0 0)), (4, .one (.ptr 1 0)), (5, .one (.own 2)), (6, .one (.val y0))], [.vars 29 [.val y0, .val y0, .nils], .vars 29 [.val y0, .val y0, .own 3], .arr 9 .str, .arr 88 y2], []⟩, [(0, ⟨85, [(0, .one (.val .str)), (2, .one (.ptr 0 0)), (4, .one (.ptr 1 0))], [.vars 29 [.val y0, .val y0, .nils], .vars 29 [.val y0, .val y0, .own 2], .arr 88 y2], []⟩)], sParseMan_L4⟩
def T_sParseMan : Nat → Option (LoopF c_sParseMan.Res) := lk [(4, L_sParseMan_4)]
theorem s_sParseMan_4 : StepOk X_sParseMan H_sParseMan (c_sParseMan.finish X_sParseMan Tryz.f26.results.toList) T_sParseMan (loopAt Tryz.f26 0) := ⟨L_sParseMan_4, by kernel_rfl, fun O y x r => by kernel_rfl, fun O k y x r => by kernel_rfl⟩
theorem r_sParseMan (a) : fnRun X_sParseMan H_sParseMan c_sParseMan Tryz.f26 T_sParseMan a = sParseMan a := by kernel_rfl
theorem h_sParseMan [Tabs] : CtrHolds Tryz.prog 26 c_sParseMan := fn_ok (.cons h_sl6Split Tryz.call59 (.cons h_sl6Number Tryz.call60 (.cons h_sl6UnHex Tryz.call61 (.cons h_sManOk Tryz.call62 (.cons h_sManText Tryz.call63 .nil))))) .nil Tryz.func26 (by kernel_rfl) (loops1 (by kernel_rfl) s_sParseMan_4) r_sParseMan
def sCurrent : (List (Int × List Int × Int) × List (Tx × Int) × List (Tx × Int) × Int) → Option ((Int × Int × List (Int × Int × Tx × Tx)) × Bool)
  | (d0, d1, d2, d3) => ((sBytes ((d0, d1, d2, d3), [99, 117, 114])).bind fun (r4, r5) => (cond (!r5) (some ((0, 0, []), false)) ((sParseMan (strOf r4)).bind fun ((r6, r7, r8), r9) => (some ((r6, r7, r8), r9)))))
def c_sCurrent : Ctr := { args := [.val true y3], rets := [(true, [(none, y0), (none, y0), (some 88, (.sl y2))]), (false, [(none, .bool)])], F := sCurrent }
def X_sCurrent : Ctx := XT.withΓ (lk [(25, c_sBytes), (26, c_sParseMan)]) (lk [])
theorem r_sCurrent (a) : fnRun X_sCurrent H0 c_sCurrent Tryz.f6 T0 a = sCurrent a := by kernel_rfl
theorem h_sCurrent [Tabs] : CtrHolds Tryz.prog 6 c_sCurrent := fn_ok (.cons h_sBytes Tryz.call25 (.cons h_sParseMan Tryz.call26 .nil)) .nil Tryz.func6 (by kernel_rfl) (loops0 (by kernel_rfl)) r_sCurrent
def iidOf_L2 (O : Type) : Nat → (Tx × List (Tx × Int) × Int × Int) → (Unit → Option O) → (Int → Option O) → Option O
  | 0, _, _, _ => none
  | q + 1, (name5, v6, v7, v8), x, r => (cond (decide (v8 < v7)) (cond (decide (0 ≤ v8) && decide (v8 < (v6.length : Int))) (cond ((nth v6 v8).1 == name5) (r (nth v6 v8).2) (iidOf_L2 O q (name5, v6, v7, (wrap .i64 (v8 + 1))) x r)) none) (x ()))
def iidOf : ((List (Int × List Int × Int) × List (Tx × Int) × List (Tx × Int) × Int) × Tx) → Option Int
  | ((d0, d1, d2, d3), name4) => (iidOf_L2 Int fuel (name4, d1, (d1.length : Int), 0) (fun _ => (some 0)) some)
def c_iidOf : Ctr := { args := [.val true y3, .val false .str], rets := [(false, [(none, y0)])], F := iidOf }
def X_iidOf : Ctx := XT.withΓ (lk []) (lk [])
def L_iidOf_2 : LoopF c_iidOf.Res := ⟨⟨21, [(1, .one (.val .str)), (8, .one (.val y5)), (9, .one (.val y0)), (10, .one (.val y0))], [], []⟩, [(0, ⟨21, [], [], []⟩)], iidOf_L2⟩
def T_iidOf : Nat → Option (LoopF c_iidOf.Res) := lk [(2, L_iidOf_2)]
theorem s_iidOf_2 : StepOk X_iidOf H0 (c_iidOf.finish X_iidOf Tryz.f67.results.toList) T_iidOf (loopAt Tryz.f67 0) := ⟨L_iidOf_2, by kernel_rfl, fun O y x r => by kernel_rfl, fun O k y x r => by kernel_rfl⟩
theorem r_iidOf (a) : fnRun X_iidOf H0 c_iidOf Tryz.f67 T_iidOf a = iidOf a := by kernel_rfl
theorem h_iidOf [Tabs] : CtrHolds Tryz.prog 67 c_iidOf := fn_ok .nil .nil Tryz.func67 (by kernel_rfl) (loops1 (by kernel_rfl) s_iidOf_2) r_iidOf
def iinodeAt_L2 (O : Type) : Nat → (Int × List (Int × List Int × Int) × Int × Int) → (Unit → Option O) → (Int → Option O) → Option O
  | 0, _, _, _ => none
  | q + 1, (id5, v6, v7, v8), x, r => (cond (decide (v8 < v7)) (cond (decide (0 ≤ v8) && decide (v8 < (v6.length : Int))) (cond ((nth v6 v8).1 == id5) (r v8) (iinodeAt_L2 O q (id5, v6, v7, (wrap .i64 (v8 + 1))) x r)) none) (x ()))
def iinodeAt : ((List (Int × List Int × Int) × List (Tx × Int) × List (Tx × Int) × Int) × Int) → Option Int
  | ((d0, d1, d2, d3), id4) => (iinodeAt_L2 Int fuel (id4, d0, (d0.length : Int), 0) (fun _ => (some (-1))) some)
def c_iinodeAt : Ctr := { args := [.val true y3, .val false y0], rets := [(false, [(none, y0)])], F := iinodeAt }
def X_iinodeAt : Ctx := XT.withΓ (lk []) (lk [])
def L_iinodeAt_2 : LoopF c_iinodeAt.Res := ⟨⟨21, [(1, .one (.val y0)), (8, .one (.val y7)), (9, .one (.val y0)), (10, .one (.val y0))], [], []⟩, [(0, ⟨21, [], [], []⟩)], iinodeAt_L2⟩
def T_iinodeAt : Nat → Option (LoopF c_iinodeAt.Res) := lk [(2, L_iinodeAt_2)]
theorem s_iinodeAt_2 : StepOk X_iinodeAt H0 (c_iinodeAt.finish X_iinodeAt Tryz.f66.results.toList) T_iinodeAt (loopAt Tryz.f66 0) := ⟨L_iinodeAt_2, by kernel_rfl, fun O y x r => by kernel_rfl, fun O k y x r => by kernel_rfl⟩
theorem r_iinodeAt (a) : fnRun X_iinodeAt H0 c_iinodeAt Tryz.f66 T_iinodeAt a = iinodeAt a := by kernel_rfl
theorem h_iinodeAt [Tabs] : CtrHolds Tryz.prog 66 c_iinodeAt := fn_ok .nil .nil Tryz.func66 (by kernel_rfl) (loops1 (by kernel_rfl) s_iinodeAt_2) r_iinodeAt
def iin : (Int × Int × Int) → Option Bool
  | (n0, low1, high2) => (cond (decide (n0 ≥ low1)) (some (decide (n0 ≤ high2))) (some false))
def c_iin : Ctr := { args := [.val false y0, .val false y0, .val false y0], rets := [(false, [(none, .bool)])], F := iin }
def X_iin : Ctx := XT.withΓ (lk []) (lk [])
theorem r_iin (a) : fnRun X_iin H0 c_iin Tryz.f114 T0 a = iin a := by kernel_rfl
theorem h_iin [Tabs] : CtrHolds Tryz.prog 114 c_iin := fn_ok .nil .nil Tryz.func114 (by kernel_rfl) (loops0 (by kernel_rfl)) r_iin
def ihasId_L2 (O : Type) : Nat → (Int × List (Tx × Int) × Int × Int) → (Unit → Option O) → (Bool → Option O) → Option O
  | 0, _, _, _ => none
  | q + 1, (id2, v3, v4, v5), x, r => (cond (decide (v5 < v4)) (cond (decide (0 ≤ v5) && decide (v5 < (v3.length : Int))) (cond ((nth v3 v5).2 == id2) (r true) (ihasId_L2 O q (id2, v3, v4, (wrap .i64 (v5 + 1))) x r)) none) (x ()))
def ihasId : (List (Tx × Int) × Int) → Option Bool
  | (l0, id1) => (ihasId_L2 Bool fuel (id1, l0, (l0.length : Int), 0) (fun _ => (some false)) some)
def c_ihasId : Ctr := { args := [.val false y5, .val false y0], rets := [(false, [(none, .bool)])], F := ihasId }
def X_ihasId : Ctx := XT.withΓ (lk []) (lk [])
def L_ihasId_2 : LoopF c_ihasId.Res := ⟨⟨18, [(1, .one (.val y0)), (7, .one (.val y5)), (8, .one (.val y0)), (9, .one (.val y0))], [], []⟩, [(0, ⟨18, [], [], []⟩)], ihasId_L2⟩
def T_ihasId : Nat → Option (LoopF c_ihasId.Res) := lk [(2, L_ihasId_2)]
theorem s_ihasId_2 : StepOk X_ihasId H0 (c_ihasId.finish X_ihasId Tryz.f115.results.toList) T_ihasId (loopAt Tryz.f115 0) := ⟨L_ihasId_2, by kernel_rfl, fun O y x r => by kernel_rfl, fun O k y x r => by kernel_rfl⟩
theorem r_ihasId (a) : fnRun X_ihasId H0 c_ihasId Tryz.f115 T_ihasId a = ihasId a := by kernel_rfl
theorem h_ihasId [Tabs] : CtrHolds Tryz.prog 115 c_ihasId := fn_ok .nil .nil Tryz.func115 (by kernel_rfl) (loops1 (by kernel_rfl) s_ihasId_2) r_ihasId
def inameOk_L2 (O : Type) : Nat → (Tx × Int) → ((Tx) → Option O) → (Bool → Option O) → Option O
  | 0, _, _, _ => none
  | q + 1, (s1, i2), x, r => (cond (decide (i2 < (s1.length : Int))) (cond (decide (0 ≤ i2) && decide (i2 < (s1.length : Int))) (cond (decide ((((UInt8.toNat (nth s1 i2)) : Nat) : Int) ≥ 97)) (cond (!(decide ((((UInt8.toNat (nth s1 i2)) : Nat) : Int) ≤ 122))) (cond (decide ((((UInt8.toNat (nth s1 i2)) : Nat) : Int) ≥ 48)) (cond (!(decide ((((UInt8.toNat (nth s1 i2)) : Nat) : Int) ≤ 57))) (cond ((((UInt8.toNat (nth s1 i2)) : Nat) : Int) != 45) (cond ((((UInt8.toNat (nth s1 i2)) : Nat) : Int) != 46) (r false) (inameOk_L2 O q (s1, (wrap .i64 (i2 + 1))) x r)) (inameOk_L2 O q (s1, (wrap .i64 (i2 + 1))) x r)) (inameOk_L2 O q (s1, (wrap .i64 (i2 + 1))) x r)) (cond ((((UInt8.toNat (nth s1 i2)) : Nat) : Int) != 45) (cond ((((UInt8.toNat (nth s1 i2)) : Nat) : Int) != 46) (r false) (inameOk_L2 O q (s1, (wrap .i64 (i2 + 1))) x r)) (inameOk_L2 O q (s1, (wrap .i64 (i2 + 1))) x r))) (inameOk_L2 O q (s1, (wrap .i64 (i2 + 1))) x r)) (cond (decide ((((UInt8.toNat (nth s1 i2)) : Nat) : Int) ≥ 48)) (cond (!(decide ((((UInt8.toNat (nth s1 i2)) : Nat) : Int) ≤ 57))) (cond ((((UInt8.toNat (nth s1 i2)) : Nat) : Int) != 45) (cond ((((UInt8.toNat (nth s1 i2)) : Nat) : Int) != 46) (r false) (inameOk_L2 O q (s1, (wrap .i64 (i2 + 1))) x r)) (inameOk_L2 O q (s1, (wrap .i64 (i2 + 1))) x r)) (inameOk_L2 O q (s1, (wrap .i64 (i2 + 1))) x r)) (cond ((((UInt8.toNat (nth s1 i2)) : Nat) : Int) != 45) (cond ((((UInt8.toNat (nth s1 i2)) : Nat) : Int) != 46) (r false) (inameOk_L2 O q (s1, (wrap .i64 (i2 + 1))) x r)) (inameOk_L2 O q (s1, (wrap .i64 (i2 + 1))) x r)))) none) (x s1))
def inameOk : (Tx) → Option Bool
  | s0 => (inameOk_L2 Bool fuel (s0, 0) (fun s3 => ((iin ((s3.length : Int), 1, 12)).bind fun r4 => (some r4))) some)
def c_inameOk : Ctr := { args := [.val false .str], rets := [(false, [(none, .bool)])], F := inameOk }
def X_inameOk : Ctx := XT.withΓ (lk [(114, c_iin)]) (lk [])
def L_inameOk_2 : LoopF c_inameOk.Res := ⟨⟨41, [(0, .one (.val .str)), (3, .one (.val y0))], [], []⟩, [(0, ⟨41, [(0, .one (.val .str))], [], []⟩)], inameOk_L2⟩
def T_inameOk : Nat → Option (LoopF c_inameOk.Res) := lk [(2, L_inameOk_2)]
theorem s_inameOk_2 : StepOk X_inameOk H0 (c_inameOk.finish X_inameOk Tryz.f151.results.toList) T_inameOk (loopAt Tryz.f151 0) := ⟨L_inameOk_2, by kernel_rfl, fun O y x r => by kernel_rfl, fun O k y x r => by kernel_rfl⟩
theorem r_inameOk (a) : fnRun X_inameOk H0 c_inameOk Tryz.f151 T_inameOk a = inameOk a := by kernel_rfl
theorem h_inameOk [Tabs] : CtrHolds Tryz.prog 151 c_inameOk := fn_ok (.cons h_iin Tryz.call114 .nil) .nil Tryz.func151 (by kernel_rfl) (loops1 (by kernel_rfl) s_inameOk_2) r_inameOk
def inamesOk_L2 (O : Type) : Nat → (List (Tx × Int) × List (Tx × Int) × Int × Int × List (Int × List Int × Int) × List (Tx × Int) × List (Tx × Int) × Int) → ((List (Tx × Int)) → Option O) → (Bool → Option O) → Option O
  | 0, _, _, _ => none
  | q + 1, (l5, v6, v7, v8, d9, d10, d11, d12), x, r => (cond (decide (v8 < v7)) (cond (decide (0 ≤ v8) && decide (v8 < (v6.length : Int))) ((inameOk (nth v6 v8).1).bind fun r13 => (cond (!r13) (r false) ((iinodeAt ((d9, d10, d11, d12), (nth v6 v8).2)).bind fun r14 => (cond (decide (r14 < 0)) (r false) (cond (decide (v8 > 0)) (cond (decide (0 ≤ (wrap .i64 (v8 - 1))) && decide ((wrap .i64 (v8 - 1)) < (l5.length : Int))) (cond (!(Op.bytesLess (nth l5 (wrap .i64 (v8 - 1))).1 (nth v6 v8).1)) (r false) (cond (decide (0 ≤ v8) && decide (v8 ≤ (l5.length : Int))) ((ihasId ((cut l5 0 v8), (nth v6 v8).2)).bind fun r15 => (cond r15 (r false) (inamesOk_L2 O q (l5, v6, v7, (wrap .i64 (v8 + 1)), d9, d10, d11, d12) x r))) none)) none) (cond (decide (0 ≤ v8) && decide (v8 ≤ (l5.length : Int))) ((ihasId ((cut l5 0 v8), (nth v6 v8).2)).bind fun r16 => (cond r16 (r false) (inamesOk_L2 O q (l5, v6, v7, (wrap .i64 (v8 + 1)), d9, d10, d11, d12) x r))) none)))))) none) (x l5))
def inamesOk : ((List (Int × List Int × Int) × List (Tx × Int) × List (Tx × Int) × Int) × List (Tx × Int)) → Option Bool
  | ((d0, d1, d2, d3), l4) => (inamesOk_L2 Bool fuel (l4, l4, (l4.length : Int), 0, d0, d1, d2, d3) (fun l17 => (some (decide ((l17.length : Int) ≤ 30)))) some)
def c_inamesOk : Ctr := { args := [.val true y3, .val false y5], rets := [(false, [(none, .bool)])], F := inamesOk }
def X_inamesOk : Ctx := XT.withΓ (lk [(151, c_inameOk), (66, c_iinodeAt), (115, c_ihasId)]) (lk [])
def L_inamesOk_2 : LoopF c_inamesOk.Res := ⟨⟨52, [(1, .one (.val y5)), (2, .one (.ptr 0 0)), (7, .one (.val y5)), (8, .one (.val y0)), (9, .one (.val y0))], [.vars 35 [.val y7, .val y5, .val y5, .val y0]], []⟩, [(0, ⟨52, [(1, .one (.val y5))], [], []⟩)], inamesOk_L2⟩
def T_inamesOk : Nat → Option (LoopF c_inamesOk.Res) := lk [(2, L_inamesOk_2)]
theorem s_inamesOk_2 : StepOk X_inamesOk H0 (c_inamesOk.finish X_inamesOk Tryz.f116.results.toList) T_inamesOk (loopAt Tryz.f116 0) := ⟨L_inamesOk_2, by kernel_rfl, fun O y x r => by kernel_rfl, fun O k y x r => by kernel_rfl⟩
theorem r_inamesOk (a) : fnRun X_inamesOk H0 c_inamesOk Tryz.f116 T_inamesOk a = inamesOk a := by kernel_rfl
theorem h_inamesOk [Tabs] : CtrHolds Tryz.prog 116 c_inamesOk := fn_ok (.cons h_inameOk Tryz.call151 (.cons h_iinodeAt Tryz.call66 (.cons h_ihasId Tryz.call115 .nil))) .nil Tryz.func116 (by kernel_rfl) (loops1 (by kernel_rfl) s_inamesOk_2) r_inamesOk
def iDiskOk_L3 (O : Type) : Nat → (Int × List (Int × List Int × Int) × Int × Int × List (Int × List Int × Int) × List (Tx × Int) × List (Tx × Int) × Int) → ((Int × List (Int × List Int × Int) × List (Tx × Int) × List (Tx × Int) × Int) → Option O) → (Bool → Option O) → Option O
  | 0, _, _, _ => none
  | q + 1, (sum4, v5, v6, v7, d8, d9, d10, d11), x, r => (cond (decide (v7 < v6)) (cond (decide (0 ≤ v7) && decide (v7 < (v5.length : Int))) ((iin ((nth v5 v7).1, 1, (wrap .i64 (d11 - 1)))).bind fun r12 => (cond (!r12) (r false) ((iin ((nth v5 v7).2.2, 0, (((nth v5 v7).2.1.length : Nat) : Int))).bind fun r13 => (cond (!r13) (r false) (cond (decide (v7 > 0)) (cond (decide (0 ≤ (wrap .i64 (v7 - 1))) && decide ((wrap .i64 (v7 - 1)) < (d8.length : Int))) (cond (decide ((nth d8 (wrap .i64 (v7 - 1))).1 ≥ (nth v5 v7).1)) (r false) ((ihasId (d9, (nth v5 v7).1)).bind fun r14 => (cond (!r14) ((ihasId (d10, (nth v5 v7).1)).bind fun r15 => (cond (!r15) (r false) (iDiskOk_L3 O q ((wrap .i64 (sum4 + (((nth v5 v7).2.1.length : Nat) : Int))), v5, v6, (wrap .i64 (v7 + 1)), d8, d9, d10, d11) x r))) (iDiskOk_L3 O q ((wrap .i64 (sum4 + (((nth v5 v7).2.1.length : Nat) : Int))), v5, v6, (wrap .i64 (v7 + 1)), d8, d9, d10, d11) x r)))) none) ((ihasId (d9, (nth v5 v7).1)).bind fun r16 => (cond (!r16) ((ihasId (d10, (nth v5 v7).1)).bind fun r17 => (cond (!r17) (r false) (iDiskOk_L3 O q ((wrap .i64 (sum4 + (((nth v5 v7).2.1.length : Nat) : Int))), v5, v6, (wrap .i64 (v7 + 1)), d8, d9, d10, d11) x r))) (iDiskOk_L3 O q ((wrap .i64 (sum4 + (((nth v5 v7).2.1.length : Nat) : Int))), v5, v6, (wrap .i64 (v7 + 1)), d8, d9, d10, d11) x r)))))))) none) (x (sum4, d8, d9, d10, d11)))
def iDiskOk : (List (Int × List Int × Int) × List (Tx × Int) × List (Tx × Int) × Int) → Option Bool
  | (d0, d1, d2, d3) => (iDiskOk_L3 Bool fuel (0, d0, (d0.length : Int), 0, d0, d1, d2, d3) (fun (sum18, d19, d20, d21, d22) => ((iin (d22, 1, 1000000)).bind fun r23 => (cond r23 (cond (decide (sum18 ≤ 60000)) ((inamesOk ((d19, d20, d21, d22), d20)).bind fun r24 => (cond r24 ((inamesOk ((d19, d20, d21, d22), d21)).bind fun r25 => (some r25)) (some false))) (some false)) (some false)))) some)
def c_iDiskOk : Ctr := { args := [.val true y3], rets := [(false, [(none, .bool)])], F := iDiskOk }
def X_iDiskOk : Ctx := XT.withΓ (lk [(114, c_iin), (115, c_ihasId), (116, c_inamesOk)]) (lk [])
def L_iDiskOk_3 : LoopF c_iDiskOk.Res := ⟨⟨87, [(1, .one (.ptr 0 0)), (3, .one (.val y0)), (7, .one (.val y7)), (8, .one (.val y0)), (9, .one (.val y0))], [.vars 35 [.val y7, .val y5, .val y5, .val y0]], []⟩, [(0, ⟨87, [(1, .one (.ptr 0 0)), (3, .one (.val y0))], [.vars 35 [.val y7, .val y5, .val y5, .val y0]], []⟩)], iDiskOk_L3⟩
def T_iDiskOk : Nat → Option (LoopF c_iDiskOk.Res) := lk [(3, L_iDiskOk_3)]
theorem s_iDiskOk_3 : StepOk X_iDiskOk H0 (c_iDiskOk.finish X_iDiskOk Tryz.f68.results.toList) T_iDiskOk (loopAt Tryz.f68 0) := ⟨L_iDiskOk_3, by kernel_rfl, fun O y x r => by kernel_rfl, fun O k y x r => by kernel_rfl⟩
theorem r_iDiskOk (a) : fnRun X_iDiskOk H0 c_iDiskOk Tryz.f68 T_iDiskOk a = iDiskOk a := by kernel_rfl
theorem h_iDiskOk [Tabs] : CtrHolds Tryz.prog 68 c_iDiskOk := fn_ok (.cons h_iin Tryz.call114 (.cons h_ihasId Tryz.call115 (.cons h_inamesOk Tryz.call116 .nil))) .nil Tryz.func68 (by kernel_rfl) (loops1 (by kernel_rfl) s_iDiskOk_3) r_iDiskOk
def icopyBytes : (List Int) → Option (List Int)
  | b0 => (cond (decide (b0.length ≤ lenBound)) (some b0) none)
def c_icopyBytes : Ctr := { args := [.val false y4], rets := [(false, [(some 5, y4)])], F := icopyBytes }
def X_icopyBytes : Ctx := XT.withΓ (lk []) (lk [])
theorem r_icopyBytes (a) : fnRun X_icopyBytes H0 c_icopyBytes Tryz.f69 T0 a = icopyBytes a := by kernel_rfl
theorem h_icopyBytes [Tabs] : CtrHolds Tryz.prog 69 c_icopyBytes := fn_ok .nil .nil Tryz.func69 (by kernel_rfl) (loops0 (by kernel_rfl)) r_icopyBytes
def iBytes : ((List (Int × List Int × Int) × List (Tx × Int) × List (Tx × Int) × Int) × Tx) → Option (List Int × Bool)
  | ((d0, d1, d2, d3), name4) => ((iidOf ((d0, d1, d2, d3), name4)).bind fun r5 => ((iinodeAt ((d0, d1, d2, d3), r5)).bind fun r6 => ((iDiskOk (d0, d1, d2, d3)).bind fun r7 => (cond (!r7) (some ([], false)) ((iidOf ((d0, d1, d2, d3), name4)).bind fun r8 => (cond (r8 == 0) (some ([], false)) (cond (decide (r6 < 0)) (some ([], false)) (cond (decide (0 ≤ r6) && decide (r6 < (d0.length : Int))) ((icopyBytes (nth d0 r6).2.1).bind fun r9 => (some (r9, true))) none))))))))
def c_iBytes : Ctr := { args := [.val true y3, .val false .str], rets := [(false, [(some 5, y4)]), (false, [(none, .bool)])], F := iBytes }
def X_iBytes : Ctx := XT.withΓ (lk [(67, c_iidOf), (66, c_iinodeAt), (68, c_iDiskOk), (69, c_icopyBytes)]) (lk [])
theorem r_iBytes (a) : fnRun X_iBytes H0 c_iBytes Tryz.f29 T0 a = iBytes a := by kernel_rfl
theorem h_iBytes [Tabs] : CtrHolds Tryz.prog 29 c_iBytes := fn_ok (.cons h_iidOf Tryz.call67 (.cons h_iinodeAt Tryz.call66 (.cons h_iDiskOk Tryz.call68 (.cons h_icopyBytes Tryz.call69 .nil)))) .nil Tryz.func29 (by kernel_rfl) (loops0 (by kernel_rfl)) r_iBytes
def iunhex_L3 (O : Type) : Nat → (Tx × Int × List Int) → ((List Int) → Option O) → ((Tx) → Option O) → Option O
  | 0, _, _, _ => none
  | q + 1, (s1, i2, out3), x, r => (cond (decide ((wrap .i64 (i2 + 1)) < (s1.length : Int))) (cond (decide (0 ≤ i2) && decide (i2 < (s1.length : Int))) ((xIndexByte ([48, 49, 50, 51, 52, 53, 54, 55, 56, 57, 97, 98, 99, 100, 101, 102], (((UInt8.toNat (nth s1 i2)) : Nat) : Int))).bind fun r4 => (cond (decide (0 ≤ (wrap .i64 (i2 + 1))) && decide ((wrap .i64 (i2 + 1)) < (s1.length : Int))) ((xIndexByte ([48, 49, 50, 51, 52, 53, 54, 55, 56, 57, 97, 98, 99, 100, 101, 102], (((UInt8.toNat (nth s1 (wrap .i64 (i2 + 1)))) : Nat) : Int))).bind fun r5 => (cond (decide ((out3.length + [(IntKind.wrap .u8 (bits .or .i64 (wrap .i64 ((if (0 > r4) then 0 else r4) * 16)) (if (0 > r5) then 0 else r5)))].length) ≤ lenBound)) (iunhex_L3 O q (s1, (wrap .i64 (i2 + 2)), (out3 ++ [(IntKind.wrap .u8 (bits .or .i64 (wrap .i64 ((if (0 > r4) then 0 else r4) * 16)) (if (0 > r5) then 0 else r5)))])) x r) none)) none)) none) (x out3))
def iunhex : (Tx) → Option (Tx)
  | s0 => (iunhex_L3 (List UInt8) fuel (s0, 0, []) (fun out6 => (some (strOf out6))) some)
def c_iunhex : Ctr := { args := [.val false .str], rets := [(false, [(none, .str)])], F := iunhex }
def X_iunhex : Ctx := XT.withΓ (lk [(120, c_xIndexByte)]) (lk [])
def L_iunhex_3 : LoopF c_iunhex.Res := ⟨⟨31, [(0, .one (.val .str)), (3, .one (.own 0)), (4, .one (.val y0))], [.arr 5 y10], []⟩, [(0, ⟨31, [(3, .one (.own 0))], [.arr 5 y10], []⟩)], iunhex_L3⟩
def T_iunhex : Nat → Option (LoopF c_iunhex.Res) := lk [(3, L_iunhex_3)]
theorem s_iunhex_3 : StepOk X_iunhex H0 (c_iunhex.finish X_iunhex Tryz.f72.results.toList) T_iunhex (loopAt Tryz.f72 0) := ⟨L_iunhex_3, by kernel_rfl, fun O y x r => by kernel_rfl, fun O k y x r => by kernel_rfl⟩
theorem r_iunhex (a) : fnRun X_iunhex H0 c_iunhex Tryz.f72 T_iunhex a = iunhex a := by kernel_rfl
theorem h_iunhex [TabsD] : CtrHolds Tryz.prog 72 c_iunhex := fn_ok (.cons h_xIndexByte Tryz.call120 .nil) .nil Tryz.func72 (by kernel_rfl) (loops1 (by kernel_rfl) s_iunhex_3) r_iunhex
def ikeyOk : (Tx) → Option Bool
  | s0 => ((iin ((s0.length : Int), 1, 20)).bind fun r1 => (some r1))
def c_ikeyOk : Ctr := { args := [.val false .str], rets := [(false, [(none, .bool)])], F := ikeyOk }
def X_ikeyOk : Ctx := XT.withΓ (lk [(114, c_iin)]) (lk [])
theorem r_ikeyOk (a) : fnRun X_ikeyOk H0 c_ikeyOk Tryz.f175 T0 a = ikeyOk a := by kernel_rfl
theorem h_ikeyOk [Tabs] : CtrHolds Tryz.prog 175 c_ikeyOk := fn_ok (.cons h_iin Tryz.call114 .nil) .nil Tryz.func175 (by kernel_rfl) (loops0 (by kernel_rfl)) r_ikeyOk
def imetaOk : ((Int × Int × List (Int × Int × Tx × Tx)) × Int × Int × Tx × Tx) → Option Bool
  | ((m0, m1, m2), x3, x4, x5, x6) => ((iin (x3, 1, (wrap .i64 (m0 - 1)))).bind fun r7 => (cond r7 ((iin (x4, 0, 3)).bind fun r8 => (cond r8 ((ikeyOk x5).bind fun r9 => (cond r9 ((ikeyOk x6).bind fun r10 => (cond r10 (some ((Op.bytesLess x5 x6) || (x5 == x6))) (some false))) (some false))) (some false))) (some false)))
def c_imetaOk : Ctr := { args := [.val true y9, .val true y2], rets := [(false, [(none, .bool)])], F := imetaOk }
def X_imetaOk : Ctx := XT.withΓ (lk [(114, c_iin), (175, c_ikeyOk)]) (lk [])
theorem r_imetaOk (a) : fnRun X_imetaOk H0 c_imetaOk Tryz.f139 T0 a = imetaOk a := by kernel_rfl
theorem h_imetaOk [Tabs] : CtrHolds Tryz.prog 139 c_imetaOk := fn_ok (.cons h_iin Tryz.call114 (.cons h_ikeyOk Tryz.call175 .nil)) .nil Tryz.func139 (by kernel_rfl) (loops0 (by kernel_rfl)) r_imetaOk
def imeets : ((Int × Int × Tx × Tx) × Tx × Tx) → Option Bool
  | ((x0, x1, x2, x3), lo4, hi5) => (cond ((Op.bytesLess x2 hi5) || (x2 == hi5)) (some ((Op.bytesLess lo4 x3) || (lo4 == x3))) (some false))
def c_imeets : Ctr := { args := [.val true y2, .val false .str, .val false .str], rets := [(false, [(none, .bool)])], F := imeets }
def X_imeets : Ctx := XT.withΓ (lk []) (lk [])
theorem r_imeets (a) : fnRun X_imeets H0 c_imeets Tryz.f140 T0 a = imeets a := by kernel_rfl
theorem h_imeets [Tabs] : CtrHolds Tryz.prog 140 c_imeets := fn_ok .nil .nil Tryz.func140 (by kernel_rfl) (loops0 (by kernel_rfl)) r_imeets
def iManOk_L7 (O : Type) : Nat → (List (Int × Int × Tx × Tx) × Int × Int × Int × Bool × Bool × Bool × List (Int × Int × Tx × Tx) × Int × Int × Int × Int × List (Int × Int × Tx × Tx) × Int × Int × Tx × Tx) → ((List (Int × Int × Tx × Tx) × Int × Int × Int × Bool × Bool × Bool × Int × Int × List (Int × Int × Tx × Tx)) → Option O) → (Bool → Option O) → Option O
  | 0, _, _, _ => none
  | q + 1, (v25, v26, v27, v28, v29, v30, v31, v32, v33, v34, m35, m36, m37, x38, x39, x40, x41), x, r => (cond (decide (v34 < v33)) (cond (decide (0 ≤ v34) && decide (v34 < (v32.length : Int))) (cond (decide (x39 > 0)) (cond (x39 == (nth v32 v34).2.1) ((imeets ((x38, x39, x40, x41), (nth v32 v34).2.2.1, (nth v32 v34).2.2.2)).bind fun r42 => (cond r42 (r false) (iManOk_L7 O q (v25, v26, v27, v28, v29, v30, v31, v32, v33, (wrap .i64 (v34 + 1)), m35, m36, m37, x38, x39, x40, x41) x r))) (iManOk_L7 O q (v25, v26, v27, v28, v29, v30, v31, v32, v33, (wrap .i64 (v34 + 1)), m35, m36, m37, x38, x39, x40, x41) x r)) (iManOk_L7 O q (v25, v26, v27, v28, v29, v30, v31, v32, v33, (wrap .i64 (v34 + 1)), m35, m36, m37, x38, x39, x40, x41) x r)) none) (x (v25, v26, v27, v28, v29, v30, v31, m35, m36, m37)))
def iManOk_L2 (O : Type) : Nat → (List (Int × Int × Tx × Tx) × Int × Int × Int × Int × List (Int × Int × Tx × Tx)) → ((Int × Int × List (Int × Int × Tx × Tx)) → Option O) → (Bool → Option O) → Option O
  | 0, _, _, _ => none
  | q + 1, (v3, v4, v5, m6, m7, m8), x, r => (cond (decide (v5 < v4)) (cond (decide (0 ≤ v5) && decide (v5 < (v3.length : Int))) ((((imetaOk ((m6, m7, m8), (nth v3 v5).1, (nth v3 v5).2.1, (nth v3 v5).2.2.1, (nth v3 v5).2.2.2)).bind fun r9 => (cond (!r9) ((r false).map Sum.inr) (cond (decide (v5 > 0)) (cond (decide (0 ≤ (wrap .i64 (v5 - 1))) && decide ((wrap .i64 (v5 - 1)) < (m8.length : Int))) (cond (decide ((nth m8 (wrap .i64 (v5 - 1))).1 ≥ (nth v3 v5).1)) ((r false).map Sum.inr) (some (Sum.inl (v5, v3, v4, v5, v5, decide (v5 > 0), true, decide ((nth m8 (wrap .i64 (v5 - 1))).1 ≥ (nth v3 v5).1), m6, m7, m8, (nth v3 v5).1, (nth v3 v5).2.1, (nth v3 v5).2.2.1, (nth v3 v5).2.2.2)))) none) (some (Sum.inl (v5, v3, v4, v5, v5, decide (v5 > 0), false, false, m6, m7, m8, (nth v3 v5).1, (nth v3 v5).2.1, (nth v3 v5).2.2.1, (nth v3 v5).2.2.2)))))) : Option ((Int × List (Int × Int × List UInt8 × List UInt8) × Int × Int × Int × Bool × Bool × Bool × Int × Int × List (Int × Int × List UInt8 × List UInt8) × Int × Int × List UInt8 × List UInt8) ⊕ O)).bind fun z => match z with | .inl (i10, v11, v12, v13, v14, v15, v16, v17, m18, m19, m20, x21, x22, x23, x24) => (cond (decide (0 ≤ i10) && decide (i10 ≤ (m20.length : Int))) (iManOk_L7 O fuel (v11, v12, v13, v14, v15, v16, v17, (cut m20 0 i10), (((cut m20 0 i10).length : Nat) : Int), 0, m18, m19, m20, x21, x22, x23, x24) (fun (v43, v44, v45, v46, v47, v48, v49, m50, m51, m52) => (iManOk_L2 O q (v43, v44, (wrap .i64 (v45 + 1)), m50, m51, m52) x r)) r) none) | .inr o => some o) none) (x (m6, m7, m8)))
def iManOk : (Int × Int × List (Int × Int × Tx × Tx)) → Option Bool
  | (m0, m1, m2) => (iManOk_L2 Bool fuel (m2, (m2.length : Int), 0, m0, m1, m2) (fun (m53, m54, m55) => ((iin (m53, 1, 100000)).bind fun r56 => (cond r56 ((iin (m54, 0, (wrap .i64 (m53 - 1)))).bind fun r57 => (cond r57 (some (decide ((m55.length : Int) ≤ 20))) (some false))) (some false)))) some)
def c_iManOk : Ctr := { args := [.val true y9], rets := [(false, [(none, .bool)])], F := iManOk }
def X_iManOk : Ctx := XT.withΓ (lk [(139, c_imetaOk), (140, c_imeets), (114, c_iin)]) (lk [])
def H_iManOk : Hints := ⟨lk [], lk [(6, ⟨81, [(1, .one (.ptr 0 0)), (3, .one (.val y0)), (4, .one (.ptr 1 0)), (8, .one (.val (.sl y2))), (9, .one (.val y0)), (10, .one (.val y0)), (20, .one (.val y0)), (21, .one (.val .bool)), (22, .one (.val .bool)), (33, .one (.val .bool))], [.vars 29 [.val y0, .val y0, .val (.sl y2)], .vars 88 [.val y0, .val y0, .val .str, .val .str]], []⟩)], lk []⟩
def L_iManOk_2 : LoopF c_iManOk.Res := ⟨⟨81, [(1, .one (.ptr 0 0)), (8, .one (.val (.sl y2))), (9, .one (.val y0)), (10, .one (.val y0))], [.vars 29 [.val y0, .val y0, .val (.sl y2)]], []⟩, [(0, ⟨81, [(1, .one (.ptr 0 0))], [.vars 29 [.val y0, .val y0, .val (.sl y2)]], []⟩)], iManOk_L2⟩
def L_iManOk_7 : LoopF c_iManOk.Res := ⟨⟨81, [(1, .one (.ptr 0 0)), (4, .one (.ptr 1 0)), (8, .one (.val (.sl y2))), (9, .one (.val y0)), (10, .one (.val y0)), (20, .one (.val y0)), (21, .one (.val .bool)), (22, .one (.val .bool)), (33, .one (.val .bool)), (38, .one (.val (.sl y2))), (39, .one (.val y0)), (40, .one (.val y0))], [.vars 29 [.val y0, .val y0, .val (.sl y2)], .vars 88 [.val y0, .val y0, .val .str, .val .str]], []⟩, [(2, ⟨81, [(1, .one (.ptr 0 0)), (8, .one (.val (.sl y2))), (9, .one (.val y0)), (10, .one (.val y0)), (20, .one (.val y0)), (21, .one (.val .bool)), (22, .one (.val .bool)), (33, .one (.val .bool))], [.vars 29 [.val y0, .val y0, .val (.sl y2)]], []⟩)], iManOk_L7⟩
def T_iManOk : Nat → Option (LoopF c_iManOk.Res) := lk [(2, L_iManOk_2), (7, L_iManOk_7)]
theorem s_iManOk_2 : StepOk X_iManOk H_iManOk (c_iManOk.finish X_iManOk Tryz.f95.results.toList) T_iManOk (loopAt Tryz.f95 0) := ⟨L_iManOk_2, by kernel_rfl, fun O y x r => by kernel_rfl, fun O k y x r => by kernel_rfl⟩
theorem s_iManOk_7 : StepOk X_iManOk H_iManOk (c_iManOk.finish X_iManOk Tryz.f95.results.toList) T_iManOk (loopAt Tryz.f95 1) := ⟨L_iManOk_7, by kernel_rfl, fun O y x r => by kernel_rfl, fun O k y x r => by kernel_rfl⟩
theorem r_iManOk (a) : fnRun X_iManOk H_iManOk c_iManOk Tryz.f95 T_iManOk a = iManOk a := by kernel_rfl
theorem h_iManOk [Tabs] : CtrHolds Tryz.prog 95 c_iManOk := fn_ok (.cons h_imetaOk Tryz.call139 (.cons h_imeets Tryz.call140 (.cons h_iin Tryz.call114 .nil))) .nil Tryz.func95 (by kernel_rfl) (loops2 (by kernel_rfl) s_iManOk_2 s_iManOk_7) r_iManOk
def ihex_L3 (O : Type) : Nat → (Tx × Int × List Int) → ((List Int) → Option O) → ((Tx) → Option O) → Option O
  | 0, _, _, _ => none
  | q + 1, (s1, i2, out3), x, r => (cond (decide (i2 < (s1.length : Int))) (cond (decide (0 ≤ i2) && decide (i2 < (s1.length : Int))) (cond (decide (0 ≤ (Int.fdiv (((UInt8.toNat (nth s1 i2)) : Nat) : Int) 16)) && decide ((Int.fdiv (((UInt8.toNat (nth s1 i2)) : Nat) : Int) 16) < 16)) (cond (decide (0 ≤ i2) && decide (i2 < (s1.length : Int))) (cond (decide (0 ≤ (bits .and .u8 (((UInt8.toNat (nth s1 i2)) : Nat) : Int) 15)) && decide ((bits .and .u8 (((UInt8.toNat (nth s1 i2)) : Nat) : Int) 15) < 16)) (cond (decide ((out3.length + [(((UInt8.toNat (nth [48, 49, 50, 51, 52, 53, 54, 55, 56, 57, 97, 98, 99, 100, 101, 102] (Int.fdiv (((UInt8.toNat (nth s1 i2)) : Nat) : Int) 16))) : Nat) : Int), (((UInt8.toNat (nth [48, 49, 50, 51, 52, 53, 54, 55, 56, 57, 97, 98, 99, 100, 101, 102] (bits .and .u8 (((UInt8.toNat (nth s1 i2)) : Nat) : Int) 15))) : Nat) : Int)].length) ≤ lenBound)) (ihex_L3 O q (s1, (wrap .i64 (i2 + 1)), (out3 ++ [(((UInt8.toNat (nth [48, 49, 50, 51, 52, 53, 54, 55, 56, 57, 97, 98, 99, 100, 101, 102] (Int.fdiv (((UInt8.toNat (nth s1 i2)) : Nat) : Int) 16))) : Nat) : Int), (((UInt8.toNat (nth [48, 49, 50, 51, 52, 53, 54, 55, 56, 57, 97, 98, 99, 100, 101, 102] (bits .and .u8 (((UInt8.toNat (nth s1 i2)) : Nat) : Int) 15))) : Nat) : Int)])) x r) none) none) none) none) none) (x out3))
def ihex : (Tx) → Option (Tx)
  | s0 => (ihex_L3 (List UInt8) fuel (s0, 0, []) (fun out4 => (some (strOf out4))) some)
def c_ihex : Ctr := { args := [.val false .str], rets := [(false, [(none, .str)])], F := ihex }
def X_ihex : Ctx := XT.withΓ (lk []) (lk [])
def L_ihex_3 : LoopF c_ihex.Res := ⟨⟨26, [(0, .one (.val .str)), (3, .one (.own 0)), (4, .one (.val y0))], [.arr 5 y10], []⟩, [(0, ⟨26, [(3, .one (.own 0))], [.arr 5 y10], []⟩)], ihex_L3⟩
def T_ihex : Nat → Option (LoopF c_ihex.Res) := lk [(3, L_ihex_3)]
theorem s_ihex_3 : StepOk X_ihex H0 (c_ihex.finish X_ihex Tryz.f122.results.toList) T_ihex (loopAt Tryz.f122 0) := ⟨L_ihex_3, by kernel_rfl, fun O y x r => by kernel_rfl, fun O k y x r => by kernel_rfl⟩
theorem r_ihex (a) : fnRun X_ihex H0 c_ihex Tryz.f122 T_ihex a = ihex a := by kernel_rfl
theorem h_ihex [Tabs] : CtrHolds Tryz.prog 122 c_ihex := fn_ok .nil .nil Tryz.func122 (by kernel_rfl) (loops1 (by kernel_rfl) s_ihex_3) r_ihex
def iManText_L5 (O : Type) : Nat → (Tx × List (Int × Int × Tx × Tx) × Int × Int) → ((Tx) → Option O) → ((Tx) → Option O) → Option O
  | 0, _, _, _ => none
  | q + 1, (out6, v7, v8, v9), x, r => (cond (decide (v9 < v8)) (cond (decide (0 ≤ v9) && decide (v9 < (v7.length : Int))) ((xItoa (nth v7 v9).1).bind fun r10 => (cond (decide ((4 + r10.length) ≤ lenBound)) (cond (decide ((([116, 97, 98, 32] ++ r10).length + 1) ≤ lenBound)) ((xItoa (nth v7 v9).2.1).bind fun r11 => (cond (decide (((([116, 97, 98, 32] ++ r10) ++ [32]).length + r11.length) ≤ lenBound)) (cond (decide ((((([116, 97, 98, 32] ++ r10) ++ [32]) ++ r11).length + 1) ≤ lenBound)) ((ihex (nth v7 v9).2.2.1).bind fun r12 => (cond (decide (((((([116, 97, 98, 32] ++ r10) ++ [32]) ++ r11) ++ [32]).length + r12.length) ≤ lenBound)) (cond (decide ((((((([116, 97, 98, 32] ++ r10) ++ [32]) ++ r11) ++ [32]) ++ r12).length + 1) ≤ lenBound)) ((ihex (nth v7 v9).2.2.2).bind fun r13 => (cond (decide (((((((([116, 97, 98, 32] ++ r10) ++ [32]) ++ r11) ++ [32]) ++ r12) ++ [32]).length + r13.length) ≤ lenBound)) (cond (decide ((((((((([116, 97, 98, 32] ++ r10) ++ [32]) ++ r11) ++ [32]) ++ r12) ++ [32]) ++ r13).length + 1) ≤ lenBound)) (cond (decide ((out6.length + (((((((([116, 97, 98, 32] ++ r10) ++ [32]) ++ r11) ++ [32]) ++ r12) ++ [32]) ++ r13) ++ [10]).length) ≤ lenBound)) (iManText_L5 O q ((out6 ++ (((((((([116, 97, 98, 32] ++ r10) ++ [32]) ++ r11) ++ [32]) ++ r12) ++ [32]) ++ r13) ++ [10])), v7, v8, (wrap .i64 (v9 + 1))) x r) none) none) none)) none) none)) none) none)) none) none)) none) (x out6))
def iManText : (Int × Int × List (Int × Int × Tx × Tx)) → Option (Tx)
  | (m0, m1, m2) => ((iManOk (m0, m1, m2)).bind fun r3 => (cond (!r3) (some []) ((xItoa m0).bind fun r4 => (cond (decide ((5 + r4.length) ≤ lenBound)) (cond (decide ((([110, 101, 120, 116, 32] ++ r4).length + 5) ≤ lenBound)) ((xItoa m1).bind fun r5 => (cond (decide (((([110, 101, 120, 116, 32] ++ r4) ++ [32, 108, 111, 103, 32]).length + r5.length) ≤ lenBound)) (cond (decide ((((([110, 101, 120, 116, 32] ++ r4) ++ [32, 108, 111, 103, 32]) ++ r5).length + 1) ≤ lenBound)) (iManText_L5 (List UInt8) fuel ((((([110, 101, 120, 116, 32] ++ r4) ++ [32, 108, 111, 103, 32]) ++ r5) ++ [10]), m2, (m2.length : Int), 0) (fun out14 => (cond (decide ((out14.length + 4) ≤ lenBound)) (some (out14 ++ [101, 110, 100, 10])) none)) some) none) none)) none) none))))
def c_iManText : Ctr := { args := [.val true y9], rets := [(false, [(none, .str)])], F := iManText }
def X_iManText : Ctx := XT.withΓ (lk [(95, c_iManOk), (121, c_xItoa), (122, c_ihex)]) (lk [])
def L_iManText_5 : LoopF c_iManText.Res := ⟨⟨51, [(3, .one (.val .str)), (20, .one (.val (.sl y2))), (21, .one (.val y0)), (22, .one (.val y0))], [], []⟩, [(0, ⟨51, [(3, .one (.val .str))], [], []⟩)], iManText_L5⟩
def T_iManText : Nat → Option (LoopF c_iManText.Res) := lk [(5, L_iManText_5)]
theorem s_iManText_5 : StepOk X_iManText H0 (c_iManText.finish X_iManText Tryz.f73.results.toList) T_iManText (loopAt Tryz.f73 0) := ⟨L_iManText_5, by kernel_rfl, fun O y x r => by kernel_rfl, fun O k y x r => by kernel_rfl⟩
theorem r_iManText (a) : fnRun X_iManText H0 c_iManText Tryz.f73 T_iManText a = iManText a := by kernel_rfl
theorem h_iManText [TabsD] : CtrHolds Tryz.prog 73 c_iManText := fn_ok (.cons h_iManOk Tryz.call95 (.cons h_xItoa Tryz.call121 (.cons h_ihex Tryz.call122 .nil))) .nil Tryz.func73 (by kernel_rfl) (loops1 (by kernel_rfl) s_iManText_5) r_iManText
def iParseMan_L3 (O : Type) : Nat → (Tx × Int × Int × Int × Int × Int × Int × List (Tx) × List (Int × Int × Tx × Tx)) → ((Tx × Int × Int × Int × Int × List (Int × Int × Tx × Tx)) → Option O) → (((Int × Int × List (Int × Int × Tx × Tx)) × Bool) → Option O) → Option O
  | 0, _, _, _ => none
  | q + 1, (s2, v3, v4, v5, v6, m7, m8, v9, m10), x, r => (cond (decide (v4 < v3)) (cond (decide (0 ≤ v4) && decide (v4 < (v9.length : Int))) ((xSplit ((nth v9 v4), [32])).bind fun r11 => ((cond (v4 == 0) (some (s2, v3, v4, ((r11.length : Int) == 4), v5, v6, m7, m8, r11, v9, m10)) (some (s2, v3, v4, false, v5, v6, m7, m8, r11, v9, m10))).bind fun (s12, v13, v14, v15, v16, v17, m18, m19, p20, v21, m22) => (cond v15 (cond (decide (1 < (p20.length : Int))) ((xAtoi (List.getD p20 1 [])).bind fun (r23, _) => (cond (decide (3 < (p20.length : Int))) ((xAtoi (List.getD p20 3 [])).bind fun (r24, _) => (iParseMan_L3 O q (s12, v13, (wrap .i64 (v14 + 1)), v16, v17, r23, r24, v21, m22) x r)) none)) none) ((cond ((p20.length : Int) == 5) (some (s12, v13, v14, decide ((m22.length : Int) ≤ 20), v16, v17, m18, m19, p20, v21, m22)) (some (s12, v13, v14, false, v16, v17, m18, m19, p20, v21, m22))).bind fun (s25, v26, v27, v28, v29, v30, m31, m32, p33, v34, m35) => (cond v28 (cond (decide (1 < (p33.length : Int))) ((xAtoi (List.getD p33 1 [])).bind fun (r36, _) => (cond (decide (2 < (p33.length : Int))) ((xAtoi (List.getD p33 2 [])).bind fun (r37, _) => (cond (decide (3 < (p33.length : Int))) ((iunhex (List.getD p33 3 [])).bind fun r38 => (cond (decide (4 < (p33.length : Int))) ((iunhex (List.getD p33 4 [])).bind fun r39 => (cond (decide ((m35.length + [(r36, r37, r38, r39)].length) ≤ lenBound)) (iParseMan_L3 O q (s25, v26, (wrap .i64 (v27 + 1)), v29, v30, m31, m32, v34, (m35 ++ [(r36, r37, r38, r39)])) x r) none)) none)) none)) none)) none) (iParseMan_L3 O q (s25, v26, (wrap .i64 (v27 + 1)), v29, v30, m31, m32, v34, m35) x r)))))) none) (x (s2, v5, v6, m7, m8, m10)))
def iParseMan : (Tx) → Option ((Int × Int × List (Int × Int × Tx × Tx)) × Bool)
  | s0 => ((xSplit (s0, [10])).bind fun r1 => (iParseMan_L3 ((Int × Int × List (Int × Int × List UInt8 × List UInt8)) × Bool) fuel (s0, (r1.length : Int), 0, 0, 0, 0, 0, r1, []) (fun (s40, v41, v42, m43, m44, m45) => ((iManText (m43, m44, m45)).bind fun r46 => (cond (r46 == []) (some ((0, 0, []), false)) (cond (!(r46 == s40)) (some ((0, 0, []), false)) (some ((m43, m44, m45), true)))))) some))
def c_iParseMan : Ctr := { args := [.val false .str], rets := [(true, [(none, y0), (none, y0), (some 88, (.sl y2))]), (false, [(none, .bool)])], F := iParseMan }
def X_iParseMan : Ctx := XT.withΓ (lk [(70, c_xSplit), (71, c_xAtoi), (72, c_iunhex), (73, c_iManText)]) (lk [])
def H_iParseMan : Hints := ⟨lk [(7, ⟨99, [(0, .one (.val .str)), (2, .one (.ptr 0 0)), (4, .one (.ptr 1 0)), (7, .one (.own 2)), (14, .one (.own 3)), (15, .one (.val y0)), (16, .one (.val y0)), (23, .one (.val .bool))], [.vars 29 [.val y0, .val y0, .nils], .vars 29 [.val y0, .val y0, .own 4], .arr 9 .str, .arr 9 .str, .arr 88 y2], []⟩), (10, ⟨99, [(0, .one (.val .str)), (2, .one (.ptr 0 0)), (4, .one (.ptr 1 0)), (7, .one (.own 2)), (14, .one (.own 3)), (15, .one (.val y0)), (16, .one (.val y0)), (47, .one (.val .bool))], [.vars 29 [.val y0, .val y0, .nils], .vars 29 [.val y0, .val y0, .own 4], .arr 9 .str, .arr 9 .str, .arr 88 y2], []⟩)], lk [], lk []⟩
def L_iParseMan_3 : LoopF c_iParseMan.Res := ⟨⟨99, [(0, .one (.val .str)), (2, .one (.ptr 0 0)), (4, .one (.ptr 1 0)), (14, .one (.own 2)), (15, .one (.val y0)), (16, .one (.val y0))], [.vars 29 [.val y0, .val y0, .nils], .vars 29 [.val y0, .val y0, .own 3], .arr 9 .str, .arr 88 y2], []⟩, [(0, ⟨99, [(0, .one (.val .str)), (2, .one (.ptr 0 0)), (4, .one (.ptr 1 0))], [.vars 29 [.val y0, .val y0, .nils], .vars 29 [.val y0, .val y0, .own 2], .arr 88 y2], []⟩)], iParseMan_L3⟩
def T_iParseMan : Nat → Option (LoopF c_iParseMan.Res) := lk [(3, L_iParseMan_3)]
theorem s_iParseMan_3 : StepOk X_iParseMan H_iParseMan (c_iParseMan.finish X_iParseMan Tryz.f30.results.toList) T_iParseMan (loopAt Tryz.f30 0) := ⟨L_iParseMan_3, by kernel_rfl, fun O y x r => by kernel_rfl, fun O k y x r => by kernel_rfl⟩
theorem r_iParseMan (a) : fnRun X_iParseMan H_iParseMan c_iParseMan Tryz.f30 T_iParseMan a = iParseMan a := by kernel_rfl
theorem h_iParseMan [TabsD] : CtrHolds Tryz.prog 30 c_iParseMan := fn_ok (.cons h_xSplit Tryz.call70 (.cons h_xAtoi Tryz.call71 (.cons h_iunhex Tryz.call72 (.cons h_iManText Tryz.call73 .nil)))) .nil Tryz.func30 (by kernel_rfl) (loops1 (by kernel_rfl) s_iParseMan_3) r_iParseMan
def iCurrent : (List (Int × List Int × Int) × List (Tx × Int) × List (Tx × Int) × Int) → Option ((Int × Int × List (Int × Int × Tx × Tx)) × Bool)
  | (d0, d1, d2, d3) => ((iBytes ((d0, d1, d2, d3), [99, 117, 114])).bind fun (r4, r5) => (cond (!r5) (some ((0, 0, []), false)) ((iParseMan (strOf r4)).bind fun ((r6, r7, r8), r9) => (some ((r6, r7, r8), r9)))))
def c_iCurrent : Ctr := { args := [.val true y3], rets := [(true, [(none, y0), (none, y0), (some 88, (.sl y2))]), (false, [(none, .bool)])], F := iCurrent }
def X_iCurrent : Ctx := XT.withΓ (lk [(29, c_iBytes), (30, c_iParseMan)]) (lk [])
theorem r_iCurrent (a) : fnRun X_iCurrent H0 c_iCurrent Tryz.f8 T0 a = iCurrent a := by kernel_rfl
theorem h_iCurrent [TabsD] : CtrHolds Tryz.prog 8 c_iCurrent := fn_ok (.cons h_iBytes Tryz.call29 (.cons h_iParseMan Tryz.call30 .nil)) .nil Tryz.func8 (by kernel_rfl) (loops0 (by kernel_rfl)) r_iCurrent
def leqMeta : ((Int × Int × Tx × Tx) × Int × Int × Tx × Tx) → Option Bool
  | ((a0, a1, a2, a3), b4, b5, b6, b7) => (cond (a0 != b4) (some false) (cond (a1 != b5) (some false) (cond (!(a2 == b6)) (some false) (cond (!(a3 == b7)) (some false) (some true)))))
def c_leqMeta : Ctr := { args := [.val true y2, .val true y2], rets := [(false, [(none, .bool)])], F := leqMeta }
def X_leqMeta : Ctx := XT.withΓ (lk []) (lk [])
theorem r_leqMeta (a) : fnRun X_leqMeta H0 c_leqMeta Tryz.f74 T0 a = leqMeta a := by kernel_rfl
theorem h_leqMeta [Tabs] : CtrHolds Tryz.prog 74 c_leqMeta := fn_ok .nil .nil Tryz.func74 (by kernel_rfl) (loops0 (by kernel_rfl)) r_leqMeta
def leqMetaS_L4 (O : Type) : Nat → (List (Int × Int × Tx × Tx) × List (Int × Int × Tx × Tx) × Int) → (Unit → Option O) → (Bool → Option O) → Option O
  | 0, _, _, _ => none
  | q + 1, (a2, b3, i4), x, r => (cond (decide (i4 < (a2.length : Int))) (cond (decide (0 ≤ i4) && decide (i4 < (a2.length : Int))) (cond (decide (0 ≤ i4) && decide (i4 < (b3.length : Int))) ((leqMeta (((nth a2 i4).1, (nth a2 i4).2.1, (nth a2 i4).2.2.1, (nth a2 i4).2.2.2), (nth b3 i4).1, (nth b3 i4).2.1, (nth b3 i4).2.2.1, (nth b3 i4).2.2.2)).bind fun r5 => (cond (!r5) (r false) (leqMetaS_L4 O q (a2, b3, (wrap .i64 (i4 + 1))) x r))) none) none) (x ()))
def leqMetaS : (List (Int × Int × Tx × Tx) × List (Int × Int × Tx × Tx)) → Option Bool
  | (a0, b1) => (cond ((a0.length : Int) != (b1.length : Int)) (some false) (leqMetaS_L4 Bool fuel (a0, b1, 0) (fun _ => (some true)) some))
def c_leqMetaS : Ctr := { args := [.val false (.sl y2), .val false (.sl y2)], rets := [(false, [(none, .bool)])], F := leqMetaS }
def X_leqMetaS : Ctx := XT.withΓ (lk [(74, c_leqMeta)]) (lk [])
def L_leqMetaS_4 : LoopF c_leqMetaS.Res := ⟨⟨27, [(0, .one (.val (.sl y2))), (1, .one (.val (.sl y2))), (5, .one (.val y0))], [], []⟩, [(0, ⟨27, [], [], []⟩)], leqMetaS_L4⟩
def T_leqMetaS : Nat → Option (LoopF c_leqMetaS.Res) := lk [(4, L_leqMetaS_4)]
theorem s_leqMetaS_4 : StepOk X_leqMetaS H0 (c_leqMetaS.finish X_leqMetaS Tryz.f31.results.toList) T_leqMetaS (loopAt Tryz.f31 0) := ⟨L_leqMetaS_4, by kernel_rfl, fun O y x r => by kernel_rfl, fun O k y x r => by kernel_rfl⟩
theorem r_leqMetaS (a) : fnRun X_leqMetaS H0 c_leqMetaS Tryz.f31 T_leqMetaS a = leqMetaS a := by kernel_rfl
theorem h_leqMetaS [Tabs] : CtrHolds Tryz.prog 31 c_leqMetaS := fn_ok (.cons h_leqMeta Tryz.call74 .nil) .nil Tryz.func31 (by kernel_rfl) (loops1 (by kernel_rfl) s_leqMetaS_4) r_leqMetaS
def leqManifest : ((Int × Int × List (Int × Int × Tx × Tx)) × Int × Int × List (Int × Int × Tx × Tx)) → Option Bool
  | ((a0, a1, a2), b3, b4, b5) => (cond (a0 != b3) (some false) (cond (a1 != b4) (some false) ((leqMetaS (a2, b5)).bind fun r6 => (cond (!r6) (some false) (some true)))))
def c_leqManifest : Ctr := { args := [.val true y9, .val true y9], rets := [(false, [(none, .bool)])], F := leqManifest }
def X_leqManifest : Ctx := XT.withΓ (lk [(31, c_leqMetaS)]) (lk [])
theorem r_leqManifest (a) : fnRun X_leqManifest H0 c_leqManifest Tryz.f9 T0 a = leqManifest a := by kernel_rfl
theorem h_leqManifest [Tabs] : CtrHolds Tryz.prog 9 c_leqManifest := fn_ok (.cons h_leqMetaS Tryz.call31 .nil) .nil Tryz.func9 (by kernel_rfl) (loops0 (by kernel_rfl)) r_leqManifest
def leqByteS_L4 (O : Type) : Nat → (List Int × List Int × Int) → (Unit → Option O) → (Bool → Option O) → Option O
  | 0, _, _, _ => none
  | q + 1, (a2, b3, i4), x, r => (cond (decide (i4 < (a2.length : Int))) (cond (decide (0 ≤ i4) && decide (i4 < (a2.length : Int))) (cond (decide (0 ≤ i4) && decide (i4 < (b3.length : Int))) (cond ((nth a2 i4) != (nth b3 i4)) (r false) (leqByteS_L4 O q (a2, b3, (wrap .i64 (i4 + 1))) x r)) none) none) (x ()))
def leqByteS : (List Int × List Int) → Option Bool
  | (a0, b1) => (cond ((a0.length : Int) != (b1.length : Int)) (some false) (leqByteS_L4 Bool fuel (a0, b1, 0) (fun _ => (some true)) some))
def c_leqByteS : Ctr := { args := [.val false y4, .val false y4], rets := [(false, [(none, .bool)])], F := leqByteS }
def X_leqByteS : Ctx := XT.withΓ (lk []) (lk [])
def L_leqByteS_4 : LoopF c_leqByteS.Res := ⟨⟨26, [(0, .one (.val y4)), (1, .one (.val y4)), (5, .one (.val y0))], [], []⟩, [(0, ⟨26, [], [], []⟩)], leqByteS_L4⟩
def T_leqByteS : Nat → Option (LoopF c_leqByteS.Res) := lk [(4, L_leqByteS_4)]
theorem s_leqByteS_4 : StepOk X_leqByteS H0 (c_leqByteS.finish X_leqByteS Tryz.f123.results.toList) T_leqByteS (loopAt Tryz.f123 0) := ⟨L_leqByteS_4, by kernel_rfl, fun O y x r => by kernel_rfl, fun O k y x r => by kernel_rfl⟩
theorem r_leqByteS (a) : fnRun X_leqByteS H0 c_leqByteS Tryz.f123 T_leqByteS a = leqByteS a := by kernel_rfl
theorem h_leqByteS [Tabs] : CtrHolds Tryz.prog 123 c_leqByteS := fn_ok .nil .nil Tryz.func123 (by kernel_rfl) (loops1 (by kernel_rfl) s_leqByteS_4) r_leqByteS
def leqInode : ((Int × List Int × Int) × Int × List Int × Int) → Option Bool
  | ((a0, a1, a2), b3, b4, b5) => (cond (a0 != b3) (some false) ((leqByteS (a1, b4)).bind fun r6 => (cond (!r6) (some false) (cond (a2 != b5) (some false) (some true)))))
def c_leqInode : Ctr := { args := [.val true (.pair y0 (.pair y4 y0)), .val true (.pair y0 (.pair y4 y0))], rets := [(false, [(none, .bool)])], F := leqInode }
def X_leqInode : Ctx := XT.withΓ (lk [(123, c_leqByteS)]) (lk [])
theorem r_leqInode (a) : fnRun X_leqInode H0 c_leqInode Tryz.f75 T0 a = leqInode a := by kernel_rfl
theorem h_leqInode [Tabs] : CtrHolds Tryz.prog 75 c_leqInode := fn_ok (.cons h_leqByteS Tryz.call123 .nil) .nil Tryz.func75 (by kernel_rfl) (loops0 (by kernel_rfl)) r_leqInode
def leqInodeS_L4 (O : Type) : Nat → (List (Int × List Int × Int) × List (Int × List Int × Int) × Int) → (Unit → Option O) → (Bool → Option O) → Option O
  | 0, _, _, _ => none
  | q + 1, (a2, b3, i4), x, r => (cond (decide (i4 < (a2.length : Int))) (cond (decide (0 ≤ i4) && decide (i4 < (a2.length : Int))) (cond (decide (0 ≤ i4) && decide (i4 < (b3.length : Int))) ((leqInode (((nth a2 i4).1, (nth a2 i4).2.1, (nth a2 i4).2.2), (nth b3 i4).1, (nth b3 i4).2.1, (nth b3 i4).2.2)).bind fun r5 => (cond (!r5) (r false) (leqInodeS_L4 O q (a2, b3, (wrap .i64 (i4 + 1))) x r))) none) none) (x ()))
def leqInodeS : (List (Int × List Int × Int) × List (Int × List Int × Int)) → Option Bool
  | (a0, b1) => (cond ((a0.length : Int) != (b1.length : Int)) (some false) (leqInodeS_L4 Bool fuel (a0, b1, 0) (fun _ => (some true)) some))
def c_leqInodeS : Ctr := { args := [.val false y7, .val false y7], rets := [(false, [(none, .bool)])], F := leqInodeS }
def X_leqInodeS : Ctx := XT.withΓ (lk [(75, c_leqInode)]) (lk [])
def L_leqInodeS_4 : LoopF c_leqInodeS.Res := ⟨⟨27, [(0, .one (.val y7)), (1, .one (.val y7)), (5, .one (.val y0))], [], []⟩, [(0, ⟨27, [], [], []⟩)], leqInodeS_L4⟩
def T_leqInodeS : Nat → Option (LoopF c_leqInodeS.Res) := lk [(4, L_leqInodeS_4)]
theorem s_leqInodeS_4 : StepOk X_leqInodeS H0 (c_leqInodeS.finish X_leqInodeS Tryz.f32.results.toList) T_leqInodeS (loopAt Tryz.f32 0) := ⟨L_leqInodeS_4, by kernel_rfl, fun O y x r => by kernel_rfl, fun O k y x r => by kernel_rfl⟩
theorem r_leqInodeS (a) : fnRun X_leqInodeS H0 c_leqInodeS Tryz.f32 T_leqInodeS a = leqInodeS a := by kernel_rfl
theorem h_leqInodeS [Tabs] : CtrHolds Tryz.prog 32 c_leqInodeS := fn_ok (.cons h_leqInode Tryz.call75 .nil) .nil Tryz.func32 (by kernel_rfl) (loops1 (by kernel_rfl) s_leqInodeS_4) r_leqInodeS
def leqEntry : ((Tx × Int) × Tx × Int) → Option Bool
  | ((a0, a1), b2, b3) => (cond (!(a0 == b2)) (some false) (cond (a1 != b3) (some false) (some true)))
def c_leqEntry : Ctr := { args := [.val true (.pair .str y0), .val true (.pair .str y0)], rets := [(false, [(none, .bool)])], F := leqEntry }
def X_leqEntry : Ctx := XT.withΓ (lk []) (lk [])
theorem r_leqEntry (a) : fnRun X_leqEntry H0 c_leqEntry Tryz.f76 T0 a = leqEntry a := by kernel_rfl
theorem h_leqEntry [Tabs] : CtrHolds Tryz.prog 76 c_leqEntry := fn_ok .nil .nil Tryz.func76 (by kernel_rfl) (loops0 (by kernel_rfl)) r_leqEntry
def leqEntryS_L4 (O : Type) : Nat → (List (Tx × Int) × List (Tx × Int) × Int) → (Unit → Option O) → (Bool → Option O) → Option O
  | 0, _, _, _ => none
  | q + 1, (a2, b3, i4), x, r => (cond (decide (i4 < (a2.length : Int))) (cond (decide (0 ≤ i4) && decide (i4 < (a2.length : Int))) (cond (decide (0 ≤ i4) && decide (i4 < (b3.length : Int))) ((leqEntry (((nth a2 i4).1, (nth a2 i4).2), (nth b3 i4).1, (nth b3 i4).2)).bind fun r5 => (cond (!r5) (r false) (leqEntryS_L4 O q (a2, b3, (wrap .i64 (i4 + 1))) x r))) none) none) (x ()))
def leqEntryS : (List (Tx × Int) × List (Tx × Int)) → Option Bool
  | (a0, b1) => (cond ((a0.length : Int) != (b1.length : Int)) (some false) (leqEntryS_L4 Bool fuel (a0, b1, 0) (fun _ => (some true)) some))
def c_leqEntryS : Ctr := { args := [.val false y5, .val false y5], rets := [(false, [(none, .bool)])], F := leqEntryS }
def X_leqEntryS : Ctx := XT.withΓ (lk [(76, c_leqEntry)]) (lk [])
def L_leqEntryS_4 : LoopF c_leqEntryS.Res := ⟨⟨27, [(0, .one (.val y5)), (1, .one (.val y5)), (5, .one (.val y0))], [], []⟩, [(0, ⟨27, [], [], []⟩)], leqEntryS_L4⟩
def T_leqEntryS : Nat → Option (LoopF c_leqEntryS.Res) := lk [(4, L_leqEntryS_4)]
theorem s_leqEntryS_4 : StepOk X_leqEntryS H0 (c_leqEntryS.finish X_leqEntryS Tryz.f33.results.toList) T_leqEntryS (loopAt Tryz.f33 0) := ⟨L_leqEntryS_4, by kernel_rfl, fun O y x r => by kernel_rfl, fun O k y x r => by kernel_rfl⟩
theorem r_leqEntryS (a) : fnRun X_leqEntryS H0 c_leqEntryS Tryz.f33 T_leqEntryS a = leqEntryS a := by kernel_rfl
theorem h_leqEntryS [Tabs] : CtrHolds Tryz.prog 33 c_leqEntryS := fn_ok (.cons h_leqEntry Tryz.call76 .nil) .nil Tryz.func33 (by kernel_rfl) (loops1 (by kernel_rfl) s_leqEntryS_4) r_leqEntryS
def leqDisk : ((List (Int × List Int × Int) × List (Tx × Int) × List (Tx × Int) × Int) × List (Int × List Int × Int) × List (Tx × Int) × List (Tx × Int) × Int) → Option Bool
  | ((a0, a1, a2, a3), b4, b5, b6, b7) => ((leqInodeS (a0, b4)).bind fun r8 => (cond (!r8) (some false) ((leqEntryS (a1, b5)).bind fun r9 => (cond (!r9) (some false) ((leqEntryS (a2, b6)).bind fun r10 => (cond (!r10) (some false) (cond (a3 != b7) (some false) (some true))))))))
def c_leqDisk : Ctr := { args := [.val true y3, .val true y3], rets := [(false, [(none, .bool)])], F := leqDisk }
def X_leqDisk : Ctx := XT.withΓ (lk [(32, c_leqInodeS), (33, c_leqEntryS)]) (lk [])
theorem r_leqDisk (a) : fnRun X_leqDisk H0 c_leqDisk Tryz.f10 T0 a = leqDisk a := by kernel_rfl
theorem h_leqDisk [Tabs] : CtrHolds Tryz.prog 10 c_leqDisk := fn_ok (.cons h_leqInodeS Tryz.call32 (.cons h_leqEntryS Tryz.call33 .nil)) .nil Tryz.func10 (by kernel_rfl) (loops0 (by kernel_rfl)) r_leqDisk
def lmarkByteSM_L2 (O : Type) : Nat → (List Unit × Int × Int) → (Int → Option O) → (Int → Option O) → Option O
  | 0, _, _, _ => none
  | q + 1, (a2, k3, i4), x, r => (cond (decide (i4 < (a2.length : Int))) (cond (decide (0 ≤ i4) && decide (i4 < (a2.length : Int))) (lmarkByteSM_L2 O q (a2, (wrap .i64 (k3 + 1)), (wrap .i64 (i4 + 1))) x r) none) (x k3))
def lmarkByteSM : (List Unit × Int) → Option Int
  | (a0, k1) => (lmarkByteSM_L2 Int fuel (a0, k1, 0) (fun k5 => (some k5)) some)
def c_lmarkByteSM : Ctr := { args := [.val false (.sl .any), .val false y0], rets := [(false, [(none, y0)])], F := lmarkByteSM }
def X_lmarkByteSM : Ctx := XT.withΓ (lk []) (lk [])
def L_lmarkByteSM_2 : LoopF c_lmarkByteSM.Res := ⟨⟨20, [(0, .one (.val (.sl .any))), (1, .one (.val y0)), (5, .one (.val y0))], [], []⟩, [(0, ⟨20, [(1, .one (.val y0))], [], []⟩)], lmarkByteSM_L2⟩
def T_lmarkByteSM : Nat → Option (LoopF c_lmarkByteSM.Res) := lk [(2, L_lmarkByteSM_2)]
theorem s_lmarkByteSM_2 : StepOk X_lmarkByteSM H0 (c_lmarkByteSM.finish X_lmarkByteSM Tryz.f77.results.toList) T_lmarkByteSM (loopAt Tryz.f77 0) := ⟨L_lmarkByteSM_2, by kernel_rfl, fun O y x r => by kernel_rfl, fun O k y x r => by kernel_rfl⟩
theorem r_lmarkByteSM (a) : fnRun X_lmarkByteSM H0 c_lmarkByteSM Tryz.f77 T_lmarkByteSM a = lmarkByteSM a := by kernel_rfl
theorem h_lmarkByteSM [Tabs] : CtrHolds Tryz.prog 77 c_lmarkByteSM := fn_ok .nil .nil Tryz.func77 (by kernel_rfl) (loops1 (by kernel_rfl) s_lmarkByteSM_2) r_lmarkByteSM
def lmarkInodeSM_L2 (O : Type) : Nat → (List (Unit × List Unit × Unit) × Int × Int) → (Int → Option O) → (Int → Option O) → Option O
  | 0, _, _, _ => none
  | q + 1, (a2, k3, i4), x, r => (cond (decide (i4 < (a2.length : Int))) (cond (decide (0 ≤ i4) && decide (i4 < (a2.length : Int))) (cond (decide (0 ≤ i4) && decide (i4 < (a2.length : Int))) ((lmarkByteSM ((nth a2 i4).2.1, (wrap .i64 (k3 + 1)))).bind fun r5 => (cond (decide (0 ≤ i4) && decide (i4 < (a2.length : Int))) (lmarkInodeSM_L2 O q (a2, (wrap .i64 (r5 + 1)), (wrap .i64 (i4 + 1))) x r) none)) none) none) (x k3))
def lmarkInodeSM : (List (Unit × List Unit × Unit) × Int) → Option Int
  | (a0, k1) => (lmarkInodeSM_L2 Int fuel (a0, k1, 0) (fun k6 => (some k6)) some)
def c_lmarkInodeSM : Ctr := { args := [.val false (.sl (.pair .any (.pair (.sl .any) .any))), .val false y0], rets := [(false, [(none, y0)])], F := lmarkInodeSM }
def X_lmarkInodeSM : Ctx := XT.withΓ (lk [(77, c_lmarkByteSM)]) (lk [])
def L_lmarkInodeSM_2 : LoopF c_lmarkInodeSM.Res := ⟨⟨34, [(0, .one (.val (.sl (.pair .any (.pair (.sl .any) .any))))), (1, .one (.val y0)), (5, .one (.val y0))], [], []⟩, [(0, ⟨34, [(1, .one (.val y0))], [], []⟩)], lmarkInodeSM_L2⟩
def T_lmarkInodeSM : Nat → Option (LoopF c_lmarkInodeSM.Res) := lk [(2, L_lmarkInodeSM_2)]
theorem s_lmarkInodeSM_2 : StepOk X_lmarkInodeSM H0 (c_lmarkInodeSM.finish X_lmarkInodeSM Tryz.f34.results.toList) T_lmarkInodeSM (loopAt Tryz.f34 0) := ⟨L_lmarkInodeSM_2, by kernel_rfl, fun O y x r => by kernel_rfl, fun O k y x r => by kernel_rfl⟩
theorem r_lmarkInodeSM (a) : fnRun X_lmarkInodeSM H0 c_lmarkInodeSM Tryz.f34 T_lmarkInodeSM a = lmarkInodeSM a := by kernel_rfl
theorem h_lmarkInodeSM [Tabs] : CtrHolds Tryz.prog 34 c_lmarkInodeSM := fn_ok (.cons h_lmarkByteSM Tryz.call77 .nil) .nil Tryz.func34 (by kernel_rfl) (loops1 (by kernel_rfl) s_lmarkInodeSM_2) r_lmarkInodeSM
def lmarkText_L4 (O : Type) : Nat → (Int × Tx) → ((Tx) → Option O) → ((Tx) → Option O) → Option O
  | 0, _, _, _ => none
  | q + 1, (k1, out2), x, r => (cond (decide (k1 > 0)) (cond (decide (((strOf [(IntKind.wrap .u8 (wrap .i64 (48 + (Int.tmod k1 10))))]).length + out2.length) ≤ lenBound)) (lmarkText_L4 O q ((wrap .i64 (Int.tdiv k1 10)), ((strOf [(IntKind.wrap .u8 (wrap .i64 (48 + (Int.tmod k1 10))))]) ++ out2)) x r) none) (x out2))
def lmarkText : Int → Option (Tx)
  | k0 => (cond (decide (k0 ≤ 0)) (some [109, 48]) (lmarkText_L4 (List UInt8) fuel (k0, []) (fun out3 => (cond (decide ((1 + out3.length) ≤ lenBound)) (some ([109] ++ out3)) none)) some))
def c_lmarkText : Ctr := { args := [.val false y0], rets := [(false, [(none, .str)])], F := lmarkText }
def X_lmarkText : Ctx := XT.withΓ (lk []) (lk [])
def L_lmarkText_4 : LoopF c_lmarkText.Res := ⟨⟨20, [(0, .one (.val y0)), (3, .one (.val .str))], [], []⟩, [(0, ⟨20, [(3, .one (.val .str))], [], []⟩)], lmarkText_L4⟩
def T_lmarkText : Nat → Option (LoopF c_lmarkText.Res) := lk [(4, L_lmarkText_4)]
theorem s_lmarkText_4 : StepOk X_lmarkText H0 (c_lmarkText.finish X_lmarkText Tryz.f53.results.toList) T_lmarkText (loopAt Tryz.f53 0) := ⟨L_lmarkText_4, by kernel_rfl, fun O y x r => by kernel_rfl, fun O k y x r => by kernel_rfl⟩
theorem r_lmarkText (a) : fnRun X_lmarkText H0 c_lmarkText Tryz.f53 T_lmarkText a = lmarkText a := by kernel_rfl
theorem h_lmarkText [Tabs] : CtrHolds Tryz.prog 53 c_lmarkText := fn_ok .nil .nil Tryz.func53 (by kernel_rfl) (loops1 (by kernel_rfl) s_lmarkText_4) r_lmarkText
def lmarkEntrySM_L2 (O : Type) : Nat → (List (Unit × Unit) × Int × Int) → (Int → Option O) → (Int → Option O) → Option O
  | 0, _, _, _ => none
  | q + 1, (a2, k3, i4), x, r => (cond (decide (i4 < (a2.length : Int))) ((lmarkText k3).bind fun r5 => (cond (decide (0 ≤ i4) && decide (i4 < (a2.length : Int))) (cond (decide (0 ≤ i4) && decide (i4 < (a2.length : Int))) (lmarkEntrySM_L2 O q (a2, (wrap .i64 ((wrap .i64 (k3 + 1)) + 1)), (wrap .i64 (i4 + 1))) x r) none) none)) (x k3))
def lmarkEntrySM : (List (Unit × Unit) × Int) → Option Int
  | (a0, k1) => (lmarkEntrySM_L2 Int fuel (a0, k1, 0) (fun k6 => (some k6)) some)
def c_lmarkEntrySM : Ctr := { args := [.val false (.sl (.pair .any .any)), .val false y0], rets := [(false, [(none, y0)])], F := lmarkEntrySM }
def X_lmarkEntrySM : Ctx := XT.withΓ (lk [(53, c_lmarkText)]) (lk [])
def L_lmarkEntrySM_2 : LoopF c_lmarkEntrySM.Res := ⟨⟨28, [(0, .one (.val (.sl (.pair .any .any)))), (1, .one (.val y0)), (5, .one (.val y0))], [], []⟩, [(0, ⟨28, [(1, .one (.val y0))], [], []⟩)], lmarkEntrySM_L2⟩
def T_lmarkEntrySM : Nat → Option (LoopF c_lmarkEntrySM.Res) := lk [(2, L_lmarkEntrySM_2)]
theorem s_lmarkEntrySM_2 : StepOk X_lmarkEntrySM H0 (c_lmarkEntrySM.finish X_lmarkEntrySM Tryz.f35.results.toList) T_lmarkEntrySM (loopAt Tryz.f35 0) := ⟨L_lmarkEntrySM_2, by kernel_rfl, fun O y x r => by kernel_rfl, fun O k y x r => by kernel_rfl⟩
theorem r_lmarkEntrySM (a) : fnRun X_lmarkEntrySM H0 c_lmarkEntrySM Tryz.f35 T_lmarkEntrySM a = lmarkEntrySM a := by kernel_rfl
theorem h_lmarkEntrySM [Tabs] : CtrHolds Tryz.prog 35 c_lmarkEntrySM := fn_ok (.cons h_lmarkText Tryz.call53 .nil) .nil Tryz.func35 (by kernel_rfl) (loops1 (by kernel_rfl) s_lmarkEntrySM_2) r_lmarkEntrySM
def lmarkDiskM : ((List (Unit × List Unit × Unit) × List (Unit × Unit) × List (Unit × Unit) × Unit) × Int) → Option Int
  | ((a0, a1, a2, _), k3) => ((lmarkInodeSM (a0, k3)).bind fun r4 => ((lmarkEntrySM (a1, r4)).bind fun r5 => ((lmarkEntrySM (a2, r5)).bind fun r6 => (some r6))))
def c_lmarkDiskM : Ctr := { args := [.val true (.pair (.sl (.pair .any (.pair (.sl .any) .any))) (.pair (.sl (.pair .any .any)) (.pair (.sl (.pair .any .any)) .any))), .val false y0], rets := [(false, [(none, y0)])], F := lmarkDiskM }
def X_lmarkDiskM : Ctx := XT.withΓ (lk [(34, c_lmarkInodeSM), (35, c_lmarkEntrySM)]) (lk [])
theorem r_lmarkDiskM (a) : fnRun X_lmarkDiskM H0 c_lmarkDiskM Tryz.f11 T0 a = lmarkDiskM a := by kernel_rfl
theorem h_lmarkDiskM [Tabs] : CtrHolds Tryz.prog 11 c_lmarkDiskM := fn_ok (.cons h_lmarkInodeSM Tryz.call34 (.cons h_lmarkEntrySM Tryz.call35 .nil)) .nil Tryz.func11 (by kernel_rfl) (loops0 (by kernel_rfl)) r_lmarkDiskM
def lmarkMetaSM_L2 (O : Type) : Nat → (List (Unit × Unit × Unit × Unit) × Int × Int) → (Int → Option O) → (Int → Option O) → Option O
  | 0, _, _, _ => none
  | q + 1, (a2, k3, i4), x, r => (cond (decide (i4 < (a2.length : Int))) (cond (decide (0 ≤ i4) && decide (i4 < (a2.length : Int))) (cond (decide (0 ≤ i4) && decide (i4 < (a2.length : Int))) ((lmarkText (wrap .i64 ((wrap .i64 (k3 + 1)) + 1))).bind fun r5 => (cond (decide (0 ≤ i4) && decide (i4 < (a2.length : Int))) ((lmarkText (wrap .i64 ((wrap .i64 ((wrap .i64 (k3 + 1)) + 1)) + 1))).bind fun r6 => (cond (decide (0 ≤ i4) && decide (i4 < (a2.length : Int))) (lmarkMetaSM_L2 O q (a2, (wrap .i64 ((wrap .i64 ((wrap .i64 ((wrap .i64 (k3 + 1)) + 1)) + 1)) + 1)), (wrap .i64 (i4 + 1))) x r) none)) none)) none) none) (x k3))
def lmarkMetaSM : (List (Unit × Unit × Unit × Unit) × Int) → Option Int
  | (a0, k1) => (lmarkMetaSM_L2 Int fuel (a0, k1, 0) (fun k7 => (some k7)) some)
def c_lmarkMetaSM : Ctr := { args := [.val false (.sl (.pair .any (.pair .any (.pair .any .any)))), .val false y0], rets := [(false, [(none, y0)])], F := lmarkMetaSM }
def X_lmarkMetaSM : Ctx := XT.withΓ (lk [(53, c_lmarkText)]) (lk [])
def L_lmarkMetaSM_2 : LoopF c_lmarkMetaSM.Res := ⟨⟨43, [(0, .one (.val (.sl (.pair .any (.pair .any (.pair .any .any)))))), (1, .one (.val y0)), (5, .one (.val y0))], [], []⟩, [(0, ⟨43, [(1, .one (.val y0))], [], []⟩)], lmarkMetaSM_L2⟩
def T_lmarkMetaSM : Nat → Option (LoopF c_lmarkMetaSM.Res) := lk [(2, L_lmarkMetaSM_2)]
theorem s_lmarkMetaSM_2 : StepOk X_lmarkMetaSM H0 (c_lmarkMetaSM.finish X_lmarkMetaSM Tryz.f36.results.toList) T_lmarkMetaSM (loopAt Tryz.f36 0) := ⟨L_lmarkMetaSM_2, by kernel_rfl, fun O y x r => by kernel_rfl, fun O k y x r => by kernel_rfl⟩
theorem r_lmarkMetaSM (a) : fnRun X_lmarkMetaSM H0 c_lmarkMetaSM Tryz.f36 T_lmarkMetaSM a = lmarkMetaSM a := by kernel_rfl
theorem h_lmarkMetaSM [Tabs] : CtrHolds Tryz.prog 36 c_lmarkMetaSM := fn_ok (.cons h_lmarkText Tryz.call53 .nil) .nil Tryz.func36 (by kernel_rfl) (loops1 (by kernel_rfl) s_lmarkMetaSM_2) r_lmarkMetaSM
def lmarkManifestM : ((Unit × Unit × List (Unit × Unit × Unit × Unit)) × Int) → Option Int
  | ((_, _, a0), k1) => ((lmarkMetaSM (a0, k1)).bind fun r2 => (some r2))
def c_lmarkManifestM : Ctr := { args := [.val true (.pair .any (.pair .any (.sl (.pair .any (.pair .any (.pair .any .any)))))), .val false y0], rets := [(false, [(none, y0)])], F := lmarkManifestM }
def X_lmarkManifestM : Ctx := XT.withΓ (lk [(36, c_lmarkMetaSM)]) (lk [])
theorem r_lmarkManifestM (a) : fnRun X_lmarkManifestM H0 c_lmarkManifestM Tryz.f12 T0 a = lmarkManifestM a := by kernel_rfl
theorem h_lmarkManifestM [Tabs] : CtrHolds Tryz.prog 12 c_lmarkManifestM := fn_ok (.cons h_lmarkMetaSM Tryz.call36 .nil) .nil Tryz.func12 (by kernel_rfl) (loops0 (by kernel_rfl)) r_lmarkManifestM
def lszPair : ((Tx × Tx × Bool) × Int) → Option Int
  | ((a0, a1, a2), left3) => (cond (decide ((wrap .i64 (left3 - (a0.length : Int))) < 0)) (some (-1)) (cond (decide ((wrap .i64 ((wrap .i64 (left3 - (a0.length : Int))) - (a1.length : Int))) < 0)) (some (-1)) (some (wrap .i64 ((wrap .i64 (left3 - (a0.length : Int))) - (a1.length : Int))))))
def c_lszPair : Ctr := { args := [.val true y1, .val false y0], rets := [(false, [(none, y0)])], F := lszPair }
def X_lszPair : Ctx := XT.withΓ (lk []) (lk [])
theorem r_lszPair (a) : fnRun X_lszPair H0 c_lszPair Tryz.f162 T0 a = lszPair a := by kernel_rfl
theorem h_lszPair [Tabs] : CtrHolds Tryz.prog 162 c_lszPair := fn_ok .nil .nil Tryz.func162 (by kernel_rfl) (loops0 (by kernel_rfl)) r_lszPair
def lszNode : (((Tx × Tx × Bool) × Int) × Int) → Option Int
  | (((a0, a1, a2), a3), left4) => ((lszPair ((a0, a1, a2), left4)).bind fun r5 => (cond (decide (r5 < 0)) (some (-1)) (some r5)))
def c_lszNode : Ctr := { args := [.val true y12, .val false y0], rets := [(false, [(none, y0)])], F := lszNode }
def X_lszNode : Ctx := XT.withΓ (lk [(162, c_lszPair)]) (lk [])
theorem r_lszNode (a) : fnRun X_lszNode H0 c_lszNode Tryz.f124 T0 a = lszNode a := by kernel_rfl
theorem h_lszNode [Tabs] : CtrHolds Tryz.prog 124 c_lszNode := fn_ok (.cons h_lszPair Tryz.call162 .nil) .nil Tryz.func124 (by kernel_rfl) (loops0 (by kernel_rfl)) r_lszNode
def lszNodeS_L5 (O : Type) : Nat → (List ((Tx × Tx × Bool) × Int) × Int × Int) → (Int → Option O) → (Int → Option O) → Option O
  | 0, _, _, _ => none
  | q + 1, (a2, left3, i4), x, r => (cond (decide (i4 < (a2.length : Int))) (cond (decide (0 ≤ i4) && decide (i4 < (a2.length : Int))) ((lszNode ((((nth a2 i4).1.1, (nth a2 i4).1.2.1, (nth a2 i4).1.2.2), (nth a2 i4).2), left3)).bind fun r5 => (cond (decide (r5 < 0)) (r (-1)) (lszNodeS_L5 O q (a2, r5, (wrap .i64 (i4 + 1))) x r))) none) (x left3))
def lszNodeS : (List ((Tx × Tx × Bool) × Int) × Int) → Option Int
  | (a0, left1) => (cond (decide ((wrap .i64 (left1 - (a0.length : Int))) < 0)) (some (-1)) (lszNodeS_L5 Int fuel (a0, (wrap .i64 (left1 - (a0.length : Int))), 0) (fun left6 => (some left6)) some))
def c_lszNodeS : Ctr := { args := [.val false (.old y12), .val false y0], rets := [(false, [(none, y0)])], F := lszNodeS }
def X_lszNodeS : Ctx := XT.withΓ (lk [(124, c_lszNode)]) (lk [])
def L_lszNodeS_5 : LoopF c_lszNodeS.Res := ⟨⟨27, [(0, .one (.val (.old y12))), (1, .one (.val y0)), (5, .one (.val y0))], [], []⟩, [(0, ⟨27, [(1, .one (.val y0))], [], []⟩)], lszNodeS_L5⟩
def T_lszNodeS : Nat → Option (LoopF c_lszNodeS.Res) := lk [(5, L_lszNodeS_5)]
theorem s_lszNodeS_5 : StepOk X_lszNodeS H0 (c_lszNodeS.finish X_lszNodeS Tryz.f78.results.toList) T_lszNodeS (loopAt Tryz.f78 0) := ⟨L_lszNodeS_5, by kernel_rfl, fun O y x r => by kernel_rfl, fun O k y x r => by kernel_rfl⟩
theorem r_lszNodeS (a) : fnRun X_lszNodeS H0 c_lszNodeS Tryz.f78 T_lszNodeS a = lszNodeS a := by kernel_rfl
theorem h_lszNodeS [Tabs] : CtrHolds Tryz.prog 78 c_lszNodeS := fn_ok (.cons h_lszNode Tryz.call124 .nil) .nil Tryz.func78 (by kernel_rfl) (loops1 (by kernel_rfl) s_lszNodeS_5) r_lszNodeS
def lszMem : (List ((Tx × Tx × Bool) × Int) × Int) → Option Int
  | (a0, left1) => ((lszNodeS (a0, left1)).bind fun r2 => (cond (decide (r2 < 0)) (some (-1)) (some r2)))
def c_lszMem : Ctr := { args := [.val true (.old y12), .val false y0], rets := [(false, [(none, y0)])], F := lszMem }
def X_lszMem : Ctx := XT.withΓ (lk [(78, c_lszNodeS)]) (lk [])
theorem r_lszMem (a) : fnRun X_lszMem H0 c_lszMem Tryz.f38 T0 a = lszMem a := by kernel_rfl
theorem h_lszMem [Tabs] : CtrHolds Tryz.prog 38 c_lszMem := fn_ok (.cons h_lszNodeS Tryz.call78 .nil) .nil Tryz.func38 (by kernel_rfl) (loops0 (by kernel_rfl)) r_lszMem
def lszMeta : ((Int × Int × Tx × Tx) × Int) → Option Int
  | ((a0, a1, a2, a3), left4) => (cond (decide ((wrap .i64 (left4 - (a2.length : Int))) < 0)) (some (-1)) (cond (decide ((wrap .i64 ((wrap .i64 (left4 - (a2.length : Int))) - (a3.length : Int))) < 0)) (some (-1)) (some (wrap .i64 ((wrap .i64 (left4 - (a2.length : Int))) - (a3.length : Int))))))
def c_lszMeta : Ctr := { args := [.val true y2, .val false y0], rets := [(false, [(none, y0)])], F := lszMeta }
def X_lszMeta : Ctx := XT.withΓ (lk []) (lk [])
theorem r_lszMeta (a) : fnRun X_lszMeta H0 c_lszMeta Tryz.f125 T0 a = lszMeta a := by kernel_rfl
theorem h_lszMeta [Tabs] : CtrHolds Tryz.prog 125 c_lszMeta := fn_ok .nil .nil Tryz.func125 (by kernel_rfl) (loops0 (by kernel_rfl)) r_lszMeta
def lszMetaS_L5 (O : Type) : Nat → (List (Int × Int × Tx × Tx) × Int × Int) → (Int → Option O) → (Int → Option O) → Option O
  | 0, _, _, _ => none
  | q + 1, (a2, left3, i4), x, r => (cond (decide (i4 < (a2.length : Int))) (cond (decide (0 ≤ i4) && decide (i4 < (a2.length : Int))) ((lszMeta (((nth a2 i4).1, (nth a2 i4).2.1, (nth a2 i4).2.2.1, (nth a2 i4).2.2.2), left3)).bind fun r5 => (cond (decide (r5 < 0)) (r (-1)) (lszMetaS_L5 O q (a2, r5, (wrap .i64 (i4 + 1))) x r))) none) (x left3))
def lszMetaS : (List (Int × Int × Tx × Tx) × Int) → Option Int
  | (a0, left1) => (cond (decide ((wrap .i64 (left1 - (a0.length : Int))) < 0)) (some (-1)) (lszMetaS_L5 Int fuel (a0, (wrap .i64 (left1 - (a0.length : Int))), 0) (fun left6 => (some left6)) some))
def c_lszMetaS : Ctr := { args := [.val false (.old y2), .val false y0], rets := [(false, [(none, y0)])], F := lszMetaS }
def X_lszMetaS : Ctx := XT.withΓ (lk [(125, c_lszMeta)]) (lk [])
def L_lszMetaS_5 : LoopF c_lszMetaS.Res := ⟨⟨27, [(0, .one (.val (.old y2))), (1, .one (.val y0)), (5, .one (.val y0))], [], []⟩, [(0, ⟨27, [(1, .one (.val y0))], [], []⟩)], lszMetaS_L5⟩
def T_lszMetaS : Nat → Option (LoopF c_lszMetaS.Res) := lk [(5, L_lszMetaS_5)]
theorem s_lszMetaS_5 : StepOk X_lszMetaS H0 (c_lszMetaS.finish X_lszMetaS Tryz.f79.results.toList) T_lszMetaS (loopAt Tryz.f79 0) := ⟨L_lszMetaS_5, by kernel_rfl, fun O y x r => by kernel_rfl, fun O k y x r => by kernel_rfl⟩
theorem r_lszMetaS (a) : fnRun X_lszMetaS H0 c_lszMetaS Tryz.f79 T_lszMetaS a = lszMetaS a := by kernel_rfl
theorem h_lszMetaS [Tabs] : CtrHolds Tryz.prog 79 c_lszMetaS := fn_ok (.cons h_lszMeta Tryz.call125 .nil) .nil Tryz.func79 (by kernel_rfl) (loops1 (by kernel_rfl) s_lszMetaS_5) r_lszMetaS
def lszManifest : ((Int × Int × List (Int × Int × Tx × Tx)) × Int) → Option Int
  | ((a0, a1, a2), left3) => ((lszMetaS (a2, left3)).bind fun r4 => (cond (decide (r4 < 0)) (some (-1)) (some r4)))
def c_lszManifest : Ctr := { args := [.val true (.pair y0 (.pair y0 (.old y2))), .val false y0], rets := [(false, [(none, y0)])], F := lszManifest }
def X_lszManifest : Ctx := XT.withΓ (lk [(79, c_lszMetaS)]) (lk [])
theorem r_lszManifest (a) : fnRun X_lszManifest H0 c_lszManifest Tryz.f39 T0 a = lszManifest a := by kernel_rfl
theorem h_lszManifest [Tabs] : CtrHolds Tryz.prog 39 c_lszManifest := fn_ok (.cons h_lszMetaS Tryz.call79 .nil) .nil Tryz.func39 (by kernel_rfl) (loops0 (by kernel_rfl)) r_lszManifest
def lszStore : (((List (Int × List Int × Int) × List (Tx × Int) × List (Tx × Int) × Int) × List ((Tx × Tx × Bool) × Int) × Int × Int × List (Int × Int × Tx × Tx)) × Int) → Option Int
  | (((a0, a1, a2, a3), a4, a5, a6, a7), left8) => ((lszDisk ((a0, a1, a2, a3), left8)).bind fun r9 => (cond (decide (r9 < 0)) (some (-1)) ((lszMem (a4, r9)).bind fun r10 => (cond (decide (r10 < 0)) (some (-1)) ((lszManifest ((a5, a6, a7), r10)).bind fun r11 => (cond (decide (r11 < 0)) (some (-1)) (some r11)))))))
def c_lszStore : Ctr := { args := [.val true (.pair y8 (.pair (.old y12) (.pair y0 (.pair y0 (.old y2))))), .val false y0], rets := [(false, [(none, y0)])], F := lszStore }
def X_lszStore : Ctx := XT.withΓ (lk [(5, c_lszDisk), (38, c_lszMem), (39, c_lszManifest)]) (lk [])
theorem r_lszStore (a) : fnRun X_lszStore H0 c_lszStore Tryz.f14 T0 a = lszStore a := by kernel_rfl
theorem h_lszStore [Tabs] : CtrHolds Tryz.prog 14 c_lszStore := fn_ok (.cons h_lszDisk Tryz.call5 (.cons h_lszMem Tryz.call38 (.cons h_lszManifest Tryz.call39 .nil))) .nil Tryz.func14 (by kernel_rfl) (loops0 (by kernel_rfl)) r_lszStore
def ltoPair : (Tx × Tx × Bool) → Option (Tx × Tx × Bool)
  | (a0, a1, a2) => (some (a0, a1, a2))
def c_ltoPair : Ctr := { args := [.val true y1], rets := [(true, [(none, .str), (none, .str), (none, .bool)])], F := ltoPair }
def X_ltoPair : Ctx := XT.withΓ (lk []) (lk [])
theorem r_ltoPair (a) : fnRun X_ltoPair H0 c_ltoPair Tryz.f174 T0 a = ltoPair a := by kernel_rfl
theorem h_ltoPair [Tabs] : CtrHolds Tryz.prog 174 c_ltoPair := fn_ok .nil .nil Tryz.func174 (by kernel_rfl) (loops0 (by kernel_rfl)) r_ltoPair
def ltoNode : ((Tx × Tx × Bool) × Int) → Option (Tx × Tx × Bool × Int)
  | ((a0, a1, a2), a3) => ((ltoPair (a0, a1, a2)).bind fun (r4, r5, r6) => (some (r4, r5, r6, a3)))
def c_ltoNode : Ctr := { args := [.val true y12], rets := [(true, [(none, .str), (none, .str), (none, .bool), (none, y0)])], F := ltoNode }
def X_ltoNode : Ctx := XT.withΓ (lk [(174, c_ltoPair)]) (lk [])
theorem r_ltoNode (a) : fnRun X_ltoNode H0 c_ltoNode Tryz.f136 T0 a = ltoNode a := by kernel_rfl
theorem h_ltoNode [Tabs] : CtrHolds Tryz.prog 136 c_ltoNode := fn_ok (.cons h_ltoPair Tryz.call174 .nil) .nil Tryz.func136 (by kernel_rfl) (loops0 (by kernel_rfl)) r_ltoNode
def ltoNodeS_L3 (O : Type) : Nat → (List ((Tx × Tx × Bool) × Int) × Int × List ((Tx × Tx × Bool) × Int)) → ((List ((Tx × Tx × Bool) × Int)) → Option O) → ((List ((Tx × Tx × Bool) × Int)) → Option O) → Option O
  | 0, _, _, _ => none
  | q + 1, (a1, i2, out3), x, r => (cond (decide (i2 < (a1.length : Int))) (cond (decide (0 ≤ i2) && decide (i2 < (a1.length : Int))) ((ltoNode (((nth a1 i2).1.1, (nth a1 i2).1.2.1, (nth a1 i2).1.2.2), (nth a1 i2).2)).bind fun (r4, r5, r6, r7) => (cond (decide (0 ≤ i2) && decide (i2 < (out3.length : Int))) (ltoNodeS_L3 O q (a1, (wrap .i64 (i2 + 1)), (List.set out3 (Int.toNat i2) ((r4, r5, r6), r7))) x r) none)) none) (x out3))
def ltoNodeS : (List ((Tx × Tx × Bool) × Int)) → Option (List ((Tx × Tx × Bool) × Int))
  | a0 => (cond (decide (0 ≤ (a0.length : Int)) && (((a0.length : Int) == (a0.length : Int)) && decide ((a0.length : Int) ≤ 4294967296))) (ltoNodeS_L3 (List ((List UInt8 × List UInt8 × Bool) × Int)) fuel (a0, 0, (List.replicate (Int.toNat (a0.length : Int)) (([], [], false), 0))) (fun out8 => (some out8)) some) none)
def c_ltoNodeS : Ctr := { args := [.val false (.old y12)], rets := [(false, [(some 141, y6)])], F := ltoNodeS }
def X_ltoNodeS : Ctx := XT.withΓ (lk [(136, c_ltoNode)]) (lk [])
def L_ltoNodeS_3 : LoopF c_ltoNodeS.Res := ⟨⟨23, [(0, .one (.val (.old y12))), (3, .one (.own 0)), (4, .one (.val y0))], [.arr 141 y12], []⟩, [(0, ⟨23, [(3, .one (.own 0))], [.arr 141 y12], []⟩)], ltoNodeS_L3⟩
def T_ltoNodeS : Nat → Option (LoopF c_ltoNodeS.Res) := lk [(3, L_ltoNodeS_3)]
theorem s_ltoNodeS_3 : StepOk X_ltoNodeS H0 (c_ltoNodeS.finish X_ltoNodeS Tryz.f92.results.toList) T_ltoNodeS (loopAt Tryz.f92 0) := ⟨L_ltoNodeS_3, by kernel_rfl, fun O y x r => by kernel_rfl, fun O k y x r => by kernel_rfl⟩
theorem r_ltoNodeS (a) : fnRun X_ltoNodeS H0 c_ltoNodeS Tryz.f92 T_ltoNodeS a = ltoNodeS a := by kernel_rfl
theorem h_ltoNodeS [Tabs] : CtrHolds Tryz.prog 92 c_ltoNodeS := fn_ok (.cons h_ltoNode Tryz.call136 .nil) .nil Tryz.func92 (by kernel_rfl) (loops1 (by kernel_rfl) s_ltoNodeS_3) r_ltoNodeS
def ltoMem : (List ((Tx × Tx × Bool) × Int)) → Option (List ((Tx × Tx × Bool) × Int))
  | a0 => ((ltoNodeS a0).bind fun r1 => (some r1))
def c_ltoMem : Ctr := { args := [.val true (.old y12)], rets := [(true, [(some 141, y6)])], F := ltoMem }
def X_ltoMem : Ctx := XT.withΓ (lk [(92, c_ltoNodeS)]) (lk [])
theorem r_ltoMem (a) : fnRun X_ltoMem H0 c_ltoMem Tryz.f43 T0 a = ltoMem a := by kernel_rfl
theorem h_ltoMem [Tabs] : CtrHolds Tryz.prog 43 c_ltoMem := fn_ok (.cons h_ltoNodeS Tryz.call92 .nil) .nil Tryz.func43 (by kernel_rfl) (loops0 (by kernel_rfl)) r_ltoMem
def ltoMeta : (Int × Int × Tx × Tx) → Option (Int × Int × Tx × Tx)
  | (a0, a1, a2, a3) => (some (a0, a1, a2, a3))
def c_ltoMeta : Ctr := { args := [.val true y2], rets := [(true, [(none, y0), (none, y0), (none, .str), (none, .str)])], F := ltoMeta }
def X_ltoMeta : Ctx := XT.withΓ (lk []) (lk [])
theorem r_ltoMeta (a) : fnRun X_ltoMeta H0 c_ltoMeta Tryz.f137 T0 a = ltoMeta a := by kernel_rfl
theorem h_ltoMeta [Tabs] : CtrHolds Tryz.prog 137 c_ltoMeta := fn_ok .nil .nil Tryz.func137 (by kernel_rfl) (loops0 (by kernel_rfl)) r_ltoMeta
def ltoMetaS_L3 (O : Type) : Nat → (List (Int × Int × Tx × Tx) × Int × List (Int × Int × Tx × Tx)) → ((List (Int × Int × Tx × Tx)) → Option O) → ((List (Int × Int × Tx × Tx)) → Option O) → Option O
  | 0, _, _, _ => none
  | q + 1, (a1, i2, out3), x, r => (cond (decide (i2 < (a1.length : Int))) (cond (decide (0 ≤ i2) && decide (i2 < (a1.length : Int))) ((ltoMeta ((nth a1 i2).1, (nth a1 i2).2.1, (nth a1 i2).2.2.1, (nth a1 i2).2.2.2)).bind fun (r4, r5, r6, r7) => (cond (decide (0 ≤ i2) && decide (i2 < (out3.length : Int))) (ltoMetaS_L3 O q (a1, (wrap .i64 (i2 + 1)), (List.set out3 (Int.toNat i2) (r4, r5, r6, r7))) x r) none)) none) (x out3))
def ltoMetaS : (List (Int × Int × Tx × Tx)) → Option (List (Int × Int × Tx × Tx))
  | a0 => (cond (decide (0 ≤ (a0.length : Int)) && (((a0.length : Int) == (a0.length : Int)) && decide ((a0.length : Int) ≤ 4294967296))) (ltoMetaS_L3 (List (Int × Int × List UInt8 × List UInt8)) fuel (a0, 0, (List.replicate (Int.toNat (a0.length : Int)) (0, 0, [], []))) (fun out8 => (some out8)) some) none)
def c_ltoMetaS : Ctr := { args := [.val false (.old y2)], rets := [(false, [(some 88, (.sl y2))])], F := ltoMetaS }
def X_ltoMetaS : Ctx := XT.withΓ (lk [(137, c_ltoMeta)]) (lk [])
def L_ltoMetaS_3 : LoopF c_ltoMetaS.Res := ⟨⟨23, [(0, .one (.val (.old y2))), (3, .one (.own 0)), (4, .one (.val y0))], [.arr 88 y2], []⟩, [(0, ⟨23, [(3, .one (.own 0))], [.arr 88 y2], []⟩)], ltoMetaS_L3⟩
def T_ltoMetaS : Nat → Option (LoopF c_ltoMetaS.Res) := lk [(3, L_ltoMetaS_3)]
theorem s_ltoMetaS_3 : StepOk X_ltoMetaS H0 (c_ltoMetaS.finish X_ltoMetaS Tryz.f93.results.toList) T_ltoMetaS (loopAt Tryz.f93 0) := ⟨L_ltoMetaS_3, by kernel_rfl, fun O y x r => by kernel_rfl, fun O k y x r => by kernel_rfl⟩
theorem r_ltoMetaS (a) : fnRun X_ltoMetaS H0 c_ltoMetaS Tryz.f93 T_ltoMetaS a = ltoMetaS a := by kernel_rfl
theorem h_ltoMetaS [Tabs] : CtrHolds Tryz.prog 93 c_ltoMetaS := fn_ok (.cons h_ltoMeta Tryz.call137 .nil) .nil Tryz.func93 (by kernel_rfl) (loops1 (by kernel_rfl) s_ltoMetaS_3) r_ltoMetaS
def ltoManifest : (Int × Int × List (Int × Int × Tx × Tx)) → Option (Int × Int × List (Int × Int × Tx × Tx))
  | (a0, a1, a2) => ((ltoMetaS a2).bind fun r3 => (some (a0, a1, r3)))
def c_ltoManifest : Ctr := { args := [.val true (.pair y0 (.pair y0 (.old y2)))], rets := [(true, [(none, y0), (none, y0), (some 88, (.sl y2))])], F := ltoManifest }
def X_ltoManifest : Ctx := XT.withΓ (lk [(93, c_ltoMetaS)]) (lk [])
theorem r_ltoManifest (a) : fnRun X_ltoManifest H0 c_ltoManifest Tryz.f44 T0 a = ltoManifest a := by kernel_rfl
theorem h_ltoManifest [Tabs] : CtrHolds Tryz.prog 44 c_ltoManifest := fn_ok (.cons h_ltoMetaS Tryz.call93 .nil) .nil Tryz.func44 (by kernel_rfl) (loops0 (by kernel_rfl)) r_ltoManifest
def ltoStore : ((List (Int × List Int × Int) × List (Tx × Int) × List (Tx × Int) × Int) × List ((Tx × Tx × Bool) × Int) × Int × Int × List (Int × Int × Tx × Tx)) → Option (List (Int × List Int × Int) × List (Tx × Int) × List (Tx × Int) × Int × List ((Tx × Tx × Bool) × Int) × Int × Int × List (Int × Int × Tx × Tx))
  | ((a0, a1, a2, a3), a4, a5, a6, a7) => ((ltoDisk (a0, a1, a2, a3)).bind fun (r8, r9, r10, r11) => ((ltoMem a4).bind fun r12 => ((ltoManifest (a5, a6, a7)).bind fun (r13, r14, r15) => (some (r8, r9, r10, r11, r12, r13, r14, r15)))))
def c_ltoStore : Ctr := { args := [.val true (.pair y8 (.pair (.old y12) (.pair y0 (.pair y0 (.old y2)))))], rets := [(true, [(some 106, y7), (some 104, y5), (some 104, y5), (none, y0), (some 141, y6), (none, y0), (none, y0), (some 88, (.sl y2))])], F := ltoStore }
def X_ltoStore : Ctx := XT.withΓ (lk [(7, c_ltoDisk), (43, c_ltoMem), (44, c_ltoManifest)]) (lk [])
theorem r_ltoStore (a) : fnRun X_ltoStore H0 c_ltoStore Tryz.f16 T0 a = ltoStore a := by kernel_rfl
theorem h_ltoStore [Tabs] : CtrHolds Tryz.prog 16 c_ltoStore := fn_ok (.cons h_ltoDisk Tryz.call7 (.cons h_ltoMem Tryz.call43 (.cons h_ltoManifest Tryz.call44 .nil))) .nil Tryz.func16 (by kernel_rfl) (loops0 (by kernel_rfl)) r_ltoStore
def sPairOk : (Tx × Tx × Bool) → Option Bool
  | (p0, p1, p2) => ((sl1In ((p0.length : Int), 1, 20)).bind fun r3 => (cond r3 (cond (decide ((p1.length : Int) ≤ 20)) (cond (!p2) (some true) (some (p1 == []))) (some false)) (some false)))
def c_sPairOk : Ctr := { args := [.val true y1], rets := [(false, [(none, .bool)])], F := sPairOk }
def X_sPairOk : Ctx := XT.withΓ (lk [(108, c_sl1In)]) (lk [])
theorem r_sPairOk (a) : fnRun X_sPairOk H0 c_sPairOk Tryz.f128 T0 a = sPairOk a := by kernel_rfl
theorem h_sPairOk [Tabs] : CtrHolds Tryz.prog 128 c_sPairOk := fn_ok (.cons h_sl1In Tryz.call108 .nil) .nil Tryz.func128 (by kernel_rfl) (loops0 (by kernel_rfl)) r_sPairOk
def sMemOk_L2 (O : Type) : Nat → (Int × List ((Tx × Tx × Bool) × Int)) → ((List ((Tx × Tx × Bool) × Int)) → Option O) → (Bool → Option O) → Option O
  | 0, _, _, _ => none
  | q + 1, (i1, m2), x, r => (cond (decide (i1 < (m2.length : Int))) (cond (decide (0 ≤ i1) && decide (i1 < (m2.length : Int))) ((sPairOk ((nth m2 i1).1.1, (nth m2 i1).1.2.1, (nth m2 i1).1.2.2)).bind fun r3 => (cond (!r3) (r false) ((sl1In ((nth m2 i1).2, 1, 4)).bind fun r4 => (cond (!r4) (r false) (cond (decide (i1 > 0)) (cond (decide (0 ≤ (wrap .i64 (i1 - 1))) && decide ((wrap .i64 (i1 - 1)) < (m2.length : Int))) (cond (!(Op.bytesLess (nth m2 (wrap .i64 (i1 - 1))).1.1 (nth m2 i1).1.1)) (r false) (sMemOk_L2 O q ((wrap .i64 (i1 + 1)), m2) x r)) none) (sMemOk_L2 O q ((wrap .i64 (i1 + 1)), m2) x r)))))) none) (x m2))
def sMemOk : (List ((Tx × Tx × Bool) × Int)) → Option Bool
  | m0 => (sMemOk_L2 Bool fuel (0, m0) (fun m5 => (some (decide ((m5.length : Int) ≤ 60)))) some)
def c_sMemOk : Ctr := { args := [.val true y6], rets := [(false, [(none, .bool)])], F := sMemOk }
def X_sMemOk : Ctx := XT.withΓ (lk [(128, c_sPairOk), (108, c_sl1In)]) (lk [])
def L_sMemOk_2 : LoopF c_sMemOk.Res := ⟨⟨49, [(1, .one (.ptr 0 0)), (3, .one (.val y0))], [.vars 55 [.val y6]], []⟩, [(0, ⟨49, [(1, .one (.ptr 0 0))], [.vars 55 [.val y6]], []⟩)], sMemOk_L2⟩
def T_sMemOk : Nat → Option (LoopF c_sMemOk.Res) := lk [(2, L_sMemOk_2)]
theorem s_sMemOk_2 : StepOk X_sMemOk H0 (c_sMemOk.finish X_sMemOk Tryz.f81.results.toList) T_sMemOk (loopAt Tryz.f81 0) := ⟨L_sMemOk_2, by kernel_rfl, fun O y x r => by kernel_rfl, fun O k y x r => by kernel_rfl⟩
theorem r_sMemOk (a) : fnRun X_sMemOk H0 c_sMemOk Tryz.f81 T_sMemOk a = sMemOk a := by kernel_rfl
theorem h_sMemOk [Tabs] : CtrHolds Tryz.prog 81 c_sMemOk := fn_ok (.cons h_sPairOk Tryz.call128 (.cons h_sl1In Tryz.call108 .nil)) .nil Tryz.func81 (by kernel_rfl) (loops1 (by kernel_rfl) s_sMemOk_2) r_sMemOk
def sl7Log : Int → Option (Tx)
  | n0 => ((sl6Text n0).bind fun r1 => (cond (decide ((4 + r1.length) ≤ lenBound)) (some ([108, 111, 103, 45] ++ r1)) none))
def c_sl7Log : Ctr := { args := [.val false y0], rets := [(false, [(none, .str)])], F := sl7Log }
def X_sl7Log : Ctx := XT.withΓ (lk [(111, c_sl6Text)]) (lk [])
theorem r_sl7Log (a) : fnRun X_sl7Log H0 c_sl7Log Tryz.f82 T0 a = sl7Log a := by kernel_rfl
theorem h_sl7Log [Tabs] : CtrHolds Tryz.prog 82 c_sl7Log := fn_ok (.cons h_sl6Text Tryz.call111 .nil) .nil Tryz.func82 (by kernel_rfl) (loops0 (by kernel_rfl)) r_sl7Log
def sl1FourAt : (List Int × Int) → Option (Int × Bool)
  | (b0, at1) => (cond (decide (at1 < 0)) (some (0, false)) (cond (decide (at1 > (wrap .i64 ((b0.length : Int) - 4)))) (some (0, false)) (cond (decide (0 ≤ at1) && decide (at1 < (b0.length : Int))) (cond (decide (0 ≤ (wrap .i64 (at1 + 1))) && decide ((wrap .i64 (at1 + 1)) < (b0.length : Int))) (cond (decide (0 ≤ (wrap .i64 (at1 + 2))) && decide ((wrap .i64 (at1 + 2)) < (b0.length : Int))) (cond (decide (0 ≤ (wrap .i64 (at1 + 3))) && decide ((wrap .i64 (at1 + 3)) < (b0.length : Int))) (some ((bits .or .i64 (bits .or .i64 (bits .or .i64 (wrap .i64 ((wrap .i64 (nth b0 at1)) * 16777216)) (wrap .i64 ((wrap .i64 (nth b0 (wrap .i64 (at1 + 1)))) * 65536))) (wrap .i64 ((wrap .i64 (nth b0 (wrap .i64 (at1 + 2)))) * 256))) (wrap .i64 (nth b0 (wrap .i64 (at1 + 3))))), true)) none) none) none) none)))
def c_sl1FourAt : Ctr := { args := [.val false y4, .val false y0], rets := [(false, [(none, y0)]), (false, [(none, .bool)])], F := sl1FourAt }
def X_sl1FourAt : Ctx := XT.withΓ (lk []) (lk [])
theorem r_sl1FourAt (a) : fnRun X_sl1FourAt H0 c_sl1FourAt Tryz.f163 T0 a = sl1FourAt a := by kernel_rfl
theorem h_sl1FourAt [Tabs] : CtrHolds Tryz.prog 163 c_sl1FourAt := fn_ok .nil .nil Tryz.func163 (by kernel_rfl) (loops0 (by kernel_rfl)) r_sl1FourAt
def sGetNum_L3 (O : Type) : Nat → (List Int × Int × Int × Int) → (Unit → Option O) → ((Int × Int × Bool) → Option O) → Option O
  | 0, _, _, _ => none
  | q + 1, (b2, at3, n4, k5), x, r => (cond (decide (k5 < 5)) (cond (decide (at3 ≥ 0)) (cond (decide (at3 < (b2.length : Int))) (cond (decide ((wrap .i64 (at3 + k5)) < (b2.length : Int))) (cond (decide (0 ≤ (wrap .i64 (at3 + k5))) && decide ((wrap .i64 (at3 + k5)) < (b2.length : Int))) (((cond (k5 == 0) (cond ((wrap .i64 (nth b2 (wrap .i64 (at3 + k5)))) == 128) ((r (0, 0, false)).map Sum.inr) (some (Sum.inl (b2, at3, n4, k5, (wrap .i64 (nth b2 (wrap .i64 (at3 + k5)))), at3, decide (at3 ≥ 0), at3, b2, (b2.length : Int), decide (at3 < (b2.length : Int)), at3, k5, (wrap .i64 (at3 + k5)), b2, (b2.length : Int), decide ((wrap .i64 (at3 + k5)) < (b2.length : Int)))))) (some (Sum.inl (b2, at3, n4, k5, (wrap .i64 (nth b2 (wrap .i64 (at3 + k5)))), at3, decide (at3 ≥ 0), at3, b2, (b2.length : Int), decide (at3 < (b2.length : Int)), at3, k5, (wrap .i64 (at3 + k5)), b2, (b2.length : Int), decide ((wrap .i64 (at3 + k5)) < (b2.length : Int)))))) : Option ((List Int × Int × Int × Int × Int × Int × Bool × Int × List Int × Int × Bool × Int × Int × Int × List Int × Int × Bool) ⊕ O)).bind fun z => match z with | .inl (b6, at7, n8, k9, c10, v11, v12, v13, v14, v15, v16, v17, v18, v19, v20, v21, v22) => (cond (decide (c10 < 128)) (cond (decide ((bits .or .i64 (wrap .i64 (n8 * 128)) (bits .and .i64 c10 127)) > 1000000000)) (r (0, 0, false)) (r ((bits .or .i64 (wrap .i64 (n8 * 128)) (bits .and .i64 c10 127)), (wrap .i64 ((wrap .i64 (at7 + k9)) + 1)), true))) (sGetNum_L3 O q (b6, at7, (bits .or .i64 (wrap .i64 (n8 * 128)) (bits .and .i64 c10 127)), (wrap .i64 (k9 + 1))) x r)) | .inr o => some o) none) (x ())) (x ())) (x ())) (x ()))
def sGetNum : (List Int × Int) → Option (Int × Int × Bool)
  | (b0, at1) => (sGetNum_L3 (Int × Int × Bool) fuel (b0, at1, 0, 0) (fun _ => (some (0, 0, false))) some)
def c_sGetNum : Ctr := { args := [.val false y4, .val false y0], rets := [(false, [(none, y0)]), (false, [(none, y0)]), (false, [(none, .bool)])], F := sGetNum }
def X_sGetNum : Ctx := XT.withΓ (lk []) (lk [])
def H_sGetNum : Hints := ⟨lk [], lk [(8, ⟨59, [(0, .one (.val y4)), (1, .one (.val y0)), (7, .one (.val y0)), (8, .one (.val y0)), (9, .one (.val y0)), (13, .one (.val y0)), (14, .one (.val .bool)), (17, .one (.val y0)), (18, .one (.val y4)), (19, .one (.val y0)), (20, .one (.val .bool)), (23, .one (.val y0)), (24, .one (.val y0)), (25, .one (.val y0)), (26, .one (.val y4)), (27, .one (.val y0)), (28, .one (.val .bool))], [], []⟩)], lk []⟩
def L_sGetNum_3 : LoopF c_sGetNum.Res := ⟨⟨59, [(0, .one (.val y4)), (1, .one (.val y0)), (7, .one (.val y0)), (8, .one (.val y0))], [], []⟩, [(0, ⟨59, [], [], []⟩)], sGetNum_L3⟩
def T_sGetNum : Nat → Option (LoopF c_sGetNum.Res) := lk [(3, L_sGetNum_3)]
theorem s_sGetNum_3 : StepOk X_sGetNum H_sGetNum (c_sGetNum.finish X_sGetNum Tryz.f164.results.toList) T_sGetNum (loopAt Tryz.f164 0) := ⟨L_sGetNum_3, by kernel_rfl, fun O y x r => by kernel_rfl, fun O k y x r => by kernel_rfl⟩
theorem r_sGetNum (a) : fnRun X_sGetNum H_sGetNum c_sGetNum Tryz.f164 T_sGetNum a = sGetNum a := by kernel_rfl
theorem h_sGetNum [Tabs] : CtrHolds Tryz.prog 164 c_sGetNum := fn_ok .nil .nil Tryz.func164 (by kernel_rfl) (loops1 (by kernel_rfl) s_sGetNum_3) r_sGetNum
def sSum_L7 (O : Type) : Nat → (List Int × Int × Int × Int) → ((List Int × Int × Int) → Option O) → (Int → Option O) → Option O
  | 0, _, _, _ => none
  | q + 1, (b4, x5, i6, k7), x, r => (cond (decide (k7 < 8)) (cond ((bits .and .i64 x5 1) == 1) (sSum_L7 O q (b4, (bits .xor .i64 (Int.fdiv x5 2) 2197175160), i6, (wrap .i64 (k7 + 1))) x r) (sSum_L7 O q (b4, (Int.fdiv x5 2), i6, (wrap .i64 (k7 + 1))) x r)) (x (b4, x5, i6)))
def sSum_L3 (O : Type) : Nat → (List Int × Int × Int) → (Int → Option O) → (Int → Option O) → Option O
  | 0, _, _, _ => none
  | q + 1, (b1, x2, i3), x, r => (cond (decide (i3 < (b1.length : Int))) (cond (decide (0 ≤ i3) && decide (i3 < (b1.length : Int))) (sSum_L7 O fuel (b1, (bits .xor .i64 x2 (wrap .i64 (nth b1 i3))), i3, 0) (fun (b8, x9, i10) => (sSum_L3 O q (b8, x9, (wrap .i64 (i10 + 1))) x r)) r) none) (x x2))
def sSum : (List Int) → Option Int
  | b0 => (sSum_L3 Int fuel (b0, 4294967295, 0) (fun x11 => (some (bits .xor .i64 x11 4294967295))) some)
def c_sSum : Ctr := { args := [.val false y4], rets := [(false, [(none, y0)])], F := sSum }
def X_sSum : Ctx := XT.withΓ (lk []) (lk [])
def L_sSum_3 : LoopF c_sSum.Res := ⟨⟨34, [(0, .one (.val y4)), (3, .one (.val y0)), (4, .one (.val y0))], [], []⟩, [(0, ⟨34, [(3, .one (.val y0))], [], []⟩)], sSum_L3⟩
def L_sSum_7 : LoopF c_sSum.Res := ⟨⟨34, [(0, .one (.val y4)), (3, .one (.val y0)), (4, .one (.val y0)), (5, .one (.val y0))], [], []⟩, [(2, ⟨34, [(0, .one (.val y4)), (3, .one (.val y0)), (4, .one (.val y0))], [], []⟩)], sSum_L7⟩
def T_sSum : Nat → Option (LoopF c_sSum.Res) := lk [(3, L_sSum_3), (7, L_sSum_7)]
theorem s_sSum_3 : StepOk X_sSum H0 (c_sSum.finish X_sSum Tryz.f165.results.toList) T_sSum (loopAt Tryz.f165 0) := ⟨L_sSum_3, by kernel_rfl, fun O y x r => by kernel_rfl, fun O k y x r => by kernel_rfl⟩
theorem s_sSum_7 : StepOk X_sSum H0 (c_sSum.finish X_sSum Tryz.f165.results.toList) T_sSum (loopAt Tryz.f165 1) := ⟨L_sSum_7, by kernel_rfl, fun O y x r => by kernel_rfl, fun O k y x r => by kernel_rfl⟩
theorem r_sSum (a) : fnRun X_sSum H0 c_sSum Tryz.f165 T_sSum a = sSum a := by kernel_rfl
theorem h_sSum [Tabs] : CtrHolds Tryz.prog 165 c_sSum := fn_ok .nil .nil Tryz.func165 (by kernel_rfl) (loops2 (by kernel_rfl) s_sSum_3 s_sSum_7) r_sSum
def sUnframe : (List Int × Int) → Option (List Int × Int × Bool)
  | (b0, at1) => ((sl1FourAt (b0, at1)).bind fun (r2, r3) => (cond (!r3) (some ([], at1, false)) ((sGetNum (b0, (wrap .i64 (at1 + 4)))).bind fun (r4, r5, r6) => (cond (!r6) (some ([], at1, false)) (cond (decide (r4 > (wrap .i64 ((b0.length : Int) - r5)))) (some ([], at1, false)) (cond (decide (0 ≤ r5) && (decide (r5 ≤ (wrap .i64 (r5 + r4))) && decide ((wrap .i64 (r5 + r4)) ≤ (b0.length : Int)))) (cond (decide ((0 + (cut b0 r5 (wrap .i64 (r5 + r4))).length) ≤ lenBound)) ((sSum ([] ++ (cut b0 r5 (wrap .i64 (r5 + r4))))).bind fun r7 => (cond (r7 != r2) (some ([], at1, false)) (some (([] ++ (cut b0 r5 (wrap .i64 (r5 + r4)))), (wrap .i64 (r5 + r4)), true)))) none) none))))))
def c_sUnframe : Ctr := { args := [.val false y4, .val false y0], rets := [(false, [(none, y4)]), (false, [(none, y0)]), (false, [(none, .bool)])], F := sUnframe }
def X_sUnframe : Ctx := XT.withΓ (lk [(163, c_sl1FourAt), (164, c_sGetNum), (165, c_sSum)]) (lk [])
theorem r_sUnframe (a) : fnRun X_sUnframe H0 c_sUnframe Tryz.f129 T0 a = sUnframe a := by kernel_rfl
theorem h_sUnframe [Tabs] : CtrHolds Tryz.prog 129 c_sUnframe := fn_ok (.cons h_sl1FourAt Tryz.call163 (.cons h_sGetNum Tryz.call164 (.cons h_sSum Tryz.call165 .nil))) .nil Tryz.func129 (by kernel_rfl) (loops0 (by kernel_rfl)) r_sUnframe
def sRecords_L3 (O : Type) : Nat → (List Int × Int × List (List Int)) → (Empty → Option O) → ((List (List Int) × Int) → Option O) → Option O
  | 0, _, _, _ => none
  | q + 1, (b1, at2, out3), x, r => ((sUnframe (b1, at2)).bind fun (r4, r5, r6) => (cond (!r6) (r (out3, at2)) (cond (decide ((out3.length + [r4].length) ≤ lenBound)) (sRecords_L3 O q (b1, r5, (out3 ++ [r4])) x r) none)))
def sRecords : (List Int) → Option (List (List Int) × Int)
  | b0 => (sRecords_L3 (List (List Int) × Int) fuel (b0, 0, []) (fun z => z.elim) some)
def c_sRecords : Ctr := { args := [.val false y4], rets := [(false, [(some 66, (.sl y4))]), (false, [(none, y0)])], F := sRecords }
def X_sRecords : Ctx := XT.withΓ (lk [(129, c_sUnframe)]) (lk [])
def L_sRecords_3 : LoopF c_sRecords.Res := ⟨⟨26, [(0, .one (.val y4)), (4, .one (.own 0)), (5, .one (.val y0))], [.arr 66 y4], []⟩, [], sRecords_L3⟩
def T_sRecords : Nat → Option (LoopF c_sRecords.Res) := lk [(3, L_sRecords_3)]
theorem s_sRecords_3 : StepOk X_sRecords H0 (c_sRecords.finish X_sRecords Tryz.f83.results.toList) T_sRecords (loopAt Tryz.f83 0) := ⟨L_sRecords_3, by kernel_rfl, fun O y x r => by kernel_rfl, fun O k y x r => by kernel_rfl⟩
theorem r_sRecords (a) : fnRun X_sRecords H0 c_sRecords Tryz.f83 T_sRecords a = sRecords a := by kernel_rfl
theorem h_sRecords [Tabs] : CtrHolds Tryz.prog 83 c_sRecords := fn_ok (.cons h_sUnframe Tryz.call129 .nil) .nil Tryz.func83 (by kernel_rfl) (loops1 (by kernel_rfl) s_sRecords_3) r_sRecords
def sGetText : (List Int × Int) → Option (Tx × Int × Bool)
  | (b0, at1) => ((sGetNum (b0, at1)).bind fun (r2, r3, r4) => (cond (!r4) (some ([], 0, false)) (cond (decide (r2 > (wrap .i64 ((b0.length : Int) - r3)))) (some ([], 0, false)) (cond (decide (0 ≤ r3) && (decide (r3 ≤ (wrap .i64 (r3 + r2))) && decide ((wrap .i64 (r3 + r2)) ≤ (b0.length : Int)))) (some ((strOf (cut b0 r3 (wrap .i64 (r3 + r2)))), (wrap .i64 (r3 + r2)), true)) none))))
def c_sGetText : Ctr := { args := [.val false y4, .val false y0], rets := [(false, [(none, .str)]), (false, [(none, y0)]), (false, [(none, .bool)])], F := sGetText }
def X_sGetText : Ctx := XT.withΓ (lk [(164, c_sGetNum)]) (lk [])
theorem r_sGetText (a) : fnRun X_sGetText H0 c_sGetText Tryz.f166 T0 a = sGetText a := by kernel_rfl
theorem h_sGetText [Tabs] : CtrHolds Tryz.prog 166 c_sGetText := fn_ok (.cons h_sGetNum Tryz.call164 .nil) .nil Tryz.func166 (by kernel_rfl) (loops0 (by kernel_rfl)) r_sGetText
def sl7Read : (List Int) → Option ((Tx × Tx × Bool) × Int × Bool)
  | b0 => ((sGetText (b0, 0)).bind fun (r1, r2, r3) => (cond (!r3) (some (([], [], false), 0, false)) (cond (decide (r2 ≥ (b0.length : Int))) (some (([], [], false), 0, false)) (cond (decide (0 ≤ r2) && decide (r2 < (b0.length : Int))) (cond (decide ((nth b0 r2) > 1)) (some (([], [], false), 0, false)) ((sGetText (b0, (wrap .i64 (r2 + 1)))).bind fun (r4, r5, r6) => (cond (decide (0 ≤ r2) && decide (r2 < (b0.length : Int))) (cond (!r6) (some (([], [], false), 0, false)) (cond (r5 != (wrap .i64 ((b0.length : Int) - 1))) (some (([], [], false), 0, false)) ((sPairOk (r1, r4, ((nth b0 r2) == 1))).bind fun r7 => (cond (!r7) (some (([], [], false), 0, false)) (cond (decide (0 ≤ r5) && decide (r5 < (b0.length : Int))) ((sl1In ((wrap .i64 (nth b0 r5)), 1, 4)).bind fun r8 => (cond (!r8) (some (([], [], false), 0, false)) (cond (decide (0 ≤ r5) && decide (r5 < (b0.length : Int))) (some ((r1, r4, ((nth b0 r2) == 1)), (wrap .i64 (nth b0 r5)), true)) none))) none))))) none))) none))))
def c_sl7Read : Ctr := { args := [.val false y4], rets := [(true, [(none, .str), (none, .str), (none, .bool)]), (false, [(none, y0)]), (false, [(none, .bool)])], F := sl7Read }
def X_sl7Read : Ctx := XT.withΓ (lk [(166, c_sGetText), (128, c_sPairOk), (108, c_sl1In)]) (lk [])
def H_sl7Read : Hints := ⟨lk [], lk [], lk [(8, [0, 6, 1, 2, 3, 4, 5, 7, 8])]⟩
theorem r_sl7Read (a) : fnRun X_sl7Read H_sl7Read c_sl7Read Tryz.f130 T0 a = sl7Read a := by kernel_rfl
theorem h_sl7Read [Tabs] : CtrHolds Tryz.prog 130 c_sl7Read := fn_ok (.cons h_sGetText Tryz.call166 (.cons h_sPairOk Tryz.call128 (.cons h_sl1In Tryz.call108 .nil))) .nil Tryz.func130 (by kernel_rfl) (loops0 (by kernel_rfl)) r_sl7Read
def sMemPut_L5 (O : Type) : Nat → (Int × Int × Tx × Tx × Bool × List ((Tx × Tx × Bool) × Int)) → ((Int × Int × Tx × Tx × Bool × List ((Tx × Tx × Bool) × Int)) → Option O) → ((List ((Tx × Tx × Bool) × Int) × Bool) → Option O) → Option O
  | 0, _, _, _ => none
  | q + 1, (tower8, k9, p10, p11, p12, out13), x, r => (cond (decide (k9 < (out13.length : Int))) (cond (decide (0 ≤ k9) && decide (k9 < (out13.length : Int))) (cond (Op.bytesLess (nth out13 k9).1.1 p10) (sMemPut_L5 O q (tower8, (wrap .i64 (k9 + 1)), p10, p11, p12, out13) x r) (x (tower8, k9, p10, p11, p12, out13))) none) (x (tower8, k9, p10, p11, p12, out13)))
def sMemPut : (List ((Tx × Tx × Bool) × Int) × (Tx × Tx × Bool) × Int) → Option (List ((Tx × Tx × Bool) × Int) × Bool)
  | (m0, (p1, p2, p3), tower4) => (cond (decide ((0 + m0.length) ≤ lenBound)) ((sMemOk m0).bind fun r5 => (cond (!r5) (some (([] ++ m0), false)) ((sPairOk (p1, p2, p3)).bind fun r6 => (cond (!r6) (some (([] ++ m0), false)) ((sl1In (tower4, 1, 4)).bind fun r7 => (cond (!r7) (some (([] ++ m0), false)) (sMemPut_L5 (List ((List UInt8 × List UInt8 × Bool) × Int) × Bool) fuel (tower4, 0, p1, p2, p3, ([] ++ m0)) (fun (tower14, k15, p16, p17, p18, out19) => ((cond (decide (k15 < (out19.length : Int))) (cond (decide (0 ≤ k15) && decide (k15 < (out19.length : Int))) (some (tower14, k15, ((nth out19 k15).1.1 == p16), p16, p17, p18, out19)) none) (some (tower14, k15, false, p16, p17, p18, out19))).bind fun (tower20, k21, v22, p23, p24, p25, out26) => (cond v22 (cond (decide (0 ≤ k21) && decide (k21 < (out26.length : Int))) (some ((List.set out26 (Int.toNat k21) ((p23, p24, p25), (nth out26 k21).2)), true)) none) (cond ((out26.length : Int) == 60) (some (out26, false)) (cond (decide (0 ≤ k21) && decide (k21 ≤ (out26.length : Int))) (cond (decide ((0 + (cut out26 0 k21).length) ≤ lenBound)) (cond (decide ((([] ++ (cut out26 0 k21)).length + [((p23, p24, p25), tower20)].length) ≤ lenBound)) (cond (decide (0 ≤ k21) && (decide (k21 ≤ (out26.length : Int)) && decide ((out26.length : Int) ≤ (out26.length : Int)))) (cond (decide (((([] ++ (cut out26 0 k21)) ++ [((p23, p24, p25), tower20)]).length + (cut out26 k21 (out26.length : Int)).length) ≤ lenBound)) (some (((([] ++ (cut out26 0 k21)) ++ [((p23, p24, p25), tower20)]) ++ (cut out26 k21 (out26.length : Int))), true)) none) none) none) none) none))))) some))))))) none)
def c_sMemPut : Ctr := { args := [.val true y6, .val true y1, .val false y0], rets := [(true, [(some 141, y6)]), (false, [(none, .bool)])], F := sMemPut }
def X_sMemPut : Ctx := XT.withΓ (lk [(81, c_sMemOk), (128, c_sPairOk), (108, c_sl1In)]) (lk [])
def H_sMemPut : Hints := ⟨lk [(8, ⟨97, [(2, .one (.val y0)), (4, .one (.ptr 0 0)), (6, .one (.ptr 1 0)), (8, .one (.ptr 2 0)), (9, .one (.val y0)), (65, .one (.val .bool))], [.vars 93 [.val .str, .val .str, .val .bool], .vars 55 [.nils], .vars 55 [.own 3], .arr 141 y12], []⟩)], lk [], lk []⟩
def L_sMemPut_5 : LoopF c_sMemPut.Res := ⟨⟨97, [(2, .one (.val y0)), (4, .one (.ptr 0 0)), (6, .one (.ptr 1 0)), (8, .one (.ptr 2 0)), (9, .one (.val y0))], [.vars 93 [.val .str, .val .str, .val .bool], .vars 55 [.nils], .vars 55 [.own 3], .arr 141 y12], []⟩, [(0, ⟨97, [(2, .one (.val y0)), (4, .one (.ptr 0 0)), (6, .one (.ptr 1 0)), (8, .one (.ptr 2 0)), (9, .one (.val y0))], [.vars 93 [.val .str, .val .str, .val .bool], .vars 55 [.nils], .vars 55 [.own 3], .arr 141 y12], []⟩)], sMemPut_L5⟩
def T_sMemPut : Nat → Option (LoopF c_sMemPut.Res) := lk [(5, L_sMemPut_5)]
theorem s_sMemPut_5 : StepOk X_sMemPut H_sMemPut (c_sMemPut.finish X_sMemPut Tryz.f131.results.toList) T_sMemPut (loopAt Tryz.f131 0) := ⟨L_sMemPut_5, by kernel_rfl, fun O y x r => by kernel_rfl, fun O k y x r => by kernel_rfl⟩
theorem r_sMemPut (a) : fnRun X_sMemPut H_sMemPut c_sMemPut Tryz.f131 T_sMemPut a = sMemPut a := by kernel_rfl
theorem h_sMemPut [Tabs] : CtrHolds Tryz.prog 131 c_sMemPut := fn_ok (.cons h_sMemOk Tryz.call81 (.cons h_sPairOk Tryz.call128 (.cons h_sl1In Tryz.call108 .nil))) .nil Tryz.func131 (by kernel_rfl) (loops1 (by kernel_rfl) s_sMemPut_5) r_sMemPut
def sl7Mem_L3 (O : Type) : Nat → (List (List Int) × Int × List ((Tx × Tx × Bool) × Int)) → ((List ((Tx × Tx × Bool) × Int)) → Option O) → ((List ((Tx × Tx × Bool) × Int) × Bool) → Option O) → Option O
  | 0, _, _, _ => none
  | q + 1, (list1, i2, m3), x, r => (cond (decide (i2 < (list1.length : Int))) (cond (decide (0 ≤ i2) && decide (i2 < (list1.length : Int))) ((sl7Read (nth list1 i2)).bind fun ((r4, r5, r6), r7, r8) => (cond (!r8) (r (m3, false)) ((sMemPut (m3, (r4, r5, r6), r7)).bind fun (r9, r10) => (cond (!r10) (r (m3, false)) (sl7Mem_L3 O q (list1, (wrap .i64 (i2 + 1)), r9) x r))))) none) (x m3))
def sl7Mem : (List (List Int)) → Option (List ((Tx × Tx × Bool) × Int) × Bool)
  | list0 => (sl7Mem_L3 (List ((List UInt8 × List UInt8 × Bool) × Int) × Bool) fuel (list0, 0, []) (fun m11 => (some (m11, true))) some)
def c_sl7Mem : Ctr := { args := [.val false (.sl y4)], rets := [(true, [(some 141, y6)]), (false, [(none, .bool)])], F := sl7Mem }
def X_sl7Mem : Ctx := XT.withΓ (lk [(130, c_sl7Read), (131, c_sMemPut)]) (lk [])
def L_sl7Mem_3 : LoopF c_sl7Mem.Res := ⟨⟨42, [(0, .one (.val (.sl y4))), (2, .one (.ptr 0 0)), (4, .one (.ptr 1 0)), (5, .one (.val y0))], [.vars 55 [.nils], .vars 55 [.own 2], .arr 141 y12], []⟩, [(0, ⟨42, [(2, .one (.ptr 0 0)), (4, .one (.ptr 1 0))], [.vars 55 [.nils], .vars 55 [.own 2], .arr 141 y12], []⟩)], sl7Mem_L3⟩
def T_sl7Mem : Nat → Option (LoopF c_sl7Mem.Res) := lk [(3, L_sl7Mem_3)]
theorem s_sl7Mem_3 : StepOk X_sl7Mem H0 (c_sl7Mem.finish X_sl7Mem Tryz.f84.results.toList) T_sl7Mem (loopAt Tryz.f84 0) := ⟨L_sl7Mem_3, by kernel_rfl, fun O y x r => by kernel_rfl, fun O k y x r => by kernel_rfl⟩
theorem r_sl7Mem (a) : fnRun X_sl7Mem H0 c_sl7Mem Tryz.f84 T_sl7Mem a = sl7Mem a := by kernel_rfl
theorem h_sl7Mem [Tabs] : CtrHolds Tryz.prog 84 c_sl7Mem := fn_ok (.cons h_sl7Read Tryz.call130 (.cons h_sMemPut Tryz.call131 .nil)) .nil Tryz.func84 (by kernel_rfl) (loops1 (by kernel_rfl) s_sl7Mem_3) r_sl7Mem
def sl7SameMem_L4 (O : Type) : Nat → (Int × List ((Tx × Tx × Bool) × Int) × List ((Tx × Tx × Bool) × Int)) → (Unit → Option O) → (Bool → Option O) → Option O
  | 0, _, _, _ => none
  | q + 1, (i2, a3, b4), x, r => (cond (decide (i2 < (a3.length : Int))) (cond (decide (0 ≤ i2) && decide (i2 < (a3.length : Int))) (cond (decide (0 ≤ i2) && decide (i2 < (b4.length : Int))) (cond (!(((nth a3 i2).1.1 == (nth b4 i2).1.1) && (((nth a3 i2).1.2.1 == (nth b4 i2).1.2.1) && (((nth a3 i2).1.2.2 == (nth b4 i2).1.2.2) && ((nth a3 i2).2 == (nth b4 i2).2))))) (r false) (sl7SameMem_L4 O q ((wrap .i64 (i2 + 1)), a3, b4) x r)) none) none) (x ()))
def sl7SameMem : (List ((Tx × Tx × Bool) × Int) × List ((Tx × Tx × Bool) × Int)) → Option Bool
  | (a0, b1) => (cond ((a0.length : Int) != (b1.length : Int)) (some false) (sl7SameMem_L4 Bool fuel (0, a0, b1) (fun _ => (some true)) some))
def c_sl7SameMem : Ctr := { args := [.val true y6, .val true y6], rets := [(false, [(none, .bool)])], F := sl7SameMem }
def X_sl7SameMem : Ctx := XT.withΓ (lk []) (lk [])
def L_sl7SameMem_4 : LoopF c_sl7SameMem.Res := ⟨⟨31, [(2, .one (.ptr 0 0)), (3, .one (.ptr 1 0)), (5, .one (.val y0))], [.vars 55 [.val y6], .vars 55 [.val y6]], []⟩, [(0, ⟨31, [], [], []⟩)], sl7SameMem_L4⟩
def T_sl7SameMem : Nat → Option (LoopF c_sl7SameMem.Res) := lk [(4, L_sl7SameMem_4)]
theorem s_sl7SameMem_4 : StepOk X_sl7SameMem H0 (c_sl7SameMem.finish X_sl7SameMem Tryz.f85.results.toList) T_sl7SameMem (loopAt Tryz.f85 0) := ⟨L_sl7SameMem_4, by kernel_rfl, fun O y x r => by kernel_rfl, fun O k y x r => by kernel_rfl⟩
theorem r_sl7SameMem (a) : fnRun X_sl7SameMem H0 c_sl7SameMem Tryz.f85 T_sl7SameMem a = sl7SameMem a := by kernel_rfl
theorem h_sl7SameMem [Tabs] : CtrHolds Tryz.prog 85 c_sl7SameMem := fn_ok .nil .nil Tryz.func85 (by kernel_rfl) (loops1 (by kernel_rfl) s_sl7SameMem_4) r_sl7SameMem
def sl7Tab : Int → Option (Tx)
  | n0 => ((sl6Text n0).bind fun r1 => (cond (decide ((4 + r1.length) ≤ lenBound)) (some ([116, 97, 98, 45] ++ r1)) none))
def c_sl7Tab : Ctr := { args := [.val false y0], rets := [(false, [(none, .str)])], F := sl7Tab }
def X_sl7Tab : Ctx := XT.withΓ (lk [(111, c_sl6Text)]) (lk [])
theorem r_sl7Tab (a) : fnRun X_sl7Tab H0 c_sl7Tab Tryz.f89 T0 a = sl7Tab a := by kernel_rfl
theorem h_sl7Tab [Tabs] : CtrHolds Tryz.prog 89 c_sl7Tab := fn_ok (.cons h_sl6Text Tryz.call111 .nil) .nil Tryz.func89 (by kernel_rfl) (loops0 (by kernel_rfl)) r_sl7Tab
def sl5Index_L11 (O : Type) : Nat → (List Int × Int × Int × Bool × Int × List (Tx) × List Int) → ((List Int × Int × Int × Bool × List (Tx) × List Int) → Option O) → ((List (Tx) × List Int × List Int × Bool) → Option O) → Option O
  | 0, _, _, _ => none
  | q + 1, (body9, n10, k11, is12, i13, keys14, places15), x, r => (cond (decide (i13 < n10)) (cond is12 (cond (decide (i13 < 100)) ((sGetText (body9, k11)).bind fun (r16, r17, r18) => ((sGetNum (body9, r17)).bind fun (r19, r20, r21) => ((cond r18 (some (body9, n10, r21, i13, r16, r19, r20, is12, i13, decide (i13 < 100), keys14, places15)) (some (body9, n10, false, i13, r16, r19, r20, is12, i13, decide (i13 < 100), keys14, places15))).bind fun (body22, n23, is24, i25, s26, p27, end28, v29, v30, v31, keys32, places33) => (cond (decide ((keys32.length + [s26].length) ≤ lenBound)) (cond (decide ((places33.length + [p27].length) ≤ lenBound)) (sl5Index_L11 O q (body22, n23, end28, is24, (wrap .i64 (i25 + 1)), (keys32 ++ [s26]), (places33 ++ [p27])) x r) none) none)))) (x (body9, n10, k11, is12, keys14, places15))) (x (body9, n10, k11, is12, keys14, places15))) (x (body9, n10, k11, is12, keys14, places15)))
def sl5Index : (List Int) → Option (List (Tx) × List Int × List Int × Bool)
  | b0 => ((sl1FourAt (b0, (wrap .i64 ((b0.length : Int) - 4)))).bind fun (r1, r2) => (cond (!r2) (some ([], [], [], false)) (cond (decide (r1 > (wrap .i64 ((b0.length : Int) - 4)))) (some ([], [], [], false)) (cond (decide (0 ≤ (wrap .i64 ((b0.length : Int) - 4))) && decide ((wrap .i64 ((b0.length : Int) - 4)) ≤ (b0.length : Int))) ((sUnframe ((cut b0 0 (wrap .i64 ((b0.length : Int) - 4))), r1)).bind fun (r3, r4, r5) => (cond (!r5) (some ([], [], [], false)) (cond (r4 != (wrap .i64 ((b0.length : Int) - 4))) (some ([], [], [], false)) ((sGetNum (r3, 0)).bind fun (r6, r7, r8) => (sl5Index_L11 (List (List UInt8) × List Int × List Int × Bool) fuel (r3, r6, r7, r8, 0, [], []) (fun (body34, n35, k36, is37, keys38, places39) => (cond (!is37) (some (keys38, places39, [], false)) (cond ((keys38.length : Int) != n35) (some (keys38, places39, [], false)) (cond ((wrap .i64 ((body34.length : Int) - k36)) != 8) (some (keys38, places39, [], false)) (cond (decide (0 ≤ k36) && (decide (k36 ≤ (body34.length : Int)) && decide ((body34.length : Int) ≤ (body34.length : Int)))) (some (keys38, places39, (cut body34 k36 (body34.length : Int)), true)) none))))) some))))) none))))
def c_sl5Index : Ctr := { args := [.val false y4], rets := [(false, [(none, (.sl .str))]), (false, [(none, (.sl y0))]), (false, [(none, y4)]), (false, [(none, .bool)])], F := sl5Index }
def X_sl5Index : Ctx := XT.withΓ (lk [(163, c_sl1FourAt), (129, c_sUnframe), (164, c_sGetNum), (166, c_sGetText)]) (lk [])
def H_sl5Index : Hints := ⟨lk [(16, ⟨136, [(6, .one (.own 0)), (7, .one (.own 1)), (10, .one (.val y4)), (13, .one (.val y0)), (15, .one (.val .bool)), (16, .one (.val y0)), (17, .one (.val .str)), (20, .one (.val y0)), (21, .one (.val y0)), (78, .one (.val .bool)), (81, .one (.val y0)), (82, .one (.val .bool))], [.arr 9 .str, .arr 3 y0], []⟩)], lk [], lk []⟩
def L_sl5Index_11 : LoopF c_sl5Index.Res := ⟨⟨136, [(6, .one (.own 0)), (7, .one (.own 1)), (10, .one (.val y4)), (13, .one (.val y0)), (14, .one (.val y0)), (15, .one (.val .bool)), (16, .one (.val y0))], [.arr 9 .str, .arr 3 y0], []⟩, [(0, ⟨136, [(6, .one (.own 0)), (7, .one (.own 1)), (10, .one (.val y4)), (13, .one (.val y0)), (14, .one (.val y0)), (15, .one (.val .bool))], [.arr 9 .str, .arr 3 y0], []⟩)], sl5Index_L11⟩
def T_sl5Index : Nat → Option (LoopF c_sl5Index.Res) := lk [(11, L_sl5Index_11)]
theorem s_sl5Index_11 : StepOk X_sl5Index H_sl5Index (c_sl5Index.finish X_sl5Index Tryz.f132.results.toList) T_sl5Index (loopAt Tryz.f132 0) := ⟨L_sl5Index_11, by kernel_rfl, fun O y x r => by kernel_rfl, fun O k y x r => by kernel_rfl⟩
theorem r_sl5Index (a) : fnRun X_sl5Index H_sl5Index c_sl5Index Tryz.f132 T_sl5Index a = sl5Index a := by kernel_rfl
theorem h_sl5Index [Tabs] : CtrHolds Tryz.prog 132 c_sl5Index := fn_ok (.cons h_sl1FourAt Tryz.call163 (.cons h_sUnframe Tryz.call129 (.cons h_sGetNum Tryz.call164 (.cons h_sGetText Tryz.call166 .nil)))) .nil Tryz.func132 (by kernel_rfl) (loops1 (by kernel_rfl) s_sl5Index_11) r_sl5Index
def sl5Pairs_L7 (O : Type) : Nat → (List Int × Tx × Int × List (Tx × Tx × Bool)) → ((List (Tx × Tx × Bool)) → Option O) → ((List (Tx × Tx × Bool) × Bool) → Option O) → Option O
  | 0, _, _, _ => none
  | q + 1, (body5, last6, k7, out8), x, r => (cond (decide (k7 < (body5.length : Int))) ((sGetNum (body5, k7)).bind fun (r9, r10, r11) => ((sGetText (body5, r10)).bind fun (r12, r13, r14) => (cond (!r11) (r (out8, false)) (cond (!r14) (r (out8, false)) (cond (decide (r9 > (last6.length : Int))) (r (out8, false)) (cond (decide (r13 ≥ (body5.length : Int))) (r (out8, false)) (cond (decide (0 ≤ r13) && decide (r13 < (body5.length : Int))) (cond (decide ((nth body5 r13) > 1)) (r (out8, false)) ((sGetText (body5, (wrap .i64 (r13 + 1)))).bind fun (r15, r16, r17) => (cond (!r17) (r (out8, false)) (cond (decide (0 ≤ r9) && decide (r9 ≤ (last6.length : Int))) (cond (decide (((cut last6 0 r9).length + r12.length) ≤ lenBound)) (cond (decide (0 ≤ r13) && decide (r13 < (body5.length : Int))) (cond (decide ((out8.length + [(((cut last6 0 r9) ++ r12), r15, ((nth body5 r13) == 1))].length) ≤ lenBound)) (sl5Pairs_L7 O q (body5, ((cut last6 0 r9) ++ r12), r16, (out8 ++ [(((cut last6 0 r9) ++ r12), r15, ((nth body5 r13) == 1))])) x r) none) none) none) none)))) none))))))) (x out8))
def sl5Pairs : (List Int × Int) → Option (List (Tx × Tx × Bool) × Bool)
  | (b0, at1) => ((sUnframe (b0, at1)).bind fun (r2, r3, r4) => (cond (!r4) (some ([], false)) (sl5Pairs_L7 (List (List UInt8 × List UInt8 × Bool) × Bool) fuel (r2, [], 0, []) (fun out18 => (some (out18, true))) some)))
def c_sl5Pairs : Ctr := { args := [.val false y4, .val false y0], rets := [(false, [(some 93, (.sl y1))]), (false, [(none, .bool)])], F := sl5Pairs }
def X_sl5Pairs : Ctx := XT.withΓ (lk [(129, c_sUnframe), (164, c_sGetNum), (166, c_sGetText)]) (lk [])
def L_sl5Pairs_7 : LoopF c_sl5Pairs.Res := ⟨⟨108, [(6, .one (.own 0)), (7, .one (.val y4)), (10, .one (.val .str)), (11, .one (.val y0))], [.arr 93 y1], []⟩, [(0, ⟨108, [(6, .one (.own 0))], [.arr 93 y1], []⟩)], sl5Pairs_L7⟩
def T_sl5Pairs : Nat → Option (LoopF c_sl5Pairs.Res) := lk [(7, L_sl5Pairs_7)]
theorem s_sl5Pairs_7 : StepOk X_sl5Pairs H0 (c_sl5Pairs.finish X_sl5Pairs Tryz.f133.results.toList) T_sl5Pairs (loopAt Tryz.f133 0) := ⟨L_sl5Pairs_7, by kernel_rfl, fun O y x r => by kernel_rfl, fun O k y x r => by kernel_rfl⟩
theorem r_sl5Pairs (a) : fnRun X_sl5Pairs H0 c_sl5Pairs Tryz.f133 T_sl5Pairs a = sl5Pairs a := by kernel_rfl
theorem h_sl5Pairs [Tabs] : CtrHolds Tryz.prog 133 c_sl5Pairs := fn_ok (.cons h_sUnframe Tryz.call129 (.cons h_sGetNum Tryz.call164 (.cons h_sGetText Tryz.call166 .nil))) .nil Tryz.func133 (by kernel_rfl) (loops1 (by kernel_rfl) s_sl5Pairs_7) r_sl5Pairs
def sl4Rising_L2 (O : Type) : Nat → (List (Tx × Tx × Bool) × Int) → (Unit → Option O) → (Bool → Option O) → Option O
  | 0, _, _, _ => none
  | q + 1, (l1, i2), x, r => (cond (decide (i2 < (l1.length : Int))) (cond (decide (0 ≤ i2) && decide (i2 < (l1.length : Int))) ((sPairOk ((nth l1 i2).1, (nth l1 i2).2.1, (nth l1 i2).2.2)).bind fun r3 => (cond (!r3) (r false) (cond (decide (i2 > 0)) (cond (decide (0 ≤ (wrap .i64 (i2 - 1))) && decide ((wrap .i64 (i2 - 1)) < (l1.length : Int))) (cond (decide (0 ≤ i2) && decide (i2 < (l1.length : Int))) (cond (!(Op.bytesLess (nth l1 (wrap .i64 (i2 - 1))).1 (nth l1 i2).1)) (r false) (sl4Rising_L2 O q (l1, (wrap .i64 (i2 + 1))) x r)) none) none) (sl4Rising_L2 O q (l1, (wrap .i64 (i2 + 1))) x r)))) none) (x ()))
def sl4Rising : (List (Tx × Tx × Bool)) → Option Bool
  | l0 => (sl4Rising_L2 Bool fuel (l0, 0) (fun _ => (some true)) some)
def c_sl4Rising : Ctr := { args := [.val false (.sl y1)], rets := [(false, [(none, .bool)])], F := sl4Rising }
def X_sl4Rising : Ctx := XT.withΓ (lk [(128, c_sPairOk)]) (lk [])
def L_sl4Rising_2 : LoopF c_sl4Rising.Res := ⟨⟨34, [(0, .one (.val (.sl y1))), (3, .one (.val y0))], [], []⟩, [(0, ⟨34, [], [], []⟩)], sl4Rising_L2⟩
def T_sl4Rising : Nat → Option (LoopF c_sl4Rising.Res) := lk [(2, L_sl4Rising_2)]
theorem s_sl4Rising_2 : StepOk X_sl4Rising H0 (c_sl4Rising.finish X_sl4Rising Tryz.f167.results.toList) T_sl4Rising (loopAt Tryz.f167 0) := ⟨L_sl4Rising_2, by kernel_rfl, fun O y x r => by kernel_rfl, fun O k y x r => by kernel_rfl⟩
theorem r_sl4Rising (a) : fnRun X_sl4Rising H0 c_sl4Rising Tryz.f167 T_sl4Rising a = sl4Rising a := by kernel_rfl
theorem h_sl4Rising [Tabs] : CtrHolds Tryz.prog 167 c_sl4Rising := fn_ok (.cons h_sPairOk Tryz.call128 .nil) .nil Tryz.func167 (by kernel_rfl) (loops1 (by kernel_rfl) s_sl4Rising_2) r_sl4Rising
def sPutNum_L8 (O : Type) : Nat → (Int × Bool × Int × List Int) → ((Int × List Int) → Option O) → ((List Int) → Option O) → Option O
  | 0, _, _, _ => none
  | q + 1, (n6, high7, k8, out9), x, r => (cond (decide (k8 > 0)) (cond (decide ((IntKind.wrap .u64 k8) < 0)) none ((cond high7 (some (n6, high7, k8, (bits .and .i64 (Int.fdiv n6 (2 ^ (min (Int.toNat (IntKind.wrap .u64 k8)) 64))) 127), true, out9)) (some (n6, high7, k8, (bits .and .i64 (Int.fdiv n6 (2 ^ (min (Int.toNat (IntKind.wrap .u64 k8)) 64))) 127), decide ((bits .and .i64 (Int.fdiv n6 (2 ^ (min (Int.toNat (IntKind.wrap .u64 k8)) 64))) 127) > 0), out9))).bind fun (n10, high11, k12, g13, v14, out15) => (cond v14 (cond (decide ((out15.length + [(IntKind.wrap .u8 (bits .or .i64 g13 128))].length) ≤ lenBound)) (sPutNum_L8 O q (n10, true, (wrap .i64 (k12 - 7)), (out15 ++ [(IntKind.wrap .u8 (bits .or .i64 g13 128))])) x r) none) (sPutNum_L8 O q (n10, high11, (wrap .i64 (k12 - 7)), out15) x r)))) (x (n6, out9)))
def sPutNum : (List Int × Int) → Option (List Int)
  | (b0, n1) => (cond (decide ((0 + b0.length) ≤ lenBound)) ((cond (decide (n1 > 1000000000)) (some (1000000000, ([] ++ b0))) (some (n1, ([] ++ b0)))).bind fun (n2, out3) => ((cond (decide (n2 < 0)) (some (0, out3)) (some (n2, out3))).bind fun (n4, out5) => (sPutNum_L8 (List Int) fuel (n4, false, 28, out5) (fun (n16, out17) => (cond (decide ((out17.length + [(IntKind.wrap .u8 (bits .and .i64 n16 127))].length) ≤ lenBound)) (some (out17 ++ [(IntKind.wrap .u8 (bits .and .i64 n16 127))])) none)) some))) none)
def c_sPutNum : Ctr := { args := [.val false y4, .val false y0], rets := [(false, [(some 5, y4)])], F := sPutNum }
def X_sPutNum : Ctx := XT.withΓ (lk []) (lk [])
def H_sPutNum : Hints := ⟨lk [(4, ⟨42, [(1, .one (.val y0)), (5, .one (.own 0))], [.arr 5 y10], []⟩), (6, ⟨42, [(1, .one (.val y0)), (5, .one (.own 0))], [.arr 5 y10], []⟩), (12, ⟨42, [(1, .one (.val y0)), (5, .one (.own 0)), (6, .one (.val .bool)), (7, .one (.val y0)), (8, .one (.val y0)), (29, .one (.val .bool))], [.arr 5 y10], []⟩)], lk [], lk []⟩
def L_sPutNum_8 : LoopF c_sPutNum.Res := ⟨⟨42, [(1, .one (.val y0)), (5, .one (.own 0)), (6, .one (.val .bool)), (7, .one (.val y0))], [.arr 5 y10], []⟩, [(0, ⟨42, [(1, .one (.val y0)), (5, .one (.own 0))], [.arr 5 y10], []⟩)], sPutNum_L8⟩
def T_sPutNum : Nat → Option (LoopF c_sPutNum.Res) := lk [(8, L_sPutNum_8)]
theorem s_sPutNum_8 : StepOk X_sPutNum H_sPutNum (c_sPutNum.finish X_sPutNum Tryz.f168.results.toList) T_sPutNum (loopAt Tryz.f168 0) := ⟨L_sPutNum_8, by kernel_rfl, fun O y x r => by kernel_rfl, fun O k y x r => by kernel_rfl⟩
theorem r_sPutNum (a) : fnRun X_sPutNum H_sPutNum c_sPutNum Tryz.f168 T_sPutNum a = sPutNum a := by kernel_rfl
theorem h_sPutNum [Tabs] : CtrHolds Tryz.prog 168 c_sPutNum := fn_ok .nil .nil Tryz.func168 (by kernel_rfl) (loops1 (by kernel_rfl) s_sPutNum_8) r_sPutNum
def sPutText : (List Int × Tx) → Option (List Int)
  | (b0, s1) => ((sPutNum (b0, (s1.length : Int))).bind fun r2 => (cond (decide ((r2.length + (bytesOf s1).length) ≤ lenBound)) (some (r2 ++ (bytesOf s1))) none))
def c_sPutText : Ctr := { args := [.val false y4, .val false .str], rets := [(false, [(some 5, y4)])], F := sPutText }
def X_sPutText : Ctx := XT.withΓ (lk [(168, c_sPutNum)]) (lk [])
theorem r_sPutText (a) : fnRun X_sPutText H0 c_sPutText Tryz.f169 T0 a = sPutText a := by kernel_rfl
theorem h_sPutText [Tabs] : CtrHolds Tryz.prog 169 c_sPutText := fn_ok (.cons h_sPutNum Tryz.call168 .nil) .nil Tryz.func169 (by kernel_rfl) (loops0 (by kernel_rfl)) r_sPutText
def sl5Common_L2 (O : Type) : Nat → (Tx × Tx × Int) → (Int → Option O) → (Int → Option O) → Option O
  | 0, _, _, _ => none
  | q + 1, (a2, b3, n4), x, r => (cond (decide (n4 < (a2.length : Int))) (cond (decide (n4 < (b3.length : Int))) (cond (decide (0 ≤ n4) && decide (n4 < (a2.length : Int))) (cond (decide (0 ≤ n4) && decide (n4 < (b3.length : Int))) (cond ((((UInt8.toNat (nth a2 n4)) : Nat) : Int) == (((UInt8.toNat (nth b3 n4)) : Nat) : Int)) (sl5Common_L2 O q (a2, b3, (wrap .i64 (n4 + 1))) x r) (x n4)) none) none) (x n4)) (x n4))
def sl5Common : (Tx × Tx) → Option Int
  | (a0, b1) => (sl5Common_L2 Int fuel (a0, b1, 0) (fun n5 => (some n5)) some)
def c_sl5Common : Ctr := { args := [.val false .str, .val false .str], rets := [(false, [(none, y0)])], F := sl5Common }
def X_sl5Common : Ctx := XT.withΓ (lk []) (lk [])
def L_sl5Common_2 : LoopF c_sl5Common.Res := ⟨⟨28, [(0, .one (.val .str)), (1, .one (.val .str)), (5, .one (.val y0))], [], []⟩, [(0, ⟨28, [(5, .one (.val y0))], [], []⟩)], sl5Common_L2⟩
def T_sl5Common : Nat → Option (LoopF c_sl5Common.Res) := lk [(2, L_sl5Common_2)]
theorem s_sl5Common_2 : StepOk X_sl5Common H0 (c_sl5Common.finish X_sl5Common Tryz.f197.results.toList) T_sl5Common (loopAt Tryz.f197 0) := ⟨L_sl5Common_2, by kernel_rfl, fun O y x r => by kernel_rfl, fun O k y x r => by kernel_rfl⟩
theorem r_sl5Common (a) : fnRun X_sl5Common H0 c_sl5Common Tryz.f197 T_sl5Common a = sl5Common a := by kernel_rfl
theorem h_sl5Common [Tabs] : CtrHolds Tryz.prog 197 c_sl5Common := fn_ok .nil .nil Tryz.func197 (by kernel_rfl) (loops1 (by kernel_rfl) s_sl5Common_2) r_sl5Common
def sl1Four : Int → Option (List Int)
  | x0 => (some [(IntKind.wrap .u8 (Int.fdiv x0 16777216)), (IntKind.wrap .u8 (Int.fdiv x0 65536)), (IntKind.wrap .u8 (Int.fdiv x0 256)), (IntKind.wrap .u8 x0)])
def c_sl1Four : Ctr := { args := [.val false y0], rets := [(false, [(some 5, y4)])], F := sl1Four }
def X_sl1Four : Ctx := XT.withΓ (lk []) (lk [])
theorem r_sl1Four (a) : fnRun X_sl1Four H0 c_sl1Four Tryz.f173 T0 a = sl1Four a := by kernel_rfl
theorem h_sl1Four [Tabs] : CtrHolds Tryz.prog 173 c_sl1Four := fn_ok .nil .nil Tryz.func173 (by kernel_rfl) (loops0 (by kernel_rfl)) r_sl1Four
def sFrame : (List Int) → Option (List Int)
  | body0 => ((sSum body0).bind fun r1 => ((sl1Four r1).bind fun r2 => ((sPutNum (r2, (body0.length : Int))).bind fun r3 => (cond (decide ((r3.length + body0.length) ≤ lenBound)) (some (r3 ++ body0)) none))))
def c_sFrame : Ctr := { args := [.val false y4], rets := [(false, [(some 5, y4)])], F := sFrame }
def X_sFrame : Ctx := XT.withΓ (lk [(165, c_sSum), (173, c_sl1Four), (168, c_sPutNum)]) (lk [])
theorem r_sFrame (a) : fnRun X_sFrame H0 c_sFrame Tryz.f172 T0 a = sFrame a := by kernel_rfl
theorem h_sFrame [Tabs] : CtrHolds Tryz.prog 172 c_sFrame := fn_ok (.cons h_sSum Tryz.call165 (.cons h_sl1Four Tryz.call173 (.cons h_sPutNum Tryz.call168 .nil))) .nil Tryz.func172 (by kernel_rfl) (loops0 (by kernel_rfl)) r_sFrame
end
end Go.Rx
