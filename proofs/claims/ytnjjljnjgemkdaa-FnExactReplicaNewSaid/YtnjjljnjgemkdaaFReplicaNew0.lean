import Derived.Test.YtnjjljnjgemkdaaTab
set_option linter.all false
set_option maxRecDepth 1000000
namespace Go.Rx
open Go.Proofs
/-! 122 sl1In -/
noncomputable def sl1In : (Int × Int × Int) → Option Bool
  | (x0, least1, most2) => (cond (decide (x0 ≥ least1)) (some (decide (x0 ≤ most2))) (some false))
noncomputable def c_sl1In : Ctr := { args := [.val false (.int .i64), .val false (.int .i64), .val false (.int .i64)], rets := [(false, [(none, .bool)])], F := sl1In }
noncomputable def X_sl1In : Ctx := XT.withΓ (lk []) (lk [])
noncomputable def H_sl1In : Hints := ⟨lk [], lk [], lk []⟩
noncomputable def T_sl1In : Nat → Option (LoopF c_sl1In.Res) := lk []
theorem r_sl1In (a) : fnRun X_sl1In H_sl1In c_sl1In Try.f122 T_sl1In a = sl1In a := by kernel_rfl
theorem h_sl1In : CtrHolds Try.prog 122 c_sl1In := fn_ok .nil .nil (H := H_sl1In) (tbl := T_sl1In) Try.func122 (by kernel_rfl) (loops0 (by kernel_rfl)) r_sl1In
/-! 103 sl9Ids -/
noncomputable def sl9Ids : (Int × Int) → Option Bool
  | (id0, n1) => ((sl1In (n1, (1 : Int), (7 : Int))).bind fun r2 => (cond r2 ((sl1In (id0, (1 : Int), n1)).bind fun r3 => (some r3)) (some false)))
noncomputable def c_sl9Ids : Ctr := { args := [.val false (.int .i64), .val false (.int .i64)], rets := [(false, [(none, .bool)])], F := sl9Ids }
noncomputable def X_sl9Ids : Ctx := XT.withΓ (lk [(122, c_sl1In)]) (lk [])
noncomputable def H_sl9Ids : Hints := ⟨lk [], lk [], lk []⟩
noncomputable def T_sl9Ids : Nat → Option (LoopF c_sl9Ids.Res) := lk []
theorem r_sl9Ids (a) : fnRun X_sl9Ids H_sl9Ids c_sl9Ids Try.f103 T_sl9Ids a = sl9Ids a := by kernel_rfl
theorem h_sl9Ids : CtrHolds Try.prog 103 c_sl9Ids := fn_ok (.cons h_sl1In Try.call122 .nil) .nil (H := H_sl9Ids) (tbl := T_sl9Ids) Try.func103 (by kernel_rfl) (loops0 (by kernel_rfl)) r_sl9Ids
/-! 39 sReplicaNew -/
noncomputable def sReplicaNew : (Int × Int) → Option (Int × Int × Int × List ((Int × Int) × (Int × List UInt8 × List UInt8) × List (Int × Int) × Bool) × List ((Int × Int) × Int) × List (Int × Int) × List (List UInt8 × List UInt8 × Bool) × List ((Int × Int) × List UInt8 × Bool))
  | (id0, n1) => ((sl9Ids (id0, n1)).bind fun r2 => (cond (!r2) (some ((0 : Int), (0 : Int), (0 : Int), [], [], [], [], [])) (some (id0, n1, (1 : Int), [], [], [], [], []))))
noncomputable def c_sReplicaNew : Ctr := { args := [.val false (.int .i64), .val false (.int .i64)], rets := [(true, [(none, (.int .i64)), (none, (.int .i64)), (none, (.int .i64)), (none, (.sl (.pair (.pair (.int .i64) (.int .i64)) (.pair (.pair (.int .i64) (.pair .str .str)) (.pair (.sl (.pair (.int .i64) (.int .i64))) .bool))))), (none, (.sl (.pair (.pair (.int .i64) (.int .i64)) (.int .i64)))), (none, (.sl (.pair (.int .i64) (.int .i64)))), (none, (.sl (.pair .str (.pair .str .bool)))), (none, (.sl (.pair (.pair (.int .i64) (.int .i64)) (.pair .str .bool))))])], F := sReplicaNew }
noncomputable def X_sReplicaNew : Ctx := XT.withΓ (lk [(103, c_sl9Ids)]) (lk [])
noncomputable def H_sReplicaNew : Hints := ⟨lk [], lk [], lk []⟩
noncomputable def T_sReplicaNew : Nat → Option (LoopF c_sReplicaNew.Res) := lk []
theorem r_sReplicaNew (a) : fnRun X_sReplicaNew H_sReplicaNew c_sReplicaNew Try.f39 T_sReplicaNew a = sReplicaNew a := by kernel_rfl
theorem h_sReplicaNew : CtrHolds Try.prog 39 c_sReplicaNew := fn_ok (.cons h_sl9Ids Try.call103 .nil) .nil (H := H_sReplicaNew) (tbl := T_sReplicaNew) Try.func39 (by kernel_rfl) (loops0 (by kernel_rfl)) r_sReplicaNew
/-! 91 iin -/
noncomputable def iin : (Int × Int × Int) → Option Bool
  | (n0, low1, high2) => (cond (decide (n0 ≥ low1)) (some (decide (n0 ≤ high2))) (some false))
noncomputable def c_iin : Ctr := { args := [.val false (.int .i64), .val false (.int .i64), .val false (.int .i64)], rets := [(false, [(none, .bool)])], F := iin }
noncomputable def X_iin : Ctx := XT.withΓ (lk []) (lk [])
noncomputable def H_iin : Hints := ⟨lk [], lk [], lk []⟩
noncomputable def T_iin : Nat → Option (LoopF c_iin.Res) := lk []
theorem r_iin (a) : fnRun X_iin H_iin c_iin Try.f91 T_iin a = iin a := by kernel_rfl
theorem h_iin : CtrHolds Try.prog 91 c_iin := fn_ok .nil .nil (H := H_iin) (tbl := T_iin) Try.func91 (by kernel_rfl) (loops0 (by kernel_rfl)) r_iin
/-! 40 iReplicaNew -/
noncomputable def iReplicaNew : (Int × Int) → Option (Int × Int × Int × List ((Int × Int) × (Int × List UInt8 × List UInt8) × List (Int × Int) × Bool) × List ((Int × Int) × Int) × List (Int × Int) × List (List UInt8 × List UInt8 × Bool) × List ((Int × Int) × List UInt8 × Bool))
  | (id0, n1) => ((iin (n1, (1 : Int), (7 : Int))).bind fun r2 => (cond (!r2) (some ((0 : Int), (0 : Int), (0 : Int), [], [], [], [], [])) ((iin (id0, (1 : Int), n1)).bind fun r3 => (cond (!r3) (some ((0 : Int), (0 : Int), (0 : Int), [], [], [], [], [])) (some (id0, n1, (1 : Int), [], [], [], [], []))))))
noncomputable def c_iReplicaNew : Ctr := { args := [.val false (.int .i64), .val false (.int .i64)], rets := [(true, [(none, (.int .i64)), (none, (.int .i64)), (none, (.int .i64)), (none, (.sl (.pair (.pair (.int .i64) (.int .i64)) (.pair (.pair (.int .i64) (.pair .str .str)) (.pair (.sl (.pair (.int .i64) (.int .i64))) .bool))))), (none, (.sl (.pair (.pair (.int .i64) (.int .i64)) (.int .i64)))), (none, (.sl (.pair (.int .i64) (.int .i64)))), (none, (.sl (.pair .str (.pair .str .bool)))), (none, (.sl (.pair (.pair (.int .i64) (.int .i64)) (.pair .str .bool))))])], F := iReplicaNew }
noncomputable def X_iReplicaNew : Ctx := XT.withΓ (lk [(91, c_iin)]) (lk [])
noncomputable def H_iReplicaNew : Hints := ⟨lk [], lk [], lk []⟩
noncomputable def T_iReplicaNew : Nat → Option (LoopF c_iReplicaNew.Res) := lk []
theorem r_iReplicaNew (a) : fnRun X_iReplicaNew H_iReplicaNew c_iReplicaNew Try.f40 T_iReplicaNew a = iReplicaNew a := by kernel_rfl
theorem h_iReplicaNew : CtrHolds Try.prog 40 c_iReplicaNew := fn_ok (.cons h_iin Try.call91 .nil) .nil (H := H_iReplicaNew) (tbl := T_iReplicaNew) Try.func40 (by kernel_rfl) (loops0 (by kernel_rfl)) r_iReplicaNew
/-! 137 leqDot -/
noncomputable def leqDot : ((Int × Int) × Int × Int) → Option Bool
  | ((a0, a1), b2, b3) => (cond (a0 != b2) (some false) (cond (a1 != b3) (some false) (some true)))
noncomputable def c_leqDot : Ctr := { args := [.val true (.pair (.int .i64) (.int .i64)), .val true (.pair (.int .i64) (.int .i64))], rets := [(false, [(none, .bool)])], F := leqDot }
noncomputable def X_leqDot : Ctx := XT.withΓ (lk []) (lk [])
noncomputable def H_leqDot : Hints := ⟨lk [], lk [], lk []⟩
noncomputable def T_leqDot : Nat → Option (LoopF c_leqDot.Res) := lk []
theorem r_leqDot (a) : fnRun X_leqDot H_leqDot c_leqDot Try.f137 T_leqDot a = leqDot a := by kernel_rfl
theorem h_leqDot : CtrHolds Try.prog 137 c_leqDot := fn_ok .nil .nil (H := H_leqDot) (tbl := T_leqDot) Try.func137 (by kernel_rfl) (loops0 (by kernel_rfl)) r_leqDot
/-! 138 leqCmd -/
noncomputable def leqCmd : ((Int × List UInt8 × List UInt8) × Int × List UInt8 × List UInt8) → Option Bool
  | ((a0, a1, a2), b3, b4, b5) => (cond (a0 != b3) (some false) (cond (!(a1 == b4)) (some false) (cond (!(a2 == b5)) (some false) (some true))))
noncomputable def c_leqCmd : Ctr := { args := [.val true (.pair (.int .i64) (.pair .str .str)), .val true (.pair (.int .i64) (.pair .str .str))], rets := [(false, [(none, .bool)])], F := leqCmd }
noncomputable def X_leqCmd : Ctx := XT.withΓ (lk []) (lk [])
noncomputable def H_leqCmd : Hints := ⟨lk [], lk [], lk []⟩
noncomputable def T_leqCmd : Nat → Option (LoopF c_leqCmd.Res) := lk []
theorem r_leqCmd (a) : fnRun X_leqCmd H_leqCmd c_leqCmd Try.f138 T_leqCmd a = leqCmd a := by kernel_rfl
theorem h_leqCmd : CtrHolds Try.prog 138 c_leqCmd := fn_ok .nil .nil (H := H_leqCmd) (tbl := T_leqCmd) Try.func138 (by kernel_rfl) (loops0 (by kernel_rfl)) r_leqCmd
/-! 106 leqDotS -/
noncomputable def leqDotS_L4 (O : Type) : Nat → (List (Int × Int) × List (Int × Int) × Int) → (Unit → Option O) → (Bool → Option O) → Option O
  | 0, _, _, _ => none
  | q + 1, (a2, b3, i4), x, r => (cond (decide (i4 < ((a2.length : Nat) : Int))) (cond (decide ((0 : Int) ≤ i4) && decide (i4 < ((a2.length : Nat) : Int))) (cond (decide ((0 : Int) ≤ i4) && decide (i4 < ((b3.length : Nat) : Int))) ((leqDot (((nth a2 i4).1, (nth a2 i4).2), (nth b3 i4).1, (nth b3 i4).2)).bind fun r5 => (cond (!r5) (r false) (leqDotS_L4 O q (a2, b3, (IntKind.wrap .i64 (i4 + (1 : Int)))) x r))) none) none) (x ()))
noncomputable def leqDotS : (List (Int × Int) × List (Int × Int)) → Option Bool
  | (a0, b1) => (cond (((a0.length : Nat) : Int) != ((b1.length : Nat) : Int)) (some false) (leqDotS_L4 Bool fuel (a0, b1, (0 : Int)) (fun _ => (some true)) some))
noncomputable def c_leqDotS : Ctr := { args := [.val false (.sl (.pair (.int .i64) (.int .i64))), .val false (.sl (.pair (.int .i64) (.int .i64)))], rets := [(false, [(none, .bool)])], F := leqDotS }
noncomputable def X_leqDotS : Ctx := XT.withΓ (lk [(137, c_leqDot)]) (lk [])
noncomputable def H_leqDotS : Hints := ⟨lk [], lk [], lk []⟩
noncomputable def L_leqDotS_4 : LoopF c_leqDotS.Res := ⟨⟨27, [(0, .one (.val (.sl (.pair (.int .i64) (.int .i64))))), (1, .one (.val (.sl (.pair (.int .i64) (.int .i64))))), (5, .one (.val (.int .i64)))], [], []⟩, [(0, ⟨27, [], [], []⟩)], leqDotS_L4⟩
noncomputable def T_leqDotS : Nat → Option (LoopF c_leqDotS.Res) := lk [(4, L_leqDotS_4)]
theorem s_leqDotS_4 : StepOk X_leqDotS H_leqDotS (c_leqDotS.finish X_leqDotS Try.f106.results.toList) T_leqDotS (loopAt Try.f106 0) := ⟨L_leqDotS_4, by kernel_rfl, fun O y x r => by kernel_rfl, fun O k y x r => by kernel_rfl⟩
theorem r_leqDotS (a) : fnRun X_leqDotS H_leqDotS c_leqDotS Try.f106 T_leqDotS a = leqDotS a := by kernel_rfl
theorem h_leqDotS : CtrHolds Try.prog 106 c_leqDotS := fn_ok (.cons h_leqDot Try.call137 .nil) .nil (H := H_leqDotS) (tbl := T_leqDotS) Try.func106 (by kernel_rfl) (loops1 (by kernel_rfl) s_leqDotS_4) r_leqDotS
/-! 202 leqRec -/
noncomputable def leqRec : (((Int × Int) × (Int × List UInt8 × List UInt8) × List (Int × Int) × Bool) × (Int × Int) × (Int × List UInt8 × List UInt8) × List (Int × Int) × Bool) → Option Bool
  | (((a0, a1), (a2, a3, a4), a5, a6), (b7, b8), (b9, b10, b11), b12, b13) => ((leqDot ((a0, a1), b7, b8)).bind fun r14 => (cond (!r14) (some false) ((leqCmd ((a2, a3, a4), b9, b10, b11)).bind fun r15 => (cond (!r15) (some false) ((leqDotS (a5, b12)).bind fun r16 => (cond (!r16) (some false) (cond (!(a6 == b13)) (some false) (some true))))))))
noncomputable def c_leqRec : Ctr := { args := [.val true (.pair (.pair (.int .i64) (.int .i64)) (.pair (.pair (.int .i64) (.pair .str .str)) (.pair (.sl (.pair (.int .i64) (.int .i64))) .bool))), .val true (.pair (.pair (.int .i64) (.int .i64)) (.pair (.pair (.int .i64) (.pair .str .str)) (.pair (.sl (.pair (.int .i64) (.int .i64))) .bool)))], rets := [(false, [(none, .bool)])], F := leqRec }
noncomputable def X_leqRec : Ctx := XT.withΓ (lk [(137, c_leqDot), (138, c_leqCmd), (106, c_leqDotS)]) (lk [])
noncomputable def H_leqRec : Hints := ⟨lk [], lk [], lk []⟩
noncomputable def T_leqRec : Nat → Option (LoopF c_leqRec.Res) := lk []
theorem r_leqRec (a) : fnRun X_leqRec H_leqRec c_leqRec Try.f202 T_leqRec a = leqRec a := by kernel_rfl
theorem h_leqRec : CtrHolds Try.prog 202 c_leqRec := fn_ok (.cons h_leqDot Try.call137 (.cons h_leqCmd Try.call138 (.cons h_leqDotS Try.call106 .nil))) .nil (H := H_leqRec) (tbl := T_leqRec) Try.func202 (by kernel_rfl) (loops0 (by kernel_rfl)) r_leqRec
/-! 104 leqRecS -/
noncomputable def leqRecS_L4 (O : Type) : Nat → (List ((Int × Int) × (Int × List UInt8 × List UInt8) × List (Int × Int) × Bool) × List ((Int × Int) × (Int × List UInt8 × List UInt8) × List (Int × Int) × Bool) × Int) → (Unit → Option O) → (Bool → Option O) → Option O
  | 0, _, _, _ => none
  | q + 1, (a2, b3, i4), x, r => (cond (decide (i4 < ((a2.length : Nat) : Int))) (cond (decide ((0 : Int) ≤ i4) && decide (i4 < ((a2.length : Nat) : Int))) (cond (decide ((0 : Int) ≤ i4) && decide (i4 < ((b3.length : Nat) : Int))) ((leqRec ((((nth a2 i4).1.1, (nth a2 i4).1.2), ((nth a2 i4).2.1.1, (nth a2 i4).2.1.2.1, (nth a2 i4).2.1.2.2), (nth a2 i4).2.2.1, (nth a2 i4).2.2.2), ((nth b3 i4).1.1, (nth b3 i4).1.2), ((nth b3 i4).2.1.1, (nth b3 i4).2.1.2.1, (nth b3 i4).2.1.2.2), (nth b3 i4).2.2.1, (nth b3 i4).2.2.2)).bind fun r5 => (cond (!r5) (r false) (leqRecS_L4 O q (a2, b3, (IntKind.wrap .i64 (i4 + (1 : Int)))) x r))) none) none) (x ()))
noncomputable def leqRecS : (List ((Int × Int) × (Int × List UInt8 × List UInt8) × List (Int × Int) × Bool) × List ((Int × Int) × (Int × List UInt8 × List UInt8) × List (Int × Int) × Bool)) → Option Bool
  | (a0, b1) => (cond (((a0.length : Nat) : Int) != ((b1.length : Nat) : Int)) (some false) (leqRecS_L4 Bool fuel (a0, b1, (0 : Int)) (fun _ => (some true)) some))
noncomputable def c_leqRecS : Ctr := { args := [.val false (.sl (.pair (.pair (.int .i64) (.int .i64)) (.pair (.pair (.int .i64) (.pair .str .str)) (.pair (.sl (.pair (.int .i64) (.int .i64))) .bool)))), .val false (.sl (.pair (.pair (.int .i64) (.int .i64)) (.pair (.pair (.int .i64) (.pair .str .str)) (.pair (.sl (.pair (.int .i64) (.int .i64))) .bool))))], rets := [(false, [(none, .bool)])], F := leqRecS }
noncomputable def X_leqRecS : Ctx := XT.withΓ (lk [(202, c_leqRec)]) (lk [])
noncomputable def H_leqRecS : Hints := ⟨lk [], lk [], lk []⟩
noncomputable def L_leqRecS_4 : LoopF c_leqRecS.Res := ⟨⟨27, [(0, .one (.val (.sl (.pair (.pair (.int .i64) (.int .i64)) (.pair (.pair (.int .i64) (.pair .str .str)) (.pair (.sl (.pair (.int .i64) (.int .i64))) .bool)))))), (1, .one (.val (.sl (.pair (.pair (.int .i64) (.int .i64)) (.pair (.pair (.int .i64) (.pair .str .str)) (.pair (.sl (.pair (.int .i64) (.int .i64))) .bool)))))), (5, .one (.val (.int .i64)))], [], []⟩, [(0, ⟨27, [], [], []⟩)], leqRecS_L4⟩
noncomputable def T_leqRecS : Nat → Option (LoopF c_leqRecS.Res) := lk [(4, L_leqRecS_4)]
theorem s_leqRecS_4 : StepOk X_leqRecS H_leqRecS (c_leqRecS.finish X_leqRecS Try.f104.results.toList) T_leqRecS (loopAt Try.f104 0) := ⟨L_leqRecS_4, by kernel_rfl, fun O y x r => by kernel_rfl, fun O k y x r => by kernel_rfl⟩
theorem r_leqRecS (a) : fnRun X_leqRecS H_leqRecS c_leqRecS Try.f104 T_leqRecS a = leqRecS a := by kernel_rfl
theorem h_leqRecS : CtrHolds Try.prog 104 c_leqRecS := fn_ok (.cons h_leqRec Try.call202 .nil) .nil (H := H_leqRecS) (tbl := T_leqRecS) Try.func104 (by kernel_rfl) (loops1 (by kernel_rfl) s_leqRecS_4) r_leqRecS
/-! 203 leqAck -/
noncomputable def leqAck : (((Int × Int) × Int) × (Int × Int) × Int) → Option Bool
  | (((a0, a1), a2), (b3, b4), b5) => ((leqDot ((a0, a1), b3, b4)).bind fun r6 => (cond (!r6) (some false) (cond (a2 != b5) (some false) (some true))))
noncomputable def c_leqAck : Ctr := { args := [.val true (.pair (.pair (.int .i64) (.int .i64)) (.int .i64)), .val true (.pair (.pair (.int .i64) (.int .i64)) (.int .i64))], rets := [(false, [(none, .bool)])], F := leqAck }
noncomputable def X_leqAck : Ctx := XT.withΓ (lk [(137, c_leqDot)]) (lk [])
noncomputable def H_leqAck : Hints := ⟨lk [], lk [], lk []⟩
noncomputable def T_leqAck : Nat → Option (LoopF c_leqAck.Res) := lk []
theorem r_leqAck (a) : fnRun X_leqAck H_leqAck c_leqAck Try.f203 T_leqAck a = leqAck a := by kernel_rfl
theorem h_leqAck : CtrHolds Try.prog 203 c_leqAck := fn_ok (.cons h_leqDot Try.call137 .nil) .nil (H := H_leqAck) (tbl := T_leqAck) Try.func203 (by kernel_rfl) (loops0 (by kernel_rfl)) r_leqAck
/-! 105 leqAckS -/
noncomputable def leqAckS_L4 (O : Type) : Nat → (List ((Int × Int) × Int) × List ((Int × Int) × Int) × Int) → (Unit → Option O) → (Bool → Option O) → Option O
  | 0, _, _, _ => none
  | q + 1, (a2, b3, i4), x, r => (cond (decide (i4 < ((a2.length : Nat) : Int))) (cond (decide ((0 : Int) ≤ i4) && decide (i4 < ((a2.length : Nat) : Int))) (cond (decide ((0 : Int) ≤ i4) && decide (i4 < ((b3.length : Nat) : Int))) ((leqAck ((((nth a2 i4).1.1, (nth a2 i4).1.2), (nth a2 i4).2), ((nth b3 i4).1.1, (nth b3 i4).1.2), (nth b3 i4).2)).bind fun r5 => (cond (!r5) (r false) (leqAckS_L4 O q (a2, b3, (IntKind.wrap .i64 (i4 + (1 : Int)))) x r))) none) none) (x ()))
noncomputable def leqAckS : (List ((Int × Int) × Int) × List ((Int × Int) × Int)) → Option Bool
  | (a0, b1) => (cond (((a0.length : Nat) : Int) != ((b1.length : Nat) : Int)) (some false) (leqAckS_L4 Bool fuel (a0, b1, (0 : Int)) (fun _ => (some true)) some))
noncomputable def c_leqAckS : Ctr := { args := [.val false (.sl (.pair (.pair (.int .i64) (.int .i64)) (.int .i64))), .val false (.sl (.pair (.pair (.int .i64) (.int .i64)) (.int .i64)))], rets := [(false, [(none, .bool)])], F := leqAckS }
noncomputable def X_leqAckS : Ctx := XT.withΓ (lk [(203, c_leqAck)]) (lk [])
noncomputable def H_leqAckS : Hints := ⟨lk [], lk [], lk []⟩
noncomputable def L_leqAckS_4 : LoopF c_leqAckS.Res := ⟨⟨27, [(0, .one (.val (.sl (.pair (.pair (.int .i64) (.int .i64)) (.int .i64))))), (1, .one (.val (.sl (.pair (.pair (.int .i64) (.int .i64)) (.int .i64))))), (5, .one (.val (.int .i64)))], [], []⟩, [(0, ⟨27, [], [], []⟩)], leqAckS_L4⟩
noncomputable def T_leqAckS : Nat → Option (LoopF c_leqAckS.Res) := lk [(4, L_leqAckS_4)]
theorem s_leqAckS_4 : StepOk X_leqAckS H_leqAckS (c_leqAckS.finish X_leqAckS Try.f105.results.toList) T_leqAckS (loopAt Try.f105 0) := ⟨L_leqAckS_4, by kernel_rfl, fun O y x r => by kernel_rfl, fun O k y x r => by kernel_rfl⟩
theorem r_leqAckS (a) : fnRun X_leqAckS H_leqAckS c_leqAckS Try.f105 T_leqAckS a = leqAckS a := by kernel_rfl
theorem h_leqAckS : CtrHolds Try.prog 105 c_leqAckS := fn_ok (.cons h_leqAck Try.call203 .nil) .nil (H := H_leqAckS) (tbl := T_leqAckS) Try.func105 (by kernel_rfl) (loops1 (by kernel_rfl) s_leqAckS_4) r_leqAckS
/-! 169 leqPair -/
noncomputable def leqPair : ((List UInt8 × List UInt8 × Bool) × List UInt8 × List UInt8 × Bool) → Option Bool
  | ((a0, a1, a2), b3, b4, b5) => (cond (!(a0 == b3)) (some false) (cond (!(a1 == b4)) (some false) (cond (!(a2 == b5)) (some false) (some true))))
noncomputable def c_leqPair : Ctr := { args := [.val true (.pair .str (.pair .str .bool)), .val true (.pair .str (.pair .str .bool))], rets := [(false, [(none, .bool)])], F := leqPair }
noncomputable def X_leqPair : Ctx := XT.withΓ (lk []) (lk [])
noncomputable def H_leqPair : Hints := ⟨lk [], lk [], lk []⟩
noncomputable def T_leqPair : Nat → Option (LoopF c_leqPair.Res) := lk []
theorem r_leqPair (a) : fnRun X_leqPair H_leqPair c_leqPair Try.f169 T_leqPair a = leqPair a := by kernel_rfl
theorem h_leqPair : CtrHolds Try.prog 169 c_leqPair := fn_ok .nil .nil (H := H_leqPair) (tbl := T_leqPair) Try.func169 (by kernel_rfl) (loops0 (by kernel_rfl)) r_leqPair
/-! 68 leqPairS -/
noncomputable def leqPairS_L4 (O : Type) : Nat → (List (List UInt8 × List UInt8 × Bool) × List (List UInt8 × List UInt8 × Bool) × Int) → (Unit → Option O) → (Bool → Option O) → Option O
  | 0, _, _, _ => none
  | q + 1, (a2, b3, i4), x, r => (cond (decide (i4 < ((a2.length : Nat) : Int))) (cond (decide ((0 : Int) ≤ i4) && decide (i4 < ((a2.length : Nat) : Int))) (cond (decide ((0 : Int) ≤ i4) && decide (i4 < ((b3.length : Nat) : Int))) ((leqPair (((nth a2 i4).1, (nth a2 i4).2.1, (nth a2 i4).2.2), (nth b3 i4).1, (nth b3 i4).2.1, (nth b3 i4).2.2)).bind fun r5 => (cond (!r5) (r false) (leqPairS_L4 O q (a2, b3, (IntKind.wrap .i64 (i4 + (1 : Int)))) x r))) none) none) (x ()))
noncomputable def leqPairS : (List (List UInt8 × List UInt8 × Bool) × List (List UInt8 × List UInt8 × Bool)) → Option Bool
  | (a0, b1) => (cond (((a0.length : Nat) : Int) != ((b1.length : Nat) : Int)) (some false) (leqPairS_L4 Bool fuel (a0, b1, (0 : Int)) (fun _ => (some true)) some))
noncomputable def c_leqPairS : Ctr := { args := [.val false (.sl (.pair .str (.pair .str .bool))), .val false (.sl (.pair .str (.pair .str .bool)))], rets := [(false, [(none, .bool)])], F := leqPairS }
noncomputable def X_leqPairS : Ctx := XT.withΓ (lk [(169, c_leqPair)]) (lk [])
noncomputable def H_leqPairS : Hints := ⟨lk [], lk [], lk []⟩
noncomputable def L_leqPairS_4 : LoopF c_leqPairS.Res := ⟨⟨27, [(0, .one (.val (.sl (.pair .str (.pair .str .bool))))), (1, .one (.val (.sl (.pair .str (.pair .str .bool))))), (5, .one (.val (.int .i64)))], [], []⟩, [(0, ⟨27, [], [], []⟩)], leqPairS_L4⟩
noncomputable def T_leqPairS : Nat → Option (LoopF c_leqPairS.Res) := lk [(4, L_leqPairS_4)]
theorem s_leqPairS_4 : StepOk X_leqPairS H_leqPairS (c_leqPairS.finish X_leqPairS Try.f68.results.toList) T_leqPairS (loopAt Try.f68 0) := ⟨L_leqPairS_4, by kernel_rfl, fun O y x r => by kernel_rfl, fun O k y x r => by kernel_rfl⟩
theorem r_leqPairS (a) : fnRun X_leqPairS H_leqPairS c_leqPairS Try.f68 T_leqPairS a = leqPairS a := by kernel_rfl
theorem h_leqPairS : CtrHolds Try.prog 68 c_leqPairS := fn_ok (.cons h_leqPair Try.call169 .nil) .nil (H := H_leqPairS) (tbl := T_leqPairS) Try.func68 (by kernel_rfl) (loops1 (by kernel_rfl) s_leqPairS_4) r_leqPairS
/-! 204 leqAnswer -/
noncomputable def leqAnswer : (((Int × Int) × List UInt8 × Bool) × (Int × Int) × List UInt8 × Bool) → Option Bool
  | (((a0, a1), a2, a3), (b4, b5), b6, b7) => ((leqDot ((a0, a1), b4, b5)).bind fun r8 => (cond (!r8) (some false) (cond (!(a2 == b6)) (some false) (cond (!(a3 == b7)) (some false) (some true)))))
noncomputable def c_leqAnswer : Ctr := { args := [.val true (.pair (.pair (.int .i64) (.int .i64)) (.pair .str .bool)), .val true (.pair (.pair (.int .i64) (.int .i64)) (.pair .str .bool))], rets := [(false, [(none, .bool)])], F := leqAnswer }
noncomputable def X_leqAnswer : Ctx := XT.withΓ (lk [(137, c_leqDot)]) (lk [])
noncomputable def H_leqAnswer : Hints := ⟨lk [], lk [], lk []⟩
noncomputable def T_leqAnswer : Nat → Option (LoopF c_leqAnswer.Res) := lk []
theorem r_leqAnswer (a) : fnRun X_leqAnswer H_leqAnswer c_leqAnswer Try.f204 T_leqAnswer a = leqAnswer a := by kernel_rfl
theorem h_leqAnswer : CtrHolds Try.prog 204 c_leqAnswer := fn_ok (.cons h_leqDot Try.call137 .nil) .nil (H := H_leqAnswer) (tbl := T_leqAnswer) Try.func204 (by kernel_rfl) (loops0 (by kernel_rfl)) r_leqAnswer
/-! 107 leqAnswerS -/
noncomputable def leqAnswerS_L4 (O : Type) : Nat → (List ((Int × Int) × List UInt8 × Bool) × List ((Int × Int) × List UInt8 × Bool) × Int) → (Unit → Option O) → (Bool → Option O) → Option O
  | 0, _, _, _ => none
  | q + 1, (a2, b3, i4), x, r => (cond (decide (i4 < ((a2.length : Nat) : Int))) (cond (decide ((0 : Int) ≤ i4) && decide (i4 < ((a2.length : Nat) : Int))) (cond (decide ((0 : Int) ≤ i4) && decide (i4 < ((b3.length : Nat) : Int))) ((leqAnswer ((((nth a2 i4).1.1, (nth a2 i4).1.2), (nth a2 i4).2.1, (nth a2 i4).2.2), ((nth b3 i4).1.1, (nth b3 i4).1.2), (nth b3 i4).2.1, (nth b3 i4).2.2)).bind fun r5 => (cond (!r5) (r false) (leqAnswerS_L4 O q (a2, b3, (IntKind.wrap .i64 (i4 + (1 : Int)))) x r))) none) none) (x ()))
noncomputable def leqAnswerS : (List ((Int × Int) × List UInt8 × Bool) × List ((Int × Int) × List UInt8 × Bool)) → Option Bool
  | (a0, b1) => (cond (((a0.length : Nat) : Int) != ((b1.length : Nat) : Int)) (some false) (leqAnswerS_L4 Bool fuel (a0, b1, (0 : Int)) (fun _ => (some true)) some))
noncomputable def c_leqAnswerS : Ctr := { args := [.val false (.sl (.pair (.pair (.int .i64) (.int .i64)) (.pair .str .bool))), .val false (.sl (.pair (.pair (.int .i64) (.int .i64)) (.pair .str .bool)))], rets := [(false, [(none, .bool)])], F := leqAnswerS }
noncomputable def X_leqAnswerS : Ctx := XT.withΓ (lk [(204, c_leqAnswer)]) (lk [])
noncomputable def H_leqAnswerS : Hints := ⟨lk [], lk [], lk []⟩
noncomputable def L_leqAnswerS_4 : LoopF c_leqAnswerS.Res := ⟨⟨27, [(0, .one (.val (.sl (.pair (.pair (.int .i64) (.int .i64)) (.pair .str .bool))))), (1, .one (.val (.sl (.pair (.pair (.int .i64) (.int .i64)) (.pair .str .bool))))), (5, .one (.val (.int .i64)))], [], []⟩, [(0, ⟨27, [], [], []⟩)], leqAnswerS_L4⟩
noncomputable def T_leqAnswerS : Nat → Option (LoopF c_leqAnswerS.Res) := lk [(4, L_leqAnswerS_4)]
theorem s_leqAnswerS_4 : StepOk X_leqAnswerS H_leqAnswerS (c_leqAnswerS.finish X_leqAnswerS Try.f107.results.toList) T_leqAnswerS (loopAt Try.f107 0) := ⟨L_leqAnswerS_4, by kernel_rfl, fun O y x r => by kernel_rfl, fun O k y x r => by kernel_rfl⟩
theorem r_leqAnswerS (a) : fnRun X_leqAnswerS H_leqAnswerS c_leqAnswerS Try.f107 T_leqAnswerS a = leqAnswerS a := by kernel_rfl
theorem h_leqAnswerS : CtrHolds Try.prog 107 c_leqAnswerS := fn_ok (.cons h_leqAnswer Try.call204 .nil) .nil (H := H_leqAnswerS) (tbl := T_leqAnswerS) Try.func107 (by kernel_rfl) (loops1 (by kernel_rfl) s_leqAnswerS_4) r_leqAnswerS
/-! 41 leqReplica -/
noncomputable def leqReplica : ((Int × Int × Int × List ((Int × Int) × (Int × List UInt8 × List UInt8) × List (Int × Int) × Bool) × List ((Int × Int) × Int) × List (Int × Int) × List (List UInt8 × List UInt8 × Bool) × List ((Int × Int) × List UInt8 × Bool)) × Int × Int × Int × List ((Int × Int) × (Int × List UInt8 × List UInt8) × List (Int × Int) × Bool) × List ((Int × Int) × Int) × List (Int × Int) × List (List UInt8 × List UInt8 × Bool) × List ((Int × Int) × List UInt8 × Bool)) → Option Bool
  | ((a0, a1, a2, a3, a4, a5, a6, a7), b8, b9, b10, b11, b12, b13, b14, b15) => (cond (a0 != b8) (some false) (cond (a1 != b9) (some false) (cond (a2 != b10) (some false) ((leqRecS (a3, b11)).bind fun r16 => (cond (!r16) (some false) ((leqAckS (a4, b12)).bind fun r17 => (cond (!r17) (some false) ((leqDotS (a5, b13)).bind fun r18 => (cond (!r18) (some false) ((leqPairS (a6, b14)).bind fun r19 => (cond (!r19) (some false) ((leqAnswerS (a7, b15)).bind fun r20 => (cond (!r20) (some false) (some true))))))))))))))
noncomputable def c_leqReplica : Ctr := { args := [.val true (.pair (.int .i64) (.pair (.int .i64) (.pair (.int .i64) (.pair (.sl (.pair (.pair (.int .i64) (.int .i64)) (.pair (.pair (.int .i64) (.pair .str .str)) (.pair (.sl (.pair (.int .i64) (.int .i64))) .bool)))) (.pair (.sl (.pair (.pair (.int .i64) (.int .i64)) (.int .i64))) (.pair (.sl (.pair (.int .i64) (.int .i64))) (.pair (.sl (.pair .str (.pair .str .bool))) (.sl (.pair (.pair (.int .i64) (.int .i64)) (.pair .str .bool)))))))))), .val true (.pair (.int .i64) (.pair (.int .i64) (.pair (.int .i64) (.pair (.sl (.pair (.pair (.int .i64) (.int .i64)) (.pair (.pair (.int .i64) (.pair .str .str)) (.pair (.sl (.pair (.int .i64) (.int .i64))) .bool)))) (.pair (.sl (.pair (.pair (.int .i64) (.int .i64)) (.int .i64))) (.pair (.sl (.pair (.int .i64) (.int .i64))) (.pair (.sl (.pair .str (.pair .str .bool))) (.sl (.pair (.pair (.int .i64) (.int .i64)) (.pair .str .bool))))))))))], rets := [(false, [(none, .bool)])], F := leqReplica }
noncomputable def X_leqReplica : Ctx := XT.withΓ (lk [(104, c_leqRecS), (105, c_leqAckS), (106, c_leqDotS), (68, c_leqPairS), (107, c_leqAnswerS)]) (lk [])
noncomputable def H_leqReplica : Hints := ⟨lk [], lk [], lk []⟩
noncomputable def T_leqReplica : Nat → Option (LoopF c_leqReplica.Res) := lk []
theorem r_leqReplica (a) : fnRun X_leqReplica H_leqReplica c_leqReplica Try.f41 T_leqReplica a = leqReplica a := by kernel_rfl
theorem h_leqReplica : CtrHolds Try.prog 41 c_leqReplica := fn_ok (.cons h_leqRecS Try.call104 (.cons h_leqAckS Try.call105 (.cons h_leqDotS Try.call106 (.cons h_leqPairS Try.call68 (.cons h_leqAnswerS Try.call107 .nil))))) .nil (H := H_leqReplica) (tbl := T_leqReplica) Try.func41 (by kernel_rfl) (loops0 (by kernel_rfl)) r_leqReplica
/-! 170 lmarkText -/
noncomputable def lmarkText_L4 (O : Type) : Nat → (Int × List UInt8) → ((List UInt8) → Option O) → ((List UInt8) → Option O) → Option O
  | 0, _, _, _ => none
  | q + 1, (k1, out2), x, r => (cond (decide (k1 > (0 : Int))) (cond (decide (((strOf [(IntKind.wrap .u8 (IntKind.wrap .i64 ((48 : Int) + (Int.tmod k1 (10 : Int)))))]).length + out2.length) ≤ lenBound)) (lmarkText_L4 O q ((IntKind.wrap .i64 (Int.tdiv k1 (10 : Int))), ((strOf [(IntKind.wrap .u8 (IntKind.wrap .i64 ((48 : Int) + (Int.tmod k1 (10 : Int)))))]) ++ out2)) x r) none) (x out2))
noncomputable def lmarkText : Int → Option (List UInt8)
  | k0 => (cond (decide (k0 ≤ (0 : Int))) (some [109, 48]) (lmarkText_L4 (List UInt8) fuel (k0, []) (fun out3 => (cond (decide ((1 + out3.length) ≤ lenBound)) (some ([109] ++ out3)) none)) some))
noncomputable def c_lmarkText : Ctr := { args := [.val false (.int .i64)], rets := [(false, [(none, .str)])], F := lmarkText }
noncomputable def X_lmarkText : Ctx := XT.withΓ (lk []) (lk [])
noncomputable def H_lmarkText : Hints := ⟨lk [], lk [], lk []⟩
noncomputable def L_lmarkText_4 : LoopF c_lmarkText.Res := ⟨⟨20, [(0, .one (.val (.int .i64))), (3, .one (.val .str))], [], []⟩, [(0, ⟨20, [(3, .one (.val .str))], [], []⟩)], lmarkText_L4⟩
noncomputable def T_lmarkText : Nat → Option (LoopF c_lmarkText.Res) := lk [(4, L_lmarkText_4)]
theorem s_lmarkText_4 : StepOk X_lmarkText H_lmarkText (c_lmarkText.finish X_lmarkText Try.f170.results.toList) T_lmarkText (loopAt Try.f170 0) := ⟨L_lmarkText_4, by kernel_rfl, fun O y x r => by kernel_rfl, fun O k y x r => by kernel_rfl⟩
theorem r_lmarkText (a) : fnRun X_lmarkText H_lmarkText c_lmarkText Try.f170 T_lmarkText a = lmarkText a := by kernel_rfl
theorem h_lmarkText : CtrHolds Try.prog 170 c_lmarkText := fn_ok .nil .nil (H := H_lmarkText) (tbl := T_lmarkText) Try.func170 (by kernel_rfl) (loops1 (by kernel_rfl) s_lmarkText_4) r_lmarkText
/-! 110 lmarkDotS -/
noncomputable def lmarkDotS_L2 (O : Type) : Nat → (List (Int × Int) × Int × Int) → (Int → Option O) → (Int → Option O) → Option O
  | 0, _, _, _ => none
  | q + 1, (a2, k3, i4), x, r => (cond (decide (i4 < ((a2.length : Nat) : Int))) (cond (decide ((0 : Int) ≤ i4) && decide (i4 < ((a2.length : Nat) : Int))) none none) (x k3))
noncomputable def lmarkDotS : (List (Int × Int) × Int) → Option Int
  | (a0, k1) => (lmarkDotS_L2 Int fuel (a0, k1, (0 : Int)) (fun k5 => (some k5)) some)
noncomputable def c_lmarkDotS : Ctr := { args := [.val false (.sl (.pair (.int .i64) (.int .i64))), .val false (.int .i64)], rets := [(false, [(none, (.int .i64))])], F := lmarkDotS }
noncomputable def X_lmarkDotS : Ctx := XT.withΓ (lk []) (lk [])
noncomputable def H_lmarkDotS : Hints := ⟨lk [], lk [], lk []⟩
noncomputable def L_lmarkDotS_2 : LoopF c_lmarkDotS.Res := ⟨⟨27, [(0, .one (.val (.sl (.pair (.int .i64) (.int .i64))))), (1, .one (.val (.int .i64))), (5, .one (.val (.int .i64)))], [], []⟩, [(0, ⟨27, [(1, .one (.val (.int .i64)))], [], []⟩)], lmarkDotS_L2⟩
noncomputable def T_lmarkDotS : Nat → Option (LoopF c_lmarkDotS.Res) := lk [(2, L_lmarkDotS_2)]
theorem s_lmarkDotS_2 : StepOk X_lmarkDotS H_lmarkDotS (c_lmarkDotS.finish X_lmarkDotS Try.f110.results.toList) T_lmarkDotS (loopAt Try.f110 0) := ⟨L_lmarkDotS_2, by kernel_rfl, fun O y x r => by kernel_rfl, fun O k y x r => by kernel_rfl⟩
theorem r_lmarkDotS (a) : fnRun X_lmarkDotS H_lmarkDotS c_lmarkDotS Try.f110 T_lmarkDotS a = lmarkDotS a := by kernel_rfl
theorem h_lmarkDotS : CtrHolds Try.prog 110 c_lmarkDotS := fn_ok .nil .nil (H := H_lmarkDotS) (tbl := T_lmarkDotS) Try.func110 (by kernel_rfl) (loops1 (by kernel_rfl) s_lmarkDotS_2) r_lmarkDotS
/-! 108 lmarkRecS -/
noncomputable def lmarkRecS_L2 (O : Type) : Nat → (List ((Int × Int) × (Int × List UInt8 × List UInt8) × List (Int × Int) × Bool) × Int × Int) → (Int → Option O) → (Int → Option O) → Option O
  | 0, _, _, _ => none
  | q + 1, (a2, k3, i4), x, r => (cond (decide (i4 < ((a2.length : Nat) : Int))) (cond (decide ((0 : Int) ≤ i4) && decide (i4 < ((a2.length : Nat) : Int))) none none) (x k3))
noncomputable def lmarkRecS : (List ((Int × Int) × (Int × List UInt8 × List UInt8) × List (Int × Int) × Bool) × Int) → Option Int
  | (a0, k1) => (lmarkRecS_L2 Int fuel (a0, k1, (0 : Int)) (fun k5 => (some k5)) some)
noncomputable def c_lmarkRecS : Ctr := { args := [.val false (.sl (.pair (.pair (.int .i64) (.int .i64)) (.pair (.pair (.int .i64) (.pair .str .str)) (.pair (.sl (.pair (.int .i64) (.int .i64))) .bool)))), .val false (.int .i64)], rets := [(false, [(none, (.int .i64))])], F := lmarkRecS }
noncomputable def X_lmarkRecS : Ctx := XT.withΓ (lk [(170, c_lmarkText), (110, c_lmarkDotS)]) (lk [])
noncomputable def H_lmarkRecS : Hints := ⟨lk [], lk [], lk []⟩
noncomputable def L_lmarkRecS_2 : LoopF c_lmarkRecS.Res := ⟨⟨71, [(0, .one (.val (.sl (.pair (.pair (.int .i64) (.int .i64)) (.pair (.pair (.int .i64) (.pair .str .str)) (.pair (.sl (.pair (.int .i64) (.int .i64))) .bool)))))), (1, .one (.val (.int .i64))), (5, .one (.val (.int .i64)))], [], []⟩, [(0, ⟨71, [(1, .one (.val (.int .i64)))], [], []⟩)], lmarkRecS_L2⟩
noncomputable def T_lmarkRecS : Nat → Option (LoopF c_lmarkRecS.Res) := lk [(2, L_lmarkRecS_2)]
theorem s_lmarkRecS_2 : StepOk X_lmarkRecS H_lmarkRecS (c_lmarkRecS.finish X_lmarkRecS Try.f108.results.toList) T_lmarkRecS (loopAt Try.f108 0) := ⟨L_lmarkRecS_2, by kernel_rfl, fun O y x r => by kernel_rfl, fun O k y x r => by kernel_rfl⟩
theorem r_lmarkRecS (a) : fnRun X_lmarkRecS H_lmarkRecS c_lmarkRecS Try.f108 T_lmarkRecS a = lmarkRecS a := by kernel_rfl
theorem h_lmarkRecS : CtrHolds Try.prog 108 c_lmarkRecS := fn_ok (.cons h_lmarkText Try.call170 (.cons h_lmarkDotS Try.call110 .nil)) .nil (H := H_lmarkRecS) (tbl := T_lmarkRecS) Try.func108 (by kernel_rfl) (loops1 (by kernel_rfl) s_lmarkRecS_2) r_lmarkRecS
/-! 109 lmarkAckS -/
noncomputable def lmarkAckS_L2 (O : Type) : Nat → (List ((Int × Int) × Int) × Int × Int) → (Int → Option O) → (Int → Option O) → Option O
  | 0, _, _, _ => none
  | q + 1, (a2, k3, i4), x, r => (cond (decide (i4 < ((a2.length : Nat) : Int))) (cond (decide ((0 : Int) ≤ i4) && decide (i4 < ((a2.length : Nat) : Int))) none none) (x k3))
noncomputable def lmarkAckS : (List ((Int × Int) × Int) × Int) → Option Int
  | (a0, k1) => (lmarkAckS_L2 Int fuel (a0, k1, (0 : Int)) (fun k5 => (some k5)) some)
noncomputable def c_lmarkAckS : Ctr := { args := [.val false (.sl (.pair (.pair (.int .i64) (.int .i64)) (.int .i64))), .val false (.int .i64)], rets := [(false, [(none, (.int .i64))])], F := lmarkAckS }
noncomputable def X_lmarkAckS : Ctx := XT.withΓ (lk []) (lk [])
noncomputable def H_lmarkAckS : Hints := ⟨lk [], lk [], lk []⟩
noncomputable def L_lmarkAckS_2 : LoopF c_lmarkAckS.Res := ⟨⟨36, [(0, .one (.val (.sl (.pair (.pair (.int .i64) (.int .i64)) (.int .i64))))), (1, .one (.val (.int .i64))), (5, .one (.val (.int .i64)))], [], []⟩, [(0, ⟨36, [(1, .one (.val (.int .i64)))], [], []⟩)], lmarkAckS_L2⟩
noncomputable def T_lmarkAckS : Nat → Option (LoopF c_lmarkAckS.Res) := lk [(2, L_lmarkAckS_2)]
theorem s_lmarkAckS_2 : StepOk X_lmarkAckS H_lmarkAckS (c_lmarkAckS.finish X_lmarkAckS Try.f109.results.toList) T_lmarkAckS (loopAt Try.f109 0) := ⟨L_lmarkAckS_2, by kernel_rfl, fun O y x r => by kernel_rfl, fun O k y x r => by kernel_rfl⟩
theorem r_lmarkAckS (a) : fnRun X_lmarkAckS H_lmarkAckS c_lmarkAckS Try.f109 T_lmarkAckS a = lmarkAckS a := by kernel_rfl
theorem h_lmarkAckS : CtrHolds Try.prog 109 c_lmarkAckS := fn_ok .nil .nil (H := H_lmarkAckS) (tbl := T_lmarkAckS) Try.func109 (by kernel_rfl) (loops1 (by kernel_rfl) s_lmarkAckS_2) r_lmarkAckS
/-! 69 lmarkPairS -/
noncomputable def lmarkPairS_L2 (O : Type) : Nat → (List (List UInt8 × List UInt8 × Bool) × Int × Int) → (Int → Option O) → (Int → Option O) → Option O
  | 0, _, _, _ => none
  | q + 1, (a2, k3, i4), x, r => (cond (decide (i4 < ((a2.length : Nat) : Int))) ((lmarkText k3).bind fun r5 => (cond (decide ((0 : Int) ≤ i4) && decide (i4 < ((a2.length : Nat) : Int))) none none)) (x k3))
noncomputable def lmarkPairS : (List (List UInt8 × List UInt8 × Bool) × Int) → Option Int
  | (a0, k1) => (lmarkPairS_L2 Int fuel (a0, k1, (0 : Int)) (fun k6 => (some k6)) some)
noncomputable def c_lmarkPairS : Ctr := { args := [.val false (.sl (.pair .str (.pair .str .bool))), .val false (.int .i64)], rets := [(false, [(none, (.int .i64))])], F := lmarkPairS }
noncomputable def X_lmarkPairS : Ctx := XT.withΓ (lk [(170, c_lmarkText)]) (lk [])
noncomputable def H_lmarkPairS : Hints := ⟨lk [], lk [], lk []⟩
noncomputable def L_lmarkPairS_2 : LoopF c_lmarkPairS.Res := ⟨⟨38, [(0, .one (.val (.sl (.pair .str (.pair .str .bool))))), (1, .one (.val (.int .i64))), (5, .one (.val (.int .i64)))], [], []⟩, [(0, ⟨38, [(1, .one (.val (.int .i64)))], [], []⟩)], lmarkPairS_L2⟩
noncomputable def T_lmarkPairS : Nat → Option (LoopF c_lmarkPairS.Res) := lk [(2, L_lmarkPairS_2)]
theorem s_lmarkPairS_2 : StepOk X_lmarkPairS H_lmarkPairS (c_lmarkPairS.finish X_lmarkPairS Try.f69.results.toList) T_lmarkPairS (loopAt Try.f69 0) := ⟨L_lmarkPairS_2, by kernel_rfl, fun O y x r => by kernel_rfl, fun O k y x r => by kernel_rfl⟩
theorem r_lmarkPairS (a) : fnRun X_lmarkPairS H_lmarkPairS c_lmarkPairS Try.f69 T_lmarkPairS a = lmarkPairS a := by kernel_rfl
theorem h_lmarkPairS : CtrHolds Try.prog 69 c_lmarkPairS := fn_ok (.cons h_lmarkText Try.call170 .nil) .nil (H := H_lmarkPairS) (tbl := T_lmarkPairS) Try.func69 (by kernel_rfl) (loops1 (by kernel_rfl) s_lmarkPairS_2) r_lmarkPairS
/-! 111 lmarkAnswerS -/
noncomputable def lmarkAnswerS_L2 (O : Type) : Nat → (List ((Int × Int) × List UInt8 × Bool) × Int × Int) → (Int → Option O) → (Int → Option O) → Option O
  | 0, _, _, _ => none
  | q + 1, (a2, k3, i4), x, r => (cond (decide (i4 < ((a2.length : Nat) : Int))) (cond (decide ((0 : Int) ≤ i4) && decide (i4 < ((a2.length : Nat) : Int))) none none) (x k3))
noncomputable def lmarkAnswerS : (List ((Int × Int) × List UInt8 × Bool) × Int) → Option Int
  | (a0, k1) => (lmarkAnswerS_L2 Int fuel (a0, k1, (0 : Int)) (fun k5 => (some k5)) some)
noncomputable def c_lmarkAnswerS : Ctr := { args := [.val false (.sl (.pair (.pair (.int .i64) (.int .i64)) (.pair .str .bool))), .val false (.int .i64)], rets := [(false, [(none, (.int .i64))])], F := lmarkAnswerS }
noncomputable def X_lmarkAnswerS : Ctx := XT.withΓ (lk [(170, c_lmarkText)]) (lk [])
noncomputable def H_lmarkAnswerS : Hints := ⟨lk [], lk [], lk []⟩
noncomputable def L_lmarkAnswerS_2 : LoopF c_lmarkAnswerS.Res := ⟨⟨46, [(0, .one (.val (.sl (.pair (.pair (.int .i64) (.int .i64)) (.pair .str .bool))))), (1, .one (.val (.int .i64))), (5, .one (.val (.int .i64)))], [], []⟩, [(0, ⟨46, [(1, .one (.val (.int .i64)))], [], []⟩)], lmarkAnswerS_L2⟩
noncomputable def T_lmarkAnswerS : Nat → Option (LoopF c_lmarkAnswerS.Res) := lk [(2, L_lmarkAnswerS_2)]
theorem s_lmarkAnswerS_2 : StepOk X_lmarkAnswerS H_lmarkAnswerS (c_lmarkAnswerS.finish X_lmarkAnswerS Try.f111.results.toList) T_lmarkAnswerS (loopAt Try.f111 0) := ⟨L_lmarkAnswerS_2, by kernel_rfl, fun O y x r => by kernel_rfl, fun O k y x r => by kernel_rfl⟩
theorem r_lmarkAnswerS (a) : fnRun X_lmarkAnswerS H_lmarkAnswerS c_lmarkAnswerS Try.f111 T_lmarkAnswerS a = lmarkAnswerS a := by kernel_rfl
theorem h_lmarkAnswerS : CtrHolds Try.prog 111 c_lmarkAnswerS := fn_ok (.cons h_lmarkText Try.call170 .nil) .nil (H := H_lmarkAnswerS) (tbl := T_lmarkAnswerS) Try.func111 (by kernel_rfl) (loops1 (by kernel_rfl) s_lmarkAnswerS_2) r_lmarkAnswerS
/-! 42 lmarkReplica -/
noncomputable def lmarkReplica : ((Int × Int × Int × List ((Int × Int) × (Int × List UInt8 × List UInt8) × List (Int × Int) × Bool) × List ((Int × Int) × Int) × List (Int × Int) × List (List UInt8 × List UInt8 × Bool) × List ((Int × Int) × List UInt8 × Bool)) × Int) → Option Int
  | ((a0, a1, a2, a3, a4, a5, a6, a7), k8) => ((lmarkRecS (a3, k8)).bind fun r9 => ((lmarkAckS (a4, r9)).bind fun r10 => ((lmarkDotS (a5, r10)).bind fun r11 => ((lmarkPairS (a6, r11)).bind fun r12 => ((lmarkAnswerS (a7, r12)).bind fun r13 => (some r13))))))
noncomputable def c_lmarkReplica : Ctr := { args := [.val true (.pair (.int .i64) (.pair (.int .i64) (.pair (.int .i64) (.pair (.sl (.pair (.pair (.int .i64) (.int .i64)) (.pair (.pair (.int .i64) (.pair .str .str)) (.pair (.sl (.pair (.int .i64) (.int .i64))) .bool)))) (.pair (.sl (.pair (.pair (.int .i64) (.int .i64)) (.int .i64))) (.pair (.sl (.pair (.int .i64) (.int .i64))) (.pair (.sl (.pair .str (.pair .str .bool))) (.sl (.pair (.pair (.int .i64) (.int .i64)) (.pair .str .bool)))))))))), .val false (.int .i64)], rets := [(false, [(none, (.int .i64))])], F := lmarkReplica }
noncomputable def X_lmarkReplica : Ctx := XT.withΓ (lk [(108, c_lmarkRecS), (109, c_lmarkAckS), (110, c_lmarkDotS), (69, c_lmarkPairS), (111, c_lmarkAnswerS)]) (lk [])
noncomputable def H_lmarkReplica : Hints := ⟨lk [], lk [], lk []⟩
noncomputable def T_lmarkReplica : Nat → Option (LoopF c_lmarkReplica.Res) := lk []
theorem r_lmarkReplica (a) : fnRun X_lmarkReplica H_lmarkReplica c_lmarkReplica Try.f42 T_lmarkReplica a = lmarkReplica a := by kernel_rfl
theorem h_lmarkReplica : CtrHolds Try.prog 42 c_lmarkReplica := fn_ok (.cons h_lmarkRecS Try.call108 (.cons h_lmarkAckS Try.call109 (.cons h_lmarkDotS Try.call110 (.cons h_lmarkPairS Try.call69 (.cons h_lmarkAnswerS Try.call111 .nil))))) .nil (H := H_lmarkReplica) (tbl := T_lmarkReplica) Try.func42 (by kernel_rfl) (loops0 (by kernel_rfl)) r_lmarkReplica
/-! 114 lheldDotS -/
noncomputable def lheldDotS_L2 (O : Type) : Nat → (List (Int × Int) × Int × Int) → (Int → Option O) → (Int → Option O) → Option O
  | 0, _, _, _ => none
  | q + 1, (a2, k3, i4), x, r => (cond (decide (i4 < ((a2.length : Nat) : Int))) (cond (decide ((0 : Int) ≤ i4) && decide (i4 < ((a2.length : Nat) : Int))) (cond ((nth a2 i4).1 != k3) (r (-1 : Int)) (cond (decide ((0 : Int) ≤ i4) && decide (i4 < ((a2.length : Nat) : Int))) (cond ((nth a2 i4).2 != (IntKind.wrap .i64 (k3 + (1 : Int)))) (r (-1 : Int)) (lheldDotS_L2 O q (a2, (IntKind.wrap .i64 ((IntKind.wrap .i64 (k3 + (1 : Int))) + (1 : Int))), (IntKind.wrap .i64 (i4 + (1 : Int)))) x r)) none)) none) (x k3))
noncomputable def lheldDotS : (List (Int × Int) × Int) → Option Int
  | (a0, k1) => (lheldDotS_L2 Int fuel (a0, k1, (0 : Int)) (fun k5 => (some k5)) some)
noncomputable def c_lheldDotS : Ctr := { args := [.val false (.sl (.pair (.int .i64) (.int .i64))), .val false (.int .i64)], rets := [(false, [(none, (.int .i64))])], F := lheldDotS }
noncomputable def X_lheldDotS : Ctx := XT.withΓ (lk []) (lk [])
noncomputable def H_lheldDotS : Hints := ⟨lk [], lk [], lk []⟩
noncomputable def L_lheldDotS_2 : LoopF c_lheldDotS.Res := ⟨⟨31, [(0, .one (.val (.sl (.pair (.int .i64) (.int .i64))))), (1, .one (.val (.int .i64))), (5, .one (.val (.int .i64)))], [], []⟩, [(0, ⟨31, [(1, .one (.val (.int .i64)))], [], []⟩)], lheldDotS_L2⟩
noncomputable def T_lheldDotS : Nat → Option (LoopF c_lheldDotS.Res) := lk [(2, L_lheldDotS_2)]
theorem s_lheldDotS_2 : StepOk X_lheldDotS H_lheldDotS (c_lheldDotS.finish X_lheldDotS Try.f114.results.toList) T_lheldDotS (loopAt Try.f114 0) := ⟨L_lheldDotS_2, by kernel_rfl, fun O y x r => by kernel_rfl, fun O k y x r => by kernel_rfl⟩
theorem r_lheldDotS (a) : fnRun X_lheldDotS H_lheldDotS c_lheldDotS Try.f114 T_lheldDotS a = lheldDotS a := by kernel_rfl
theorem h_lheldDotS : CtrHolds Try.prog 114 c_lheldDotS := fn_ok .nil .nil (H := H_lheldDotS) (tbl := T_lheldDotS) Try.func114 (by kernel_rfl) (loops1 (by kernel_rfl) s_lheldDotS_2) r_lheldDotS
/-! 112 lheldRecS -/
noncomputable def lheldRecS_L2 (O : Type) : Nat → (List ((Int × Int) × (Int × List UInt8 × List UInt8) × List (Int × Int) × Bool) × Int × Int) → (Int → Option O) → (Int → Option O) → Option O
  | 0, _, _, _ => none
  | q + 1, (a2, k3, i4), x, r => (cond (decide (i4 < ((a2.length : Nat) : Int))) (cond (decide ((0 : Int) ≤ i4) && decide (i4 < ((a2.length : Nat) : Int))) (cond ((nth a2 i4).1.1 != k3) (r (-1 : Int)) (cond (decide ((0 : Int) ≤ i4) && decide (i4 < ((a2.length : Nat) : Int))) (cond ((nth a2 i4).1.2 != (IntKind.wrap .i64 (k3 + (1 : Int)))) (r (-1 : Int)) (cond (decide ((0 : Int) ≤ i4) && decide (i4 < ((a2.length : Nat) : Int))) (cond ((nth a2 i4).2.1.1 != (IntKind.wrap .i64 ((IntKind.wrap .i64 (k3 + (1 : Int))) + (1 : Int)))) (r (-1 : Int)) (cond (decide ((0 : Int) ≤ i4) && decide (i4 < ((a2.length : Nat) : Int))) ((lmarkText (IntKind.wrap .i64 ((IntKind.wrap .i64 ((IntKind.wrap .i64 (k3 + (1 : Int))) + (1 : Int))) + (1 : Int)))).bind fun r5 => (cond (!((nth a2 i4).2.1.2.1 == r5)) (r (-1 : Int)) (cond (decide ((0 : Int) ≤ i4) && decide (i4 < ((a2.length : Nat) : Int))) ((lmarkText (IntKind.wrap .i64 ((IntKind.wrap .i64 ((IntKind.wrap .i64 ((IntKind.wrap .i64 (k3 + (1 : Int))) + (1 : Int))) + (1 : Int))) + (1 : Int)))).bind fun r6 => (cond (!((nth a2 i4).2.1.2.2 == r6)) (r (-1 : Int)) (cond (decide ((0 : Int) ≤ i4) && decide (i4 < ((a2.length : Nat) : Int))) ((lheldDotS ((nth a2 i4).2.2.1, (IntKind.wrap .i64 ((IntKind.wrap .i64 ((IntKind.wrap .i64 ((IntKind.wrap .i64 ((IntKind.wrap .i64 (k3 + (1 : Int))) + (1 : Int))) + (1 : Int))) + (1 : Int))) + (1 : Int))))).bind fun r7 => (cond (decide (r7 < (0 : Int))) (r (-1 : Int)) (cond (decide ((0 : Int) ≤ i4) && decide (i4 < ((a2.length : Nat) : Int))) (cond (!((nth a2 i4).2.2.2 == ((Int.tmod r7 (3 : Int)) == (0 : Int)))) (r (-1 : Int)) (lheldRecS_L2 O q (a2, (IntKind.wrap .i64 (r7 + (1 : Int))), (IntKind.wrap .i64 (i4 + (1 : Int)))) x r)) none))) none))) none))) none)) none)) none)) none) (x k3))
noncomputable def lheldRecS : (List ((Int × Int) × (Int × List UInt8 × List UInt8) × List (Int × Int) × Bool) × Int) → Option Int
  | (a0, k1) => (lheldRecS_L2 Int fuel (a0, k1, (0 : Int)) (fun k8 => (some k8)) some)
noncomputable def c_lheldRecS : Ctr := { args := [.val false (.sl (.pair (.pair (.int .i64) (.int .i64)) (.pair (.pair (.int .i64) (.pair .str .str)) (.pair (.sl (.pair (.int .i64) (.int .i64))) .bool)))), .val false (.int .i64)], rets := [(false, [(none, (.int .i64))])], F := lheldRecS }
noncomputable def X_lheldRecS : Ctx := XT.withΓ (lk [(170, c_lmarkText), (114, c_lheldDotS)]) (lk [])
noncomputable def H_lheldRecS : Hints := ⟨lk [], lk [], lk []⟩
noncomputable def L_lheldRecS_2 : LoopF c_lheldRecS.Res := ⟨⟨85, [(0, .one (.val (.sl (.pair (.pair (.int .i64) (.int .i64)) (.pair (.pair (.int .i64) (.pair .str .str)) (.pair (.sl (.pair (.int .i64) (.int .i64))) .bool)))))), (1, .one (.val (.int .i64))), (5, .one (.val (.int .i64)))], [], []⟩, [(0, ⟨85, [(1, .one (.val (.int .i64)))], [], []⟩)], lheldRecS_L2⟩
noncomputable def T_lheldRecS : Nat → Option (LoopF c_lheldRecS.Res) := lk [(2, L_lheldRecS_2)]
theorem s_lheldRecS_2 : StepOk X_lheldRecS H_lheldRecS (c_lheldRecS.finish X_lheldRecS Try.f112.results.toList) T_lheldRecS (loopAt Try.f112 0) := ⟨L_lheldRecS_2, by kernel_rfl, fun O y x r => by kernel_rfl, fun O k y x r => by kernel_rfl⟩
theorem r_lheldRecS (a) : fnRun X_lheldRecS H_lheldRecS c_lheldRecS Try.f112 T_lheldRecS a = lheldRecS a := by kernel_rfl
theorem h_lheldRecS : CtrHolds Try.prog 112 c_lheldRecS := fn_ok (.cons h_lmarkText Try.call170 (.cons h_lheldDotS Try.call114 .nil)) .nil (H := H_lheldRecS) (tbl := T_lheldRecS) Try.func112 (by kernel_rfl) (loops1 (by kernel_rfl) s_lheldRecS_2) r_lheldRecS
/-! 113 lheldAckS -/
noncomputable def lheldAckS_L2 (O : Type) : Nat → (List ((Int × Int) × Int) × Int × Int) → (Int → Option O) → (Int → Option O) → Option O
  | 0, _, _, _ => none
  | q + 1, (a2, k3, i4), x, r => (cond (decide (i4 < ((a2.length : Nat) : Int))) (cond (decide ((0 : Int) ≤ i4) && decide (i4 < ((a2.length : Nat) : Int))) (cond ((nth a2 i4).1.1 != k3) (r (-1 : Int)) (cond (decide ((0 : Int) ≤ i4) && decide (i4 < ((a2.length : Nat) : Int))) (cond ((nth a2 i4).1.2 != (IntKind.wrap .i64 (k3 + (1 : Int)))) (r (-1 : Int)) (cond (decide ((0 : Int) ≤ i4) && decide (i4 < ((a2.length : Nat) : Int))) (cond ((nth a2 i4).2 != (IntKind.wrap .i64 ((IntKind.wrap .i64 (k3 + (1 : Int))) + (1 : Int)))) (r (-1 : Int)) (lheldAckS_L2 O q (a2, (IntKind.wrap .i64 ((IntKind.wrap .i64 ((IntKind.wrap .i64 (k3 + (1 : Int))) + (1 : Int))) + (1 : Int))), (IntKind.wrap .i64 (i4 + (1 : Int)))) x r)) none)) none)) none) (x k3))
noncomputable def lheldAckS : (List ((Int × Int) × Int) × Int) → Option Int
  | (a0, k1) => (lheldAckS_L2 Int fuel (a0, k1, (0 : Int)) (fun k5 => (some k5)) some)
noncomputable def c_lheldAckS : Ctr := { args := [.val false (.sl (.pair (.pair (.int .i64) (.int .i64)) (.int .i64))), .val false (.int .i64)], rets := [(false, [(none, (.int .i64))])], F := lheldAckS }
noncomputable def X_lheldAckS : Ctx := XT.withΓ (lk []) (lk [])
noncomputable def H_lheldAckS : Hints := ⟨lk [], lk [], lk []⟩
noncomputable def L_lheldAckS_2 : LoopF c_lheldAckS.Res := ⟨⟨42, [(0, .one (.val (.sl (.pair (.pair (.int .i64) (.int .i64)) (.int .i64))))), (1, .one (.val (.int .i64))), (5, .one (.val (.int .i64)))], [], []⟩, [(0, ⟨42, [(1, .one (.val (.int .i64)))], [], []⟩)], lheldAckS_L2⟩
noncomputable def T_lheldAckS : Nat → Option (LoopF c_lheldAckS.Res) := lk [(2, L_lheldAckS_2)]
theorem s_lheldAckS_2 : StepOk X_lheldAckS H_lheldAckS (c_lheldAckS.finish X_lheldAckS Try.f113.results.toList) T_lheldAckS (loopAt Try.f113 0) := ⟨L_lheldAckS_2, by kernel_rfl, fun O y x r => by kernel_rfl, fun O k y x r => by kernel_rfl⟩
theorem r_lheldAckS (a) : fnRun X_lheldAckS H_lheldAckS c_lheldAckS Try.f113 T_lheldAckS a = lheldAckS a := by kernel_rfl
theorem h_lheldAckS : CtrHolds Try.prog 113 c_lheldAckS := fn_ok .nil .nil (H := H_lheldAckS) (tbl := T_lheldAckS) Try.func113 (by kernel_rfl) (loops1 (by kernel_rfl) s_lheldAckS_2) r_lheldAckS
/-! 70 lheldPairS -/
noncomputable def lheldPairS_L2 (O : Type) : Nat → (List (List UInt8 × List UInt8 × Bool) × Int × Int) → (Int → Option O) → (Int → Option O) → Option O
  | 0, _, _, _ => none
  | q + 1, (a2, k3, i4), x, r => (cond (decide (i4 < ((a2.length : Nat) : Int))) (cond (decide ((0 : Int) ≤ i4) && decide (i4 < ((a2.length : Nat) : Int))) ((lmarkText k3).bind fun r5 => (cond (!((nth a2 i4).1 == r5)) (r (-1 : Int)) (cond (decide ((0 : Int) ≤ i4) && decide (i4 < ((a2.length : Nat) : Int))) ((lmarkText (IntKind.wrap .i64 (k3 + (1 : Int)))).bind fun r6 => (cond (!((nth a2 i4).2.1 == r6)) (r (-1 : Int)) (cond (decide ((0 : Int) ≤ i4) && decide (i4 < ((a2.length : Nat) : Int))) (cond (!((nth a2 i4).2.2 == ((Int.tmod (IntKind.wrap .i64 ((IntKind.wrap .i64 (k3 + (1 : Int))) + (1 : Int))) (3 : Int)) == (0 : Int)))) (r (-1 : Int)) (lheldPairS_L2 O q (a2, (IntKind.wrap .i64 ((IntKind.wrap .i64 ((IntKind.wrap .i64 (k3 + (1 : Int))) + (1 : Int))) + (1 : Int))), (IntKind.wrap .i64 (i4 + (1 : Int)))) x r)) none))) none))) none) (x k3))
noncomputable def lheldPairS : (List (List UInt8 × List UInt8 × Bool) × Int) → Option Int
  | (a0, k1) => (lheldPairS_L2 Int fuel (a0, k1, (0 : Int)) (fun k7 => (some k7)) some)
noncomputable def c_lheldPairS : Ctr := { args := [.val false (.sl (.pair .str (.pair .str .bool))), .val false (.int .i64)], rets := [(false, [(none, (.int .i64))])], F := lheldPairS }
noncomputable def X_lheldPairS : Ctx := XT.withΓ (lk [(170, c_lmarkText)]) (lk [])
noncomputable def H_lheldPairS : Hints := ⟨lk [], lk [], lk []⟩
noncomputable def L_lheldPairS_2 : LoopF c_lheldPairS.Res := ⟨⟨44, [(0, .one (.val (.sl (.pair .str (.pair .str .bool))))), (1, .one (.val (.int .i64))), (5, .one (.val (.int .i64)))], [], []⟩, [(0, ⟨44, [(1, .one (.val (.int .i64)))], [], []⟩)], lheldPairS_L2⟩
noncomputable def T_lheldPairS : Nat → Option (LoopF c_lheldPairS.Res) := lk [(2, L_lheldPairS_2)]
theorem s_lheldPairS_2 : StepOk X_lheldPairS H_lheldPairS (c_lheldPairS.finish X_lheldPairS Try.f70.results.toList) T_lheldPairS (loopAt Try.f70 0) := ⟨L_lheldPairS_2, by kernel_rfl, fun O y x r => by kernel_rfl, fun O k y x r => by kernel_rfl⟩
theorem r_lheldPairS (a) : fnRun X_lheldPairS H_lheldPairS c_lheldPairS Try.f70 T_lheldPairS a = lheldPairS a := by kernel_rfl
theorem h_lheldPairS : CtrHolds Try.prog 70 c_lheldPairS := fn_ok (.cons h_lmarkText Try.call170 .nil) .nil (H := H_lheldPairS) (tbl := T_lheldPairS) Try.func70 (by kernel_rfl) (loops1 (by kernel_rfl) s_lheldPairS_2) r_lheldPairS
/-! 115 lheldAnswerS -/
noncomputable def lheldAnswerS_L2 (O : Type) : Nat → (List ((Int × Int) × List UInt8 × Bool) × Int × Int) → (Int → Option O) → (Int → Option O) → Option O
  | 0, _, _, _ => none
  | q + 1, (a2, k3, i4), x, r => (cond (decide (i4 < ((a2.length : Nat) : Int))) (cond (decide ((0 : Int) ≤ i4) && decide (i4 < ((a2.length : Nat) : Int))) (cond ((nth a2 i4).1.1 != k3) (r (-1 : Int)) (cond (decide ((0 : Int) ≤ i4) && decide (i4 < ((a2.length : Nat) : Int))) (cond ((nth a2 i4).1.2 != (IntKind.wrap .i64 (k3 + (1 : Int)))) (r (-1 : Int)) (cond (decide ((0 : Int) ≤ i4) && decide (i4 < ((a2.length : Nat) : Int))) ((lmarkText (IntKind.wrap .i64 ((IntKind.wrap .i64 (k3 + (1 : Int))) + (1 : Int)))).bind fun r5 => (cond (!((nth a2 i4).2.1 == r5)) (r (-1 : Int)) (cond (decide ((0 : Int) ≤ i4) && decide (i4 < ((a2.length : Nat) : Int))) (cond (!((nth a2 i4).2.2 == ((Int.tmod (IntKind.wrap .i64 ((IntKind.wrap .i64 ((IntKind.wrap .i64 (k3 + (1 : Int))) + (1 : Int))) + (1 : Int))) (3 : Int)) == (0 : Int)))) (r (-1 : Int)) (lheldAnswerS_L2 O q (a2, (IntKind.wrap .i64 ((IntKind.wrap .i64 ((IntKind.wrap .i64 ((IntKind.wrap .i64 (k3 + (1 : Int))) + (1 : Int))) + (1 : Int))) + (1 : Int))), (IntKind.wrap .i64 (i4 + (1 : Int)))) x r)) none))) none)) none)) none) (x k3))
noncomputable def lheldAnswerS : (List ((Int × Int) × List UInt8 × Bool) × Int) → Option Int
  | (a0, k1) => (lheldAnswerS_L2 Int fuel (a0, k1, (0 : Int)) (fun k6 => (some k6)) some)
noncomputable def c_lheldAnswerS : Ctr := { args := [.val false (.sl (.pair (.pair (.int .i64) (.int .i64)) (.pair .str .bool))), .val false (.int .i64)], rets := [(false, [(none, (.int .i64))])], F := lheldAnswerS }
noncomputable def X_lheldAnswerS : Ctx := XT.withΓ (lk [(170, c_lmarkText)]) (lk [])
noncomputable def H_lheldAnswerS : Hints := ⟨lk [], lk [], lk []⟩
noncomputable def L_lheldAnswerS_2 : LoopF c_lheldAnswerS.Res := ⟨⟨54, [(0, .one (.val (.sl (.pair (.pair (.int .i64) (.int .i64)) (.pair .str .bool))))), (1, .one (.val (.int .i64))), (5, .one (.val (.int .i64)))], [], []⟩, [(0, ⟨54, [(1, .one (.val (.int .i64)))], [], []⟩)], lheldAnswerS_L2⟩
noncomputable def T_lheldAnswerS : Nat → Option (LoopF c_lheldAnswerS.Res) := lk [(2, L_lheldAnswerS_2)]
theorem s_lheldAnswerS_2 : StepOk X_lheldAnswerS H_lheldAnswerS (c_lheldAnswerS.finish X_lheldAnswerS Try.f115.results.toList) T_lheldAnswerS (loopAt Try.f115 0) := ⟨L_lheldAnswerS_2, by kernel_rfl, fun O y x r => by kernel_rfl, fun O k y x r => by kernel_rfl⟩
theorem r_lheldAnswerS (a) : fnRun X_lheldAnswerS H_lheldAnswerS c_lheldAnswerS Try.f115 T_lheldAnswerS a = lheldAnswerS a := by kernel_rfl
theorem h_lheldAnswerS : CtrHolds Try.prog 115 c_lheldAnswerS := fn_ok (.cons h_lmarkText Try.call170 .nil) .nil (H := H_lheldAnswerS) (tbl := T_lheldAnswerS) Try.func115 (by kernel_rfl) (loops1 (by kernel_rfl) s_lheldAnswerS_2) r_lheldAnswerS
/-! 43 lheldReplica -/
noncomputable def lheldReplica : ((Int × Int × Int × List ((Int × Int) × (Int × List UInt8 × List UInt8) × List (Int × Int) × Bool) × List ((Int × Int) × Int) × List (Int × Int) × List (List UInt8 × List UInt8 × Bool) × List ((Int × Int) × List UInt8 × Bool)) × Int) → Option Int
  | ((a0, a1, a2, a3, a4, a5, a6, a7), k8) => ((lheldRecS (a3, k8)).bind fun r9 => (cond (decide (r9 < (0 : Int))) (some (-1 : Int)) ((lheldAckS (a4, r9)).bind fun r10 => (cond (decide (r10 < (0 : Int))) (some (-1 : Int)) ((lheldDotS (a5, r10)).bind fun r11 => (cond (decide (r11 < (0 : Int))) (some (-1 : Int)) ((lheldPairS (a6, r11)).bind fun r12 => (cond (decide (r12 < (0 : Int))) (some (-1 : Int)) ((lheldAnswerS (a7, r12)).bind fun r13 => (cond (decide (r13 < (0 : Int))) (some (-1 : Int)) (some r13)))))))))))
noncomputable def c_lheldReplica : Ctr := { args := [.val true (.pair (.int .i64) (.pair (.int .i64) (.pair (.int .i64) (.pair (.sl (.pair (.pair (.int .i64) (.int .i64)) (.pair (.pair (.int .i64) (.pair .str .str)) (.pair (.sl (.pair (.int .i64) (.int .i64))) .bool)))) (.pair (.sl (.pair (.pair (.int .i64) (.int .i64)) (.int .i64))) (.pair (.sl (.pair (.int .i64) (.int .i64))) (.pair (.sl (.pair .str (.pair .str .bool))) (.sl (.pair (.pair (.int .i64) (.int .i64)) (.pair .str .bool)))))))))), .val false (.int .i64)], rets := [(false, [(none, (.int .i64))])], F := lheldReplica }
noncomputable def X_lheldReplica : Ctx := XT.withΓ (lk [(112, c_lheldRecS), (113, c_lheldAckS), (114, c_lheldDotS), (70, c_lheldPairS), (115, c_lheldAnswerS)]) (lk [])
noncomputable def H_lheldReplica : Hints := ⟨lk [], lk [], lk []⟩
noncomputable def T_lheldReplica : Nat → Option (LoopF c_lheldReplica.Res) := lk []
theorem r_lheldReplica (a) : fnRun X_lheldReplica H_lheldReplica c_lheldReplica Try.f43 T_lheldReplica a = lheldReplica a := by kernel_rfl
theorem h_lheldReplica : CtrHolds Try.prog 43 c_lheldReplica := fn_ok (.cons h_lheldRecS Try.call112 (.cons h_lheldAckS Try.call113 (.cons h_lheldDotS Try.call114 (.cons h_lheldPairS Try.call70 (.cons h_lheldAnswerS Try.call115 .nil))))) .nil (H := H_lheldReplica) (tbl := T_lheldReplica) Try.func43 (by kernel_rfl) (loops0 (by kernel_rfl)) r_lheldReplica
/-! 6 lFnExactReplicaNew -/
noncomputable def lFnExactReplicaNew : (Int × Int) → Option Bool
  | (aId0, aN1) => ((sReplicaNew (aId0, aN1)).bind fun (r2, r3, r4, r5, r6, r7, r8, r9) => ((iReplicaNew (aId0, aN1)).bind fun (r10, r11, r12, r13, r14, r15, r16, r17) => ((leqReplica ((r10, r11, r12, r13, r14, r15, r16, r17), r2, r3, r4, r5, r6, r7, r8, r9)).bind fun r18 => (cond (!r18) (some false) ((lmarkReplica ((r10, r11, r12, r13, r14, r15, r16, r17), (1 : Int))).bind fun r19 => ((lheldReplica ((r10, r11, r12, r13, r14, r15, r16, r17), (1 : Int))).bind fun r20 => (cond (decide (r20 < (0 : Int))) (some false) (cond (r20 != r19) (some false) ((iReplicaNew (aId0, aN1)).bind fun (r21, r22, r23, r24, r25, r26, r27, r28) => ((leqReplica ((r21, r22, r23, r24, r25, r26, r27, r28), r2, r3, r4, r5, r6, r7, r8, r9)).bind fun r29 => (cond (!r29) (some false) ((lheldReplica ((r10, r11, r12, r13, r14, r15, r16, r17), (1 : Int))).bind fun r30 => (cond (decide (r30 < (0 : Int))) (some false) (cond (r30 != r19) (some false) (some true)))))))))))))))
noncomputable def c_lFnExactReplicaNew : Ctr := { args := [.val false (.int .i64), .val false (.int .i64)], rets := [(false, [(none, .bool)])], F := lFnExactReplicaNew }
noncomputable def X_lFnExactReplicaNew : Ctx := XT.withΓ (lk [(39, c_sReplicaNew), (40, c_iReplicaNew), (41, c_leqReplica), (42, c_lmarkReplica), (43, c_lheldReplica)]) (lk [])
noncomputable def H_lFnExactReplicaNew : Hints := ⟨lk [], lk [], lk []⟩
noncomputable def T_lFnExactReplicaNew : Nat → Option (LoopF c_lFnExactReplicaNew.Res) := lk []
theorem r_lFnExactReplicaNew (a) : fnRun X_lFnExactReplicaNew H_lFnExactReplicaNew c_lFnExactReplicaNew Try.f6 T_lFnExactReplicaNew a = lFnExactReplicaNew a := by kernel_rfl
theorem h_lFnExactReplicaNew : CtrHolds Try.prog 6 c_lFnExactReplicaNew := fn_ok (.cons h_sReplicaNew Try.call39 (.cons h_iReplicaNew Try.call40 (.cons h_leqReplica Try.call41 (.cons h_lmarkReplica Try.call42 (.cons h_lheldReplica Try.call43 .nil))))) .nil (H := H_lFnExactReplicaNew) (tbl := T_lFnExactReplicaNew) Try.func6 (by kernel_rfl) (loops0 (by kernel_rfl)) r_lFnExactReplicaNew
end Go.Rx
