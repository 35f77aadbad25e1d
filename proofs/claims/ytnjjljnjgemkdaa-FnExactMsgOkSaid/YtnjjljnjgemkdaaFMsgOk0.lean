import Derived.Test.YtnjjljnjgemkdaaTab
set_option linter.all false
set_option maxRecDepth 1000000
namespace Go.Rx
open Go.Proofs
/-! 121 lszCmd -/
noncomputable def lszCmd : ((Int × List UInt8 × List UInt8) × Int) → Option Int
  | ((a0, a1, a2), left3) => (cond (decide ((IntKind.wrap .i64 (left3 - ((a1.length : Nat) : Int))) < (0 : Int))) (some (-1 : Int)) (cond (decide ((IntKind.wrap .i64 ((IntKind.wrap .i64 (left3 - ((a1.length : Nat) : Int))) - ((a2.length : Nat) : Int))) < (0 : Int))) (some (-1 : Int)) (some (IntKind.wrap .i64 ((IntKind.wrap .i64 (left3 - ((a1.length : Nat) : Int))) - ((a2.length : Nat) : Int))))))
noncomputable def c_lszCmd : Ctr := { args := [.val true (.pair (.int .i64) (.pair .str .str)), .val false (.int .i64)], rets := [(false, [(none, (.int .i64))])], F := lszCmd }
noncomputable def X_lszCmd : Ctx := XT.withΓ (lk []) (lk [])
noncomputable def H_lszCmd : Hints := ⟨lk [], lk [], lk []⟩
noncomputable def T_lszCmd : Nat → Option (LoopF c_lszCmd.Res) := lk []
theorem r_lszCmd (a) : fnRun X_lszCmd H_lszCmd c_lszCmd Try.f121 T_lszCmd a = lszCmd a := by kernel_rfl
theorem h_lszCmd : CtrHolds Try.prog 121 c_lszCmd := fn_ok .nil .nil (H := H_lszCmd) (tbl := T_lszCmd) Try.func121 (by kernel_rfl) (loops0 (by kernel_rfl)) r_lszCmd
/-! 118 lszDotS -/
noncomputable def lszDotS : (List (Int × Int) × Int) → Option Int
  | (a0, left1) => (cond (decide ((IntKind.wrap .i64 (left1 - ((a0.length : Nat) : Int))) < (0 : Int))) (some (-1 : Int)) (some (IntKind.wrap .i64 (left1 - ((a0.length : Nat) : Int)))))
noncomputable def c_lszDotS : Ctr := { args := [.val false (.sl (.pair (.int .i64) (.int .i64))), .val false (.int .i64)], rets := [(false, [(none, (.int .i64))])], F := lszDotS }
noncomputable def X_lszDotS : Ctx := XT.withΓ (lk []) (lk [])
noncomputable def H_lszDotS : Hints := ⟨lk [], lk [], lk []⟩
noncomputable def T_lszDotS : Nat → Option (LoopF c_lszDotS.Res) := lk []
theorem r_lszDotS (a) : fnRun X_lszDotS H_lszDotS c_lszDotS Try.f118 T_lszDotS a = lszDotS a := by kernel_rfl
theorem h_lszDotS : CtrHolds Try.prog 118 c_lszDotS := fn_ok .nil .nil (H := H_lszDotS) (tbl := T_lszDotS) Try.func118 (by kernel_rfl) (loops0 (by kernel_rfl)) r_lszDotS
/-! 205 lszRec -/
noncomputable def lszRec : (((Int × Int) × (Int × List UInt8 × List UInt8) × List (Int × Int) × Bool) × Int) → Option Int
  | (((a0, a1), (a2, a3, a4), a5, a6), left7) => ((lszCmd ((a2, a3, a4), left7)).bind fun r8 => (cond (decide (r8 < (0 : Int))) (some (-1 : Int)) ((lszDotS (a5, r8)).bind fun r9 => (cond (decide (r9 < (0 : Int))) (some (-1 : Int)) (some r9)))))
noncomputable def c_lszRec : Ctr := { args := [.val true (.pair (.pair (.int .i64) (.int .i64)) (.pair (.pair (.int .i64) (.pair .str .str)) (.pair (.sl (.pair (.int .i64) (.int .i64))) .bool))), .val false (.int .i64)], rets := [(false, [(none, (.int .i64))])], F := lszRec }
noncomputable def X_lszRec : Ctx := XT.withΓ (lk [(121, c_lszCmd), (118, c_lszDotS)]) (lk [])
noncomputable def H_lszRec : Hints := ⟨lk [], lk [], lk []⟩
noncomputable def T_lszRec : Nat → Option (LoopF c_lszRec.Res) := lk []
theorem r_lszRec (a) : fnRun X_lszRec H_lszRec c_lszRec Try.f205 T_lszRec a = lszRec a := by kernel_rfl
theorem h_lszRec : CtrHolds Try.prog 205 c_lszRec := fn_ok (.cons h_lszCmd Try.call121 (.cons h_lszDotS Try.call118 .nil)) .nil (H := H_lszRec) (tbl := T_lszRec) Try.func205 (by kernel_rfl) (loops0 (by kernel_rfl)) r_lszRec
/-! 116 lszRecS -/
noncomputable def lszRecS_L5 (O : Type) : Nat → (List ((Int × Int) × (Int × List UInt8 × List UInt8) × List (Int × Int) × Bool) × Int × Int) → (Int → Option O) → (Int → Option O) → Option O
  | 0, _, _, _ => none
  | q + 1, (a2, left3, i4), x, r => (cond (decide (i4 < ((a2.length : Nat) : Int))) (cond (decide ((0 : Int) ≤ i4) && decide (i4 < ((a2.length : Nat) : Int))) ((lszRec ((((nth a2 i4).1.1, (nth a2 i4).1.2), ((nth a2 i4).2.1.1, (nth a2 i4).2.1.2.1, (nth a2 i4).2.1.2.2), (nth a2 i4).2.2.1, (nth a2 i4).2.2.2), left3)).bind fun r5 => (cond (decide (r5 < (0 : Int))) (r (-1 : Int)) (lszRecS_L5 O q (a2, r5, (IntKind.wrap .i64 (i4 + (1 : Int)))) x r))) none) (x left3))
noncomputable def lszRecS : (List ((Int × Int) × (Int × List UInt8 × List UInt8) × List (Int × Int) × Bool) × Int) → Option Int
  | (a0, left1) => (cond (decide ((IntKind.wrap .i64 (left1 - ((a0.length : Nat) : Int))) < (0 : Int))) (some (-1 : Int)) (lszRecS_L5 Int fuel (a0, (IntKind.wrap .i64 (left1 - ((a0.length : Nat) : Int))), (0 : Int)) (fun left6 => (some left6)) some))
noncomputable def c_lszRecS : Ctr := { args := [.val false (.sl (.pair (.pair (.int .i64) (.int .i64)) (.pair (.pair (.int .i64) (.pair .str .str)) (.pair (.sl (.pair (.int .i64) (.int .i64))) .bool)))), .val false (.int .i64)], rets := [(false, [(none, (.int .i64))])], F := lszRecS }
noncomputable def X_lszRecS : Ctx := XT.withΓ (lk [(205, c_lszRec)]) (lk [])
noncomputable def H_lszRecS : Hints := ⟨lk [], lk [], lk []⟩
noncomputable def L_lszRecS_5 : LoopF c_lszRecS.Res := ⟨⟨27, [(0, .one (.val (.sl (.pair (.pair (.int .i64) (.int .i64)) (.pair (.pair (.int .i64) (.pair .str .str)) (.pair (.sl (.pair (.int .i64) (.int .i64))) .bool)))))), (1, .one (.val (.int .i64))), (5, .one (.val (.int .i64)))], [], []⟩, [(0, ⟨27, [(1, .one (.val (.int .i64)))], [], []⟩)], lszRecS_L5⟩
noncomputable def T_lszRecS : Nat → Option (LoopF c_lszRecS.Res) := lk [(5, L_lszRecS_5)]
theorem s_lszRecS_5 : StepOk X_lszRecS H_lszRecS (c_lszRecS.finish X_lszRecS Try.f116.results.toList) T_lszRecS (loopAt Try.f116 0) := ⟨L_lszRecS_5, by kernel_rfl, fun O y x r => by kernel_rfl, fun O k y x r => by kernel_rfl⟩
theorem r_lszRecS (a) : fnRun X_lszRecS H_lszRecS c_lszRecS Try.f116 T_lszRecS a = lszRecS a := by kernel_rfl
theorem h_lszRecS : CtrHolds Try.prog 116 c_lszRecS := fn_ok (.cons h_lszRec Try.call205 .nil) .nil (H := H_lszRecS) (tbl := T_lszRecS) Try.func116 (by kernel_rfl) (loops1 (by kernel_rfl) s_lszRecS_5) r_lszRecS
/-! 117 lszAckS -/
noncomputable def lszAckS : (List ((Int × Int) × Int) × Int) → Option Int
  | (a0, left1) => (cond (decide ((IntKind.wrap .i64 (left1 - ((a0.length : Nat) : Int))) < (0 : Int))) (some (-1 : Int)) (some (IntKind.wrap .i64 (left1 - ((a0.length : Nat) : Int)))))
noncomputable def c_lszAckS : Ctr := { args := [.val false (.sl (.pair (.pair (.int .i64) (.int .i64)) (.int .i64))), .val false (.int .i64)], rets := [(false, [(none, (.int .i64))])], F := lszAckS }
noncomputable def X_lszAckS : Ctx := XT.withΓ (lk []) (lk [])
noncomputable def H_lszAckS : Hints := ⟨lk [], lk [], lk []⟩
noncomputable def T_lszAckS : Nat → Option (LoopF c_lszAckS.Res) := lk []
theorem r_lszAckS (a) : fnRun X_lszAckS H_lszAckS c_lszAckS Try.f117 T_lszAckS a = lszAckS a := by kernel_rfl
theorem h_lszAckS : CtrHolds Try.prog 117 c_lszAckS := fn_ok .nil .nil (H := H_lszAckS) (tbl := T_lszAckS) Try.func117 (by kernel_rfl) (loops0 (by kernel_rfl)) r_lszAckS
/-! 206 lszPair -/
noncomputable def lszPair : ((List UInt8 × List UInt8 × Bool) × Int) → Option Int
  | ((a0, a1, a2), left3) => (cond (decide ((IntKind.wrap .i64 (left3 - ((a0.length : Nat) : Int))) < (0 : Int))) (some (-1 : Int)) (cond (decide ((IntKind.wrap .i64 ((IntKind.wrap .i64 (left3 - ((a0.length : Nat) : Int))) - ((a1.length : Nat) : Int))) < (0 : Int))) (some (-1 : Int)) (some (IntKind.wrap .i64 ((IntKind.wrap .i64 (left3 - ((a0.length : Nat) : Int))) - ((a1.length : Nat) : Int))))))
noncomputable def c_lszPair : Ctr := { args := [.val true (.pair .str (.pair .str .bool)), .val false (.int .i64)], rets := [(false, [(none, (.int .i64))])], F := lszPair }
noncomputable def X_lszPair : Ctx := XT.withΓ (lk []) (lk [])
noncomputable def H_lszPair : Hints := ⟨lk [], lk [], lk []⟩
noncomputable def T_lszPair : Nat → Option (LoopF c_lszPair.Res) := lk []
theorem r_lszPair (a) : fnRun X_lszPair H_lszPair c_lszPair Try.f206 T_lszPair a = lszPair a := by kernel_rfl
theorem h_lszPair : CtrHolds Try.prog 206 c_lszPair := fn_ok .nil .nil (H := H_lszPair) (tbl := T_lszPair) Try.func206 (by kernel_rfl) (loops0 (by kernel_rfl)) r_lszPair
/-! 119 lszPairS -/
noncomputable def lszPairS_L5 (O : Type) : Nat → (List (List UInt8 × List UInt8 × Bool) × Int × Int) → (Int → Option O) → (Int → Option O) → Option O
  | 0, _, _, _ => none
  | q + 1, (a2, left3, i4), x, r => (cond (decide (i4 < ((a2.length : Nat) : Int))) (cond (decide ((0 : Int) ≤ i4) && decide (i4 < ((a2.length : Nat) : Int))) ((lszPair (((nth a2 i4).1, (nth a2 i4).2.1, (nth a2 i4).2.2), left3)).bind fun r5 => (cond (decide (r5 < (0 : Int))) (r (-1 : Int)) (lszPairS_L5 O q (a2, r5, (IntKind.wrap .i64 (i4 + (1 : Int)))) x r))) none) (x left3))
noncomputable def lszPairS : (List (List UInt8 × List UInt8 × Bool) × Int) → Option Int
  | (a0, left1) => (cond (decide ((IntKind.wrap .i64 (left1 - ((a0.length : Nat) : Int))) < (0 : Int))) (some (-1 : Int)) (lszPairS_L5 Int fuel (a0, (IntKind.wrap .i64 (left1 - ((a0.length : Nat) : Int))), (0 : Int)) (fun left6 => (some left6)) some))
noncomputable def c_lszPairS : Ctr := { args := [.val false (.sl (.pair .str (.pair .str .bool))), .val false (.int .i64)], rets := [(false, [(none, (.int .i64))])], F := lszPairS }
noncomputable def X_lszPairS : Ctx := XT.withΓ (lk [(206, c_lszPair)]) (lk [])
noncomputable def H_lszPairS : Hints := ⟨lk [], lk [], lk []⟩
noncomputable def L_lszPairS_5 : LoopF c_lszPairS.Res := ⟨⟨27, [(0, .one (.val (.sl (.pair .str (.pair .str .bool))))), (1, .one (.val (.int .i64))), (5, .one (.val (.int .i64)))], [], []⟩, [(0, ⟨27, [(1, .one (.val (.int .i64)))], [], []⟩)], lszPairS_L5⟩
noncomputable def T_lszPairS : Nat → Option (LoopF c_lszPairS.Res) := lk [(5, L_lszPairS_5)]
theorem s_lszPairS_5 : StepOk X_lszPairS H_lszPairS (c_lszPairS.finish X_lszPairS Try.f119.results.toList) T_lszPairS (loopAt Try.f119 0) := ⟨L_lszPairS_5, by kernel_rfl, fun O y x r => by kernel_rfl, fun O k y x r => by kernel_rfl⟩
theorem r_lszPairS (a) : fnRun X_lszPairS H_lszPairS c_lszPairS Try.f119 T_lszPairS a = lszPairS a := by kernel_rfl
theorem h_lszPairS : CtrHolds Try.prog 119 c_lszPairS := fn_ok (.cons h_lszPair Try.call206 .nil) .nil (H := H_lszPairS) (tbl := T_lszPairS) Try.func119 (by kernel_rfl) (loops1 (by kernel_rfl) s_lszPairS_5) r_lszPairS
/-! 207 lszAnswer -/
noncomputable def lszAnswer : (((Int × Int) × List UInt8 × Bool) × Int) → Option Int
  | (((a0, a1), a2, a3), left4) => (cond (decide ((IntKind.wrap .i64 (left4 - ((a2.length : Nat) : Int))) < (0 : Int))) (some (-1 : Int)) (some (IntKind.wrap .i64 (left4 - ((a2.length : Nat) : Int)))))
noncomputable def c_lszAnswer : Ctr := { args := [.val true (.pair (.pair (.int .i64) (.int .i64)) (.pair .str .bool)), .val false (.int .i64)], rets := [(false, [(none, (.int .i64))])], F := lszAnswer }
noncomputable def X_lszAnswer : Ctx := XT.withΓ (lk []) (lk [])
noncomputable def H_lszAnswer : Hints := ⟨lk [], lk [], lk []⟩
noncomputable def T_lszAnswer : Nat → Option (LoopF c_lszAnswer.Res) := lk []
theorem r_lszAnswer (a) : fnRun X_lszAnswer H_lszAnswer c_lszAnswer Try.f207 T_lszAnswer a = lszAnswer a := by kernel_rfl
theorem h_lszAnswer : CtrHolds Try.prog 207 c_lszAnswer := fn_ok .nil .nil (H := H_lszAnswer) (tbl := T_lszAnswer) Try.func207 (by kernel_rfl) (loops0 (by kernel_rfl)) r_lszAnswer
/-! 120 lszAnswerS -/
noncomputable def lszAnswerS_L5 (O : Type) : Nat → (List ((Int × Int) × List UInt8 × Bool) × Int × Int) → (Int → Option O) → (Int → Option O) → Option O
  | 0, _, _, _ => none
  | q + 1, (a2, left3, i4), x, r => (cond (decide (i4 < ((a2.length : Nat) : Int))) (cond (decide ((0 : Int) ≤ i4) && decide (i4 < ((a2.length : Nat) : Int))) ((lszAnswer ((((nth a2 i4).1.1, (nth a2 i4).1.2), (nth a2 i4).2.1, (nth a2 i4).2.2), left3)).bind fun r5 => (cond (decide (r5 < (0 : Int))) (r (-1 : Int)) (lszAnswerS_L5 O q (a2, r5, (IntKind.wrap .i64 (i4 + (1 : Int)))) x r))) none) (x left3))
noncomputable def lszAnswerS : (List ((Int × Int) × List UInt8 × Bool) × Int) → Option Int
  | (a0, left1) => (cond (decide ((IntKind.wrap .i64 (left1 - ((a0.length : Nat) : Int))) < (0 : Int))) (some (-1 : Int)) (lszAnswerS_L5 Int fuel (a0, (IntKind.wrap .i64 (left1 - ((a0.length : Nat) : Int))), (0 : Int)) (fun left6 => (some left6)) some))
noncomputable def c_lszAnswerS : Ctr := { args := [.val false (.sl (.pair (.pair (.int .i64) (.int .i64)) (.pair .str .bool))), .val false (.int .i64)], rets := [(false, [(none, (.int .i64))])], F := lszAnswerS }
noncomputable def X_lszAnswerS : Ctx := XT.withΓ (lk [(207, c_lszAnswer)]) (lk [])
noncomputable def H_lszAnswerS : Hints := ⟨lk [], lk [], lk []⟩
noncomputable def L_lszAnswerS_5 : LoopF c_lszAnswerS.Res := ⟨⟨27, [(0, .one (.val (.sl (.pair (.pair (.int .i64) (.int .i64)) (.pair .str .bool))))), (1, .one (.val (.int .i64))), (5, .one (.val (.int .i64)))], [], []⟩, [(0, ⟨27, [(1, .one (.val (.int .i64)))], [], []⟩)], lszAnswerS_L5⟩
noncomputable def T_lszAnswerS : Nat → Option (LoopF c_lszAnswerS.Res) := lk [(5, L_lszAnswerS_5)]
theorem s_lszAnswerS_5 : StepOk X_lszAnswerS H_lszAnswerS (c_lszAnswerS.finish X_lszAnswerS Try.f120.results.toList) T_lszAnswerS (loopAt Try.f120 0) := ⟨L_lszAnswerS_5, by kernel_rfl, fun O y x r => by kernel_rfl, fun O k y x r => by kernel_rfl⟩
theorem r_lszAnswerS (a) : fnRun X_lszAnswerS H_lszAnswerS c_lszAnswerS Try.f120 T_lszAnswerS a = lszAnswerS a := by kernel_rfl
theorem h_lszAnswerS : CtrHolds Try.prog 120 c_lszAnswerS := fn_ok (.cons h_lszAnswer Try.call207 .nil) .nil (H := H_lszAnswerS) (tbl := T_lszAnswerS) Try.func120 (by kernel_rfl) (loops1 (by kernel_rfl) s_lszAnswerS_5) r_lszAnswerS
/-! 44 lszReplica -/
noncomputable def lszReplica : ((Int × Int × Int × List ((Int × Int) × (Int × List UInt8 × List UInt8) × List (Int × Int) × Bool) × List ((Int × Int) × Int) × List (Int × Int) × List (List UInt8 × List UInt8 × Bool) × List ((Int × Int) × List UInt8 × Bool)) × Int) → Option Int
  | ((a0, a1, a2, a3, a4, a5, a6, a7), left8) => ((lszRecS (a3, left8)).bind fun r9 => (cond (decide (r9 < (0 : Int))) (some (-1 : Int)) ((lszAckS (a4, r9)).bind fun r10 => (cond (decide (r10 < (0 : Int))) (some (-1 : Int)) ((lszDotS (a5, r10)).bind fun r11 => (cond (decide (r11 < (0 : Int))) (some (-1 : Int)) ((lszPairS (a6, r11)).bind fun r12 => (cond (decide (r12 < (0 : Int))) (some (-1 : Int)) ((lszAnswerS (a7, r12)).bind fun r13 => (cond (decide (r13 < (0 : Int))) (some (-1 : Int)) (some r13)))))))))))
noncomputable def c_lszReplica : Ctr := { args := [.val true (.pair (.int .i64) (.pair (.int .i64) (.pair (.int .i64) (.pair (.sl (.pair (.pair (.int .i64) (.int .i64)) (.pair (.pair (.int .i64) (.pair .str .str)) (.pair (.sl (.pair (.int .i64) (.int .i64))) .bool)))) (.pair (.sl (.pair (.pair (.int .i64) (.int .i64)) (.int .i64))) (.pair (.sl (.pair (.int .i64) (.int .i64))) (.pair (.sl (.pair .str (.pair .str .bool))) (.sl (.pair (.pair (.int .i64) (.int .i64)) (.pair .str .bool)))))))))), .val false (.int .i64)], rets := [(false, [(none, (.int .i64))])], F := lszReplica }
noncomputable def X_lszReplica : Ctx := XT.withΓ (lk [(116, c_lszRecS), (117, c_lszAckS), (118, c_lszDotS), (119, c_lszPairS), (120, c_lszAnswerS)]) (lk [])
noncomputable def H_lszReplica : Hints := ⟨lk [], lk [], lk []⟩
noncomputable def T_lszReplica : Nat → Option (LoopF c_lszReplica.Res) := lk []
theorem r_lszReplica (a) : fnRun X_lszReplica H_lszReplica c_lszReplica Try.f44 T_lszReplica a = lszReplica a := by kernel_rfl
theorem h_lszReplica : CtrHolds Try.prog 44 c_lszReplica := fn_ok (.cons h_lszRecS Try.call116 (.cons h_lszAckS Try.call117 (.cons h_lszDotS Try.call118 (.cons h_lszPairS Try.call119 (.cons h_lszAnswerS Try.call120 .nil))))) .nil (H := H_lszReplica) (tbl := T_lszReplica) Try.func44 (by kernel_rfl) (loops0 (by kernel_rfl)) r_lszReplica
/-! 45 lszMsg -/
noncomputable def lszMsg : ((Int × Int × Int × (Int × Int) × (Int × List UInt8 × List UInt8) × List (Int × Int)) × Int) → Option Int
  | ((a0, a1, a2, (a3, a4), (a5, a6, a7), a8), left9) => ((lszCmd ((a5, a6, a7), left9)).bind fun r10 => (cond (decide (r10 < (0 : Int))) (some (-1 : Int)) ((lszDotS (a8, r10)).bind fun r11 => (cond (decide (r11 < (0 : Int))) (some (-1 : Int)) (some r11)))))
noncomputable def c_lszMsg : Ctr := { args := [.val true (.pair (.int .i64) (.pair (.int .i64) (.pair (.int .i64) (.pair (.pair (.int .i64) (.int .i64)) (.pair (.pair (.int .i64) (.pair .str .str)) (.sl (.pair (.int .i64) (.int .i64)))))))), .val false (.int .i64)], rets := [(false, [(none, (.int .i64))])], F := lszMsg }
noncomputable def X_lszMsg : Ctx := XT.withΓ (lk [(121, c_lszCmd), (118, c_lszDotS)]) (lk [])
noncomputable def H_lszMsg : Hints := ⟨lk [], lk [], lk []⟩
noncomputable def T_lszMsg : Nat → Option (LoopF c_lszMsg.Res) := lk []
theorem r_lszMsg (a) : fnRun X_lszMsg H_lszMsg c_lszMsg Try.f45 T_lszMsg a = lszMsg a := by kernel_rfl
theorem h_lszMsg : CtrHolds Try.prog 45 c_lszMsg := fn_ok (.cons h_lszCmd Try.call121 (.cons h_lszDotS Try.call118 .nil)) .nil (H := H_lszMsg) (tbl := T_lszMsg) Try.func45 (by kernel_rfl) (loops0 (by kernel_rfl)) r_lszMsg
/-! 132 ltoDot -/
noncomputable def ltoDot : (Int × Int) → Option (Int × Int)
  | (a0, a1) => (some (a0, a1))
noncomputable def c_ltoDot : Ctr := { args := [.val true (.pair (.int .i64) (.int .i64))], rets := [(true, [(none, (.int .i64)), (none, (.int .i64))])], F := ltoDot }
noncomputable def X_ltoDot : Ctx := XT.withΓ (lk []) (lk [])
noncomputable def H_ltoDot : Hints := ⟨lk [], lk [], lk []⟩
noncomputable def T_ltoDot : Nat → Option (LoopF c_ltoDot.Res) := lk []
theorem r_ltoDot (a) : fnRun X_ltoDot H_ltoDot c_ltoDot Try.f132 T_ltoDot a = ltoDot a := by kernel_rfl
theorem h_ltoDot : CtrHolds Try.prog 132 c_ltoDot := fn_ok .nil .nil (H := H_ltoDot) (tbl := T_ltoDot) Try.func132 (by kernel_rfl) (loops0 (by kernel_rfl)) r_ltoDot
/-! 133 ltoCmd -/
noncomputable def ltoCmd : (Int × List UInt8 × List UInt8) → Option (Int × List UInt8 × List UInt8)
  | (a0, a1, a2) => (some (a0, a1, a2))
noncomputable def c_ltoCmd : Ctr := { args := [.val true (.pair (.int .i64) (.pair .str .str))], rets := [(true, [(none, (.int .i64)), (none, .str), (none, .str)])], F := ltoCmd }
noncomputable def X_ltoCmd : Ctx := XT.withΓ (lk []) (lk [])
noncomputable def H_ltoCmd : Hints := ⟨lk [], lk [], lk []⟩
noncomputable def T_ltoCmd : Nat → Option (LoopF c_ltoCmd.Res) := lk []
theorem r_ltoCmd (a) : fnRun X_ltoCmd H_ltoCmd c_ltoCmd Try.f133 T_ltoCmd a = ltoCmd a := by kernel_rfl
theorem h_ltoCmd : CtrHolds Try.prog 133 c_ltoCmd := fn_ok .nil .nil (H := H_ltoCmd) (tbl := T_ltoCmd) Try.func133 (by kernel_rfl) (loops0 (by kernel_rfl)) r_ltoCmd
/-! 129 ltoDotS -/
noncomputable def ltoDotS_L3 (O : Type) : Nat → (List (Int × Int) × Int × List (Int × Int)) → ((List (Int × Int)) → Option O) → ((List (Int × Int)) → Option O) → Option O
  | 0, _, _, _ => none
  | q + 1, (a1, i2, out3), x, r => (cond (decide (i2 < ((a1.length : Nat) : Int))) (cond (decide ((0 : Int) ≤ i2) && decide (i2 < ((a1.length : Nat) : Int))) ((ltoDot ((nth a1 i2).1, (nth a1 i2).2)).bind fun (r4, r5) => (cond (decide ((0 : Int) ≤ i2) && decide (i2 < ((out3.length : Nat) : Int))) (ltoDotS_L3 O q (a1, (IntKind.wrap .i64 (i2 + (1 : Int))), (List.set out3 (Int.toNat i2) (r4, r5))) x r) none)) none) (x out3))
noncomputable def ltoDotS : (List (Int × Int)) → Option (List (Int × Int))
  | a0 => (cond (decide ((0 : Int) ≤ ((a0.length : Nat) : Int)) && ((((a0.length : Nat) : Int) == ((a0.length : Nat) : Int)) && decide (((a0.length : Nat) : Int) ≤ (4294967296 : Int)))) (ltoDotS_L3 (List (Int × Int)) fuel (a0, (0 : Int), (List.replicate (Int.toNat ((a0.length : Nat) : Int)) ((0 : Int), (0 : Int)))) (fun out6 => (some out6)) some) none)
noncomputable def c_ltoDotS : Ctr := { args := [.val false (.sl (.pair (.int .i64) (.int .i64)))], rets := [(false, [(some 28, (.sl (.pair (.int .i64) (.int .i64))))])], F := ltoDotS }
noncomputable def X_ltoDotS : Ctx := XT.withΓ (lk [(132, c_ltoDot)]) (lk [])
noncomputable def H_ltoDotS : Hints := ⟨lk [], lk [], lk []⟩
noncomputable def L_ltoDotS_3 : LoopF c_ltoDotS.Res := ⟨⟨23, [(0, .one (.val (.sl (.pair (.int .i64) (.int .i64))))), (3, .one (.own 0)), (4, .one (.val (.int .i64)))], [.arr 28 (.pair (.int .i64) (.int .i64))], []⟩, [(0, ⟨23, [(3, .one (.own 0))], [.arr 28 (.pair (.int .i64) (.int .i64))], []⟩)], ltoDotS_L3⟩
noncomputable def T_ltoDotS : Nat → Option (LoopF c_ltoDotS.Res) := lk [(3, L_ltoDotS_3)]
theorem s_ltoDotS_3 : StepOk X_ltoDotS H_ltoDotS (c_ltoDotS.finish X_ltoDotS Try.f129.results.toList) T_ltoDotS (loopAt Try.f129 0) := ⟨L_ltoDotS_3, by kernel_rfl, fun O y x r => by kernel_rfl, fun O k y x r => by kernel_rfl⟩
theorem r_ltoDotS (a) : fnRun X_ltoDotS H_ltoDotS c_ltoDotS Try.f129 T_ltoDotS a = ltoDotS a := by kernel_rfl
theorem h_ltoDotS : CtrHolds Try.prog 129 c_ltoDotS := fn_ok (.cons h_ltoDot Try.call132 .nil) .nil (H := H_ltoDotS) (tbl := T_ltoDotS) Try.func129 (by kernel_rfl) (loops1 (by kernel_rfl) s_ltoDotS_3) r_ltoDotS
/-! 210 ltoRec -/
noncomputable def ltoRec : ((Int × Int) × (Int × List UInt8 × List UInt8) × List (Int × Int) × Bool) → Option (Int × Int × Int × List UInt8 × List UInt8 × List (Int × Int) × Bool)
  | ((a0, a1), (a2, a3, a4), a5, a6) => ((ltoDot (a0, a1)).bind fun (r7, r8) => ((ltoCmd (a2, a3, a4)).bind fun (r9, r10, r11) => ((ltoDotS a5).bind fun r12 => (some (r7, r8, r9, r10, r11, r12, a6)))))
noncomputable def c_ltoRec : Ctr := { args := [.val true (.pair (.pair (.int .i64) (.int .i64)) (.pair (.pair (.int .i64) (.pair .str .str)) (.pair (.sl (.pair (.int .i64) (.int .i64))) .bool)))], rets := [(true, [(none, (.int .i64)), (none, (.int .i64)), (none, (.int .i64)), (none, .str), (none, .str), (some 28, (.sl (.pair (.int .i64) (.int .i64)))), (none, .bool)])], F := ltoRec }
noncomputable def X_ltoRec : Ctx := XT.withΓ (lk [(132, c_ltoDot), (133, c_ltoCmd), (129, c_ltoDotS)]) (lk [])
noncomputable def H_ltoRec : Hints := ⟨lk [], lk [], lk []⟩
noncomputable def T_ltoRec : Nat → Option (LoopF c_ltoRec.Res) := lk []
theorem r_ltoRec (a) : fnRun X_ltoRec H_ltoRec c_ltoRec Try.f210 T_ltoRec a = ltoRec a := by kernel_rfl
theorem h_ltoRec : CtrHolds Try.prog 210 c_ltoRec := fn_ok (.cons h_ltoDot Try.call132 (.cons h_ltoCmd Try.call133 (.cons h_ltoDotS Try.call129 .nil))) .nil (H := H_ltoRec) (tbl := T_ltoRec) Try.func210 (by kernel_rfl) (loops0 (by kernel_rfl)) r_ltoRec
/-! 127 ltoRecS -/
noncomputable def ltoRecS_L3 (O : Type) : Nat → (List ((Int × Int) × (Int × List UInt8 × List UInt8) × List (Int × Int) × Bool) × Int × List ((Int × Int) × (Int × List UInt8 × List UInt8) × List (Int × Int) × Bool)) → ((List ((Int × Int) × (Int × List UInt8 × List UInt8) × List (Int × Int) × Bool)) → Option O) → ((List ((Int × Int) × (Int × List UInt8 × List UInt8) × List (Int × Int) × Bool)) → Option O) → Option O
  | 0, _, _, _ => none
  | q + 1, (a1, i2, out3), x, r => (cond (decide (i2 < ((a1.length : Nat) : Int))) (cond (decide ((0 : Int) ≤ i2) && decide (i2 < ((a1.length : Nat) : Int))) ((ltoRec (((nth a1 i2).1.1, (nth a1 i2).1.2), ((nth a1 i2).2.1.1, (nth a1 i2).2.1.2.1, (nth a1 i2).2.1.2.2), (nth a1 i2).2.2.1, (nth a1 i2).2.2.2)).bind fun (r4, r5, r6, r7, r8, r9, r10) => (cond (decide ((0 : Int) ≤ i2) && decide (i2 < ((out3.length : Nat) : Int))) (ltoRecS_L3 O q (a1, (IntKind.wrap .i64 (i2 + (1 : Int))), (List.set out3 (Int.toNat i2) ((r4, r5), (r6, r7, r8), r9, r10))) x r) none)) none) (x out3))
noncomputable def ltoRecS : (List ((Int × Int) × (Int × List UInt8 × List UInt8) × List (Int × Int) × Bool)) → Option (List ((Int × Int) × (Int × List UInt8 × List UInt8) × List (Int × Int) × Bool))
  | a0 => (cond (decide ((0 : Int) ≤ ((a0.length : Nat) : Int)) && ((((a0.length : Nat) : Int) == ((a0.length : Nat) : Int)) && decide (((a0.length : Nat) : Int) ≤ (4294967296 : Int)))) (ltoRecS_L3 (List ((Int × Int) × (Int × List UInt8 × List UInt8) × List (Int × Int) × Bool)) fuel (a0, (0 : Int), (List.replicate (Int.toNat ((a0.length : Nat) : Int)) (((0 : Int), (0 : Int)), ((0 : Int), [], []), [], false))) (fun out11 => (some out11)) some) none)
noncomputable def c_ltoRecS : Ctr := { args := [.val false (.sl (.pair (.pair (.int .i64) (.int .i64)) (.pair (.pair (.int .i64) (.pair .str .str)) (.pair (.sl (.pair (.int .i64) (.int .i64))) .bool))))], rets := [(false, [(some 116, (.sl (.pair (.pair (.int .i64) (.int .i64)) (.pair (.pair (.int .i64) (.pair .str .str)) (.pair (.sl (.pair (.int .i64) (.int .i64))) .bool)))))])], F := ltoRecS }
noncomputable def X_ltoRecS : Ctx := XT.withΓ (lk [(210, c_ltoRec)]) (lk [])
noncomputable def H_ltoRecS : Hints := ⟨lk [], lk [], lk []⟩
noncomputable def L_ltoRecS_3 : LoopF c_ltoRecS.Res := ⟨⟨23, [(0, .one (.val (.sl (.pair (.pair (.int .i64) (.int .i64)) (.pair (.pair (.int .i64) (.pair .str .str)) (.pair (.sl (.pair (.int .i64) (.int .i64))) .bool)))))), (3, .one (.own 0)), (4, .one (.val (.int .i64)))], [.arr 116 (.pair (.pair (.int .i64) (.int .i64)) (.pair (.pair (.int .i64) (.pair .str .str)) (.pair (.sl (.pair (.int .i64) (.int .i64))) .bool)))], []⟩, [(0, ⟨23, [(3, .one (.own 0))], [.arr 116 (.pair (.pair (.int .i64) (.int .i64)) (.pair (.pair (.int .i64) (.pair .str .str)) (.pair (.sl (.pair (.int .i64) (.int .i64))) .bool)))], []⟩)], ltoRecS_L3⟩
noncomputable def T_ltoRecS : Nat → Option (LoopF c_ltoRecS.Res) := lk [(3, L_ltoRecS_3)]
theorem s_ltoRecS_3 : StepOk X_ltoRecS H_ltoRecS (c_ltoRecS.finish X_ltoRecS Try.f127.results.toList) T_ltoRecS (loopAt Try.f127 0) := ⟨L_ltoRecS_3, by kernel_rfl, fun O y x r => by kernel_rfl, fun O k y x r => by kernel_rfl⟩
theorem r_ltoRecS (a) : fnRun X_ltoRecS H_ltoRecS c_ltoRecS Try.f127 T_ltoRecS a = ltoRecS a := by kernel_rfl
theorem h_ltoRecS : CtrHolds Try.prog 127 c_ltoRecS := fn_ok (.cons h_ltoRec Try.call210 .nil) .nil (H := H_ltoRecS) (tbl := T_ltoRecS) Try.func127 (by kernel_rfl) (loops1 (by kernel_rfl) s_ltoRecS_3) r_ltoRecS
/-! 211 ltoAck -/
noncomputable def ltoAck : ((Int × Int) × Int) → Option (Int × Int × Int)
  | ((a0, a1), a2) => ((ltoDot (a0, a1)).bind fun (r3, r4) => (some (r3, r4, a2)))
noncomputable def c_ltoAck : Ctr := { args := [.val true (.pair (.pair (.int .i64) (.int .i64)) (.int .i64))], rets := [(true, [(none, (.int .i64)), (none, (.int .i64)), (none, (.int .i64))])], F := ltoAck }
noncomputable def X_ltoAck : Ctx := XT.withΓ (lk [(132, c_ltoDot)]) (lk [])
noncomputable def H_ltoAck : Hints := ⟨lk [], lk [], lk []⟩
noncomputable def T_ltoAck : Nat → Option (LoopF c_ltoAck.Res) := lk []
theorem r_ltoAck (a) : fnRun X_ltoAck H_ltoAck c_ltoAck Try.f211 T_ltoAck a = ltoAck a := by kernel_rfl
theorem h_ltoAck : CtrHolds Try.prog 211 c_ltoAck := fn_ok (.cons h_ltoDot Try.call132 .nil) .nil (H := H_ltoAck) (tbl := T_ltoAck) Try.func211 (by kernel_rfl) (loops0 (by kernel_rfl)) r_ltoAck
/-! 128 ltoAckS -/
noncomputable def ltoAckS_L3 (O : Type) : Nat → (List ((Int × Int) × Int) × Int × List ((Int × Int) × Int)) → ((List ((Int × Int) × Int)) → Option O) → ((List ((Int × Int) × Int)) → Option O) → Option O
  | 0, _, _, _ => none
  | q + 1, (a1, i2, out3), x, r => (cond (decide (i2 < ((a1.length : Nat) : Int))) (cond (decide ((0 : Int) ≤ i2) && decide (i2 < ((a1.length : Nat) : Int))) ((ltoAck (((nth a1 i2).1.1, (nth a1 i2).1.2), (nth a1 i2).2)).bind fun (r4, r5, r6) => (cond (decide ((0 : Int) ≤ i2) && decide (i2 < ((out3.length : Nat) : Int))) (ltoAckS_L3 O q (a1, (IntKind.wrap .i64 (i2 + (1 : Int))), (List.set out3 (Int.toNat i2) ((r4, r5), r6))) x r) none)) none) (x out3))
noncomputable def ltoAckS : (List ((Int × Int) × Int)) → Option (List ((Int × Int) × Int))
  | a0 => (cond (decide ((0 : Int) ≤ ((a0.length : Nat) : Int)) && ((((a0.length : Nat) : Int) == ((a0.length : Nat) : Int)) && decide (((a0.length : Nat) : Int) ≤ (4294967296 : Int)))) (ltoAckS_L3 (List ((Int × Int) × Int)) fuel (a0, (0 : Int), (List.replicate (Int.toNat ((a0.length : Nat) : Int)) (((0 : Int), (0 : Int)), (0 : Int)))) (fun out7 => (some out7)) some) none)
noncomputable def c_ltoAckS : Ctr := { args := [.val false (.sl (.pair (.pair (.int .i64) (.int .i64)) (.int .i64)))], rets := [(false, [(some 239, (.sl (.pair (.pair (.int .i64) (.int .i64)) (.int .i64))))])], F := ltoAckS }
noncomputable def X_ltoAckS : Ctx := XT.withΓ (lk [(211, c_ltoAck)]) (lk [])
noncomputable def H_ltoAckS : Hints := ⟨lk [], lk [], lk []⟩
noncomputable def L_ltoAckS_3 : LoopF c_ltoAckS.Res := ⟨⟨23, [(0, .one (.val (.sl (.pair (.pair (.int .i64) (.int .i64)) (.int .i64))))), (3, .one (.own 0)), (4, .one (.val (.int .i64)))], [.arr 239 (.pair (.pair (.int .i64) (.int .i64)) (.int .i64))], []⟩, [(0, ⟨23, [(3, .one (.own 0))], [.arr 239 (.pair (.pair (.int .i64) (.int .i64)) (.int .i64))], []⟩)], ltoAckS_L3⟩
noncomputable def T_ltoAckS : Nat → Option (LoopF c_ltoAckS.Res) := lk [(3, L_ltoAckS_3)]
theorem s_ltoAckS_3 : StepOk X_ltoAckS H_ltoAckS (c_ltoAckS.finish X_ltoAckS Try.f128.results.toList) T_ltoAckS (loopAt Try.f128 0) := ⟨L_ltoAckS_3, by kernel_rfl, fun O y x r => by kernel_rfl, fun O k y x r => by kernel_rfl⟩
theorem r_ltoAckS (a) : fnRun X_ltoAckS H_ltoAckS c_ltoAckS Try.f128 T_ltoAckS a = ltoAckS a := by kernel_rfl
theorem h_ltoAckS : CtrHolds Try.prog 128 c_ltoAckS := fn_ok (.cons h_ltoAck Try.call211 .nil) .nil (H := H_ltoAckS) (tbl := T_ltoAckS) Try.func128 (by kernel_rfl) (loops1 (by kernel_rfl) s_ltoAckS_3) r_ltoAckS
/-! 212 ltoPair -/
noncomputable def ltoPair : (List UInt8 × List UInt8 × Bool) → Option (List UInt8 × List UInt8 × Bool)
  | (a0, a1, a2) => (some (a0, a1, a2))
noncomputable def c_ltoPair : Ctr := { args := [.val true (.pair .str (.pair .str .bool))], rets := [(true, [(none, .str), (none, .str), (none, .bool)])], F := ltoPair }
noncomputable def X_ltoPair : Ctx := XT.withΓ (lk []) (lk [])
noncomputable def H_ltoPair : Hints := ⟨lk [], lk [], lk []⟩
noncomputable def T_ltoPair : Nat → Option (LoopF c_ltoPair.Res) := lk []
theorem r_ltoPair (a) : fnRun X_ltoPair H_ltoPair c_ltoPair Try.f212 T_ltoPair a = ltoPair a := by kernel_rfl
theorem h_ltoPair : CtrHolds Try.prog 212 c_ltoPair := fn_ok .nil .nil (H := H_ltoPair) (tbl := T_ltoPair) Try.func212 (by kernel_rfl) (loops0 (by kernel_rfl)) r_ltoPair
/-! 130 ltoPairS -/
noncomputable def ltoPairS_L3 (O : Type) : Nat → (List (List UInt8 × List UInt8 × Bool) × Int × List (List UInt8 × List UInt8 × Bool)) → ((List (List UInt8 × List UInt8 × Bool)) → Option O) → ((List (List UInt8 × List UInt8 × Bool)) → Option O) → Option O
  | 0, _, _, _ => none
  | q + 1, (a1, i2, out3), x, r => (cond (decide (i2 < ((a1.length : Nat) : Int))) (cond (decide ((0 : Int) ≤ i2) && decide (i2 < ((a1.length : Nat) : Int))) ((ltoPair ((nth a1 i2).1, (nth a1 i2).2.1, (nth a1 i2).2.2)).bind fun (r4, r5, r6) => (cond (decide ((0 : Int) ≤ i2) && decide (i2 < ((out3.length : Nat) : Int))) (ltoPairS_L3 O q (a1, (IntKind.wrap .i64 (i2 + (1 : Int))), (List.set out3 (Int.toNat i2) (r4, r5, r6))) x r) none)) none) (x out3))
noncomputable def ltoPairS : (List (List UInt8 × List UInt8 × Bool)) → Option (List (List UInt8 × List UInt8 × Bool))
  | a0 => (cond (decide ((0 : Int) ≤ ((a0.length : Nat) : Int)) && ((((a0.length : Nat) : Int) == ((a0.length : Nat) : Int)) && decide (((a0.length : Nat) : Int) ≤ (4294967296 : Int)))) (ltoPairS_L3 (List (List UInt8 × List UInt8 × Bool)) fuel (a0, (0 : Int), (List.replicate (Int.toNat ((a0.length : Nat) : Int)) ([], [], false))) (fun out7 => (some out7)) some) none)
noncomputable def c_ltoPairS : Ctr := { args := [.val false (.sl (.pair .str (.pair .str .bool)))], rets := [(false, [(some 49, (.sl (.pair .str (.pair .str .bool))))])], F := ltoPairS }
noncomputable def X_ltoPairS : Ctx := XT.withΓ (lk [(212, c_ltoPair)]) (lk [])
noncomputable def H_ltoPairS : Hints := ⟨lk [], lk [], lk []⟩
noncomputable def L_ltoPairS_3 : LoopF c_ltoPairS.Res := ⟨⟨23, [(0, .one (.val (.sl (.pair .str (.pair .str .bool))))), (3, .one (.own 0)), (4, .one (.val (.int .i64)))], [.arr 49 (.pair .str (.pair .str .bool))], []⟩, [(0, ⟨23, [(3, .one (.own 0))], [.arr 49 (.pair .str (.pair .str .bool))], []⟩)], ltoPairS_L3⟩
noncomputable def T_ltoPairS : Nat → Option (LoopF c_ltoPairS.Res) := lk [(3, L_ltoPairS_3)]
theorem s_ltoPairS_3 : StepOk X_ltoPairS H_ltoPairS (c_ltoPairS.finish X_ltoPairS Try.f130.results.toList) T_ltoPairS (loopAt Try.f130 0) := ⟨L_ltoPairS_3, by kernel_rfl, fun O y x r => by kernel_rfl, fun O k y x r => by kernel_rfl⟩
theorem r_ltoPairS (a) : fnRun X_ltoPairS H_ltoPairS c_ltoPairS Try.f130 T_ltoPairS a = ltoPairS a := by kernel_rfl
theorem h_ltoPairS : CtrHolds Try.prog 130 c_ltoPairS := fn_ok (.cons h_ltoPair Try.call212 .nil) .nil (H := H_ltoPairS) (tbl := T_ltoPairS) Try.func130 (by kernel_rfl) (loops1 (by kernel_rfl) s_ltoPairS_3) r_ltoPairS
/-! 213 ltoAnswer -/
noncomputable def ltoAnswer : ((Int × Int) × List UInt8 × Bool) → Option (Int × Int × List UInt8 × Bool)
  | ((a0, a1), a2, a3) => ((ltoDot (a0, a1)).bind fun (r4, r5) => (some (r4, r5, a2, a3)))
noncomputable def c_ltoAnswer : Ctr := { args := [.val true (.pair (.pair (.int .i64) (.int .i64)) (.pair .str .bool))], rets := [(true, [(none, (.int .i64)), (none, (.int .i64)), (none, .str), (none, .bool)])], F := ltoAnswer }
noncomputable def X_ltoAnswer : Ctx := XT.withΓ (lk [(132, c_ltoDot)]) (lk [])
noncomputable def H_ltoAnswer : Hints := ⟨lk [], lk [], lk []⟩
noncomputable def T_ltoAnswer : Nat → Option (LoopF c_ltoAnswer.Res) := lk []
theorem r_ltoAnswer (a) : fnRun X_ltoAnswer H_ltoAnswer c_ltoAnswer Try.f213 T_ltoAnswer a = ltoAnswer a := by kernel_rfl
theorem h_ltoAnswer : CtrHolds Try.prog 213 c_ltoAnswer := fn_ok (.cons h_ltoDot Try.call132 .nil) .nil (H := H_ltoAnswer) (tbl := T_ltoAnswer) Try.func213 (by kernel_rfl) (loops0 (by kernel_rfl)) r_ltoAnswer
/-! 131 ltoAnswerS -/
noncomputable def ltoAnswerS_L3 (O : Type) : Nat → (List ((Int × Int) × List UInt8 × Bool) × Int × List ((Int × Int) × List UInt8 × Bool)) → ((List ((Int × Int) × List UInt8 × Bool)) → Option O) → ((List ((Int × Int) × List UInt8 × Bool)) → Option O) → Option O
  | 0, _, _, _ => none
  | q + 1, (a1, i2, out3), x, r => (cond (decide (i2 < ((a1.length : Nat) : Int))) (cond (decide ((0 : Int) ≤ i2) && decide (i2 < ((a1.length : Nat) : Int))) ((ltoAnswer (((nth a1 i2).1.1, (nth a1 i2).1.2), (nth a1 i2).2.1, (nth a1 i2).2.2)).bind fun (r4, r5, r6, r7) => (cond (decide ((0 : Int) ≤ i2) && decide (i2 < ((out3.length : Nat) : Int))) (ltoAnswerS_L3 O q (a1, (IntKind.wrap .i64 (i2 + (1 : Int))), (List.set out3 (Int.toNat i2) ((r4, r5), r6, r7))) x r) none)) none) (x out3))
noncomputable def ltoAnswerS : (List ((Int × Int) × List UInt8 × Bool)) → Option (List ((Int × Int) × List UInt8 × Bool))
  | a0 => (cond (decide ((0 : Int) ≤ ((a0.length : Nat) : Int)) && ((((a0.length : Nat) : Int) == ((a0.length : Nat) : Int)) && decide (((a0.length : Nat) : Int) ≤ (4294967296 : Int)))) (ltoAnswerS_L3 (List ((Int × Int) × List UInt8 × Bool)) fuel (a0, (0 : Int), (List.replicate (Int.toNat ((a0.length : Nat) : Int)) (((0 : Int), (0 : Int)), [], false))) (fun out8 => (some out8)) some) none)
noncomputable def c_ltoAnswerS : Ctr := { args := [.val false (.sl (.pair (.pair (.int .i64) (.int .i64)) (.pair .str .bool)))], rets := [(false, [(some 198, (.sl (.pair (.pair (.int .i64) (.int .i64)) (.pair .str .bool))))])], F := ltoAnswerS }
noncomputable def X_ltoAnswerS : Ctx := XT.withΓ (lk [(213, c_ltoAnswer)]) (lk [])
noncomputable def H_ltoAnswerS : Hints := ⟨lk [], lk [], lk []⟩
noncomputable def L_ltoAnswerS_3 : LoopF c_ltoAnswerS.Res := ⟨⟨23, [(0, .one (.val (.sl (.pair (.pair (.int .i64) (.int .i64)) (.pair .str .bool))))), (3, .one (.own 0)), (4, .one (.val (.int .i64)))], [.arr 198 (.pair (.pair (.int .i64) (.int .i64)) (.pair .str .bool))], []⟩, [(0, ⟨23, [(3, .one (.own 0))], [.arr 198 (.pair (.pair (.int .i64) (.int .i64)) (.pair .str .bool))], []⟩)], ltoAnswerS_L3⟩
noncomputable def T_ltoAnswerS : Nat → Option (LoopF c_ltoAnswerS.Res) := lk [(3, L_ltoAnswerS_3)]
theorem s_ltoAnswerS_3 : StepOk X_ltoAnswerS H_ltoAnswerS (c_ltoAnswerS.finish X_ltoAnswerS Try.f131.results.toList) T_ltoAnswerS (loopAt Try.f131 0) := ⟨L_ltoAnswerS_3, by kernel_rfl, fun O y x r => by kernel_rfl, fun O k y x r => by kernel_rfl⟩
theorem r_ltoAnswerS (a) : fnRun X_ltoAnswerS H_ltoAnswerS c_ltoAnswerS Try.f131 T_ltoAnswerS a = ltoAnswerS a := by kernel_rfl
theorem h_ltoAnswerS : CtrHolds Try.prog 131 c_ltoAnswerS := fn_ok (.cons h_ltoAnswer Try.call213 .nil) .nil (H := H_ltoAnswerS) (tbl := T_ltoAnswerS) Try.func131 (by kernel_rfl) (loops1 (by kernel_rfl) s_ltoAnswerS_3) r_ltoAnswerS
/-! 47 ltoReplica -/
noncomputable def ltoReplica : (Int × Int × Int × List ((Int × Int) × (Int × List UInt8 × List UInt8) × List (Int × Int) × Bool) × List ((Int × Int) × Int) × List (Int × Int) × List (List UInt8 × List UInt8 × Bool) × List ((Int × Int) × List UInt8 × Bool)) → Option (Int × Int × Int × List ((Int × Int) × (Int × List UInt8 × List UInt8) × List (Int × Int) × Bool) × List ((Int × Int) × Int) × List (Int × Int) × List (List UInt8 × List UInt8 × Bool) × List ((Int × Int) × List UInt8 × Bool))
  | (a0, a1, a2, a3, a4, a5, a6, a7) => ((ltoRecS a3).bind fun r8 => ((ltoAckS a4).bind fun r9 => ((ltoDotS a5).bind fun r10 => ((ltoPairS a6).bind fun r11 => ((ltoAnswerS a7).bind fun r12 => (some (a0, a1, a2, r8, r9, r10, r11, r12)))))))
noncomputable def c_ltoReplica : Ctr := { args := [.val true (.pair (.int .i64) (.pair (.int .i64) (.pair (.int .i64) (.pair (.sl (.pair (.pair (.int .i64) (.int .i64)) (.pair (.pair (.int .i64) (.pair .str .str)) (.pair (.sl (.pair (.int .i64) (.int .i64))) .bool)))) (.pair (.sl (.pair (.pair (.int .i64) (.int .i64)) (.int .i64))) (.pair (.sl (.pair (.int .i64) (.int .i64))) (.pair (.sl (.pair .str (.pair .str .bool))) (.sl (.pair (.pair (.int .i64) (.int .i64)) (.pair .str .bool))))))))))], rets := [(true, [(none, (.int .i64)), (none, (.int .i64)), (none, (.int .i64)), (some 116, (.sl (.pair (.pair (.int .i64) (.int .i64)) (.pair (.pair (.int .i64) (.pair .str .str)) (.pair (.sl (.pair (.int .i64) (.int .i64))) .bool))))), (some 239, (.sl (.pair (.pair (.int .i64) (.int .i64)) (.int .i64)))), (some 28, (.sl (.pair (.int .i64) (.int .i64)))), (some 49, (.sl (.pair .str (.pair .str .bool)))), (some 198, (.sl (.pair (.pair (.int .i64) (.int .i64)) (.pair .str .bool))))])], F := ltoReplica }
noncomputable def X_ltoReplica : Ctx := XT.withΓ (lk [(127, c_ltoRecS), (128, c_ltoAckS), (129, c_ltoDotS), (130, c_ltoPairS), (131, c_ltoAnswerS)]) (lk [])
noncomputable def H_ltoReplica : Hints := ⟨lk [], lk [], lk []⟩
noncomputable def T_ltoReplica : Nat → Option (LoopF c_ltoReplica.Res) := lk []
theorem r_ltoReplica (a) : fnRun X_ltoReplica H_ltoReplica c_ltoReplica Try.f47 T_ltoReplica a = ltoReplica a := by kernel_rfl
theorem h_ltoReplica : CtrHolds Try.prog 47 c_ltoReplica := fn_ok (.cons h_ltoRecS Try.call127 (.cons h_ltoAckS Try.call128 (.cons h_ltoDotS Try.call129 (.cons h_ltoPairS Try.call130 (.cons h_ltoAnswerS Try.call131 .nil))))) .nil (H := H_ltoReplica) (tbl := T_ltoReplica) Try.func47 (by kernel_rfl) (loops0 (by kernel_rfl)) r_ltoReplica
/-! 48 ltoMsg -/
noncomputable def ltoMsg : (Int × Int × Int × (Int × Int) × (Int × List UInt8 × List UInt8) × List (Int × Int)) → Option (Int × Int × Int × Int × Int × Int × List UInt8 × List UInt8 × List (Int × Int))
  | (a0, a1, a2, (a3, a4), (a5, a6, a7), a8) => ((ltoDot (a3, a4)).bind fun (r9, r10) => ((ltoCmd (a5, a6, a7)).bind fun (r11, r12, r13) => ((ltoDotS a8).bind fun r14 => (some (a0, a1, a2, r9, r10, r11, r12, r13, r14)))))
noncomputable def c_ltoMsg : Ctr := { args := [.val true (.pair (.int .i64) (.pair (.int .i64) (.pair (.int .i64) (.pair (.pair (.int .i64) (.int .i64)) (.pair (.pair (.int .i64) (.pair .str .str)) (.sl (.pair (.int .i64) (.int .i64))))))))], rets := [(true, [(none, (.int .i64)), (none, (.int .i64)), (none, (.int .i64)), (none, (.int .i64)), (none, (.int .i64)), (none, (.int .i64)), (none, .str), (none, .str), (some 28, (.sl (.pair (.int .i64) (.int .i64))))])], F := ltoMsg }
noncomputable def X_ltoMsg : Ctx := XT.withΓ (lk [(132, c_ltoDot), (133, c_ltoCmd), (129, c_ltoDotS)]) (lk [])
noncomputable def H_ltoMsg : Hints := ⟨lk [], lk [], lk []⟩
noncomputable def T_ltoMsg : Nat → Option (LoopF c_ltoMsg.Res) := lk []
theorem r_ltoMsg (a) : fnRun X_ltoMsg H_ltoMsg c_ltoMsg Try.f48 T_ltoMsg a = ltoMsg a := by kernel_rfl
theorem h_ltoMsg : CtrHolds Try.prog 48 c_ltoMsg := fn_ok (.cons h_ltoDot Try.call132 (.cons h_ltoCmd Try.call133 (.cons h_ltoDotS Try.call129 .nil))) .nil (H := H_ltoMsg) (tbl := T_ltoMsg) Try.func48 (by kernel_rfl) (loops0 (by kernel_rfl)) r_ltoMsg
/-! 122 sl1In -/
noncomputable def sl1In : (Int × Int × Int) → Option Bool
  | (x0, least1, most2) => (cond (decide (x0 ≥ least1)) (some (decide (x0 ≤ most2))) (some false))
noncomputable def c_sl1In : Ctr := { args := [.val false (.int .i64), .val false (.int .i64), .val false (.int .i64)], rets := [(false, [(none, .bool)])], F := sl1In }
noncomputable def X_sl1In : Ctx := XT.withΓ (lk []) (lk [])
noncomputable def H_sl1In : Hints := ⟨lk [], lk [], lk []⟩
noncomputable def T_sl1In : Nat → Option (LoopF c_sl1In.Res) := lk []
theorem r_sl1In (a) : fnRun X_sl1In H_sl1In c_sl1In Try.f122 T_sl1In a = sl1In a := by kernel_rfl
theorem h_sl1In : CtrHolds Try.prog 122 c_sl1In := fn_ok .nil .nil (H := H_sl1In) (tbl := T_sl1In) Try.func122 (by kernel_rfl) (loops0 (by kernel_rfl)) r_sl1In
/-! 208 sDotOk -/
noncomputable def sDotOk : (Int × Int) → Option Bool
  | (d0, d1) => ((sl1In (d0, (1 : Int), (7 : Int))).bind fun r2 => (cond r2 ((sl1In (d1, (1 : Int), (999 : Int))).bind fun r3 => (some r3)) (some false)))
noncomputable def c_sDotOk : Ctr := { args := [.val true (.pair (.int .i64) (.int .i64))], rets := [(false, [(none, .bool)])], F := sDotOk }
noncomputable def X_sDotOk : Ctx := XT.withΓ (lk [(122, c_sl1In)]) (lk [])
noncomputable def H_sDotOk : Hints := ⟨lk [], lk [], lk []⟩
noncomputable def T_sDotOk : Nat → Option (LoopF c_sDotOk.Res) := lk []
theorem r_sDotOk (a) : fnRun X_sDotOk H_sDotOk c_sDotOk Try.f208 T_sDotOk a = sDotOk a := by kernel_rfl
theorem h_sDotOk : CtrHolds Try.prog 208 c_sDotOk := fn_ok (.cons h_sl1In Try.call122 .nil) .nil (H := H_sDotOk) (tbl := T_sDotOk) Try.func208 (by kernel_rfl) (loops0 (by kernel_rfl)) r_sDotOk
/-! 160 sl8Has -/
noncomputable def sl8Has_L2 (O : Type) : Nat → (List (Int × Int) × Int × Int × Int) → (Unit → Option O) → (Bool → Option O) → Option O
  | 0, _, _, _ => none
  | q + 1, (l3, i4, d5, d6), x, r => (cond (decide (i4 < ((l3.length : Nat) : Int))) (cond (decide ((0 : Int) ≤ i4) && decide (i4 < ((l3.length : Nat) : Int))) (cond (((nth l3 i4).1 == d5) && ((nth l3 i4).2 == d6)) (r true) (sl8Has_L2 O q (l3, (IntKind.wrap .i64 (i4 + (1 : Int))), d5, d6) x r)) none) (x ()))
noncomputable def sl8Has : (List (Int × Int) × Int × Int) → Option Bool
  | (l0, d1, d2) => (sl8Has_L2 Bool fuel (l0, (0 : Int), d1, d2) (fun _ => (some false)) some)
noncomputable def c_sl8Has : Ctr := { args := [.val false (.sl (.pair (.int .i64) (.int .i64))), .val true (.pair (.int .i64) (.int .i64))], rets := [(false, [(none, .bool)])], F := sl8Has }
noncomputable def X_sl8Has : Ctx := XT.withΓ (lk []) (lk [])
noncomputable def H_sl8Has : Hints := ⟨lk [], lk [], lk []⟩
noncomputable def L_sl8Has_2 : LoopF c_sl8Has.Res := ⟨⟨18, [(0, .one (.val (.sl (.pair (.int .i64) (.int .i64))))), (3, .one (.ptr 0 0)), (5, .one (.val (.int .i64)))], [.vars 28 [.val (.int .i64), .val (.int .i64)]], []⟩, [(0, ⟨18, [], [], []⟩)], sl8Has_L2⟩
noncomputable def T_sl8Has : Nat → Option (LoopF c_sl8Has.Res) := lk [(2, L_sl8Has_2)]
theorem s_sl8Has_2 : StepOk X_sl8Has H_sl8Has (c_sl8Has.finish X_sl8Has Try.f160.results.toList) T_sl8Has (loopAt Try.f160 0) := ⟨L_sl8Has_2, by kernel_rfl, fun O y x r => by kernel_rfl, fun O k y x r => by kernel_rfl⟩
theorem r_sl8Has (a) : fnRun X_sl8Has H_sl8Has c_sl8Has Try.f160 T_sl8Has a = sl8Has a := by kernel_rfl
theorem h_sl8Has : CtrHolds Try.prog 160 c_sl8Has := fn_ok .nil .nil (H := H_sl8Has) (tbl := T_sl8Has) Try.func160 (by kernel_rfl) (loops1 (by kernel_rfl) s_sl8Has_2) r_sl8Has
/-! 191 sDotLess -/
noncomputable def sDotLess : ((Int × Int) × Int × Int) → Option Bool
  | ((a0, a1), b2, b3) => (cond (decide (a0 < b2)) (some true) (cond (a0 == b2) (some (decide (a1 < b3))) (some false)))
noncomputable def c_sDotLess : Ctr := { args := [.val true (.pair (.int .i64) (.int .i64)), .val true (.pair (.int .i64) (.int .i64))], rets := [(false, [(none, .bool)])], F := sDotLess }
noncomputable def X_sDotLess : Ctx := XT.withΓ (lk []) (lk [])
noncomputable def H_sDotLess : Hints := ⟨lk [], lk [], lk []⟩
noncomputable def T_sDotLess : Nat → Option (LoopF c_sDotLess.Res) := lk []
theorem r_sDotLess (a) : fnRun X_sDotLess H_sDotLess c_sDotLess Try.f191 T_sDotLess a = sDotLess a := by kernel_rfl
theorem h_sDotLess : CtrHolds Try.prog 191 c_sDotLess := fn_ok .nil .nil (H := H_sDotLess) (tbl := T_sDotLess) Try.func191 (by kernel_rfl) (loops0 (by kernel_rfl)) r_sDotLess
/-! 123 sl8Item -/
noncomputable def sl8Item_L4 (O : Type) : Nat → (Int × Int × Int × List (Int × Int)) → (Unit → Option O) → (Bool → Option O) → Option O
  | 0, _, _, _ => none
  | q + 1, (i5, it6, it7, it8), x, r => (cond (decide (i5 < ((it8.length : Nat) : Int))) (cond (decide ((0 : Int) ≤ i5) && decide (i5 < ((it8.length : Nat) : Int))) ((sDotOk ((nth it8 i5).1, (nth it8 i5).2)).bind fun r9 => (cond (!r9) (r false) (cond (decide (i5 > (0 : Int))) (cond (decide ((0 : Int) ≤ (IntKind.wrap .i64 (i5 - (1 : Int)))) && decide ((IntKind.wrap .i64 (i5 - (1 : Int))) < ((it8.length : Nat) : Int))) (cond (decide ((0 : Int) ≤ i5) && decide (i5 < ((it8.length : Nat) : Int))) ((sDotLess (((nth it8 (IntKind.wrap .i64 (i5 - (1 : Int)))).1, (nth it8 (IntKind.wrap .i64 (i5 - (1 : Int)))).2), (nth it8 i5).1, (nth it8 i5).2)).bind fun r10 => (cond (!r10) (r false) (sl8Item_L4 O q ((IntKind.wrap .i64 (i5 + (1 : Int))), it6, it7, it8) x r))) none) none) (sl8Item_L4 O q ((IntKind.wrap .i64 (i5 + (1 : Int))), it6, it7, it8) x r)))) none) (x ()))
noncomputable def sl8Item : ((Int × Int) × List (Int × Int)) → Option Bool
  | ((it0, it1), it2) => ((sDotOk (it0, it1)).bind fun r3 => (cond (!r3) (some false) (cond (decide (((it2.length : Nat) : Int) > (60 : Int))) (some false) ((sl8Has (it2, it0, it1)).bind fun r4 => (cond r4 (some false) (sl8Item_L4 Bool fuel ((0 : Int), it0, it1, it2) (fun _ => (some true)) some))))))
noncomputable def c_sl8Item : Ctr := { args := [.val true (.pair (.pair (.int .i64) (.int .i64)) (.sl (.pair (.int .i64) (.int .i64))))], rets := [(false, [(none, .bool)])], F := sl8Item }
noncomputable def X_sl8Item : Ctx := XT.withΓ (lk [(208, c_sDotOk), (160, c_sl8Has), (191, c_sDotLess)]) (lk [])
noncomputable def H_sl8Item : Hints := ⟨lk [], lk [], lk []⟩
noncomputable def L_sl8Item_4 : LoopF c_sl8Item.Res := ⟨⟨54, [(1, .one (.ptr 0 0)), (3, .one (.val (.int .i64)))], [.vars 40 [.val (.int .i64), .val (.int .i64), .val (.sl (.pair (.int .i64) (.int .i64)))]], []⟩, [(0, ⟨54, [], [], []⟩)], sl8Item_L4⟩
noncomputable def T_sl8Item : Nat → Option (LoopF c_sl8Item.Res) := lk [(4, L_sl8Item_4)]
theorem s_sl8Item_4 : StepOk X_sl8Item H_sl8Item (c_sl8Item.finish X_sl8Item Try.f123.results.toList) T_sl8Item (loopAt Try.f123 0) := ⟨L_sl8Item_4, by kernel_rfl, fun O y x r => by kernel_rfl, fun O k y x r => by kernel_rfl⟩
theorem r_sl8Item (a) : fnRun X_sl8Item H_sl8Item c_sl8Item Try.f123 T_sl8Item a = sl8Item a := by kernel_rfl
theorem h_sl8Item : CtrHolds Try.prog 123 c_sl8Item := fn_ok (.cons h_sDotOk Try.call208 (.cons h_sl8Has Try.call160 (.cons h_sDotLess Try.call191 .nil))) .nil (H := H_sl8Item) (tbl := T_sl8Item) Try.func123 (by kernel_rfl) (loops1 (by kernel_rfl) s_sl8Item_4) r_sl8Item
/-! 124 sl9Deps -/
noncomputable def sl9Deps_L2 (O : Type) : Nat → (Int × List (Int × Int) × Int) → (Unit → Option O) → (Bool → Option O) → Option O
  | 0, _, _, _ => none
  | q + 1, (n2, l3, i4), x, r => (cond (decide (i4 < ((l3.length : Nat) : Int))) (cond (decide ((0 : Int) ≤ i4) && decide (i4 < ((l3.length : Nat) : Int))) (cond (decide ((nth l3 i4).1 > n2)) (r false) (sl9Deps_L2 O q (n2, l3, (IntKind.wrap .i64 (i4 + (1 : Int)))) x r)) none) (x ()))
noncomputable def sl9Deps : (Int × List (Int × Int)) → Option Bool
  | (n0, l1) => (sl9Deps_L2 Bool fuel (n0, l1, (0 : Int)) (fun _ => (some true)) some)
noncomputable def c_sl9Deps : Ctr := { args := [.val false (.int .i64), .val false (.sl (.pair (.int .i64) (.int .i64)))], rets := [(false, [(none, .bool)])], F := sl9Deps }
noncomputable def X_sl9Deps : Ctx := XT.withΓ (lk []) (lk [])
noncomputable def H_sl9Deps : Hints := ⟨lk [], lk [], lk []⟩
noncomputable def L_sl9Deps_2 : LoopF c_sl9Deps.Res := ⟨⟨19, [(0, .one (.val (.int .i64))), (1, .one (.val (.sl (.pair (.int .i64) (.int .i64))))), (5, .one (.val (.int .i64)))], [], []⟩, [(0, ⟨19, [], [], []⟩)], sl9Deps_L2⟩
noncomputable def T_sl9Deps : Nat → Option (LoopF c_sl9Deps.Res) := lk [(2, L_sl9Deps_2)]
theorem s_sl9Deps_2 : StepOk X_sl9Deps H_sl9Deps (c_sl9Deps.finish X_sl9Deps Try.f124.results.toList) T_sl9Deps (loopAt Try.f124 0) := ⟨L_sl9Deps_2, by kernel_rfl, fun O y x r => by kernel_rfl, fun O k y x r => by kernel_rfl⟩
theorem r_sl9Deps (a) : fnRun X_sl9Deps H_sl9Deps c_sl9Deps Try.f124 T_sl9Deps a = sl9Deps a := by kernel_rfl
theorem h_sl9Deps : CtrHolds Try.prog 124 c_sl9Deps := fn_ok .nil .nil (H := H_sl9Deps) (tbl := T_sl9Deps) Try.func124 (by kernel_rfl) (loops1 (by kernel_rfl) s_sl9Deps_2) r_sl9Deps
/-! 209 sPairOk -/
noncomputable def sPairOk : (List UInt8 × List UInt8 × Bool) → Option Bool
  | (p0, p1, p2) => ((sl1In (((p0.length : Nat) : Int), (1 : Int), (20 : Int))).bind fun r3 => (cond r3 (cond (decide (((p1.length : Nat) : Int) ≤ (20 : Int))) (cond (!p2) (some true) (some (p1 == []))) (some false)) (some false)))
noncomputable def c_sPairOk : Ctr := { args := [.val true (.pair .str (.pair .str .bool))], rets := [(false, [(none, .bool)])], F := sPairOk }
noncomputable def X_sPairOk : Ctx := XT.withΓ (lk [(122, c_sl1In)]) (lk [])
noncomputable def H_sPairOk : Hints := ⟨lk [], lk [], lk []⟩
noncomputable def T_sPairOk : Nat → Option (LoopF c_sPairOk.Res) := lk []
theorem r_sPairOk (a) : fnRun X_sPairOk H_sPairOk c_sPairOk Try.f209 T_sPairOk a = sPairOk a := by kernel_rfl
theorem h_sPairOk : CtrHolds Try.prog 209 c_sPairOk := fn_ok (.cons h_sl1In Try.call122 .nil) .nil (H := H_sPairOk) (tbl := T_sPairOk) Try.func209 (by kernel_rfl) (loops0 (by kernel_rfl)) r_sPairOk
/-! 125 sCmdOk -/
noncomputable def sCmdOk : (Int × List UInt8 × List UInt8) → Option Bool
  | (c0, c1, c2) => ((sl1In (c0, (1 : Int), (3 : Int))).bind fun r3 => (cond r3 ((sPairOk (c1, c2, false)).bind fun r4 => (cond r4 (cond (c0 == (1 : Int)) (some true) (some (c2 == []))) (some false))) (some false)))
noncomputable def c_sCmdOk : Ctr := { args := [.val true (.pair (.int .i64) (.pair .str .str))], rets := [(false, [(none, .bool)])], F := sCmdOk }
noncomputable def X_sCmdOk : Ctx := XT.withΓ (lk [(122, c_sl1In), (209, c_sPairOk)]) (lk [])
noncomputable def H_sCmdOk : Hints := ⟨lk [], lk [], lk []⟩
noncomputable def T_sCmdOk : Nat → Option (LoopF c_sCmdOk.Res) := lk []
theorem r_sCmdOk (a) : fnRun X_sCmdOk H_sCmdOk c_sCmdOk Try.f125 T_sCmdOk a = sCmdOk a := by kernel_rfl
theorem h_sCmdOk : CtrHolds Try.prog 125 c_sCmdOk := fn_ok (.cons h_sl1In Try.call122 (.cons h_sPairOk Try.call209 .nil)) .nil (H := H_sCmdOk) (tbl := T_sCmdOk) Try.func125 (by kernel_rfl) (loops0 (by kernel_rfl)) r_sCmdOk
/-! 126 sl9At -/
noncomputable def sl9At_L2 (O : Type) : Nat → (Int × Int × Int × Int × List ((Int × Int) × (Int × List UInt8 × List UInt8) × List (Int × Int) × Bool) × List ((Int × Int) × Int) × List (Int × Int) × List (List UInt8 × List UInt8 × Bool) × List ((Int × Int) × List UInt8 × Bool) × Int × Int) → (Unit → Option O) → (Int → Option O) → Option O
  | 0, _, _, _ => none
  | q + 1, (i10, r11, r12, r13, r14, r15, r16, r17, r18, d19, d20), x, r => (cond (decide (i10 < ((r14.length : Nat) : Int))) (cond (decide ((0 : Int) ≤ i10) && decide (i10 < ((r14.length : Nat) : Int))) (cond (((nth r14 i10).1.1 == d19) && ((nth r14 i10).1.2 == d20)) (r i10) (sl9At_L2 O q ((IntKind.wrap .i64 (i10 + (1 : Int))), r11, r12, r13, r14, r15, r16, r17, r18, d19, d20) x r)) none) (x ()))
noncomputable def sl9At : ((Int × Int × Int × List ((Int × Int) × (Int × List UInt8 × List UInt8) × List (Int × Int) × Bool) × List ((Int × Int) × Int) × List (Int × Int) × List (List UInt8 × List UInt8 × Bool) × List ((Int × Int) × List UInt8 × Bool)) × Int × Int) → Option Int
  | ((r0, r1, r2, r3, r4, r5, r6, r7), d8, d9) => (sl9At_L2 Int fuel ((0 : Int), r0, r1, r2, r3, r4, r5, r6, r7, d8, d9) (fun _ => (some (-1 : Int))) some)
noncomputable def c_sl9At : Ctr := { args := [.val true (.pair (.int .i64) (.pair (.int .i64) (.pair (.int .i64) (.pair (.sl (.pair (.pair (.int .i64) (.int .i64)) (.pair (.pair (.int .i64) (.pair .str .str)) (.pair (.sl (.pair (.int .i64) (.int .i64))) .bool)))) (.pair (.sl (.pair (.pair (.int .i64) (.int .i64)) (.int .i64))) (.pair (.sl (.pair (.int .i64) (.int .i64))) (.pair (.sl (.pair .str (.pair .str .bool))) (.sl (.pair (.pair (.int .i64) (.int .i64)) (.pair .str .bool)))))))))), .val true (.pair (.int .i64) (.int .i64))], rets := [(false, [(none, (.int .i64))])], F := sl9At }
noncomputable def X_sl9At : Ctx := XT.withΓ (lk []) (lk [])
noncomputable def H_sl9At : Hints := ⟨lk [], lk [], lk []⟩
noncomputable def L_sl9At_2 : LoopF c_sl9At.Res := ⟨⟨22, [(2, .one (.ptr 0 0)), (3, .one (.ptr 1 0)), (5, .one (.val (.int .i64)))], [.vars 64 [.val (.int .i64), .val (.int .i64), .val (.int .i64), .val (.sl (.pair (.pair (.int .i64) (.int .i64)) (.pair (.pair (.int .i64) (.pair .str .str)) (.pair (.sl (.pair (.int .i64) (.int .i64))) .bool)))), .val (.sl (.pair (.pair (.int .i64) (.int .i64)) (.int .i64))), .val (.sl (.pair (.int .i64) (.int .i64))), .val (.sl (.pair .str (.pair .str .bool))), .val (.sl (.pair (.pair (.int .i64) (.int .i64)) (.pair .str .bool)))], .vars 28 [.val (.int .i64), .val (.int .i64)]], []⟩, [(0, ⟨22, [], [], []⟩)], sl9At_L2⟩
noncomputable def T_sl9At : Nat → Option (LoopF c_sl9At.Res) := lk [(2, L_sl9At_2)]
theorem s_sl9At_2 : StepOk X_sl9At H_sl9At (c_sl9At.finish X_sl9At Try.f126.results.toList) T_sl9At (loopAt Try.f126 0) := ⟨L_sl9At_2, by kernel_rfl, fun O y x r => by kernel_rfl, fun O k y x r => by kernel_rfl⟩
theorem r_sl9At (a) : fnRun X_sl9At H_sl9At c_sl9At Try.f126 T_sl9At a = sl9At a := by kernel_rfl
theorem h_sl9At : CtrHolds Try.prog 126 c_sl9At := fn_ok .nil .nil (H := H_sl9At) (tbl := T_sl9At) Try.func126 (by kernel_rfl) (loops1 (by kernel_rfl) s_sl9At_2) r_sl9At
/-! 46 sMsgOk -/
noncomputable def sMsgOk : ((Int × Int × Int × List ((Int × Int) × (Int × List UInt8 × List UInt8) × List (Int × Int) × Bool) × List ((Int × Int) × Int) × List (Int × Int) × List (List UInt8 × List UInt8 × Bool) × List ((Int × Int) × List UInt8 × Bool)) × Int × Int × Int × (Int × Int) × (Int × List UInt8 × List UInt8) × List (Int × Int)) → Option Bool
  | ((r0, r1, r2, r3, r4, r5, r6, r7), m8, m9, m10, (m11, m12), (m13, m14, m15), m16) => ((sl1In (m9, (1 : Int), r1)).bind fun r17 => (cond (!r17) (some false) (cond (m9 == m10) (some false) (cond (m10 != r0) (some false) (cond (decide (m11 > r1)) (some false) ((sl8Item ((m11, m12), m16)).bind fun r18 => (cond (!r18) (some false) ((sl9Deps (r1, m16)).bind fun r19 => (cond (!r19) (some false) ((cond (m8 == (1 : Int)) (some (m8, true, r0, r1, r2, r3, r4, r5, r6, r7, m8, m9, m10, m11, m12, m13, m14, m15, m16)) (some (m8, (m8 == (3 : Int)), r0, r1, r2, r3, r4, r5, r6, r7, m8, m9, m10, m11, m12, m13, m14, m15, m16))).bind fun (v20, v21, r22, r23, r24, r25, r26, r27, r28, r29, m30, m31, m32, m33, m34, m35, m36, m37, m38) => (cond v21 (cond (m31 == m33) ((sCmdOk (m35, m36, m37)).bind fun r39 => (some r39)) (some false)) (cond (v20 == (2 : Int)) (cond (m33 == r22) ((sl9At ((r22, r23, r24, r25, r26, r27, r28, r29), m33, m34)).bind fun r40 => (cond (decide (r40 ≥ (0 : Int))) (some ((m35 == (0 : Int)) && ((m36 == []) && (m37 == [])))) (some false))) (some false)) (some false)))))))))))))
noncomputable def c_sMsgOk : Ctr := { args := [.val true (.pair (.int .i64) (.pair (.int .i64) (.pair (.int .i64) (.pair (.sl (.pair (.pair (.int .i64) (.int .i64)) (.pair (.pair (.int .i64) (.pair .str .str)) (.pair (.sl (.pair (.int .i64) (.int .i64))) .bool)))) (.pair (.sl (.pair (.pair (.int .i64) (.int .i64)) (.int .i64))) (.pair (.sl (.pair (.int .i64) (.int .i64))) (.pair (.sl (.pair .str (.pair .str .bool))) (.sl (.pair (.pair (.int .i64) (.int .i64)) (.pair .str .bool)))))))))), .val true (.pair (.int .i64) (.pair (.int .i64) (.pair (.int .i64) (.pair (.pair (.int .i64) (.int .i64)) (.pair (.pair (.int .i64) (.pair .str .str)) (.sl (.pair (.int .i64) (.int .i64))))))))], rets := [(false, [(none, .bool)])], F := sMsgOk }
noncomputable def X_sMsgOk : Ctx := XT.withΓ (lk [(122, c_sl1In), (123, c_sl8Item), (124, c_sl9Deps), (125, c_sCmdOk), (126, c_sl9At)]) (lk [])
noncomputable def H_sMsgOk : Hints := ⟨lk [(6, ⟨87, [(2, .one (.ptr 0 0)), (3, .one (.ptr 1 0)), (51, .one (.val (.int .i64))), (52, .one (.val .bool))], [.vars 64 [.val (.int .i64), .val (.int .i64), .val (.int .i64), .val (.sl (.pair (.pair (.int .i64) (.int .i64)) (.pair (.pair (.int .i64) (.pair .str .str)) (.pair (.sl (.pair (.int .i64) (.int .i64))) .bool)))), .val (.sl (.pair (.pair (.int .i64) (.int .i64)) (.int .i64))), .val (.sl (.pair (.int .i64) (.int .i64))), .val (.sl (.pair .str (.pair .str .bool))), .val (.sl (.pair (.pair (.int .i64) (.int .i64)) (.pair .str .bool)))], .vars 87 [.val (.int .i64), .val (.int .i64), .val (.int .i64), .val (.int .i64), .val (.int .i64), .val (.int .i64), .val .str, .val .str, .val (.sl (.pair (.int .i64) (.int .i64)))]], []⟩)], lk [], lk []⟩
noncomputable def T_sMsgOk : Nat → Option (LoopF c_sMsgOk.Res) := lk []
theorem r_sMsgOk (a) : fnRun X_sMsgOk H_sMsgOk c_sMsgOk Try.f46 T_sMsgOk a = sMsgOk a := by kernel_rfl
theorem h_sMsgOk : CtrHolds Try.prog 46 c_sMsgOk := fn_ok (.cons h_sl1In Try.call122 (.cons h_sl8Item Try.call123 (.cons h_sl9Deps Try.call124 (.cons h_sCmdOk Try.call125 (.cons h_sl9At Try.call126 .nil))))) .nil (H := H_sMsgOk) (tbl := T_sMsgOk) Try.func46 (by kernel_rfl) (loops0 (by kernel_rfl)) r_sMsgOk
/-! 91 iin -/
noncomputable def iin : (Int × Int × Int) → Option Bool
  | (n0, low1, high2) => (cond (decide (n0 ≥ low1)) (some (decide (n0 ≤ high2))) (some false))
noncomputable def c_iin : Ctr := { args := [.val false (.int .i64), .val false (.int .i64), .val false (.int .i64)], rets := [(false, [(none, .bool)])], F := iin }
noncomputable def X_iin : Ctx := XT.withΓ (lk []) (lk [])
noncomputable def H_iin : Hints := ⟨lk [], lk [], lk []⟩
noncomputable def T_iin : Nat → Option (LoopF c_iin.Res) := lk []
theorem r_iin (a) : fnRun X_iin H_iin c_iin Try.f91 T_iin a = iin a := by kernel_rfl
theorem h_iin : CtrHolds Try.prog 91 c_iin := fn_ok .nil .nil (H := H_iin) (tbl := T_iin) Try.func91 (by kernel_rfl) (loops0 (by kernel_rfl)) r_iin
/-! 86 iDotOk -/
noncomputable def iDotOk : (Int × Int) → Option Bool
  | (d0, d1) => ((iin (d0, (1 : Int), (7 : Int))).bind fun r2 => (cond r2 ((iin (d1, (1 : Int), (999 : Int))).bind fun r3 => (some r3)) (some false)))
noncomputable def c_iDotOk : Ctr := { args := [.val true (.pair (.int .i64) (.int .i64))], rets := [(false, [(none, .bool)])], F := iDotOk }
noncomputable def X_iDotOk : Ctx := XT.withΓ (lk [(91, c_iin)]) (lk [])
noncomputable def H_iDotOk : Hints := ⟨lk [], lk [], lk []⟩
noncomputable def T_iDotOk : Nat → Option (LoopF c_iDotOk.Res) := lk []
theorem r_iDotOk (a) : fnRun X_iDotOk H_iDotOk c_iDotOk Try.f86 T_iDotOk a = iDotOk a := by kernel_rfl
theorem h_iDotOk : CtrHolds Try.prog 86 c_iDotOk := fn_ok (.cons h_iin Try.call91 .nil) .nil (H := H_iDotOk) (tbl := T_iDotOk) Try.func86 (by kernel_rfl) (loops0 (by kernel_rfl)) r_iDotOk
/-! 24 iDotLess -/
noncomputable def iDotLess : ((Int × Int) × Int × Int) → Option Bool
  | ((a0, a1), b2, b3) => (cond (decide (a0 < b2)) (some true) (cond (a0 == b2) (some (decide (a1 < b3))) (some false)))
noncomputable def c_iDotLess : Ctr := { args := [.val true (.pair (.int .i64) (.int .i64)), .val true (.pair (.int .i64) (.int .i64))], rets := [(false, [(none, .bool)])], F := iDotLess }
noncomputable def X_iDotLess : Ctx := XT.withΓ (lk []) (lk [])
noncomputable def H_iDotLess : Hints := ⟨lk [], lk [], lk []⟩
noncomputable def T_iDotLess : Nat → Option (LoopF c_iDotLess.Res) := lk []
theorem r_iDotLess (a) : fnRun X_iDotLess H_iDotLess c_iDotLess Try.f24 T_iDotLess a = iDotLess a := by kernel_rfl
theorem h_iDotLess : CtrHolds Try.prog 24 c_iDotLess := fn_ok .nil .nil (H := H_iDotLess) (tbl := T_iDotLess) Try.func24 (by kernel_rfl) (loops0 (by kernel_rfl)) r_iDotLess
/-! 87 idepsOk -/
noncomputable def idepsOk_L2 (O : Type) : Nat → (List (Int × Int) × List (Int × Int) × Int × Int × Int × Int) → ((List (Int × Int)) → Option O) → (Bool → Option O) → Option O
  | 0, _, _, _ => none
  | q + 1, (deps3, v4, v5, v6, d7, d8), x, r => (cond (decide (v6 < v5)) (cond (decide ((0 : Int) ≤ v6) && decide (v6 < ((v4.length : Nat) : Int))) ((iDotOk ((nth v4 v6).1, (nth v4 v6).2)).bind fun r9 => (cond (!r9) (r false) (cond (((nth v4 v6).1 == d7) && ((nth v4 v6).2 == d8)) (r false) (cond (decide (v6 > (0 : Int))) (cond (decide ((0 : Int) ≤ (IntKind.wrap .i64 (v6 - (1 : Int)))) && decide ((IntKind.wrap .i64 (v6 - (1 : Int))) < ((deps3.length : Nat) : Int))) ((iDotLess (((nth deps3 (IntKind.wrap .i64 (v6 - (1 : Int)))).1, (nth deps3 (IntKind.wrap .i64 (v6 - (1 : Int)))).2), (nth v4 v6).1, (nth v4 v6).2)).bind fun r10 => (cond (!r10) (r false) (idepsOk_L2 O q (deps3, v4, v5, (IntKind.wrap .i64 (v6 + (1 : Int))), d7, d8) x r))) none) (idepsOk_L2 O q (deps3, v4, v5, (IntKind.wrap .i64 (v6 + (1 : Int))), d7, d8) x r))))) none) (x deps3))
noncomputable def idepsOk : ((Int × Int) × List (Int × Int)) → Option Bool
  | ((d0, d1), deps2) => (idepsOk_L2 Bool fuel (deps2, deps2, ((deps2.length : Nat) : Int), (0 : Int), d0, d1) (fun deps11 => (some (decide (((deps11.length : Nat) : Int) ≤ (60 : Int))))) some)
noncomputable def c_idepsOk : Ctr := { args := [.val true (.pair (.int .i64) (.int .i64)), .val false (.sl (.pair (.int .i64) (.int .i64)))], rets := [(false, [(none, .bool)])], F := idepsOk }
noncomputable def X_idepsOk : Ctx := XT.withΓ (lk [(86, c_iDotOk), (24, c_iDotLess)]) (lk [])
noncomputable def H_idepsOk : Hints := ⟨lk [], lk [], lk []⟩
noncomputable def L_idepsOk_2 : LoopF c_idepsOk.Res := ⟨⟨40, [(1, .one (.val (.sl (.pair (.int .i64) (.int .i64))))), (2, .one (.ptr 0 0)), (7, .one (.val (.sl (.pair (.int .i64) (.int .i64))))), (8, .one (.val (.int .i64))), (9, .one (.val (.int .i64)))], [.vars 28 [.val (.int .i64), .val (.int .i64)]], []⟩, [(0, ⟨40, [(1, .one (.val (.sl (.pair (.int .i64) (.int .i64)))))], [], []⟩)], idepsOk_L2⟩
noncomputable def T_idepsOk : Nat → Option (LoopF c_idepsOk.Res) := lk [(2, L_idepsOk_2)]
theorem s_idepsOk_2 : StepOk X_idepsOk H_idepsOk (c_idepsOk.finish X_idepsOk Try.f87.results.toList) T_idepsOk (loopAt Try.f87 0) := ⟨L_idepsOk_2, by kernel_rfl, fun O y x r => by kernel_rfl, fun O k y x r => by kernel_rfl⟩
theorem r_idepsOk (a) : fnRun X_idepsOk H_idepsOk c_idepsOk Try.f87 T_idepsOk a = idepsOk a := by kernel_rfl
theorem h_idepsOk : CtrHolds Try.prog 87 c_idepsOk := fn_ok (.cons h_iDotOk Try.call86 (.cons h_iDotLess Try.call24 .nil)) .nil (H := H_idepsOk) (tbl := T_idepsOk) Try.func87 (by kernel_rfl) (loops1 (by kernel_rfl) s_idepsOk_2) r_idepsOk
/-! 134 iwithin -/
noncomputable def iwithin_L2 (O : Type) : Nat → (Int × List (Int × Int) × Int × Int) → (Unit → Option O) → (Bool → Option O) → Option O
  | 0, _, _, _ => none
  | q + 1, (n2, v3, v4, v5), x, r => (cond (decide (v5 < v4)) (cond (decide ((0 : Int) ≤ v5) && decide (v5 < ((v3.length : Nat) : Int))) ((iin ((nth v3 v5).1, (1 : Int), n2)).bind fun r6 => (cond (!r6) (r false) (iwithin_L2 O q (n2, v3, v4, (IntKind.wrap .i64 (v5 + (1 : Int)))) x r))) none) (x ()))
noncomputable def iwithin : (List (Int × Int) × Int) → Option Bool
  | (l0, n1) => (iwithin_L2 Bool fuel (n1, l0, ((l0.length : Nat) : Int), (0 : Int)) (fun _ => (some true)) some)
noncomputable def c_iwithin : Ctr := { args := [.val false (.sl (.pair (.int .i64) (.int .i64))), .val false (.int .i64)], rets := [(false, [(none, .bool)])], F := iwithin }
noncomputable def X_iwithin : Ctx := XT.withΓ (lk [(91, c_iin)]) (lk [])
noncomputable def H_iwithin : Hints := ⟨lk [], lk [], lk []⟩
noncomputable def L_iwithin_2 : LoopF c_iwithin.Res := ⟨⟨19, [(1, .one (.val (.int .i64))), (7, .one (.val (.sl (.pair (.int .i64) (.int .i64))))), (8, .one (.val (.int .i64))), (9, .one (.val (.int .i64)))], [], []⟩, [(0, ⟨19, [], [], []⟩)], iwithin_L2⟩
noncomputable def T_iwithin : Nat → Option (LoopF c_iwithin.Res) := lk [(2, L_iwithin_2)]
theorem s_iwithin_2 : StepOk X_iwithin H_iwithin (c_iwithin.finish X_iwithin Try.f134.results.toList) T_iwithin (loopAt Try.f134 0) := ⟨L_iwithin_2, by kernel_rfl, fun O y x r => by kernel_rfl, fun O k y x r => by kernel_rfl⟩
theorem r_iwithin (a) : fnRun X_iwithin H_iwithin c_iwithin Try.f134 T_iwithin a = iwithin a := by kernel_rfl
theorem h_iwithin : CtrHolds Try.prog 134 c_iwithin := fn_ok (.cons h_iin Try.call91 .nil) .nil (H := H_iwithin) (tbl := T_iwithin) Try.func134 (by kernel_rfl) (loops1 (by kernel_rfl) s_iwithin_2) r_iwithin
/-! 214 ikeyOk -/
noncomputable def ikeyOk : (List UInt8) → Option Bool
  | s0 => ((iin (((s0.length : Nat) : Int), (1 : Int), (20 : Int))).bind fun r1 => (some r1))
noncomputable def c_ikeyOk : Ctr := { args := [.val false .str], rets := [(false, [(none, .bool)])], F := ikeyOk }
noncomputable def X_ikeyOk : Ctx := XT.withΓ (lk [(91, c_iin)]) (lk [])
noncomputable def H_ikeyOk : Hints := ⟨lk [], lk [], lk []⟩
noncomputable def T_ikeyOk : Nat → Option (LoopF c_ikeyOk.Res) := lk []
theorem r_ikeyOk (a) : fnRun X_ikeyOk H_ikeyOk c_ikeyOk Try.f214 T_ikeyOk a = ikeyOk a := by kernel_rfl
theorem h_ikeyOk : CtrHolds Try.prog 214 c_ikeyOk := fn_ok (.cons h_iin Try.call91 .nil) .nil (H := H_ikeyOk) (tbl := T_ikeyOk) Try.func214 (by kernel_rfl) (loops0 (by kernel_rfl)) r_ikeyOk
/-! 135 iCmdOk -/
noncomputable def iCmdOk : (Int × List UInt8 × List UInt8) → Option Bool
  | (c0, c1, c2) => ((iin (c0, (1 : Int), (3 : Int))).bind fun r3 => (cond r3 ((ikeyOk c1).bind fun r4 => (cond r4 (cond (decide (((c2.length : Nat) : Int) ≤ (20 : Int))) (cond (c0 == (1 : Int)) (some true) (some (c2 == []))) (some false)) (some false))) (some false)))
noncomputable def c_iCmdOk : Ctr := { args := [.val true (.pair (.int .i64) (.pair .str .str))], rets := [(false, [(none, .bool)])], F := iCmdOk }
noncomputable def X_iCmdOk : Ctx := XT.withΓ (lk [(91, c_iin), (214, c_ikeyOk)]) (lk [])
noncomputable def H_iCmdOk : Hints := ⟨lk [], lk [], lk []⟩
noncomputable def T_iCmdOk : Nat → Option (LoopF c_iCmdOk.Res) := lk []
theorem r_iCmdOk (a) : fnRun X_iCmdOk H_iCmdOk c_iCmdOk Try.f135 T_iCmdOk a = iCmdOk a := by kernel_rfl
theorem h_iCmdOk : CtrHolds Try.prog 135 c_iCmdOk := fn_ok (.cons h_iin Try.call91 (.cons h_ikeyOk Try.call214 .nil)) .nil (H := H_iCmdOk) (tbl := T_iCmdOk) Try.func135 (by kernel_rfl) (loops0 (by kernel_rfl)) r_iCmdOk
/-! 136 irecAt -/
noncomputable def irecAt_L2 (O : Type) : Nat → (List ((Int × Int) × (Int × List UInt8 × List UInt8) × List (Int × Int) × Bool) × Int × Int × Int × Int) → (Unit → Option O) → (Int → Option O) → Option O
  | 0, _, _, _ => none
  | q + 1, (v10, v11, v12, d13, d14), x, r => (cond (decide (v12 < v11)) (cond (decide ((0 : Int) ≤ v12) && decide (v12 < ((v10.length : Nat) : Int))) (cond (((nth v10 v12).1.1 == d13) && ((nth v10 v12).1.2 == d14)) (r v12) (irecAt_L2 O q (v10, v11, (IntKind.wrap .i64 (v12 + (1 : Int))), d13, d14) x r)) none) (x ()))
noncomputable def irecAt : ((Int × Int × Int × List ((Int × Int) × (Int × List UInt8 × List UInt8) × List (Int × Int) × Bool) × List ((Int × Int) × Int) × List (Int × Int) × List (List UInt8 × List UInt8 × Bool) × List ((Int × Int) × List UInt8 × Bool)) × Int × Int) → Option Int
  | ((r0, r1, r2, r3, r4, r5, r6, r7), d8, d9) => (irecAt_L2 Int fuel (r3, ((r3.length : Nat) : Int), (0 : Int), d8, d9) (fun _ => (some (-1 : Int))) some)
noncomputable def c_irecAt : Ctr := { args := [.val true (.pair (.int .i64) (.pair (.int .i64) (.pair (.int .i64) (.pair (.sl (.pair (.pair (.int .i64) (.int .i64)) (.pair (.pair (.int .i64) (.pair .str .str)) (.pair (.sl (.pair (.int .i64) (.int .i64))) .bool)))) (.pair (.sl (.pair (.pair (.int .i64) (.int .i64)) (.int .i64))) (.pair (.sl (.pair (.int .i64) (.int .i64))) (.pair (.sl (.pair .str (.pair .str .bool))) (.sl (.pair (.pair (.int .i64) (.int .i64)) (.pair .str .bool)))))))))), .val true (.pair (.int .i64) (.int .i64))], rets := [(false, [(none, (.int .i64))])], F := irecAt }
noncomputable def X_irecAt : Ctx := XT.withΓ (lk []) (lk [])
noncomputable def H_irecAt : Hints := ⟨lk [], lk [], lk []⟩
noncomputable def L_irecAt_2 : LoopF c_irecAt.Res := ⟨⟨21, [(3, .one (.ptr 0 0)), (8, .one (.val (.sl (.pair (.pair (.int .i64) (.int .i64)) (.pair (.pair (.int .i64) (.pair .str .str)) (.pair (.sl (.pair (.int .i64) (.int .i64))) .bool)))))), (9, .one (.val (.int .i64))), (10, .one (.val (.int .i64)))], [.vars 28 [.val (.int .i64), .val (.int .i64)]], []⟩, [(0, ⟨21, [], [], []⟩)], irecAt_L2⟩
noncomputable def T_irecAt : Nat → Option (LoopF c_irecAt.Res) := lk [(2, L_irecAt_2)]
theorem s_irecAt_2 : StepOk X_irecAt H_irecAt (c_irecAt.finish X_irecAt Try.f136.results.toList) T_irecAt (loopAt Try.f136 0) := ⟨L_irecAt_2, by kernel_rfl, fun O y x r => by kernel_rfl, fun O k y x r => by kernel_rfl⟩
theorem r_irecAt (a) : fnRun X_irecAt H_irecAt c_irecAt Try.f136 T_irecAt a = irecAt a := by kernel_rfl
theorem h_irecAt : CtrHolds Try.prog 136 c_irecAt := fn_ok .nil .nil (H := H_irecAt) (tbl := T_irecAt) Try.func136 (by kernel_rfl) (loops1 (by kernel_rfl) s_irecAt_2) r_irecAt
/-! 49 iMsgOk -/
noncomputable def iMsgOk : ((Int × Int × Int × List ((Int × Int) × (Int × List UInt8 × List UInt8) × List (Int × Int) × Bool) × List ((Int × Int) × Int) × List (Int × Int) × List (List UInt8 × List UInt8 × Bool) × List ((Int × Int) × List UInt8 × Bool)) × Int × Int × Int × (Int × Int) × (Int × List UInt8 × List UInt8) × List (Int × Int)) → Option Bool
  | ((r0, r1, r2, r3, r4, r5, r6, r7), m8, m9, m10, (m11, m12), (m13, m14, m15), m16) => ((iin (m9, (1 : Int), r1)).bind fun r17 => (cond (!r17) (some false) (cond (m9 == r0) (some false) (cond (m10 != r0) (some false) ((iDotOk (m11, m12)).bind fun r18 => (cond (!r18) (some false) (cond (decide (m11 > r1)) (some false) ((idepsOk ((m11, m12), m16)).bind fun r19 => (cond (!r19) (some false) ((iwithin (m16, r1)).bind fun r20 => (cond (!r20) (some false) ((cond (m8 == (1 : Int)) (some (m8, true, r0, r1, r2, r3, r4, r5, r6, r7, m8, m9, m10, m11, m12, m13, m14, m15, m16)) (some (m8, (m8 == (3 : Int)), r0, r1, r2, r3, r4, r5, r6, r7, m8, m9, m10, m11, m12, m13, m14, m15, m16))).bind fun (v21, v22, r23, r24, r25, r26, r27, r28, r29, r30, m31, m32, m33, m34, m35, m36, m37, m38, m39) => (cond v22 (cond (m34 == m32) ((iCmdOk (m36, m37, m38)).bind fun r40 => (some r40)) (some false)) (cond (v21 == (2 : Int)) (cond (m34 == r23) ((irecAt ((r23, r24, r25, r26, r27, r28, r29, r30), m34, m35)).bind fun r41 => (cond (decide (r41 ≥ (0 : Int))) (some ((m36 == (0 : Int)) && ((m37 == []) && (m38 == [])))) (some false))) (some false)) (some false)))))))))))))))
noncomputable def c_iMsgOk : Ctr := { args := [.val true (.pair (.int .i64) (.pair (.int .i64) (.pair (.int .i64) (.pair (.sl (.pair (.pair (.int .i64) (.int .i64)) (.pair (.pair (.int .i64) (.pair .str .str)) (.pair (.sl (.pair (.int .i64) (.int .i64))) .bool)))) (.pair (.sl (.pair (.pair (.int .i64) (.int .i64)) (.int .i64))) (.pair (.sl (.pair (.int .i64) (.int .i64))) (.pair (.sl (.pair .str (.pair .str .bool))) (.sl (.pair (.pair (.int .i64) (.int .i64)) (.pair .str .bool)))))))))), .val true (.pair (.int .i64) (.pair (.int .i64) (.pair (.int .i64) (.pair (.pair (.int .i64) (.int .i64)) (.pair (.pair (.int .i64) (.pair .str .str)) (.sl (.pair (.int .i64) (.int .i64))))))))], rets := [(false, [(none, .bool)])], F := iMsgOk }
noncomputable def X_iMsgOk : Ctx := XT.withΓ (lk [(91, c_iin), (86, c_iDotOk), (87, c_idepsOk), (134, c_iwithin), (135, c_iCmdOk), (136, c_irecAt)]) (lk [])
noncomputable def H_iMsgOk : Hints := ⟨lk [(6, ⟨92, [(2, .one (.ptr 0 0)), (3, .one (.ptr 1 0)), (56, .one (.val (.int .i64))), (57, .one (.val .bool))], [.vars 64 [.val (.int .i64), .val (.int .i64), .val (.int .i64), .val (.sl (.pair (.pair (.int .i64) (.int .i64)) (.pair (.pair (.int .i64) (.pair .str .str)) (.pair (.sl (.pair (.int .i64) (.int .i64))) .bool)))), .val (.sl (.pair (.pair (.int .i64) (.int .i64)) (.int .i64))), .val (.sl (.pair (.int .i64) (.int .i64))), .val (.sl (.pair .str (.pair .str .bool))), .val (.sl (.pair (.pair (.int .i64) (.int .i64)) (.pair .str .bool)))], .vars 87 [.val (.int .i64), .val (.int .i64), .val (.int .i64), .val (.int .i64), .val (.int .i64), .val (.int .i64), .val .str, .val .str, .val (.sl (.pair (.int .i64) (.int .i64)))]], []⟩)], lk [], lk []⟩
noncomputable def T_iMsgOk : Nat → Option (LoopF c_iMsgOk.Res) := lk []
theorem r_iMsgOk (a) : fnRun X_iMsgOk H_iMsgOk c_iMsgOk Try.f49 T_iMsgOk a = iMsgOk a := by kernel_rfl
theorem h_iMsgOk : CtrHolds Try.prog 49 c_iMsgOk := fn_ok (.cons h_iin Try.call91 (.cons h_iDotOk Try.call86 (.cons h_idepsOk Try.call87 (.cons h_iwithin Try.call134 (.cons h_iCmdOk Try.call135 (.cons h_irecAt Try.call136 .nil)))))) .nil (H := H_iMsgOk) (tbl := T_iMsgOk) Try.func49 (by kernel_rfl) (loops0 (by kernel_rfl)) r_iMsgOk
/-! 137 leqDot -/
noncomputable def leqDot : ((Int × Int) × Int × Int) → Option Bool
  | ((a0, a1), b2, b3) => (cond (a0 != b2) (some false) (cond (a1 != b3) (some false) (some true)))
noncomputable def c_leqDot : Ctr := { args := [.val true (.pair (.int .i64) (.int .i64)), .val true (.pair (.int .i64) (.int .i64))], rets := [(false, [(none, .bool)])], F := leqDot }
noncomputable def X_leqDot : Ctx := XT.withΓ (lk []) (lk [])
noncomputable def H_leqDot : Hints := ⟨lk [], lk [], lk []⟩
noncomputable def T_leqDot : Nat → Option (LoopF c_leqDot.Res) := lk []
theorem r_leqDot (a) : fnRun X_leqDot H_leqDot c_leqDot Try.f137 T_leqDot a = leqDot a := by kernel_rfl
theorem h_leqDot : CtrHolds Try.prog 137 c_leqDot := fn_ok .nil .nil (H := H_leqDot) (tbl := T_leqDot) Try.func137 (by kernel_rfl) (loops0 (by kernel_rfl)) r_leqDot
/-! 138 leqCmd -/
noncomputable def leqCmd : ((Int × List UInt8 × List UInt8) × Int × List UInt8 × List UInt8) → Option Bool
  | ((a0, a1, a2), b3, b4, b5) => (cond (a0 != b3) (some false) (cond (!(a1 == b4)) (some false) (cond (!(a2 == b5)) (some false) (some true))))
noncomputable def c_leqCmd : Ctr := { args := [.val true (.pair (.int .i64) (.pair .str .str)), .val true (.pair (.int .i64) (.pair .str .str))], rets := [(false, [(none, .bool)])], F := leqCmd }
noncomputable def X_leqCmd : Ctx := XT.withΓ (lk []) (lk [])
noncomputable def H_leqCmd : Hints := ⟨lk [], lk [], lk []⟩
noncomputable def T_leqCmd : Nat → Option (LoopF c_leqCmd.Res) := lk []
theorem r_leqCmd (a) : fnRun X_leqCmd H_leqCmd c_leqCmd Try.f138 T_leqCmd a = leqCmd a := by kernel_rfl
theorem h_leqCmd : CtrHolds Try.prog 138 c_leqCmd := fn_ok .nil .nil (H := H_leqCmd) (tbl := T_leqCmd) Try.func138 (by kernel_rfl) (loops0 (by kernel_rfl)) r_leqCmd
/-! 106 leqDotS -/
noncomputable def leqDotS_L4 (O : Type) : Nat → (List (Int × Int) × List (Int × Int) × Int) → (Unit → Option O) → (Bool → Option O) → Option O
  | 0, _, _, _ => none
  | q + 1, (a2, b3, i4), x, r => (cond (decide (i4 < ((a2.length : Nat) : Int))) (cond (decide ((0 : Int) ≤ i4) && decide (i4 < ((a2.length : Nat) : Int))) (cond (decide ((0 : Int) ≤ i4) && decide (i4 < ((b3.length : Nat) : Int))) ((leqDot (((nth a2 i4).1, (nth a2 i4).2), (nth b3 i4).1, (nth b3 i4).2)).bind fun r5 => (cond (!r5) (r false) (leqDotS_L4 O q (a2, b3, (IntKind.wrap .i64 (i4 + (1 : Int)))) x r))) none) none) (x ()))
noncomputable def leqDotS : (List (Int × Int) × List (Int × Int)) → Option Bool
  | (a0, b1) => (cond (((a0.length : Nat) : Int) != ((b1.length : Nat) : Int)) (some false) (leqDotS_L4 Bool fuel (a0, b1, (0 : Int)) (fun _ => (some true)) some))
noncomputable def c_leqDotS : Ctr := { args := [.val false (.sl (.pair (.int .i64) (.int .i64))), .val false (.sl (.pair (.int .i64) (.int .i64)))], rets := [(false, [(none, .bool)])], F := leqDotS }
noncomputable def X_leqDotS : Ctx := XT.withΓ (lk [(137, c_leqDot)]) (lk [])
noncomputable def H_leqDotS : Hints := ⟨lk [], lk [], lk []⟩
noncomputable def L_leqDotS_4 : LoopF c_leqDotS.Res := ⟨⟨27, [(0, .one (.val (.sl (.pair (.int .i64) (.int .i64))))), (1, .one (.val (.sl (.pair (.int .i64) (.int .i64))))), (5, .one (.val (.int .i64)))], [], []⟩, [(0, ⟨27, [], [], []⟩)], leqDotS_L4⟩
noncomputable def T_leqDotS : Nat → Option (LoopF c_leqDotS.Res) := lk [(4, L_leqDotS_4)]
theorem s_leqDotS_4 : StepOk X_leqDotS H_leqDotS (c_leqDotS.finish X_leqDotS Try.f106.results.toList) T_leqDotS (loopAt Try.f106 0) := ⟨L_leqDotS_4, by kernel_rfl, fun O y x r => by kernel_rfl, fun O k y x r => by kernel_rfl⟩
theorem r_leqDotS (a) : fnRun X_leqDotS H_leqDotS c_leqDotS Try.f106 T_leqDotS a = leqDotS a := by kernel_rfl
theorem h_leqDotS : CtrHolds Try.prog 106 c_leqDotS := fn_ok (.cons h_leqDot Try.call137 .nil) .nil (H := H_leqDotS) (tbl := T_leqDotS) Try.func106 (by kernel_rfl) (loops1 (by kernel_rfl) s_leqDotS_4) r_leqDotS
/-! 202 leqRec -/
noncomputable def leqRec : (((Int × Int) × (Int × List UInt8 × List UInt8) × List (Int × Int) × Bool) × (Int × Int) × (Int × List UInt8 × List UInt8) × List (Int × Int) × Bool) → Option Bool
  | (((a0, a1), (a2, a3, a4), a5, a6), (b7, b8), (b9, b10, b11), b12, b13) => ((leqDot ((a0, a1), b7, b8)).bind fun r14 => (cond (!r14) (some false) ((leqCmd ((a2, a3, a4), b9, b10, b11)).bind fun r15 => (cond (!r15) (some false) ((leqDotS (a5, b12)).bind fun r16 => (cond (!r16) (some false) (cond (!(a6 == b13)) (some false) (some true))))))))
noncomputable def c_leqRec : Ctr := { args := [.val true (.pair (.pair (.int .i64) (.int .i64)) (.pair (.pair (.int .i64) (.pair .str .str)) (.pair (.sl (.pair (.int .i64) (.int .i64))) .bool))), .val true (.pair (.pair (.int .i64) (.int .i64)) (.pair (.pair (.int .i64) (.pair .str .str)) (.pair (.sl (.pair (.int .i64) (.int .i64))) .bool)))], rets := [(false, [(none, .bool)])], F := leqRec }
noncomputable def X_leqRec : Ctx := XT.withΓ (lk [(137, c_leqDot), (138, c_leqCmd), (106, c_leqDotS)]) (lk [])
noncomputable def H_leqRec : Hints := ⟨lk [], lk [], lk []⟩
noncomputable def T_leqRec : Nat → Option (LoopF c_leqRec.Res) := lk []
theorem r_leqRec (a) : fnRun X_leqRec H_leqRec c_leqRec Try.f202 T_leqRec a = leqRec a := by kernel_rfl
theorem h_leqRec : CtrHolds Try.prog 202 c_leqRec := fn_ok (.cons h_leqDot Try.call137 (.cons h_leqCmd Try.call138 (.cons h_leqDotS Try.call106 .nil))) .nil (H := H_leqRec) (tbl := T_leqRec) Try.func202 (by kernel_rfl) (loops0 (by kernel_rfl)) r_leqRec
/-! 104 leqRecS -/
noncomputable def leqRecS_L4 (O : Type) : Nat → (List ((Int × Int) × (Int × List UInt8 × List UInt8) × List (Int × Int) × Bool) × List ((Int × Int) × (Int × List UInt8 × List UInt8) × List (Int × Int) × Bool) × Int) → (Unit → Option O) → (Bool → Option O) → Option O
  | 0, _, _, _ => none
  | q + 1, (a2, b3, i4), x, r => (cond (decide (i4 < ((a2.length : Nat) : Int))) (cond (decide ((0 : Int) ≤ i4) && decide (i4 < ((a2.length : Nat) : Int))) (cond (decide ((0 : Int) ≤ i4) && decide (i4 < ((b3.length : Nat) : Int))) ((leqRec ((((nth a2 i4).1.1, (nth a2 i4).1.2), ((nth a2 i4).2.1.1, (nth a2 i4).2.1.2.1, (nth a2 i4).2.1.2.2), (nth a2 i4).2.2.1, (nth a2 i4).2.2.2), ((nth b3 i4).1.1, (nth b3 i4).1.2), ((nth b3 i4).2.1.1, (nth b3 i4).2.1.2.1, (nth b3 i4).2.1.2.2), (nth b3 i4).2.2.1, (nth b3 i4).2.2.2)).bind fun r5 => (cond (!r5) (r false) (leqRecS_L4 O q (a2, b3, (IntKind.wrap .i64 (i4 + (1 : Int)))) x r))) none) none) (x ()))
noncomputable def leqRecS : (List ((Int × Int) × (Int × List UInt8 × List UInt8) × List (Int × Int) × Bool) × List ((Int × Int) × (Int × List UInt8 × List UInt8) × List (Int × Int) × Bool)) → Option Bool
  | (a0, b1) => (cond (((a0.length : Nat) : Int) != ((b1.length : Nat) : Int)) (some false) (leqRecS_L4 Bool fuel (a0, b1, (0 : Int)) (fun _ => (some true)) some))
noncomputable def c_leqRecS : Ctr := { args := [.val false (.sl (.pair (.pair (.int .i64) (.int .i64)) (.pair (.pair (.int .i64) (.pair .str .str)) (.pair (.sl (.pair (.int .i64) (.int .i64))) .bool)))), .val false (.sl (.pair (.pair (.int .i64) (.int .i64)) (.pair (.pair (.int .i64) (.pair .str .str)) (.pair (.sl (.pair (.int .i64) (.int .i64))) .bool))))], rets := [(false, [(none, .bool)])], F := leqRecS }
noncomputable def X_leqRecS : Ctx := XT.withΓ (lk [(202, c_leqRec)]) (lk [])
noncomputable def H_leqRecS : Hints := ⟨lk [], lk [], lk []⟩
noncomputable def L_leqRecS_4 : LoopF c_leqRecS.Res := ⟨⟨27, [(0, .one (.val (.sl (.pair (.pair (.int .i64) (.int .i64)) (.pair (.pair (.int .i64) (.pair .str .str)) (.pair (.sl (.pair (.int .i64) (.int .i64))) .bool)))))), (1, .one (.val (.sl (.pair (.pair (.int .i64) (.int .i64)) (.pair (.pair (.int .i64) (.pair .str .str)) (.pair (.sl (.pair (.int .i64) (.int .i64))) .bool)))))), (5, .one (.val (.int .i64)))], [], []⟩, [(0, ⟨27, [], [], []⟩)], leqRecS_L4⟩
noncomputable def T_leqRecS : Nat → Option (LoopF c_leqRecS.Res) := lk [(4, L_leqRecS_4)]
theorem s_leqRecS_4 : StepOk X_leqRecS H_leqRecS (c_leqRecS.finish X_leqRecS Try.f104.results.toList) T_leqRecS (loopAt Try.f104 0) := ⟨L_leqRecS_4, by kernel_rfl, fun O y x r => by kernel_rfl, fun O k y x r => by kernel_rfl⟩
theorem r_leqRecS (a) : fnRun X_leqRecS H_leqRecS c_leqRecS Try.f104 T_leqRecS a = leqRecS a := by kernel_rfl
theorem h_leqRecS : CtrHolds Try.prog 104 c_leqRecS := fn_ok (.cons h_leqRec Try.call202 .nil) .nil (H := H_leqRecS) (tbl := T_leqRecS) Try.func104 (by kernel_rfl) (loops1 (by kernel_rfl) s_leqRecS_4) r_leqRecS
/-! 203 leqAck -/
noncomputable def leqAck : (((Int × Int) × Int) × (Int × Int) × Int) → Option Bool
  | (((a0, a1), a2), (b3, b4), b5) => ((leqDot ((a0, a1), b3, b4)).bind fun r6 => (cond (!r6) (some false) (cond (a2 != b5) (some false) (some true))))
noncomputable def c_leqAck : Ctr := { args := [.val true (.pair (.pair (.int .i64) (.int .i64)) (.int .i64)), .val true (.pair (.pair (.int .i64) (.int .i64)) (.int .i64))], rets := [(false, [(none, .bool)])], F := leqAck }
noncomputable def X_leqAck : Ctx := XT.withΓ (lk [(137, c_leqDot)]) (lk [])
noncomputable def H_leqAck : Hints := ⟨lk [], lk [], lk []⟩
noncomputable def T_leqAck : Nat → Option (LoopF c_leqAck.Res) := lk []
theorem r_leqAck (a) : fnRun X_leqAck H_leqAck c_leqAck Try.f203 T_leqAck a = leqAck a := by kernel_rfl
theorem h_leqAck : CtrHolds Try.prog 203 c_leqAck := fn_ok (.cons h_leqDot Try.call137 .nil) .nil (H := H_leqAck) (tbl := T_leqAck) Try.func203 (by kernel_rfl) (loops0 (by kernel_rfl)) r_leqAck
/-! 105 leqAckS -/
noncomputable def leqAckS_L4 (O : Type) : Nat → (List ((Int × Int) × Int) × List ((Int × Int) × Int) × Int) → (Unit → Option O) → (Bool → Option O) → Option O
  | 0, _, _, _ => none
  | q + 1, (a2, b3, i4), x, r => (cond (decide (i4 < ((a2.length : Nat) : Int))) (cond (decide ((0 : Int) ≤ i4) && decide (i4 < ((a2.length : Nat) : Int))) (cond (decide ((0 : Int) ≤ i4) && decide (i4 < ((b3.length : Nat) : Int))) ((leqAck ((((nth a2 i4).1.1, (nth a2 i4).1.2), (nth a2 i4).2), ((nth b3 i4).1.1, (nth b3 i4).1.2), (nth b3 i4).2)).bind fun r5 => (cond (!r5) (r false) (leqAckS_L4 O q (a2, b3, (IntKind.wrap .i64 (i4 + (1 : Int)))) x r))) none) none) (x ()))
noncomputable def leqAckS : (List ((Int × Int) × Int) × List ((Int × Int) × Int)) → Option Bool
  | (a0, b1) => (cond (((a0.length : Nat) : Int) != ((b1.length : Nat) : Int)) (some false) (leqAckS_L4 Bool fuel (a0, b1, (0 : Int)) (fun _ => (some true)) some))
noncomputable def c_leqAckS : Ctr := { args := [.val false (.sl (.pair (.pair (.int .i64) (.int .i64)) (.int .i64))), .val false (.sl (.pair (.pair (.int .i64) (.int .i64)) (.int .i64)))], rets := [(false, [(none, .bool)])], F := leqAckS }
noncomputable def X_leqAckS : Ctx := XT.withΓ (lk [(203, c_leqAck)]) (lk [])
noncomputable def H_leqAckS : Hints := ⟨lk [], lk [], lk []⟩
noncomputable def L_leqAckS_4 : LoopF c_leqAckS.Res := ⟨⟨27, [(0, .one (.val (.sl (.pair (.pair (.int .i64) (.int .i64)) (.int .i64))))), (1, .one (.val (.sl (.pair (.pair (.int .i64) (.int .i64)) (.int .i64))))), (5, .one (.val (.int .i64)))], [], []⟩, [(0, ⟨27, [], [], []⟩)], leqAckS_L4⟩
noncomputable def T_leqAckS : Nat → Option (LoopF c_leqAckS.Res) := lk [(4, L_leqAckS_4)]
theorem s_leqAckS_4 : StepOk X_leqAckS H_leqAckS (c_leqAckS.finish X_leqAckS Try.f105.results.toList) T_leqAckS (loopAt Try.f105 0) := ⟨L_leqAckS_4, by kernel_rfl, fun O y x r => by kernel_rfl, fun O k y x r => by kernel_rfl⟩
theorem r_leqAckS (a) : fnRun X_leqAckS H_leqAckS c_leqAckS Try.f105 T_leqAckS a = leqAckS a := by kernel_rfl
theorem h_leqAckS : CtrHolds Try.prog 105 c_leqAckS := fn_ok (.cons h_leqAck Try.call203 .nil) .nil (H := H_leqAckS) (tbl := T_leqAckS) Try.func105 (by kernel_rfl) (loops1 (by kernel_rfl) s_leqAckS_4) r_leqAckS
/-! 169 leqPair -/
noncomputable def leqPair : ((List UInt8 × List UInt8 × Bool) × List UInt8 × List UInt8 × Bool) → Option Bool
  | ((a0, a1, a2), b3, b4, b5) => (cond (!(a0 == b3)) (some false) (cond (!(a1 == b4)) (some false) (cond (!(a2 == b5)) (some false) (some true))))
noncomputable def c_leqPair : Ctr := { args := [.val true (.pair .str (.pair .str .bool)), .val true (.pair .str (.pair .str .bool))], rets := [(false, [(none, .bool)])], F := leqPair }
noncomputable def X_leqPair : Ctx := XT.withΓ (lk []) (lk [])
noncomputable def H_leqPair : Hints := ⟨lk [], lk [], lk []⟩
noncomputable def T_leqPair : Nat → Option (LoopF c_leqPair.Res) := lk []
theorem r_leqPair (a) : fnRun X_leqPair H_leqPair c_leqPair Try.f169 T_leqPair a = leqPair a := by kernel_rfl
theorem h_leqPair : CtrHolds Try.prog 169 c_leqPair := fn_ok .nil .nil (H := H_leqPair) (tbl := T_leqPair) Try.func169 (by kernel_rfl) (loops0 (by kernel_rfl)) r_leqPair
/-! 68 leqPairS -/
noncomputable def leqPairS_L4 (O : Type) : Nat → (List (List UInt8 × List UInt8 × Bool) × List (List UInt8 × List UInt8 × Bool) × Int) → (Unit → Option O) → (Bool → Option O) → Option O
  | 0, _, _, _ => none
  | q + 1, (a2, b3, i4), x, r => (cond (decide (i4 < ((a2.length : Nat) : Int))) (cond (decide ((0 : Int) ≤ i4) && decide (i4 < ((a2.length : Nat) : Int))) (cond (decide ((0 : Int) ≤ i4) && decide (i4 < ((b3.length : Nat) : Int))) ((leqPair (((nth a2 i4).1, (nth a2 i4).2.1, (nth a2 i4).2.2), (nth b3 i4).1, (nth b3 i4).2.1, (nth b3 i4).2.2)).bind fun r5 => (cond (!r5) (r false) (leqPairS_L4 O q (a2, b3, (IntKind.wrap .i64 (i4 + (1 : Int)))) x r))) none) none) (x ()))
noncomputable def leqPairS : (List (List UInt8 × List UInt8 × Bool) × List (List UInt8 × List UInt8 × Bool)) → Option Bool
  | (a0, b1) => (cond (((a0.length : Nat) : Int) != ((b1.length : Nat) : Int)) (some false) (leqPairS_L4 Bool fuel (a0, b1, (0 : Int)) (fun _ => (some true)) some))
noncomputable def c_leqPairS : Ctr := { args := [.val false (.sl (.pair .str (.pair .str .bool))), .val false (.sl (.pair .str (.pair .str .bool)))], rets := [(false, [(none, .bool)])], F := leqPairS }
noncomputable def X_leqPairS : Ctx := XT.withΓ (lk [(169, c_leqPair)]) (lk [])
noncomputable def H_leqPairS : Hints := ⟨lk [], lk [], lk []⟩
noncomputable def L_leqPairS_4 : LoopF c_leqPairS.Res := ⟨⟨27, [(0, .one (.val (.sl (.pair .str (.pair .str .bool))))), (1, .one (.val (.sl (.pair .str (.pair .str .bool))))), (5, .one (.val (.int .i64)))], [], []⟩, [(0, ⟨27, [], [], []⟩)], leqPairS_L4⟩
noncomputable def T_leqPairS : Nat → Option (LoopF c_leqPairS.Res) := lk [(4, L_leqPairS_4)]
theorem s_leqPairS_4 : StepOk X_leqPairS H_leqPairS (c_leqPairS.finish X_leqPairS Try.f68.results.toList) T_leqPairS (loopAt Try.f68 0) := ⟨L_leqPairS_4, by kernel_rfl, fun O y x r => by kernel_rfl, fun O k y x r => by kernel_rfl⟩
theorem r_leqPairS (a) : fnRun X_leqPairS H_leqPairS c_leqPairS Try.f68 T_leqPairS a = leqPairS a := by kernel_rfl
theorem h_leqPairS : CtrHolds Try.prog 68 c_leqPairS := fn_ok (.cons h_leqPair Try.call169 .nil) .nil (H := H_leqPairS) (tbl := T_leqPairS) Try.func68 (by kernel_rfl) (loops1 (by kernel_rfl) s_leqPairS_4) r_leqPairS
/-! 204 leqAnswer -/
noncomputable def leqAnswer : (((Int × Int) × List UInt8 × Bool) × (Int × Int) × List UInt8 × Bool) → Option Bool
  | (((a0, a1), a2, a3), (b4, b5), b6, b7) => ((leqDot ((a0, a1), b4, b5)).bind fun r8 => (cond (!r8) (some false) (cond (!(a2 == b6)) (some false) (cond (!(a3 == b7)) (some false) (some true)))))
noncomputable def c_leqAnswer : Ctr := { args := [.val true (.pair (.pair (.int .i64) (.int .i64)) (.pair .str .bool)), .val true (.pair (.pair (.int .i64) (.int .i64)) (.pair .str .bool))], rets := [(false, [(none, .bool)])], F := leqAnswer }
noncomputable def X_leqAnswer : Ctx := XT.withΓ (lk [(137, c_leqDot)]) (lk [])
noncomputable def H_leqAnswer : Hints := ⟨lk [], lk [], lk []⟩
noncomputable def T_leqAnswer : Nat → Option (LoopF c_leqAnswer.Res) := lk []
theorem r_leqAnswer (a) : fnRun X_leqAnswer H_leqAnswer c_leqAnswer Try.f204 T_leqAnswer a = leqAnswer a := by kernel_rfl
theorem h_leqAnswer : CtrHolds Try.prog 204 c_leqAnswer := fn_ok (.cons h_leqDot Try.call137 .nil) .nil (H := H_leqAnswer) (tbl := T_leqAnswer) Try.func204 (by kernel_rfl) (loops0 (by kernel_rfl)) r_leqAnswer
/-! 107 leqAnswerS -/
noncomputable def leqAnswerS_L4 (O : Type) : Nat → (List ((Int × Int) × List UInt8 × Bool) × List ((Int × Int) × List UInt8 × Bool) × Int) → (Unit → Option O) → (Bool → Option O) → Option O
  | 0, _, _, _ => none
  | q + 1, (a2, b3, i4), x, r => (cond (decide (i4 < ((a2.length : Nat) : Int))) (cond (decide ((0 : Int) ≤ i4) && decide (i4 < ((a2.length : Nat) : Int))) (cond (decide ((0 : Int) ≤ i4) && decide (i4 < ((b3.length : Nat) : Int))) ((leqAnswer ((((nth a2 i4).1.1, (nth a2 i4).1.2), (nth a2 i4).2.1, (nth a2 i4).2.2), ((nth b3 i4).1.1, (nth b3 i4).1.2), (nth b3 i4).2.1, (nth b3 i4).2.2)).bind fun r5 => (cond (!r5) (r false) (leqAnswerS_L4 O q (a2, b3, (IntKind.wrap .i64 (i4 + (1 : Int)))) x r))) none) none) (x ()))
noncomputable def leqAnswerS : (List ((Int × Int) × List UInt8 × Bool) × List ((Int × Int) × List UInt8 × Bool)) → Option Bool
  | (a0, b1) => (cond (((a0.length : Nat) : Int) != ((b1.length : Nat) : Int)) (some false) (leqAnswerS_L4 Bool fuel (a0, b1, (0 : Int)) (fun _ => (some true)) some))
noncomputable def c_leqAnswerS : Ctr := { args := [.val false (.sl (.pair (.pair (.int .i64) (.int .i64)) (.pair .str .bool))), .val false (.sl (.pair (.pair (.int .i64) (.int .i64)) (.pair .str .bool)))], rets := [(false, [(none, .bool)])], F := leqAnswerS }
noncomputable def X_leqAnswerS : Ctx := XT.withΓ (lk [(204, c_leqAnswer)]) (lk [])
noncomputable def H_leqAnswerS : Hints := ⟨lk [], lk [], lk []⟩
noncomputable def L_leqAnswerS_4 : LoopF c_leqAnswerS.Res := ⟨⟨27, [(0, .one (.val (.sl (.pair (.pair (.int .i64) (.int .i64)) (.pair .str .bool))))), (1, .one (.val (.sl (.pair (.pair (.int .i64) (.int .i64)) (.pair .str .bool))))), (5, .one (.val (.int .i64)))], [], []⟩, [(0, ⟨27, [], [], []⟩)], leqAnswerS_L4⟩
noncomputable def T_leqAnswerS : Nat → Option (LoopF c_leqAnswerS.Res) := lk [(4, L_leqAnswerS_4)]
theorem s_leqAnswerS_4 : StepOk X_leqAnswerS H_leqAnswerS (c_leqAnswerS.finish X_leqAnswerS Try.f107.results.toList) T_leqAnswerS (loopAt Try.f107 0) := ⟨L_leqAnswerS_4, by kernel_rfl, fun O y x r => by kernel_rfl, fun O k y x r => by kernel_rfl⟩
theorem r_leqAnswerS (a) : fnRun X_leqAnswerS H_leqAnswerS c_leqAnswerS Try.f107 T_leqAnswerS a = leqAnswerS a := by kernel_rfl
theorem h_leqAnswerS : CtrHolds Try.prog 107 c_leqAnswerS := fn_ok (.cons h_leqAnswer Try.call204 .nil) .nil (H := H_leqAnswerS) (tbl := T_leqAnswerS) Try.func107 (by kernel_rfl) (loops1 (by kernel_rfl) s_leqAnswerS_4) r_leqAnswerS
/-! 41 leqReplica -/
noncomputable def leqReplica : ((Int × Int × Int × List ((Int × Int) × (Int × List UInt8 × List UInt8) × List (Int × Int) × Bool) × List ((Int × Int) × Int) × List (Int × Int) × List (List UInt8 × List UInt8 × Bool) × List ((Int × Int) × List UInt8 × Bool)) × Int × Int × Int × List ((Int × Int) × (Int × List UInt8 × List UInt8) × List (Int × Int) × Bool) × List ((Int × Int) × Int) × List (Int × Int) × List (List UInt8 × List UInt8 × Bool) × List ((Int × Int) × List UInt8 × Bool)) → Option Bool
  | ((a0, a1, a2, a3, a4, a5, a6, a7), b8, b9, b10, b11, b12, b13, b14, b15) => (cond (a0 != b8) (some false) (cond (a1 != b9) (some false) (cond (a2 != b10) (some false) ((leqRecS (a3, b11)).bind fun r16 => (cond (!r16) (some false) ((leqAckS (a4, b12)).bind fun r17 => (cond (!r17) (some false) ((leqDotS (a5, b13)).bind fun r18 => (cond (!r18) (some false) ((leqPairS (a6, b14)).bind fun r19 => (cond (!r19) (some false) ((leqAnswerS (a7, b15)).bind fun r20 => (cond (!r20) (some false) (some true))))))))))))))
noncomputable def c_leqReplica : Ctr := { args := [.val true (.pair (.int .i64) (.pair (.int .i64) (.pair (.int .i64) (.pair (.sl (.pair (.pair (.int .i64) (.int .i64)) (.pair (.pair (.int .i64) (.pair .str .str)) (.pair (.sl (.pair (.int .i64) (.int .i64))) .bool)))) (.pair (.sl (.pair (.pair (.int .i64) (.int .i64)) (.int .i64))) (.pair (.sl (.pair (.int .i64) (.int .i64))) (.pair (.sl (.pair .str (.pair .str .bool))) (.sl (.pair (.pair (.int .i64) (.int .i64)) (.pair .str .bool)))))))))), .val true (.pair (.int .i64) (.pair (.int .i64) (.pair (.int .i64) (.pair (.sl (.pair (.pair (.int .i64) (.int .i64)) (.pair (.pair (.int .i64) (.pair .str .str)) (.pair (.sl (.pair (.int .i64) (.int .i64))) .bool)))) (.pair (.sl (.pair (.pair (.int .i64) (.int .i64)) (.int .i64))) (.pair (.sl (.pair (.int .i64) (.int .i64))) (.pair (.sl (.pair .str (.pair .str .bool))) (.sl (.pair (.pair (.int .i64) (.int .i64)) (.pair .str .bool))))))))))], rets := [(false, [(none, .bool)])], F := leqReplica }
noncomputable def X_leqReplica : Ctx := XT.withΓ (lk [(104, c_leqRecS), (105, c_leqAckS), (106, c_leqDotS), (68, c_leqPairS), (107, c_leqAnswerS)]) (lk [])
noncomputable def H_leqReplica : Hints := ⟨lk [], lk [], lk []⟩
noncomputable def T_leqReplica : Nat → Option (LoopF c_leqReplica.Res) := lk []
theorem r_leqReplica (a) : fnRun X_leqReplica H_leqReplica c_leqReplica Try.f41 T_leqReplica a = leqReplica a := by kernel_rfl
theorem h_leqReplica : CtrHolds Try.prog 41 c_leqReplica := fn_ok (.cons h_leqRecS Try.call104 (.cons h_leqAckS Try.call105 (.cons h_leqDotS Try.call106 (.cons h_leqPairS Try.call68 (.cons h_leqAnswerS Try.call107 .nil))))) .nil (H := H_leqReplica) (tbl := T_leqReplica) Try.func41 (by kernel_rfl) (loops0 (by kernel_rfl)) r_leqReplica
/-! 50 leqMsg -/
noncomputable def leqMsg : ((Int × Int × Int × (Int × Int) × (Int × List UInt8 × List UInt8) × List (Int × Int)) × Int × Int × Int × (Int × Int) × (Int × List UInt8 × List UInt8) × List (Int × Int)) → Option Bool
  | ((a0, a1, a2, (a3, a4), (a5, a6, a7), a8), b9, b10, b11, (b12, b13), (b14, b15, b16), b17) => (cond (a0 != b9) (some false) (cond (a1 != b10) (some false) (cond (a2 != b11) (some false) ((leqDot ((a3, a4), b12, b13)).bind fun r18 => (cond (!r18) (some false) ((leqCmd ((a5, a6, a7), b14, b15, b16)).bind fun r19 => (cond (!r19) (some false) ((leqDotS (a8, b17)).bind fun r20 => (cond (!r20) (some false) (some true))))))))))
noncomputable def c_leqMsg : Ctr := { args := [.val true (.pair (.int .i64) (.pair (.int .i64) (.pair (.int .i64) (.pair (.pair (.int .i64) (.int .i64)) (.pair (.pair (.int .i64) (.pair .str .str)) (.sl (.pair (.int .i64) (.int .i64)))))))), .val true (.pair (.int .i64) (.pair (.int .i64) (.pair (.int .i64) (.pair (.pair (.int .i64) (.int .i64)) (.pair (.pair (.int .i64) (.pair .str .str)) (.sl (.pair (.int .i64) (.int .i64))))))))], rets := [(false, [(none, .bool)])], F := leqMsg }
noncomputable def X_leqMsg : Ctx := XT.withΓ (lk [(137, c_leqDot), (138, c_leqCmd), (106, c_leqDotS)]) (lk [])
noncomputable def H_leqMsg : Hints := ⟨lk [], lk [], lk []⟩
noncomputable def T_leqMsg : Nat → Option (LoopF c_leqMsg.Res) := lk []
theorem r_leqMsg (a) : fnRun X_leqMsg H_leqMsg c_leqMsg Try.f50 T_leqMsg a = leqMsg a := by kernel_rfl
theorem h_leqMsg : CtrHolds Try.prog 50 c_leqMsg := fn_ok (.cons h_leqDot Try.call137 (.cons h_leqCmd Try.call138 (.cons h_leqDotS Try.call106 .nil))) .nil (H := H_leqMsg) (tbl := T_leqMsg) Try.func50 (by kernel_rfl) (loops0 (by kernel_rfl)) r_leqMsg
/-! 7 lFnExactMsgOk -/
noncomputable def lFnExactMsgOk : ((Int × Int × Int × List ((Int × Int) × (Int × List UInt8 × List UInt8) × List (Int × Int) × Bool) × List ((Int × Int) × Int) × List (Int × Int) × List (List UInt8 × List UInt8 × Bool) × List ((Int × Int) × List UInt8 × Bool)) × Int × Int × Int × (Int × Int) × (Int × List UInt8 × List UInt8) × List (Int × Int)) → Option Bool
  | ((aR0, aR1, aR2, aR3, aR4, aR5, aR6, aR7), aM8, aM9, aM10, (aM11, aM12), (aM13, aM14, aM15), aM16) => ((lszReplica ((aR0, aR1, aR2, aR3, aR4, aR5, aR6, aR7), (1048576 : Int))).bind fun r17 => (cond (decide (r17 < (0 : Int))) (some true) ((lszMsg ((aM8, aM9, aM10, (aM11, aM12), (aM13, aM14, aM15), aM16), r17)).bind fun r18 => (cond (decide (r18 < (0 : Int))) (some true) ((ltoReplica (aR0, aR1, aR2, aR3, aR4, aR5, aR6, aR7)).bind fun (r19, r20, r21, r22, r23, r24, r25, r26) => ((ltoMsg (aM8, aM9, aM10, (aM11, aM12), (aM13, aM14, aM15), aM16)).bind fun (r27, r28, r29, r30, r31, r32, r33, r34, r35) => ((sMsgOk ((r19, r20, r21, r22, r23, r24, r25, r26), r27, r28, r29, (r30, r31), (r32, r33, r34), r35)).bind fun r36 => ((ltoReplica (aR0, aR1, aR2, aR3, aR4, aR5, aR6, aR7)).bind fun (r37, r38, r39, r40, r41, r42, r43, r44) => ((ltoMsg (aM8, aM9, aM10, (aM11, aM12), (aM13, aM14, aM15), aM16)).bind fun (r45, r46, r47, r48, r49, r50, r51, r52, r53) => ((iMsgOk ((r37, r38, r39, r40, r41, r42, r43, r44), r45, r46, r47, (r48, r49), (r50, r51, r52), r53)).bind fun r54 => (cond (!(r54 == r36)) (some false) ((ltoReplica (aR0, aR1, aR2, aR3, aR4, aR5, aR6, aR7)).bind fun (r55, r56, r57, r58, r59, r60, r61, r62) => ((leqReplica ((r37, r38, r39, r40, r41, r42, r43, r44), r55, r56, r57, r58, r59, r60, r61, r62)).bind fun r63 => (cond (!r63) (some false) ((ltoMsg (aM8, aM9, aM10, (aM11, aM12), (aM13, aM14, aM15), aM16)).bind fun (r64, r65, r66, r67, r68, r69, r70, r71, r72) => ((leqMsg ((r45, r46, r47, (r48, r49), (r50, r51, r52), r53), r64, r65, r66, (r67, r68), (r69, r70, r71), r72)).bind fun r73 => (cond (!r73) (some false) (some true))))))))))))))))))
noncomputable def c_lFnExactMsgOk : Ctr := { args := [.val true (.pair (.int .i64) (.pair (.int .i64) (.pair (.int .i64) (.pair (.sl (.pair (.pair (.int .i64) (.int .i64)) (.pair (.pair (.int .i64) (.pair .str .str)) (.pair (.sl (.pair (.int .i64) (.int .i64))) .bool)))) (.pair (.sl (.pair (.pair (.int .i64) (.int .i64)) (.int .i64))) (.pair (.sl (.pair (.int .i64) (.int .i64))) (.pair (.sl (.pair .str (.pair .str .bool))) (.sl (.pair (.pair (.int .i64) (.int .i64)) (.pair .str .bool)))))))))), .val true (.pair (.int .i64) (.pair (.int .i64) (.pair (.int .i64) (.pair (.pair (.int .i64) (.int .i64)) (.pair (.pair (.int .i64) (.pair .str .str)) (.sl (.pair (.int .i64) (.int .i64))))))))], rets := [(false, [(none, .bool)])], F := lFnExactMsgOk }
noncomputable def X_lFnExactMsgOk : Ctx := XT.withΓ (lk [(44, c_lszReplica), (45, c_lszMsg), (47, c_ltoReplica), (48, c_ltoMsg), (46, c_sMsgOk), (49, c_iMsgOk), (41, c_leqReplica), (50, c_leqMsg)]) (lk [])
noncomputable def H_lFnExactMsgOk : Hints := ⟨lk [], lk [], lk []⟩
noncomputable def T_lFnExactMsgOk : Nat → Option (LoopF c_lFnExactMsgOk.Res) := lk []
theorem r_lFnExactMsgOk (a) : fnRun X_lFnExactMsgOk H_lFnExactMsgOk c_lFnExactMsgOk Try.f7 T_lFnExactMsgOk a = lFnExactMsgOk a := by kernel_rfl
theorem h_lFnExactMsgOk : CtrHolds Try.prog 7 c_lFnExactMsgOk := fn_ok (.cons h_lszReplica Try.call44 (.cons h_lszMsg Try.call45 (.cons h_ltoReplica Try.call47 (.cons h_ltoMsg Try.call48 (.cons h_sMsgOk Try.call46 (.cons h_iMsgOk Try.call49 (.cons h_leqReplica Try.call41 (.cons h_leqMsg Try.call50 .nil)))))))) .nil (H := H_lFnExactMsgOk) (tbl := T_lFnExactMsgOk) Try.func7 (by kernel_rfl) (loops0 (by kernel_rfl)) r_lFnExactMsgOk
end Go.Rx
