import Derived.Test.YtfmpjodlkoahpaaTab
set_option linter.all false
set_option maxRecDepth 1000000
namespace Go.Rx
open Go.Proofs
/-! 45 lszCmd -/
noncomputable def lszCmd : ((Int × List UInt8 × List UInt8) × Int) → Option Int
  | ((a0, a1, a2), left3) => (cond (decide ((IntKind.wrap .i64 (left3 - ((a1.length : Nat) : Int))) < (0 : Int))) (some (-1 : Int)) (cond (decide ((IntKind.wrap .i64 ((IntKind.wrap .i64 (left3 - ((a1.length : Nat) : Int))) - ((a2.length : Nat) : Int))) < (0 : Int))) (some (-1 : Int)) (some (IntKind.wrap .i64 ((IntKind.wrap .i64 (left3 - ((a1.length : Nat) : Int))) - ((a2.length : Nat) : Int))))))
noncomputable def c_lszCmd : Ctr := { args := [.val true (.pair (.int .i64) (.pair .str .str)), .val false (.int .i64)], rets := [(false, [(none, (.int .i64))])], F := lszCmd }
noncomputable def X_lszCmd : Ctx := XT.withΓ (lk []) (lk [])
noncomputable def H_lszCmd : Hints := ⟨lk [], lk [], lk []⟩
noncomputable def T_lszCmd : Nat → Option (LoopF c_lszCmd.Res) := lk []
theorem r_lszCmd (a) : fnRun X_lszCmd H_lszCmd c_lszCmd Try.f45 T_lszCmd a = lszCmd a := by kernel_rfl
theorem h_lszCmd [Tabs] : CtrHolds Try.prog 45 c_lszCmd := fn_ok .nil .nil (H := H_lszCmd) (tbl := T_lszCmd) Try.func45 (by kernel_rfl) (loops0 (by kernel_rfl)) r_lszCmd
/-! 42 lszDotS -/
noncomputable def lszDotS : (List (Int × Int) × Int) → Option Int
  | (a0, left1) => (cond (decide ((IntKind.wrap .i64 (left1 - ((a0.length : Nat) : Int))) < (0 : Int))) (some (-1 : Int)) (some (IntKind.wrap .i64 (left1 - ((a0.length : Nat) : Int)))))
noncomputable def c_lszDotS : Ctr := { args := [.val false (.old (.pair (.int .i64) (.int .i64))), .val false (.int .i64)], rets := [(false, [(none, (.int .i64))])], F := lszDotS }
noncomputable def X_lszDotS : Ctx := XT.withΓ (lk []) (lk [])
noncomputable def H_lszDotS : Hints := ⟨lk [], lk [], lk []⟩
noncomputable def T_lszDotS : Nat → Option (LoopF c_lszDotS.Res) := lk []
theorem r_lszDotS (a) : fnRun X_lszDotS H_lszDotS c_lszDotS Try.f42 T_lszDotS a = lszDotS a := by kernel_rfl
theorem h_lszDotS [Tabs] : CtrHolds Try.prog 42 c_lszDotS := fn_ok .nil .nil (H := H_lszDotS) (tbl := T_lszDotS) Try.func42 (by kernel_rfl) (loops0 (by kernel_rfl)) r_lszDotS
/-! 59 lszRec -/
noncomputable def lszRec : (((Int × Int) × (Int × List UInt8 × List UInt8) × List (Int × Int) × Bool) × Int) → Option Int
  | (((a0, a1), (a2, a3, a4), a5, a6), left7) => ((lszCmd ((a2, a3, a4), left7)).bind fun r8 => (cond (decide (r8 < (0 : Int))) (some (-1 : Int)) ((lszDotS (a5, r8)).bind fun r9 => (cond (decide (r9 < (0 : Int))) (some (-1 : Int)) (some r9)))))
noncomputable def c_lszRec : Ctr := { args := [.val true (.pair (.pair (.int .i64) (.int .i64)) (.pair (.pair (.int .i64) (.pair .str .str)) (.pair (.old (.pair (.int .i64) (.int .i64))) .bool))), .val false (.int .i64)], rets := [(false, [(none, (.int .i64))])], F := lszRec }
noncomputable def X_lszRec : Ctx := XT.withΓ (lk [(45, c_lszCmd), (42, c_lszDotS)]) (lk [])
noncomputable def H_lszRec : Hints := ⟨lk [], lk [], lk []⟩
noncomputable def T_lszRec : Nat → Option (LoopF c_lszRec.Res) := lk []
theorem r_lszRec (a) : fnRun X_lszRec H_lszRec c_lszRec Try.f59 T_lszRec a = lszRec a := by kernel_rfl
theorem h_lszRec [Tabs] : CtrHolds Try.prog 59 c_lszRec := fn_ok (.cons h_lszCmd Try.call45 (.cons h_lszDotS Try.call42 .nil)) .nil (H := H_lszRec) (tbl := T_lszRec) Try.func59 (by kernel_rfl) (loops0 (by kernel_rfl)) r_lszRec
/-! 40 lszRecS -/
noncomputable def lszRecS_L5 (O : Type) : Nat → (List ((Int × Int) × (Int × List UInt8 × List UInt8) × List (Int × Int) × Bool) × Int × Int) → (Int → Option O) → (Int → Option O) → Option O
  | 0, _, _, _ => none
  | q + 1, (a2, left3, i4), x, r => (cond (decide (i4 < ((a2.length : Nat) : Int))) (cond (decide ((0 : Int) ≤ i4) && decide (i4 < ((a2.length : Nat) : Int))) ((lszRec ((((nth a2 i4).1.1, (nth a2 i4).1.2), ((nth a2 i4).2.1.1, (nth a2 i4).2.1.2.1, (nth a2 i4).2.1.2.2), (nth a2 i4).2.2.1, (nth a2 i4).2.2.2), left3)).bind fun r5 => (cond (decide (r5 < (0 : Int))) (r (-1 : Int)) (lszRecS_L5 O q (a2, r5, (IntKind.wrap .i64 (i4 + (1 : Int)))) x r))) none) (x left3))
noncomputable def lszRecS : (List ((Int × Int) × (Int × List UInt8 × List UInt8) × List (Int × Int) × Bool) × Int) → Option Int
  | (a0, left1) => (cond (decide ((IntKind.wrap .i64 (left1 - ((a0.length : Nat) : Int))) < (0 : Int))) (some (-1 : Int)) (lszRecS_L5 Int fuel (a0, (IntKind.wrap .i64 (left1 - ((a0.length : Nat) : Int))), (0 : Int)) (fun left6 => (some left6)) some))
noncomputable def c_lszRecS : Ctr := { args := [.val false (.old (.pair (.pair (.int .i64) (.int .i64)) (.pair (.pair (.int .i64) (.pair .str .str)) (.pair (.old (.pair (.int .i64) (.int .i64))) .bool)))), .val false (.int .i64)], rets := [(false, [(none, (.int .i64))])], F := lszRecS }
noncomputable def X_lszRecS : Ctx := XT.withΓ (lk [(59, c_lszRec)]) (lk [])
noncomputable def H_lszRecS : Hints := ⟨lk [], lk [], lk []⟩
noncomputable def L_lszRecS_5 : LoopF c_lszRecS.Res := ⟨⟨27, [(0, .one (.val (.old (.pair (.pair (.int .i64) (.int .i64)) (.pair (.pair (.int .i64) (.pair .str .str)) (.pair (.old (.pair (.int .i64) (.int .i64))) .bool)))))), (1, .one (.val (.int .i64))), (5, .one (.val (.int .i64)))], [], []⟩, [(0, ⟨27, [(1, .one (.val (.int .i64)))], [], []⟩)], lszRecS_L5⟩
noncomputable def T_lszRecS : Nat → Option (LoopF c_lszRecS.Res) := lk [(5, L_lszRecS_5)]
theorem s_lszRecS_5 : StepOk X_lszRecS H_lszRecS (c_lszRecS.finish X_lszRecS Try.f40.results.toList) T_lszRecS (loopAt Try.f40 0) := ⟨L_lszRecS_5, by kernel_rfl, fun O y x r => by kernel_rfl, fun O k y x r => by kernel_rfl⟩
theorem r_lszRecS (a) : fnRun X_lszRecS H_lszRecS c_lszRecS Try.f40 T_lszRecS a = lszRecS a := by kernel_rfl
theorem h_lszRecS [Tabs] : CtrHolds Try.prog 40 c_lszRecS := fn_ok (.cons h_lszRec Try.call59 .nil) .nil (H := H_lszRecS) (tbl := T_lszRecS) Try.func40 (by kernel_rfl) (loops1 (by kernel_rfl) s_lszRecS_5) r_lszRecS
/-! 41 lszAckS -/
noncomputable def lszAckS : (List ((Int × Int) × Int) × Int) → Option Int
  | (a0, left1) => (cond (decide ((IntKind.wrap .i64 (left1 - ((a0.length : Nat) : Int))) < (0 : Int))) (some (-1 : Int)) (some (IntKind.wrap .i64 (left1 - ((a0.length : Nat) : Int)))))
noncomputable def c_lszAckS : Ctr := { args := [.val false (.old (.pair (.pair (.int .i64) (.int .i64)) (.int .i64))), .val false (.int .i64)], rets := [(false, [(none, (.int .i64))])], F := lszAckS }
noncomputable def X_lszAckS : Ctx := XT.withΓ (lk []) (lk [])
noncomputable def H_lszAckS : Hints := ⟨lk [], lk [], lk []⟩
noncomputable def T_lszAckS : Nat → Option (LoopF c_lszAckS.Res) := lk []
theorem r_lszAckS (a) : fnRun X_lszAckS H_lszAckS c_lszAckS Try.f41 T_lszAckS a = lszAckS a := by kernel_rfl
theorem h_lszAckS [Tabs] : CtrHolds Try.prog 41 c_lszAckS := fn_ok .nil .nil (H := H_lszAckS) (tbl := T_lszAckS) Try.func41 (by kernel_rfl) (loops0 (by kernel_rfl)) r_lszAckS
/-! 60 lszPair -/
noncomputable def lszPair : ((List UInt8 × List UInt8 × Bool) × Int) → Option Int
  | ((a0, a1, a2), left3) => (cond (decide ((IntKind.wrap .i64 (left3 - ((a0.length : Nat) : Int))) < (0 : Int))) (some (-1 : Int)) (cond (decide ((IntKind.wrap .i64 ((IntKind.wrap .i64 (left3 - ((a0.length : Nat) : Int))) - ((a1.length : Nat) : Int))) < (0 : Int))) (some (-1 : Int)) (some (IntKind.wrap .i64 ((IntKind.wrap .i64 (left3 - ((a0.length : Nat) : Int))) - ((a1.length : Nat) : Int))))))
noncomputable def c_lszPair : Ctr := { args := [.val true (.pair .str (.pair .str .bool)), .val false (.int .i64)], rets := [(false, [(none, (.int .i64))])], F := lszPair }
noncomputable def X_lszPair : Ctx := XT.withΓ (lk []) (lk [])
noncomputable def H_lszPair : Hints := ⟨lk [], lk [], lk []⟩
noncomputable def T_lszPair : Nat → Option (LoopF c_lszPair.Res) := lk []
theorem r_lszPair (a) : fnRun X_lszPair H_lszPair c_lszPair Try.f60 T_lszPair a = lszPair a := by kernel_rfl
theorem h_lszPair [Tabs] : CtrHolds Try.prog 60 c_lszPair := fn_ok .nil .nil (H := H_lszPair) (tbl := T_lszPair) Try.func60 (by kernel_rfl) (loops0 (by kernel_rfl)) r_lszPair
/-! 43 lszPairS -/
noncomputable def lszPairS_L5 (O : Type) : Nat → (List (List UInt8 × List UInt8 × Bool) × Int × Int) → (Int → Option O) → (Int → Option O) → Option O
  | 0, _, _, _ => none
  | q + 1, (a2, left3, i4), x, r => (cond (decide (i4 < ((a2.length : Nat) : Int))) (cond (decide ((0 : Int) ≤ i4) && decide (i4 < ((a2.length : Nat) : Int))) ((lszPair (((nth a2 i4).1, (nth a2 i4).2.1, (nth a2 i4).2.2), left3)).bind fun r5 => (cond (decide (r5 < (0 : Int))) (r (-1 : Int)) (lszPairS_L5 O q (a2, r5, (IntKind.wrap .i64 (i4 + (1 : Int)))) x r))) none) (x left3))
noncomputable def lszPairS : (List (List UInt8 × List UInt8 × Bool) × Int) → Option Int
  | (a0, left1) => (cond (decide ((IntKind.wrap .i64 (left1 - ((a0.length : Nat) : Int))) < (0 : Int))) (some (-1 : Int)) (lszPairS_L5 Int fuel (a0, (IntKind.wrap .i64 (left1 - ((a0.length : Nat) : Int))), (0 : Int)) (fun left6 => (some left6)) some))
noncomputable def c_lszPairS : Ctr := { args := [.val false (.old (.pair .str (.pair .str .bool))), .val false (.int .i64)], rets := [(false, [(none, (.int .i64))])], F := lszPairS }
noncomputable def X_lszPairS : Ctx := XT.withΓ (lk [(60, c_lszPair)]) (lk [])
noncomputable def H_lszPairS : Hints := ⟨lk [], lk [], lk []⟩
noncomputable def L_lszPairS_5 : LoopF c_lszPairS.Res := ⟨⟨27, [(0, .one (.val (.old (.pair .str (.pair .str .bool))))), (1, .one (.val (.int .i64))), (5, .one (.val (.int .i64)))], [], []⟩, [(0, ⟨27, [(1, .one (.val (.int .i64)))], [], []⟩)], lszPairS_L5⟩
noncomputable def T_lszPairS : Nat → Option (LoopF c_lszPairS.Res) := lk [(5, L_lszPairS_5)]
theorem s_lszPairS_5 : StepOk X_lszPairS H_lszPairS (c_lszPairS.finish X_lszPairS Try.f43.results.toList) T_lszPairS (loopAt Try.f43 0) := ⟨L_lszPairS_5, by kernel_rfl, fun O y x r => by kernel_rfl, fun O k y x r => by kernel_rfl⟩
theorem r_lszPairS (a) : fnRun X_lszPairS H_lszPairS c_lszPairS Try.f43 T_lszPairS a = lszPairS a := by kernel_rfl
theorem h_lszPairS [Tabs] : CtrHolds Try.prog 43 c_lszPairS := fn_ok (.cons h_lszPair Try.call60 .nil) .nil (H := H_lszPairS) (tbl := T_lszPairS) Try.func43 (by kernel_rfl) (loops1 (by kernel_rfl) s_lszPairS_5) r_lszPairS
/-! 61 lszAnswer -/
noncomputable def lszAnswer : (((Int × Int) × List UInt8 × Bool) × Int) → Option Int
  | (((a0, a1), a2, a3), left4) => (cond (decide ((IntKind.wrap .i64 (left4 - ((a2.length : Nat) : Int))) < (0 : Int))) (some (-1 : Int)) (some (IntKind.wrap .i64 (left4 - ((a2.length : Nat) : Int)))))
noncomputable def c_lszAnswer : Ctr := { args := [.val true (.pair (.pair (.int .i64) (.int .i64)) (.pair .str .bool)), .val false (.int .i64)], rets := [(false, [(none, (.int .i64))])], F := lszAnswer }
noncomputable def X_lszAnswer : Ctx := XT.withΓ (lk []) (lk [])
noncomputable def H_lszAnswer : Hints := ⟨lk [], lk [], lk []⟩
noncomputable def T_lszAnswer : Nat → Option (LoopF c_lszAnswer.Res) := lk []
theorem r_lszAnswer (a) : fnRun X_lszAnswer H_lszAnswer c_lszAnswer Try.f61 T_lszAnswer a = lszAnswer a := by kernel_rfl
theorem h_lszAnswer [Tabs] : CtrHolds Try.prog 61 c_lszAnswer := fn_ok .nil .nil (H := H_lszAnswer) (tbl := T_lszAnswer) Try.func61 (by kernel_rfl) (loops0 (by kernel_rfl)) r_lszAnswer
/-! 44 lszAnswerS -/
noncomputable def lszAnswerS_L5 (O : Type) : Nat → (List ((Int × Int) × List UInt8 × Bool) × Int × Int) → (Int → Option O) → (Int → Option O) → Option O
  | 0, _, _, _ => none
  | q + 1, (a2, left3, i4), x, r => (cond (decide (i4 < ((a2.length : Nat) : Int))) (cond (decide ((0 : Int) ≤ i4) && decide (i4 < ((a2.length : Nat) : Int))) ((lszAnswer ((((nth a2 i4).1.1, (nth a2 i4).1.2), (nth a2 i4).2.1, (nth a2 i4).2.2), left3)).bind fun r5 => (cond (decide (r5 < (0 : Int))) (r (-1 : Int)) (lszAnswerS_L5 O q (a2, r5, (IntKind.wrap .i64 (i4 + (1 : Int)))) x r))) none) (x left3))
noncomputable def lszAnswerS : (List ((Int × Int) × List UInt8 × Bool) × Int) → Option Int
  | (a0, left1) => (cond (decide ((IntKind.wrap .i64 (left1 - ((a0.length : Nat) : Int))) < (0 : Int))) (some (-1 : Int)) (lszAnswerS_L5 Int fuel (a0, (IntKind.wrap .i64 (left1 - ((a0.length : Nat) : Int))), (0 : Int)) (fun left6 => (some left6)) some))
noncomputable def c_lszAnswerS : Ctr := { args := [.val false (.old (.pair (.pair (.int .i64) (.int .i64)) (.pair .str .bool))), .val false (.int .i64)], rets := [(false, [(none, (.int .i64))])], F := lszAnswerS }
noncomputable def X_lszAnswerS : Ctx := XT.withΓ (lk [(61, c_lszAnswer)]) (lk [])
noncomputable def H_lszAnswerS : Hints := ⟨lk [], lk [], lk []⟩
noncomputable def L_lszAnswerS_5 : LoopF c_lszAnswerS.Res := ⟨⟨27, [(0, .one (.val (.old (.pair (.pair (.int .i64) (.int .i64)) (.pair .str .bool))))), (1, .one (.val (.int .i64))), (5, .one (.val (.int .i64)))], [], []⟩, [(0, ⟨27, [(1, .one (.val (.int .i64)))], [], []⟩)], lszAnswerS_L5⟩
noncomputable def T_lszAnswerS : Nat → Option (LoopF c_lszAnswerS.Res) := lk [(5, L_lszAnswerS_5)]
theorem s_lszAnswerS_5 : StepOk X_lszAnswerS H_lszAnswerS (c_lszAnswerS.finish X_lszAnswerS Try.f44.results.toList) T_lszAnswerS (loopAt Try.f44 0) := ⟨L_lszAnswerS_5, by kernel_rfl, fun O y x r => by kernel_rfl, fun O k y x r => by kernel_rfl⟩
theorem r_lszAnswerS (a) : fnRun X_lszAnswerS H_lszAnswerS c_lszAnswerS Try.f44 T_lszAnswerS a = lszAnswerS a := by kernel_rfl
theorem h_lszAnswerS [Tabs] : CtrHolds Try.prog 44 c_lszAnswerS := fn_ok (.cons h_lszAnswer Try.call61 .nil) .nil (H := H_lszAnswerS) (tbl := T_lszAnswerS) Try.func44 (by kernel_rfl) (loops1 (by kernel_rfl) s_lszAnswerS_5) r_lszAnswerS
/-! 27 lszReplica -/
noncomputable def lszReplica : ((Int × Int × Int × List ((Int × Int) × (Int × List UInt8 × List UInt8) × List (Int × Int) × Bool) × List ((Int × Int) × Int) × List (Int × Int) × List (List UInt8 × List UInt8 × Bool) × List ((Int × Int) × List UInt8 × Bool)) × Int) → Option Int
  | ((a0, a1, a2, a3, a4, a5, a6, a7), left8) => ((lszRecS (a3, left8)).bind fun r9 => (cond (decide (r9 < (0 : Int))) (some (-1 : Int)) ((lszAckS (a4, r9)).bind fun r10 => (cond (decide (r10 < (0 : Int))) (some (-1 : Int)) ((lszDotS (a5, r10)).bind fun r11 => (cond (decide (r11 < (0 : Int))) (some (-1 : Int)) ((lszPairS (a6, r11)).bind fun r12 => (cond (decide (r12 < (0 : Int))) (some (-1 : Int)) ((lszAnswerS (a7, r12)).bind fun r13 => (cond (decide (r13 < (0 : Int))) (some (-1 : Int)) (some r13)))))))))))
noncomputable def c_lszReplica : Ctr := { args := [.val true (.pair (.int .i64) (.pair (.int .i64) (.pair (.int .i64) (.pair (.old (.pair (.pair (.int .i64) (.int .i64)) (.pair (.pair (.int .i64) (.pair .str .str)) (.pair (.old (.pair (.int .i64) (.int .i64))) .bool)))) (.pair (.old (.pair (.pair (.int .i64) (.int .i64)) (.int .i64))) (.pair (.old (.pair (.int .i64) (.int .i64))) (.pair (.old (.pair .str (.pair .str .bool))) (.old (.pair (.pair (.int .i64) (.int .i64)) (.pair .str .bool)))))))))), .val false (.int .i64)], rets := [(false, [(none, (.int .i64))])], F := lszReplica }
noncomputable def X_lszReplica : Ctx := XT.withΓ (lk [(40, c_lszRecS), (41, c_lszAckS), (42, c_lszDotS), (43, c_lszPairS), (44, c_lszAnswerS)]) (lk [])
noncomputable def H_lszReplica : Hints := ⟨lk [], lk [], lk []⟩
noncomputable def T_lszReplica : Nat → Option (LoopF c_lszReplica.Res) := lk []
theorem r_lszReplica (a) : fnRun X_lszReplica H_lszReplica c_lszReplica Try.f27 T_lszReplica a = lszReplica a := by kernel_rfl
theorem h_lszReplica [Tabs] : CtrHolds Try.prog 27 c_lszReplica := fn_ok (.cons h_lszRecS Try.call40 (.cons h_lszAckS Try.call41 (.cons h_lszDotS Try.call42 (.cons h_lszPairS Try.call43 (.cons h_lszAnswerS Try.call44 .nil))))) .nil (H := H_lszReplica) (tbl := T_lszReplica) Try.func27 (by kernel_rfl) (loops0 (by kernel_rfl)) r_lszReplica
/-! 13 lszReplicaS -/
noncomputable def lszReplicaS_L5 (O : Type) : Nat → (List (Int × Int × Int × List ((Int × Int) × (Int × List UInt8 × List UInt8) × List (Int × Int) × Bool) × List ((Int × Int) × Int) × List (Int × Int) × List (List UInt8 × List UInt8 × Bool) × List ((Int × Int) × List UInt8 × Bool)) × Int × Int) → (Int → Option O) → (Int → Option O) → Option O
  | 0, _, _, _ => none
  | q + 1, (a2, left3, i4), x, r => (cond (decide (i4 < ((a2.length : Nat) : Int))) (cond (decide ((0 : Int) ≤ i4) && decide (i4 < ((a2.length : Nat) : Int))) ((lszReplica (((nth a2 i4).1, (nth a2 i4).2.1, (nth a2 i4).2.2.1, (nth a2 i4).2.2.2.1, (nth a2 i4).2.2.2.2.1, (nth a2 i4).2.2.2.2.2.1, (nth a2 i4).2.2.2.2.2.2.1, (nth a2 i4).2.2.2.2.2.2.2), left3)).bind fun r5 => (cond (decide (r5 < (0 : Int))) (r (-1 : Int)) (lszReplicaS_L5 O q (a2, r5, (IntKind.wrap .i64 (i4 + (1 : Int)))) x r))) none) (x left3))
noncomputable def lszReplicaS : (List (Int × Int × Int × List ((Int × Int) × (Int × List UInt8 × List UInt8) × List (Int × Int) × Bool) × List ((Int × Int) × Int) × List (Int × Int) × List (List UInt8 × List UInt8 × Bool) × List ((Int × Int) × List UInt8 × Bool)) × Int) → Option Int
  | (a0, left1) => (cond (decide ((IntKind.wrap .i64 (left1 - ((a0.length : Nat) : Int))) < (0 : Int))) (some (-1 : Int)) (lszReplicaS_L5 Int fuel (a0, (IntKind.wrap .i64 (left1 - ((a0.length : Nat) : Int))), (0 : Int)) (fun left6 => (some left6)) some))
noncomputable def c_lszReplicaS : Ctr := { args := [.val false (.old (.pair (.int .i64) (.pair (.int .i64) (.pair (.int .i64) (.pair (.old (.pair (.pair (.int .i64) (.int .i64)) (.pair (.pair (.int .i64) (.pair .str .str)) (.pair (.old (.pair (.int .i64) (.int .i64))) .bool)))) (.pair (.old (.pair (.pair (.int .i64) (.int .i64)) (.int .i64))) (.pair (.old (.pair (.int .i64) (.int .i64))) (.pair (.old (.pair .str (.pair .str .bool))) (.old (.pair (.pair (.int .i64) (.int .i64)) (.pair .str .bool))))))))))), .val false (.int .i64)], rets := [(false, [(none, (.int .i64))])], F := lszReplicaS }
noncomputable def X_lszReplicaS : Ctx := XT.withΓ (lk [(27, c_lszReplica)]) (lk [])
noncomputable def H_lszReplicaS : Hints := ⟨lk [], lk [], lk []⟩
noncomputable def L_lszReplicaS_5 : LoopF c_lszReplicaS.Res := ⟨⟨27, [(0, .one (.val (.old (.pair (.int .i64) (.pair (.int .i64) (.pair (.int .i64) (.pair (.old (.pair (.pair (.int .i64) (.int .i64)) (.pair (.pair (.int .i64) (.pair .str .str)) (.pair (.old (.pair (.int .i64) (.int .i64))) .bool)))) (.pair (.old (.pair (.pair (.int .i64) (.int .i64)) (.int .i64))) (.pair (.old (.pair (.int .i64) (.int .i64))) (.pair (.old (.pair .str (.pair .str .bool))) (.old (.pair (.pair (.int .i64) (.int .i64)) (.pair .str .bool))))))))))))), (1, .one (.val (.int .i64))), (5, .one (.val (.int .i64)))], [], []⟩, [(0, ⟨27, [(1, .one (.val (.int .i64)))], [], []⟩)], lszReplicaS_L5⟩
noncomputable def T_lszReplicaS : Nat → Option (LoopF c_lszReplicaS.Res) := lk [(5, L_lszReplicaS_5)]
theorem s_lszReplicaS_5 : StepOk X_lszReplicaS H_lszReplicaS (c_lszReplicaS.finish X_lszReplicaS Try.f13.results.toList) T_lszReplicaS (loopAt Try.f13 0) := ⟨L_lszReplicaS_5, by kernel_rfl, fun O y x r => by kernel_rfl, fun O k y x r => by kernel_rfl⟩
theorem r_lszReplicaS (a) : fnRun X_lszReplicaS H_lszReplicaS c_lszReplicaS Try.f13 T_lszReplicaS a = lszReplicaS a := by kernel_rfl
theorem h_lszReplicaS [Tabs] : CtrHolds Try.prog 13 c_lszReplicaS := fn_ok (.cons h_lszReplica Try.call27 .nil) .nil (H := H_lszReplicaS) (tbl := T_lszReplicaS) Try.func13 (by kernel_rfl) (loops1 (by kernel_rfl) s_lszReplicaS_5) r_lszReplicaS
/-! 28 lszMsg -/
noncomputable def lszMsg : ((Int × Int × Int × (Int × Int) × (Int × List UInt8 × List UInt8) × List (Int × Int)) × Int) → Option Int
  | ((a0, a1, a2, (a3, a4), (a5, a6, a7), a8), left9) => ((lszCmd ((a5, a6, a7), left9)).bind fun r10 => (cond (decide (r10 < (0 : Int))) (some (-1 : Int)) ((lszDotS (a8, r10)).bind fun r11 => (cond (decide (r11 < (0 : Int))) (some (-1 : Int)) (some r11)))))
noncomputable def c_lszMsg : Ctr := { args := [.val true (.pair (.int .i64) (.pair (.int .i64) (.pair (.int .i64) (.pair (.pair (.int .i64) (.int .i64)) (.pair (.pair (.int .i64) (.pair .str .str)) (.old (.pair (.int .i64) (.int .i64)))))))), .val false (.int .i64)], rets := [(false, [(none, (.int .i64))])], F := lszMsg }
noncomputable def X_lszMsg : Ctx := XT.withΓ (lk [(45, c_lszCmd), (42, c_lszDotS)]) (lk [])
noncomputable def H_lszMsg : Hints := ⟨lk [], lk [], lk []⟩
noncomputable def T_lszMsg : Nat → Option (LoopF c_lszMsg.Res) := lk []
theorem r_lszMsg (a) : fnRun X_lszMsg H_lszMsg c_lszMsg Try.f28 T_lszMsg a = lszMsg a := by kernel_rfl
theorem h_lszMsg [Tabs] : CtrHolds Try.prog 28 c_lszMsg := fn_ok (.cons h_lszCmd Try.call45 (.cons h_lszDotS Try.call42 .nil)) .nil (H := H_lszMsg) (tbl := T_lszMsg) Try.func28 (by kernel_rfl) (loops0 (by kernel_rfl)) r_lszMsg
/-! 14 lszMsgS -/
noncomputable def lszMsgS_L5 (O : Type) : Nat → (List (Int × Int × Int × (Int × Int) × (Int × List UInt8 × List UInt8) × List (Int × Int)) × Int × Int) → (Int → Option O) → (Int → Option O) → Option O
  | 0, _, _, _ => none
  | q + 1, (a2, left3, i4), x, r => (cond (decide (i4 < ((a2.length : Nat) : Int))) (cond (decide ((0 : Int) ≤ i4) && decide (i4 < ((a2.length : Nat) : Int))) ((lszMsg (((nth a2 i4).1, (nth a2 i4).2.1, (nth a2 i4).2.2.1, ((nth a2 i4).2.2.2.1.1, (nth a2 i4).2.2.2.1.2), ((nth a2 i4).2.2.2.2.1.1, (nth a2 i4).2.2.2.2.1.2.1, (nth a2 i4).2.2.2.2.1.2.2), (nth a2 i4).2.2.2.2.2), left3)).bind fun r5 => (cond (decide (r5 < (0 : Int))) (r (-1 : Int)) (lszMsgS_L5 O q (a2, r5, (IntKind.wrap .i64 (i4 + (1 : Int)))) x r))) none) (x left3))
noncomputable def lszMsgS : (List (Int × Int × Int × (Int × Int) × (Int × List UInt8 × List UInt8) × List (Int × Int)) × Int) → Option Int
  | (a0, left1) => (cond (decide ((IntKind.wrap .i64 (left1 - ((a0.length : Nat) : Int))) < (0 : Int))) (some (-1 : Int)) (lszMsgS_L5 Int fuel (a0, (IntKind.wrap .i64 (left1 - ((a0.length : Nat) : Int))), (0 : Int)) (fun left6 => (some left6)) some))
noncomputable def c_lszMsgS : Ctr := { args := [.val false (.old (.pair (.int .i64) (.pair (.int .i64) (.pair (.int .i64) (.pair (.pair (.int .i64) (.int .i64)) (.pair (.pair (.int .i64) (.pair .str .str)) (.old (.pair (.int .i64) (.int .i64))))))))), .val false (.int .i64)], rets := [(false, [(none, (.int .i64))])], F := lszMsgS }
noncomputable def X_lszMsgS : Ctx := XT.withΓ (lk [(28, c_lszMsg)]) (lk [])
noncomputable def H_lszMsgS : Hints := ⟨lk [], lk [], lk []⟩
noncomputable def L_lszMsgS_5 : LoopF c_lszMsgS.Res := ⟨⟨27, [(0, .one (.val (.old (.pair (.int .i64) (.pair (.int .i64) (.pair (.int .i64) (.pair (.pair (.int .i64) (.int .i64)) (.pair (.pair (.int .i64) (.pair .str .str)) (.old (.pair (.int .i64) (.int .i64))))))))))), (1, .one (.val (.int .i64))), (5, .one (.val (.int .i64)))], [], []⟩, [(0, ⟨27, [(1, .one (.val (.int .i64)))], [], []⟩)], lszMsgS_L5⟩
noncomputable def T_lszMsgS : Nat → Option (LoopF c_lszMsgS.Res) := lk [(5, L_lszMsgS_5)]
theorem s_lszMsgS_5 : StepOk X_lszMsgS H_lszMsgS (c_lszMsgS.finish X_lszMsgS Try.f14.results.toList) T_lszMsgS (loopAt Try.f14 0) := ⟨L_lszMsgS_5, by kernel_rfl, fun O y x r => by kernel_rfl, fun O k y x r => by kernel_rfl⟩
theorem r_lszMsgS (a) : fnRun X_lszMsgS H_lszMsgS c_lszMsgS Try.f14 T_lszMsgS a = lszMsgS a := by kernel_rfl
theorem h_lszMsgS [Tabs] : CtrHolds Try.prog 14 c_lszMsgS := fn_ok (.cons h_lszMsg Try.call28 .nil) .nil (H := H_lszMsgS) (tbl := T_lszMsgS) Try.func14 (by kernel_rfl) (loops1 (by kernel_rfl) s_lszMsgS_5) r_lszMsgS
/-! 29 lszAsked -/
noncomputable def lszAsked : (((Int × Int) × (Int × List UInt8 × List UInt8) × List (Int × Int)) × Int) → Option Int
  | (((a0, a1), (a2, a3, a4), a5), left6) => ((lszCmd ((a2, a3, a4), left6)).bind fun r7 => (cond (decide (r7 < (0 : Int))) (some (-1 : Int)) ((lszDotS (a5, r7)).bind fun r8 => (cond (decide (r8 < (0 : Int))) (some (-1 : Int)) (some r8)))))
noncomputable def c_lszAsked : Ctr := { args := [.val true (.pair (.pair (.int .i64) (.int .i64)) (.pair (.pair (.int .i64) (.pair .str .str)) (.old (.pair (.int .i64) (.int .i64))))), .val false (.int .i64)], rets := [(false, [(none, (.int .i64))])], F := lszAsked }
noncomputable def X_lszAsked : Ctx := XT.withΓ (lk [(45, c_lszCmd), (42, c_lszDotS)]) (lk [])
noncomputable def H_lszAsked : Hints := ⟨lk [], lk [], lk []⟩
noncomputable def T_lszAsked : Nat → Option (LoopF c_lszAsked.Res) := lk []
theorem r_lszAsked (a) : fnRun X_lszAsked H_lszAsked c_lszAsked Try.f29 T_lszAsked a = lszAsked a := by kernel_rfl
theorem h_lszAsked [Tabs] : CtrHolds Try.prog 29 c_lszAsked := fn_ok (.cons h_lszCmd Try.call45 (.cons h_lszDotS Try.call42 .nil)) .nil (H := H_lszAsked) (tbl := T_lszAsked) Try.func29 (by kernel_rfl) (loops0 (by kernel_rfl)) r_lszAsked
/-! 15 lszAskedS -/
noncomputable def lszAskedS_L5 (O : Type) : Nat → (List ((Int × Int) × (Int × List UInt8 × List UInt8) × List (Int × Int)) × Int × Int) → (Int → Option O) → (Int → Option O) → Option O
  | 0, _, _, _ => none
  | q + 1, (a2, left3, i4), x, r => (cond (decide (i4 < ((a2.length : Nat) : Int))) (cond (decide ((0 : Int) ≤ i4) && decide (i4 < ((a2.length : Nat) : Int))) ((lszAsked ((((nth a2 i4).1.1, (nth a2 i4).1.2), ((nth a2 i4).2.1.1, (nth a2 i4).2.1.2.1, (nth a2 i4).2.1.2.2), (nth a2 i4).2.2), left3)).bind fun r5 => (cond (decide (r5 < (0 : Int))) (r (-1 : Int)) (lszAskedS_L5 O q (a2, r5, (IntKind.wrap .i64 (i4 + (1 : Int)))) x r))) none) (x left3))
noncomputable def lszAskedS : (List ((Int × Int) × (Int × List UInt8 × List UInt8) × List (Int × Int)) × Int) → Option Int
  | (a0, left1) => (cond (decide ((IntKind.wrap .i64 (left1 - ((a0.length : Nat) : Int))) < (0 : Int))) (some (-1 : Int)) (lszAskedS_L5 Int fuel (a0, (IntKind.wrap .i64 (left1 - ((a0.length : Nat) : Int))), (0 : Int)) (fun left6 => (some left6)) some))
noncomputable def c_lszAskedS : Ctr := { args := [.val false (.old (.pair (.pair (.int .i64) (.int .i64)) (.pair (.pair (.int .i64) (.pair .str .str)) (.old (.pair (.int .i64) (.int .i64)))))), .val false (.int .i64)], rets := [(false, [(none, (.int .i64))])], F := lszAskedS }
noncomputable def X_lszAskedS : Ctx := XT.withΓ (lk [(29, c_lszAsked)]) (lk [])
noncomputable def H_lszAskedS : Hints := ⟨lk [], lk [], lk []⟩
noncomputable def L_lszAskedS_5 : LoopF c_lszAskedS.Res := ⟨⟨27, [(0, .one (.val (.old (.pair (.pair (.int .i64) (.int .i64)) (.pair (.pair (.int .i64) (.pair .str .str)) (.old (.pair (.int .i64) (.int .i64)))))))), (1, .one (.val (.int .i64))), (5, .one (.val (.int .i64)))], [], []⟩, [(0, ⟨27, [(1, .one (.val (.int .i64)))], [], []⟩)], lszAskedS_L5⟩
noncomputable def T_lszAskedS : Nat → Option (LoopF c_lszAskedS.Res) := lk [(5, L_lszAskedS_5)]
theorem s_lszAskedS_5 : StepOk X_lszAskedS H_lszAskedS (c_lszAskedS.finish X_lszAskedS Try.f15.results.toList) T_lszAskedS (loopAt Try.f15 0) := ⟨L_lszAskedS_5, by kernel_rfl, fun O y x r => by kernel_rfl, fun O k y x r => by kernel_rfl⟩
theorem r_lszAskedS (a) : fnRun X_lszAskedS H_lszAskedS c_lszAskedS Try.f15 T_lszAskedS a = lszAskedS a := by kernel_rfl
theorem h_lszAskedS [Tabs] : CtrHolds Try.prog 15 c_lszAskedS := fn_ok (.cons h_lszAsked Try.call29 .nil) .nil (H := H_lszAskedS) (tbl := T_lszAskedS) Try.func15 (by kernel_rfl) (loops1 (by kernel_rfl) s_lszAskedS_5) r_lszAskedS
/-! 4 lszCluster -/
noncomputable def lszCluster : ((List (Int × Int × Int × List ((Int × Int) × (Int × List UInt8 × List UInt8) × List (Int × Int) × Bool) × List ((Int × Int) × Int) × List (Int × Int) × List (List UInt8 × List UInt8 × Bool) × List ((Int × Int) × List UInt8 × Bool)) × List (Int × Int × Int × (Int × Int) × (Int × List UInt8 × List UInt8) × List (Int × Int)) × List ((Int × Int) × (Int × List UInt8 × List UInt8) × List (Int × Int))) × Int) → Option Int
  | ((a0, a1, a2), left3) => ((lszReplicaS (a0, left3)).bind fun r4 => (cond (decide (r4 < (0 : Int))) (some (-1 : Int)) ((lszMsgS (a1, r4)).bind fun r5 => (cond (decide (r5 < (0 : Int))) (some (-1 : Int)) ((lszAskedS (a2, r5)).bind fun r6 => (cond (decide (r6 < (0 : Int))) (some (-1 : Int)) (some r6)))))))
noncomputable def c_lszCluster : Ctr := { args := [.val true (.pair (.old (.pair (.int .i64) (.pair (.int .i64) (.pair (.int .i64) (.pair (.old (.pair (.pair (.int .i64) (.int .i64)) (.pair (.pair (.int .i64) (.pair .str .str)) (.pair (.old (.pair (.int .i64) (.int .i64))) .bool)))) (.pair (.old (.pair (.pair (.int .i64) (.int .i64)) (.int .i64))) (.pair (.old (.pair (.int .i64) (.int .i64))) (.pair (.old (.pair .str (.pair .str .bool))) (.old (.pair (.pair (.int .i64) (.int .i64)) (.pair .str .bool))))))))))) (.pair (.old (.pair (.int .i64) (.pair (.int .i64) (.pair (.int .i64) (.pair (.pair (.int .i64) (.int .i64)) (.pair (.pair (.int .i64) (.pair .str .str)) (.old (.pair (.int .i64) (.int .i64))))))))) (.old (.pair (.pair (.int .i64) (.int .i64)) (.pair (.pair (.int .i64) (.pair .str .str)) (.old (.pair (.int .i64) (.int .i64)))))))), .val false (.int .i64)], rets := [(false, [(none, (.int .i64))])], F := lszCluster }
noncomputable def X_lszCluster : Ctx := XT.withΓ (lk [(13, c_lszReplicaS), (14, c_lszMsgS), (15, c_lszAskedS)]) (lk [])
noncomputable def H_lszCluster : Hints := ⟨lk [], lk [], lk []⟩
noncomputable def T_lszCluster : Nat → Option (LoopF c_lszCluster.Res) := lk []
theorem r_lszCluster (a) : fnRun X_lszCluster H_lszCluster c_lszCluster Try.f4 T_lszCluster a = lszCluster a := by kernel_rfl
theorem h_lszCluster [Tabs] : CtrHolds Try.prog 4 c_lszCluster := fn_ok (.cons h_lszReplicaS Try.call13 (.cons h_lszMsgS Try.call14 (.cons h_lszAskedS Try.call15 .nil))) .nil (H := H_lszCluster) (tbl := T_lszCluster) Try.func4 (by kernel_rfl) (loops0 (by kernel_rfl)) r_lszCluster
/-! 51 ltoDot -/
noncomputable def ltoDot : (Int × Int) → Option (Int × Int)
  | (a0, a1) => (some (a0, a1))
noncomputable def c_ltoDot : Ctr := { args := [.val true (.pair (.int .i64) (.int .i64))], rets := [(true, [(none, (.int .i64)), (none, (.int .i64))])], F := ltoDot }
noncomputable def X_ltoDot : Ctx := XT.withΓ (lk []) (lk [])
noncomputable def H_ltoDot : Hints := ⟨lk [], lk [], lk []⟩
noncomputable def T_ltoDot : Nat → Option (LoopF c_ltoDot.Res) := lk []
theorem r_ltoDot (a) : fnRun X_ltoDot H_ltoDot c_ltoDot Try.f51 T_ltoDot a = ltoDot a := by kernel_rfl
theorem h_ltoDot [Tabs] : CtrHolds Try.prog 51 c_ltoDot := fn_ok .nil .nil (H := H_ltoDot) (tbl := T_ltoDot) Try.func51 (by kernel_rfl) (loops0 (by kernel_rfl)) r_ltoDot
/-! 52 ltoCmd -/
noncomputable def ltoCmd : (Int × List UInt8 × List UInt8) → Option (Int × List UInt8 × List UInt8)
  | (a0, a1, a2) => (some (a0, a1, a2))
noncomputable def c_ltoCmd : Ctr := { args := [.val true (.pair (.int .i64) (.pair .str .str))], rets := [(true, [(none, (.int .i64)), (none, .str), (none, .str)])], F := ltoCmd }
noncomputable def X_ltoCmd : Ctx := XT.withΓ (lk []) (lk [])
noncomputable def H_ltoCmd : Hints := ⟨lk [], lk [], lk []⟩
noncomputable def T_ltoCmd : Nat → Option (LoopF c_ltoCmd.Res) := lk []
theorem r_ltoCmd (a) : fnRun X_ltoCmd H_ltoCmd c_ltoCmd Try.f52 T_ltoCmd a = ltoCmd a := by kernel_rfl
theorem h_ltoCmd [Tabs] : CtrHolds Try.prog 52 c_ltoCmd := fn_ok .nil .nil (H := H_ltoCmd) (tbl := T_ltoCmd) Try.func52 (by kernel_rfl) (loops0 (by kernel_rfl)) r_ltoCmd
/-! 48 ltoDotS -/
noncomputable def ltoDotS_L3 (O : Type) : Nat → (List (Int × Int) × Int × List (Int × Int)) → ((List (Int × Int)) → Option O) → ((List (Int × Int)) → Option O) → Option O
  | 0, _, _, _ => none
  | q + 1, (a1, i2, out3), x, r => (cond (decide (i2 < ((a1.length : Nat) : Int))) (cond (decide ((0 : Int) ≤ i2) && decide (i2 < ((a1.length : Nat) : Int))) ((ltoDot ((nth a1 i2).1, (nth a1 i2).2)).bind fun (r4, r5) => (cond (decide ((0 : Int) ≤ i2) && decide (i2 < ((out3.length : Nat) : Int))) (ltoDotS_L3 O q (a1, (IntKind.wrap .i64 (i2 + (1 : Int))), (List.set out3 (Int.toNat i2) (r4, r5))) x r) none)) none) (x out3))
noncomputable def ltoDotS : (List (Int × Int)) → Option (List (Int × Int))
  | a0 => (cond (decide ((0 : Int) ≤ ((a0.length : Nat) : Int)) && ((((a0.length : Nat) : Int) == ((a0.length : Nat) : Int)) && decide (((a0.length : Nat) : Int) ≤ (4294967296 : Int)))) (ltoDotS_L3 (List (Int × Int)) fuel (a0, (0 : Int), (List.replicate (Int.toNat ((a0.length : Nat) : Int)) ((0 : Int), (0 : Int)))) (fun out6 => (some out6)) some) none)
noncomputable def c_ltoDotS : Ctr := { args := [.val false (.old (.pair (.int .i64) (.int .i64)))], rets := [(false, [(some 82, (.sl (.pair (.int .i64) (.int .i64))))])], F := ltoDotS }
noncomputable def X_ltoDotS : Ctx := XT.withΓ (lk [(51, c_ltoDot)]) (lk [])
noncomputable def H_ltoDotS : Hints := ⟨lk [], lk [], lk []⟩
noncomputable def L_ltoDotS_3 : LoopF c_ltoDotS.Res := ⟨⟨23, [(0, .one (.val (.old (.pair (.int .i64) (.int .i64))))), (3, .one (.own 0)), (4, .one (.val (.int .i64)))], [.arr 82 (.pair (.int .i64) (.int .i64))], []⟩, [(0, ⟨23, [(3, .one (.own 0))], [.arr 82 (.pair (.int .i64) (.int .i64))], []⟩)], ltoDotS_L3⟩
noncomputable def T_ltoDotS : Nat → Option (LoopF c_ltoDotS.Res) := lk [(3, L_ltoDotS_3)]
theorem s_ltoDotS_3 : StepOk X_ltoDotS H_ltoDotS (c_ltoDotS.finish X_ltoDotS Try.f48.results.toList) T_ltoDotS (loopAt Try.f48 0) := ⟨L_ltoDotS_3, by kernel_rfl, fun O y x r => by kernel_rfl, fun O k y x r => by kernel_rfl⟩
theorem r_ltoDotS (a) : fnRun X_ltoDotS H_ltoDotS c_ltoDotS Try.f48 T_ltoDotS a = ltoDotS a := by kernel_rfl
theorem h_ltoDotS [Tabs] : CtrHolds Try.prog 48 c_ltoDotS := fn_ok (.cons h_ltoDot Try.call51 .nil) .nil (H := H_ltoDotS) (tbl := T_ltoDotS) Try.func48 (by kernel_rfl) (loops1 (by kernel_rfl) s_ltoDotS_3) r_ltoDotS
/-! 62 ltoRec -/
noncomputable def ltoRec : ((Int × Int) × (Int × List UInt8 × List UInt8) × List (Int × Int) × Bool) → Option (Int × Int × Int × List UInt8 × List UInt8 × List (Int × Int) × Bool)
  | ((a0, a1), (a2, a3, a4), a5, a6) => ((ltoDot (a0, a1)).bind fun (r7, r8) => ((ltoCmd (a2, a3, a4)).bind fun (r9, r10, r11) => ((ltoDotS a5).bind fun r12 => (some (r7, r8, r9, r10, r11, r12, a6)))))
noncomputable def c_ltoRec : Ctr := { args := [.val true (.pair (.pair (.int .i64) (.int .i64)) (.pair (.pair (.int .i64) (.pair .str .str)) (.pair (.old (.pair (.int .i64) (.int .i64))) .bool)))], rets := [(true, [(none, (.int .i64)), (none, (.int .i64)), (none, (.int .i64)), (none, .str), (none, .str), (some 82, (.sl (.pair (.int .i64) (.int .i64)))), (none, .bool)])], F := ltoRec }
noncomputable def X_ltoRec : Ctx := XT.withΓ (lk [(51, c_ltoDot), (52, c_ltoCmd), (48, c_ltoDotS)]) (lk [])
noncomputable def H_ltoRec : Hints := ⟨lk [], lk [], lk []⟩
noncomputable def T_ltoRec : Nat → Option (LoopF c_ltoRec.Res) := lk []
theorem r_ltoRec (a) : fnRun X_ltoRec H_ltoRec c_ltoRec Try.f62 T_ltoRec a = ltoRec a := by kernel_rfl
theorem h_ltoRec [Tabs] : CtrHolds Try.prog 62 c_ltoRec := fn_ok (.cons h_ltoDot Try.call51 (.cons h_ltoCmd Try.call52 (.cons h_ltoDotS Try.call48 .nil))) .nil (H := H_ltoRec) (tbl := T_ltoRec) Try.func62 (by kernel_rfl) (loops0 (by kernel_rfl)) r_ltoRec
/-! 46 ltoRecS -/
noncomputable def ltoRecS_L3 (O : Type) : Nat → (List ((Int × Int) × (Int × List UInt8 × List UInt8) × List (Int × Int) × Bool) × Int × List ((Int × Int) × (Int × List UInt8 × List UInt8) × List (Int × Int) × Bool)) → ((List ((Int × Int) × (Int × List UInt8 × List UInt8) × List (Int × Int) × Bool)) → Option O) → ((List ((Int × Int) × (Int × List UInt8 × List UInt8) × List (Int × Int) × Bool)) → Option O) → Option O
  | 0, _, _, _ => none
  | q + 1, (a1, i2, out3), x, r => (cond (decide (i2 < ((a1.length : Nat) : Int))) (cond (decide ((0 : Int) ≤ i2) && decide (i2 < ((a1.length : Nat) : Int))) ((ltoRec (((nth a1 i2).1.1, (nth a1 i2).1.2), ((nth a1 i2).2.1.1, (nth a1 i2).2.1.2.1, (nth a1 i2).2.1.2.2), (nth a1 i2).2.2.1, (nth a1 i2).2.2.2)).bind fun (r4, r5, r6, r7, r8, r9, r10) => (cond (decide ((0 : Int) ≤ i2) && decide (i2 < ((out3.length : Nat) : Int))) (ltoRecS_L3 O q (a1, (IntKind.wrap .i64 (i2 + (1 : Int))), (List.set out3 (Int.toNat i2) ((r4, r5), (r6, r7, r8), r9, r10))) x r) none)) none) (x out3))
noncomputable def ltoRecS : (List ((Int × Int) × (Int × List UInt8 × List UInt8) × List (Int × Int) × Bool)) → Option (List ((Int × Int) × (Int × List UInt8 × List UInt8) × List (Int × Int) × Bool))
  | a0 => (cond (decide ((0 : Int) ≤ ((a0.length : Nat) : Int)) && ((((a0.length : Nat) : Int) == ((a0.length : Nat) : Int)) && decide (((a0.length : Nat) : Int) ≤ (4294967296 : Int)))) (ltoRecS_L3 (List ((Int × Int) × (Int × List UInt8 × List UInt8) × List (Int × Int) × Bool)) fuel (a0, (0 : Int), (List.replicate (Int.toNat ((a0.length : Nat) : Int)) (((0 : Int), (0 : Int)), ((0 : Int), [], []), [], false))) (fun out11 => (some out11)) some) none)
noncomputable def c_ltoRecS : Ctr := { args := [.val false (.old (.pair (.pair (.int .i64) (.int .i64)) (.pair (.pair (.int .i64) (.pair .str .str)) (.pair (.old (.pair (.int .i64) (.int .i64))) .bool))))], rets := [(false, [(some 118, (.sl (.pair (.pair (.int .i64) (.int .i64)) (.pair (.pair (.int .i64) (.pair .str .str)) (.pair (.sl (.pair (.int .i64) (.int .i64))) .bool)))))])], F := ltoRecS }
noncomputable def X_ltoRecS : Ctx := XT.withΓ (lk [(62, c_ltoRec)]) (lk [])
noncomputable def H_ltoRecS : Hints := ⟨lk [], lk [], lk []⟩
noncomputable def L_ltoRecS_3 : LoopF c_ltoRecS.Res := ⟨⟨23, [(0, .one (.val (.old (.pair (.pair (.int .i64) (.int .i64)) (.pair (.pair (.int .i64) (.pair .str .str)) (.pair (.old (.pair (.int .i64) (.int .i64))) .bool)))))), (3, .one (.own 0)), (4, .one (.val (.int .i64)))], [.arr 118 (.pair (.pair (.int .i64) (.int .i64)) (.pair (.pair (.int .i64) (.pair .str .str)) (.pair (.sl (.pair (.int .i64) (.int .i64))) .bool)))], []⟩, [(0, ⟨23, [(3, .one (.own 0))], [.arr 118 (.pair (.pair (.int .i64) (.int .i64)) (.pair (.pair (.int .i64) (.pair .str .str)) (.pair (.sl (.pair (.int .i64) (.int .i64))) .bool)))], []⟩)], ltoRecS_L3⟩
noncomputable def T_ltoRecS : Nat → Option (LoopF c_ltoRecS.Res) := lk [(3, L_ltoRecS_3)]
theorem s_ltoRecS_3 : StepOk X_ltoRecS H_ltoRecS (c_ltoRecS.finish X_ltoRecS Try.f46.results.toList) T_ltoRecS (loopAt Try.f46 0) := ⟨L_ltoRecS_3, by kernel_rfl, fun O y x r => by kernel_rfl, fun O k y x r => by kernel_rfl⟩
theorem r_ltoRecS (a) : fnRun X_ltoRecS H_ltoRecS c_ltoRecS Try.f46 T_ltoRecS a = ltoRecS a := by kernel_rfl
theorem h_ltoRecS [Tabs] : CtrHolds Try.prog 46 c_ltoRecS := fn_ok (.cons h_ltoRec Try.call62 .nil) .nil (H := H_ltoRecS) (tbl := T_ltoRecS) Try.func46 (by kernel_rfl) (loops1 (by kernel_rfl) s_ltoRecS_3) r_ltoRecS
/-! 63 ltoAck -/
noncomputable def ltoAck : ((Int × Int) × Int) → Option (Int × Int × Int)
  | ((a0, a1), a2) => ((ltoDot (a0, a1)).bind fun (r3, r4) => (some (r3, r4, a2)))
noncomputable def c_ltoAck : Ctr := { args := [.val true (.pair (.pair (.int .i64) (.int .i64)) (.int .i64))], rets := [(true, [(none, (.int .i64)), (none, (.int .i64)), (none, (.int .i64))])], F := ltoAck }
noncomputable def X_ltoAck : Ctx := XT.withΓ (lk [(51, c_ltoDot)]) (lk [])
noncomputable def H_ltoAck : Hints := ⟨lk [], lk [], lk []⟩
noncomputable def T_ltoAck : Nat → Option (LoopF c_ltoAck.Res) := lk []
theorem r_ltoAck (a) : fnRun X_ltoAck H_ltoAck c_ltoAck Try.f63 T_ltoAck a = ltoAck a := by kernel_rfl
theorem h_ltoAck [Tabs] : CtrHolds Try.prog 63 c_ltoAck := fn_ok (.cons h_ltoDot Try.call51 .nil) .nil (H := H_ltoAck) (tbl := T_ltoAck) Try.func63 (by kernel_rfl) (loops0 (by kernel_rfl)) r_ltoAck
/-! 47 ltoAckS -/
noncomputable def ltoAckS_L3 (O : Type) : Nat → (List ((Int × Int) × Int) × Int × List ((Int × Int) × Int)) → ((List ((Int × Int) × Int)) → Option O) → ((List ((Int × Int) × Int)) → Option O) → Option O
  | 0, _, _, _ => none
  | q + 1, (a1, i2, out3), x, r => (cond (decide (i2 < ((a1.length : Nat) : Int))) (cond (decide ((0 : Int) ≤ i2) && decide (i2 < ((a1.length : Nat) : Int))) ((ltoAck (((nth a1 i2).1.1, (nth a1 i2).1.2), (nth a1 i2).2)).bind fun (r4, r5, r6) => (cond (decide ((0 : Int) ≤ i2) && decide (i2 < ((out3.length : Nat) : Int))) (ltoAckS_L3 O q (a1, (IntKind.wrap .i64 (i2 + (1 : Int))), (List.set out3 (Int.toNat i2) ((r4, r5), r6))) x r) none)) none) (x out3))
noncomputable def ltoAckS : (List ((Int × Int) × Int)) → Option (List ((Int × Int) × Int))
  | a0 => (cond (decide ((0 : Int) ≤ ((a0.length : Nat) : Int)) && ((((a0.length : Nat) : Int) == ((a0.length : Nat) : Int)) && decide (((a0.length : Nat) : Int) ≤ (4294967296 : Int)))) (ltoAckS_L3 (List ((Int × Int) × Int)) fuel (a0, (0 : Int), (List.replicate (Int.toNat ((a0.length : Nat) : Int)) (((0 : Int), (0 : Int)), (0 : Int)))) (fun out7 => (some out7)) some) none)
noncomputable def c_ltoAckS : Ctr := { args := [.val false (.old (.pair (.pair (.int .i64) (.int .i64)) (.int .i64)))], rets := [(false, [(some 120, (.sl (.pair (.pair (.int .i64) (.int .i64)) (.int .i64))))])], F := ltoAckS }
noncomputable def X_ltoAckS : Ctx := XT.withΓ (lk [(63, c_ltoAck)]) (lk [])
noncomputable def H_ltoAckS : Hints := ⟨lk [], lk [], lk []⟩
noncomputable def L_ltoAckS_3 : LoopF c_ltoAckS.Res := ⟨⟨23, [(0, .one (.val (.old (.pair (.pair (.int .i64) (.int .i64)) (.int .i64))))), (3, .one (.own 0)), (4, .one (.val (.int .i64)))], [.arr 120 (.pair (.pair (.int .i64) (.int .i64)) (.int .i64))], []⟩, [(0, ⟨23, [(3, .one (.own 0))], [.arr 120 (.pair (.pair (.int .i64) (.int .i64)) (.int .i64))], []⟩)], ltoAckS_L3⟩
noncomputable def T_ltoAckS : Nat → Option (LoopF c_ltoAckS.Res) := lk [(3, L_ltoAckS_3)]
theorem s_ltoAckS_3 : StepOk X_ltoAckS H_ltoAckS (c_ltoAckS.finish X_ltoAckS Try.f47.results.toList) T_ltoAckS (loopAt Try.f47 0) := ⟨L_ltoAckS_3, by kernel_rfl, fun O y x r => by kernel_rfl, fun O k y x r => by kernel_rfl⟩
theorem r_ltoAckS (a) : fnRun X_ltoAckS H_ltoAckS c_ltoAckS Try.f47 T_ltoAckS a = ltoAckS a := by kernel_rfl
theorem h_ltoAckS [Tabs] : CtrHolds Try.prog 47 c_ltoAckS := fn_ok (.cons h_ltoAck Try.call63 .nil) .nil (H := H_ltoAckS) (tbl := T_ltoAckS) Try.func47 (by kernel_rfl) (loops1 (by kernel_rfl) s_ltoAckS_3) r_ltoAckS
/-! 64 ltoPair -/
noncomputable def ltoPair : (List UInt8 × List UInt8 × Bool) → Option (List UInt8 × List UInt8 × Bool)
  | (a0, a1, a2) => (some (a0, a1, a2))
noncomputable def c_ltoPair : Ctr := { args := [.val true (.pair .str (.pair .str .bool))], rets := [(true, [(none, .str), (none, .str), (none, .bool)])], F := ltoPair }
noncomputable def X_ltoPair : Ctx := XT.withΓ (lk []) (lk [])
noncomputable def H_ltoPair : Hints := ⟨lk [], lk [], lk []⟩
noncomputable def T_ltoPair : Nat → Option (LoopF c_ltoPair.Res) := lk []
theorem r_ltoPair (a) : fnRun X_ltoPair H_ltoPair c_ltoPair Try.f64 T_ltoPair a = ltoPair a := by kernel_rfl
theorem h_ltoPair [Tabs] : CtrHolds Try.prog 64 c_ltoPair := fn_ok .nil .nil (H := H_ltoPair) (tbl := T_ltoPair) Try.func64 (by kernel_rfl) (loops0 (by kernel_rfl)) r_ltoPair
/-! 49 ltoPairS -/
noncomputable def ltoPairS_L3 (O : Type) : Nat → (List (List UInt8 × List UInt8 × Bool) × Int × List (List UInt8 × List UInt8 × Bool)) → ((List (List UInt8 × List UInt8 × Bool)) → Option O) → ((List (List UInt8 × List UInt8 × Bool)) → Option O) → Option O
  | 0, _, _, _ => none
  | q + 1, (a1, i2, out3), x, r => (cond (decide (i2 < ((a1.length : Nat) : Int))) (cond (decide ((0 : Int) ≤ i2) && decide (i2 < ((a1.length : Nat) : Int))) ((ltoPair ((nth a1 i2).1, (nth a1 i2).2.1, (nth a1 i2).2.2)).bind fun (r4, r5, r6) => (cond (decide ((0 : Int) ≤ i2) && decide (i2 < ((out3.length : Nat) : Int))) (ltoPairS_L3 O q (a1, (IntKind.wrap .i64 (i2 + (1 : Int))), (List.set out3 (Int.toNat i2) (r4, r5, r6))) x r) none)) none) (x out3))
noncomputable def ltoPairS : (List (List UInt8 × List UInt8 × Bool)) → Option (List (List UInt8 × List UInt8 × Bool))
  | a0 => (cond (decide ((0 : Int) ≤ ((a0.length : Nat) : Int)) && ((((a0.length : Nat) : Int) == ((a0.length : Nat) : Int)) && decide (((a0.length : Nat) : Int) ≤ (4294967296 : Int)))) (ltoPairS_L3 (List (List UInt8 × List UInt8 × Bool)) fuel (a0, (0 : Int), (List.replicate (Int.toNat ((a0.length : Nat) : Int)) ([], [], false))) (fun out7 => (some out7)) some) none)
noncomputable def c_ltoPairS : Ctr := { args := [.val false (.old (.pair .str (.pair .str .bool)))], rets := [(false, [(some 55, (.sl (.pair .str (.pair .str .bool))))])], F := ltoPairS }
noncomputable def X_ltoPairS : Ctx := XT.withΓ (lk [(64, c_ltoPair)]) (lk [])
noncomputable def H_ltoPairS : Hints := ⟨lk [], lk [], lk []⟩
noncomputable def L_ltoPairS_3 : LoopF c_ltoPairS.Res := ⟨⟨23, [(0, .one (.val (.old (.pair .str (.pair .str .bool))))), (3, .one (.own 0)), (4, .one (.val (.int .i64)))], [.arr 55 (.pair .str (.pair .str .bool))], []⟩, [(0, ⟨23, [(3, .one (.own 0))], [.arr 55 (.pair .str (.pair .str .bool))], []⟩)], ltoPairS_L3⟩
noncomputable def T_ltoPairS : Nat → Option (LoopF c_ltoPairS.Res) := lk [(3, L_ltoPairS_3)]
theorem s_ltoPairS_3 : StepOk X_ltoPairS H_ltoPairS (c_ltoPairS.finish X_ltoPairS Try.f49.results.toList) T_ltoPairS (loopAt Try.f49 0) := ⟨L_ltoPairS_3, by kernel_rfl, fun O y x r => by kernel_rfl, fun O k y x r => by kernel_rfl⟩
theorem r_ltoPairS (a) : fnRun X_ltoPairS H_ltoPairS c_ltoPairS Try.f49 T_ltoPairS a = ltoPairS a := by kernel_rfl
theorem h_ltoPairS [Tabs] : CtrHolds Try.prog 49 c_ltoPairS := fn_ok (.cons h_ltoPair Try.call64 .nil) .nil (H := H_ltoPairS) (tbl := T_ltoPairS) Try.func49 (by kernel_rfl) (loops1 (by kernel_rfl) s_ltoPairS_3) r_ltoPairS
/-! 65 ltoAnswer -/
noncomputable def ltoAnswer : ((Int × Int) × List UInt8 × Bool) → Option (Int × Int × List UInt8 × Bool)
  | ((a0, a1), a2, a3) => ((ltoDot (a0, a1)).bind fun (r4, r5) => (some (r4, r5, a2, a3)))
noncomputable def c_ltoAnswer : Ctr := { args := [.val true (.pair (.pair (.int .i64) (.int .i64)) (.pair .str .bool))], rets := [(true, [(none, (.int .i64)), (none, (.int .i64)), (none, .str), (none, .bool)])], F := ltoAnswer }
noncomputable def X_ltoAnswer : Ctx := XT.withΓ (lk [(51, c_ltoDot)]) (lk [])
noncomputable def H_ltoAnswer : Hints := ⟨lk [], lk [], lk []⟩
noncomputable def T_ltoAnswer : Nat → Option (LoopF c_ltoAnswer.Res) := lk []
theorem r_ltoAnswer (a) : fnRun X_ltoAnswer H_ltoAnswer c_ltoAnswer Try.f65 T_ltoAnswer a = ltoAnswer a := by kernel_rfl
theorem h_ltoAnswer [Tabs] : CtrHolds Try.prog 65 c_ltoAnswer := fn_ok (.cons h_ltoDot Try.call51 .nil) .nil (H := H_ltoAnswer) (tbl := T_ltoAnswer) Try.func65 (by kernel_rfl) (loops0 (by kernel_rfl)) r_ltoAnswer
/-! 50 ltoAnswerS -/
noncomputable def ltoAnswerS_L3 (O : Type) : Nat → (List ((Int × Int) × List UInt8 × Bool) × Int × List ((Int × Int) × List UInt8 × Bool)) → ((List ((Int × Int) × List UInt8 × Bool)) → Option O) → ((List ((Int × Int) × List UInt8 × Bool)) → Option O) → Option O
  | 0, _, _, _ => none
  | q + 1, (a1, i2, out3), x, r => (cond (decide (i2 < ((a1.length : Nat) : Int))) (cond (decide ((0 : Int) ≤ i2) && decide (i2 < ((a1.length : Nat) : Int))) ((ltoAnswer (((nth a1 i2).1.1, (nth a1 i2).1.2), (nth a1 i2).2.1, (nth a1 i2).2.2)).bind fun (r4, r5, r6, r7) => (cond (decide ((0 : Int) ≤ i2) && decide (i2 < ((out3.length : Nat) : Int))) (ltoAnswerS_L3 O q (a1, (IntKind.wrap .i64 (i2 + (1 : Int))), (List.set out3 (Int.toNat i2) ((r4, r5), r6, r7))) x r) none)) none) (x out3))
noncomputable def ltoAnswerS : (List ((Int × Int) × List UInt8 × Bool)) → Option (List ((Int × Int) × List UInt8 × Bool))
  | a0 => (cond (decide ((0 : Int) ≤ ((a0.length : Nat) : Int)) && ((((a0.length : Nat) : Int) == ((a0.length : Nat) : Int)) && decide (((a0.length : Nat) : Int) ≤ (4294967296 : Int)))) (ltoAnswerS_L3 (List ((Int × Int) × List UInt8 × Bool)) fuel (a0, (0 : Int), (List.replicate (Int.toNat ((a0.length : Nat) : Int)) (((0 : Int), (0 : Int)), [], false))) (fun out8 => (some out8)) some) none)
noncomputable def c_ltoAnswerS : Ctr := { args := [.val false (.old (.pair (.pair (.int .i64) (.int .i64)) (.pair .str .bool)))], rets := [(false, [(some 122, (.sl (.pair (.pair (.int .i64) (.int .i64)) (.pair .str .bool))))])], F := ltoAnswerS }
noncomputable def X_ltoAnswerS : Ctx := XT.withΓ (lk [(65, c_ltoAnswer)]) (lk [])
noncomputable def H_ltoAnswerS : Hints := ⟨lk [], lk [], lk []⟩
noncomputable def L_ltoAnswerS_3 : LoopF c_ltoAnswerS.Res := ⟨⟨23, [(0, .one (.val (.old (.pair (.pair (.int .i64) (.int .i64)) (.pair .str .bool))))), (3, .one (.own 0)), (4, .one (.val (.int .i64)))], [.arr 122 (.pair (.pair (.int .i64) (.int .i64)) (.pair .str .bool))], []⟩, [(0, ⟨23, [(3, .one (.own 0))], [.arr 122 (.pair (.pair (.int .i64) (.int .i64)) (.pair .str .bool))], []⟩)], ltoAnswerS_L3⟩
noncomputable def T_ltoAnswerS : Nat → Option (LoopF c_ltoAnswerS.Res) := lk [(3, L_ltoAnswerS_3)]
theorem s_ltoAnswerS_3 : StepOk X_ltoAnswerS H_ltoAnswerS (c_ltoAnswerS.finish X_ltoAnswerS Try.f50.results.toList) T_ltoAnswerS (loopAt Try.f50 0) := ⟨L_ltoAnswerS_3, by kernel_rfl, fun O y x r => by kernel_rfl, fun O k y x r => by kernel_rfl⟩
theorem r_ltoAnswerS (a) : fnRun X_ltoAnswerS H_ltoAnswerS c_ltoAnswerS Try.f50 T_ltoAnswerS a = ltoAnswerS a := by kernel_rfl
theorem h_ltoAnswerS [Tabs] : CtrHolds Try.prog 50 c_ltoAnswerS := fn_ok (.cons h_ltoAnswer Try.call65 .nil) .nil (H := H_ltoAnswerS) (tbl := T_ltoAnswerS) Try.func50 (by kernel_rfl) (loops1 (by kernel_rfl) s_ltoAnswerS_3) r_ltoAnswerS
/-! 30 ltoReplica -/
noncomputable def ltoReplica : (Int × Int × Int × List ((Int × Int) × (Int × List UInt8 × List UInt8) × List (Int × Int) × Bool) × List ((Int × Int) × Int) × List (Int × Int) × List (List UInt8 × List UInt8 × Bool) × List ((Int × Int) × List UInt8 × Bool)) → Option (Int × Int × Int × List ((Int × Int) × (Int × List UInt8 × List UInt8) × List (Int × Int) × Bool) × List ((Int × Int) × Int) × List (Int × Int) × List (List UInt8 × List UInt8 × Bool) × List ((Int × Int) × List UInt8 × Bool))
  | (a0, a1, a2, a3, a4, a5, a6, a7) => ((ltoRecS a3).bind fun r8 => ((ltoAckS a4).bind fun r9 => ((ltoDotS a5).bind fun r10 => ((ltoPairS a6).bind fun r11 => ((ltoAnswerS a7).bind fun r12 => (some (a0, a1, a2, r8, r9, r10, r11, r12)))))))
noncomputable def c_ltoReplica : Ctr := { args := [.val true (.pair (.int .i64) (.pair (.int .i64) (.pair (.int .i64) (.pair (.old (.pair (.pair (.int .i64) (.int .i64)) (.pair (.pair (.int .i64) (.pair .str .str)) (.pair (.old (.pair (.int .i64) (.int .i64))) .bool)))) (.pair (.old (.pair (.pair (.int .i64) (.int .i64)) (.int .i64))) (.pair (.old (.pair (.int .i64) (.int .i64))) (.pair (.old (.pair .str (.pair .str .bool))) (.old (.pair (.pair (.int .i64) (.int .i64)) (.pair .str .bool))))))))))], rets := [(true, [(none, (.int .i64)), (none, (.int .i64)), (none, (.int .i64)), (some 118, (.sl (.pair (.pair (.int .i64) (.int .i64)) (.pair (.pair (.int .i64) (.pair .str .str)) (.pair (.sl (.pair (.int .i64) (.int .i64))) .bool))))), (some 120, (.sl (.pair (.pair (.int .i64) (.int .i64)) (.int .i64)))), (some 82, (.sl (.pair (.int .i64) (.int .i64)))), (some 55, (.sl (.pair .str (.pair .str .bool)))), (some 122, (.sl (.pair (.pair (.int .i64) (.int .i64)) (.pair .str .bool))))])], F := ltoReplica }
noncomputable def X_ltoReplica : Ctx := XT.withΓ (lk [(46, c_ltoRecS), (47, c_ltoAckS), (48, c_ltoDotS), (49, c_ltoPairS), (50, c_ltoAnswerS)]) (lk [])
noncomputable def H_ltoReplica : Hints := ⟨lk [], lk [], lk []⟩
noncomputable def T_ltoReplica : Nat → Option (LoopF c_ltoReplica.Res) := lk []
theorem r_ltoReplica (a) : fnRun X_ltoReplica H_ltoReplica c_ltoReplica Try.f30 T_ltoReplica a = ltoReplica a := by kernel_rfl
theorem h_ltoReplica [Tabs] : CtrHolds Try.prog 30 c_ltoReplica := fn_ok (.cons h_ltoRecS Try.call46 (.cons h_ltoAckS Try.call47 (.cons h_ltoDotS Try.call48 (.cons h_ltoPairS Try.call49 (.cons h_ltoAnswerS Try.call50 .nil))))) .nil (H := H_ltoReplica) (tbl := T_ltoReplica) Try.func30 (by kernel_rfl) (loops0 (by kernel_rfl)) r_ltoReplica
/-! 16 ltoReplicaS -/
noncomputable def ltoReplicaS_L3 (O : Type) : Nat → (List (Int × Int × Int × List ((Int × Int) × (Int × List UInt8 × List UInt8) × List (Int × Int) × Bool) × List ((Int × Int) × Int) × List (Int × Int) × List (List UInt8 × List UInt8 × Bool) × List ((Int × Int) × List UInt8 × Bool)) × Int × List (Int × Int × Int × List ((Int × Int) × (Int × List UInt8 × List UInt8) × List (Int × Int) × Bool) × List ((Int × Int) × Int) × List (Int × Int) × List (List UInt8 × List UInt8 × Bool) × List ((Int × Int) × List UInt8 × Bool))) → ((List (Int × Int × Int × List ((Int × Int) × (Int × List UInt8 × List UInt8) × List (Int × Int) × Bool) × List ((Int × Int) × Int) × List (Int × Int) × List (List UInt8 × List UInt8 × Bool) × List ((Int × Int) × List UInt8 × Bool))) → Option O) → ((List (Int × Int × Int × List ((Int × Int) × (Int × List UInt8 × List UInt8) × List (Int × Int) × Bool) × List ((Int × Int) × Int) × List (Int × Int) × List (List UInt8 × List UInt8 × Bool) × List ((Int × Int) × List UInt8 × Bool))) → Option O) → Option O
  | 0, _, _, _ => none
  | q + 1, (a1, i2, out3), x, r => (cond (decide (i2 < ((a1.length : Nat) : Int))) (cond (decide ((0 : Int) ≤ i2) && decide (i2 < ((a1.length : Nat) : Int))) ((ltoReplica ((nth a1 i2).1, (nth a1 i2).2.1, (nth a1 i2).2.2.1, (nth a1 i2).2.2.2.1, (nth a1 i2).2.2.2.2.1, (nth a1 i2).2.2.2.2.2.1, (nth a1 i2).2.2.2.2.2.2.1, (nth a1 i2).2.2.2.2.2.2.2)).bind fun (r4, r5, r6, r7, r8, r9, r10, r11) => (cond (decide ((0 : Int) ≤ i2) && decide (i2 < ((out3.length : Nat) : Int))) (ltoReplicaS_L3 O q (a1, (IntKind.wrap .i64 (i2 + (1 : Int))), (List.set out3 (Int.toNat i2) (r4, r5, r6, r7, r8, r9, r10, r11))) x r) none)) none) (x out3))
noncomputable def ltoReplicaS : (List (Int × Int × Int × List ((Int × Int) × (Int × List UInt8 × List UInt8) × List (Int × Int) × Bool) × List ((Int × Int) × Int) × List (Int × Int) × List (List UInt8 × List UInt8 × Bool) × List ((Int × Int) × List UInt8 × Bool))) → Option (List (Int × Int × Int × List ((Int × Int) × (Int × List UInt8 × List UInt8) × List (Int × Int) × Bool) × List ((Int × Int) × Int) × List (Int × Int) × List (List UInt8 × List UInt8 × Bool) × List ((Int × Int) × List UInt8 × Bool)))
  | a0 => (cond (decide ((0 : Int) ≤ ((a0.length : Nat) : Int)) && ((((a0.length : Nat) : Int) == ((a0.length : Nat) : Int)) && decide (((a0.length : Nat) : Int) ≤ (4294967296 : Int)))) (ltoReplicaS_L3 (List (Int × Int × Int × List ((Int × Int) × (Int × List UInt8 × List UInt8) × List (Int × Int) × Bool) × List ((Int × Int) × Int) × List (Int × Int) × List (List UInt8 × List UInt8 × Bool) × List ((Int × Int) × List UInt8 × Bool))) fuel (a0, (0 : Int), (List.replicate (Int.toNat ((a0.length : Nat) : Int)) ((0 : Int), (0 : Int), (0 : Int), [], [], [], [], []))) (fun out12 => (some out12)) some) none)
noncomputable def c_ltoReplicaS : Ctr := { args := [.val false (.old (.pair (.int .i64) (.pair (.int .i64) (.pair (.int .i64) (.pair (.old (.pair (.pair (.int .i64) (.int .i64)) (.pair (.pair (.int .i64) (.pair .str .str)) (.pair (.old (.pair (.int .i64) (.int .i64))) .bool)))) (.pair (.old (.pair (.pair (.int .i64) (.int .i64)) (.int .i64))) (.pair (.old (.pair (.int .i64) (.int .i64))) (.pair (.old (.pair .str (.pair .str .bool))) (.old (.pair (.pair (.int .i64) (.int .i64)) (.pair .str .bool)))))))))))], rets := [(false, [(some 49, (.sl (.pair (.int .i64) (.pair (.int .i64) (.pair (.int .i64) (.pair (.sl (.pair (.pair (.int .i64) (.int .i64)) (.pair (.pair (.int .i64) (.pair .str .str)) (.pair (.sl (.pair (.int .i64) (.int .i64))) .bool)))) (.pair (.sl (.pair (.pair (.int .i64) (.int .i64)) (.int .i64))) (.pair (.sl (.pair (.int .i64) (.int .i64))) (.pair (.sl (.pair .str (.pair .str .bool))) (.sl (.pair (.pair (.int .i64) (.int .i64)) (.pair .str .bool))))))))))))])], F := ltoReplicaS }
noncomputable def X_ltoReplicaS : Ctx := XT.withΓ (lk [(30, c_ltoReplica)]) (lk [])
noncomputable def H_ltoReplicaS : Hints := ⟨lk [], lk [], lk []⟩
noncomputable def L_ltoReplicaS_3 : LoopF c_ltoReplicaS.Res := ⟨⟨23, [(0, .one (.val (.old (.pair (.int .i64) (.pair (.int .i64) (.pair (.int .i64) (.pair (.old (.pair (.pair (.int .i64) (.int .i64)) (.pair (.pair (.int .i64) (.pair .str .str)) (.pair (.old (.pair (.int .i64) (.int .i64))) .bool)))) (.pair (.old (.pair (.pair (.int .i64) (.int .i64)) (.int .i64))) (.pair (.old (.pair (.int .i64) (.int .i64))) (.pair (.old (.pair .str (.pair .str .bool))) (.old (.pair (.pair (.int .i64) (.int .i64)) (.pair .str .bool))))))))))))), (3, .one (.own 0)), (4, .one (.val (.int .i64)))], [.arr 49 (.pair (.int .i64) (.pair (.int .i64) (.pair (.int .i64) (.pair (.sl (.pair (.pair (.int .i64) (.int .i64)) (.pair (.pair (.int .i64) (.pair .str .str)) (.pair (.sl (.pair (.int .i64) (.int .i64))) .bool)))) (.pair (.sl (.pair (.pair (.int .i64) (.int .i64)) (.int .i64))) (.pair (.sl (.pair (.int .i64) (.int .i64))) (.pair (.sl (.pair .str (.pair .str .bool))) (.sl (.pair (.pair (.int .i64) (.int .i64)) (.pair .str .bool))))))))))], []⟩, [(0, ⟨23, [(3, .one (.own 0))], [.arr 49 (.pair (.int .i64) (.pair (.int .i64) (.pair (.int .i64) (.pair (.sl (.pair (.pair (.int .i64) (.int .i64)) (.pair (.pair (.int .i64) (.pair .str .str)) (.pair (.sl (.pair (.int .i64) (.int .i64))) .bool)))) (.pair (.sl (.pair (.pair (.int .i64) (.int .i64)) (.int .i64))) (.pair (.sl (.pair (.int .i64) (.int .i64))) (.pair (.sl (.pair .str (.pair .str .bool))) (.sl (.pair (.pair (.int .i64) (.int .i64)) (.pair .str .bool))))))))))], []⟩)], ltoReplicaS_L3⟩
noncomputable def T_ltoReplicaS : Nat → Option (LoopF c_ltoReplicaS.Res) := lk [(3, L_ltoReplicaS_3)]
theorem s_ltoReplicaS_3 : StepOk X_ltoReplicaS H_ltoReplicaS (c_ltoReplicaS.finish X_ltoReplicaS Try.f16.results.toList) T_ltoReplicaS (loopAt Try.f16 0) := ⟨L_ltoReplicaS_3, by kernel_rfl, fun O y x r => by kernel_rfl, fun O k y x r => by kernel_rfl⟩
theorem r_ltoReplicaS (a) : fnRun X_ltoReplicaS H_ltoReplicaS c_ltoReplicaS Try.f16 T_ltoReplicaS a = ltoReplicaS a := by kernel_rfl
theorem h_ltoReplicaS [Tabs] : CtrHolds Try.prog 16 c_ltoReplicaS := fn_ok (.cons h_ltoReplica Try.call30 .nil) .nil (H := H_ltoReplicaS) (tbl := T_ltoReplicaS) Try.func16 (by kernel_rfl) (loops1 (by kernel_rfl) s_ltoReplicaS_3) r_ltoReplicaS
/-! 31 ltoMsg -/
noncomputable def ltoMsg : (Int × Int × Int × (Int × Int) × (Int × List UInt8 × List UInt8) × List (Int × Int)) → Option (Int × Int × Int × Int × Int × Int × List UInt8 × List UInt8 × List (Int × Int))
  | (a0, a1, a2, (a3, a4), (a5, a6, a7), a8) => ((ltoDot (a3, a4)).bind fun (r9, r10) => ((ltoCmd (a5, a6, a7)).bind fun (r11, r12, r13) => ((ltoDotS a8).bind fun r14 => (some (a0, a1, a2, r9, r10, r11, r12, r13, r14)))))
noncomputable def c_ltoMsg : Ctr := { args := [.val true (.pair (.int .i64) (.pair (.int .i64) (.pair (.int .i64) (.pair (.pair (.int .i64) (.int .i64)) (.pair (.pair (.int .i64) (.pair .str .str)) (.old (.pair (.int .i64) (.int .i64))))))))], rets := [(true, [(none, (.int .i64)), (none, (.int .i64)), (none, (.int .i64)), (none, (.int .i64)), (none, (.int .i64)), (none, (.int .i64)), (none, .str), (none, .str), (some 82, (.sl (.pair (.int .i64) (.int .i64))))])], F := ltoMsg }
noncomputable def X_ltoMsg : Ctx := XT.withΓ (lk [(51, c_ltoDot), (52, c_ltoCmd), (48, c_ltoDotS)]) (lk [])
noncomputable def H_ltoMsg : Hints := ⟨lk [], lk [], lk []⟩
noncomputable def T_ltoMsg : Nat → Option (LoopF c_ltoMsg.Res) := lk []
theorem r_ltoMsg (a) : fnRun X_ltoMsg H_ltoMsg c_ltoMsg Try.f31 T_ltoMsg a = ltoMsg a := by kernel_rfl
theorem h_ltoMsg [Tabs] : CtrHolds Try.prog 31 c_ltoMsg := fn_ok (.cons h_ltoDot Try.call51 (.cons h_ltoCmd Try.call52 (.cons h_ltoDotS Try.call48 .nil))) .nil (H := H_ltoMsg) (tbl := T_ltoMsg) Try.func31 (by kernel_rfl) (loops0 (by kernel_rfl)) r_ltoMsg
/-! 17 ltoMsgS -/
noncomputable def ltoMsgS_L3 (O : Type) : Nat → (List (Int × Int × Int × (Int × Int) × (Int × List UInt8 × List UInt8) × List (Int × Int)) × Int × List (Int × Int × Int × (Int × Int) × (Int × List UInt8 × List UInt8) × List (Int × Int))) → ((List (Int × Int × Int × (Int × Int) × (Int × List UInt8 × List UInt8) × List (Int × Int))) → Option O) → ((List (Int × Int × Int × (Int × Int) × (Int × List UInt8 × List UInt8) × List (Int × Int))) → Option O) → Option O
  | 0, _, _, _ => none
  | q + 1, (a1, i2, out3), x, r => (cond (decide (i2 < ((a1.length : Nat) : Int))) (cond (decide ((0 : Int) ≤ i2) && decide (i2 < ((a1.length : Nat) : Int))) ((ltoMsg ((nth a1 i2).1, (nth a1 i2).2.1, (nth a1 i2).2.2.1, ((nth a1 i2).2.2.2.1.1, (nth a1 i2).2.2.2.1.2), ((nth a1 i2).2.2.2.2.1.1, (nth a1 i2).2.2.2.2.1.2.1, (nth a1 i2).2.2.2.2.1.2.2), (nth a1 i2).2.2.2.2.2)).bind fun (r4, r5, r6, r7, r8, r9, r10, r11, r12) => (cond (decide ((0 : Int) ≤ i2) && decide (i2 < ((out3.length : Nat) : Int))) (ltoMsgS_L3 O q (a1, (IntKind.wrap .i64 (i2 + (1 : Int))), (List.set out3 (Int.toNat i2) (r4, r5, r6, (r7, r8), (r9, r10, r11), r12))) x r) none)) none) (x out3))
noncomputable def ltoMsgS : (List (Int × Int × Int × (Int × Int) × (Int × List UInt8 × List UInt8) × List (Int × Int))) → Option (List (Int × Int × Int × (Int × Int) × (Int × List UInt8 × List UInt8) × List (Int × Int)))
  | a0 => (cond (decide ((0 : Int) ≤ ((a0.length : Nat) : Int)) && ((((a0.length : Nat) : Int) == ((a0.length : Nat) : Int)) && decide (((a0.length : Nat) : Int) ≤ (4294967296 : Int)))) (ltoMsgS_L3 (List (Int × Int × Int × (Int × Int) × (Int × List UInt8 × List UInt8) × List (Int × Int))) fuel (a0, (0 : Int), (List.replicate (Int.toNat ((a0.length : Nat) : Int)) ((0 : Int), (0 : Int), (0 : Int), ((0 : Int), (0 : Int)), ((0 : Int), [], []), []))) (fun out13 => (some out13)) some) none)
noncomputable def c_ltoMsgS : Ctr := { args := [.val false (.old (.pair (.int .i64) (.pair (.int .i64) (.pair (.int .i64) (.pair (.pair (.int .i64) (.int .i64)) (.pair (.pair (.int .i64) (.pair .str .str)) (.old (.pair (.int .i64) (.int .i64)))))))))], rets := [(false, [(some 85, (.sl (.pair (.int .i64) (.pair (.int .i64) (.pair (.int .i64) (.pair (.pair (.int .i64) (.int .i64)) (.pair (.pair (.int .i64) (.pair .str .str)) (.sl (.pair (.int .i64) (.int .i64))))))))))])], F := ltoMsgS }
noncomputable def X_ltoMsgS : Ctx := XT.withΓ (lk [(31, c_ltoMsg)]) (lk [])
noncomputable def H_ltoMsgS : Hints := ⟨lk [], lk [], lk []⟩
noncomputable def L_ltoMsgS_3 : LoopF c_ltoMsgS.Res := ⟨⟨23, [(0, .one (.val (.old (.pair (.int .i64) (.pair (.int .i64) (.pair (.int .i64) (.pair (.pair (.int .i64) (.int .i64)) (.pair (.pair (.int .i64) (.pair .str .str)) (.old (.pair (.int .i64) (.int .i64))))))))))), (3, .one (.own 0)), (4, .one (.val (.int .i64)))], [.arr 85 (.pair (.int .i64) (.pair (.int .i64) (.pair (.int .i64) (.pair (.pair (.int .i64) (.int .i64)) (.pair (.pair (.int .i64) (.pair .str .str)) (.sl (.pair (.int .i64) (.int .i64))))))))], []⟩, [(0, ⟨23, [(3, .one (.own 0))], [.arr 85 (.pair (.int .i64) (.pair (.int .i64) (.pair (.int .i64) (.pair (.pair (.int .i64) (.int .i64)) (.pair (.pair (.int .i64) (.pair .str .str)) (.sl (.pair (.int .i64) (.int .i64))))))))], []⟩)], ltoMsgS_L3⟩
noncomputable def T_ltoMsgS : Nat → Option (LoopF c_ltoMsgS.Res) := lk [(3, L_ltoMsgS_3)]
theorem s_ltoMsgS_3 : StepOk X_ltoMsgS H_ltoMsgS (c_ltoMsgS.finish X_ltoMsgS Try.f17.results.toList) T_ltoMsgS (loopAt Try.f17 0) := ⟨L_ltoMsgS_3, by kernel_rfl, fun O y x r => by kernel_rfl, fun O k y x r => by kernel_rfl⟩
theorem r_ltoMsgS (a) : fnRun X_ltoMsgS H_ltoMsgS c_ltoMsgS Try.f17 T_ltoMsgS a = ltoMsgS a := by kernel_rfl
theorem h_ltoMsgS [Tabs] : CtrHolds Try.prog 17 c_ltoMsgS := fn_ok (.cons h_ltoMsg Try.call31 .nil) .nil (H := H_ltoMsgS) (tbl := T_ltoMsgS) Try.func17 (by kernel_rfl) (loops1 (by kernel_rfl) s_ltoMsgS_3) r_ltoMsgS
/-! 32 ltoAsked -/
noncomputable def ltoAsked : ((Int × Int) × (Int × List UInt8 × List UInt8) × List (Int × Int)) → Option (Int × Int × Int × List UInt8 × List UInt8 × List (Int × Int))
  | ((a0, a1), (a2, a3, a4), a5) => ((ltoDot (a0, a1)).bind fun (r6, r7) => ((ltoCmd (a2, a3, a4)).bind fun (r8, r9, r10) => ((ltoDotS a5).bind fun r11 => (some (r6, r7, r8, r9, r10, r11)))))
noncomputable def c_ltoAsked : Ctr := { args := [.val true (.pair (.pair (.int .i64) (.int .i64)) (.pair (.pair (.int .i64) (.pair .str .str)) (.old (.pair (.int .i64) (.int .i64)))))], rets := [(true, [(none, (.int .i64)), (none, (.int .i64)), (none, (.int .i64)), (none, .str), (none, .str), (some 82, (.sl (.pair (.int .i64) (.int .i64))))])], F := ltoAsked }
noncomputable def X_ltoAsked : Ctx := XT.withΓ (lk [(51, c_ltoDot), (52, c_ltoCmd), (48, c_ltoDotS)]) (lk [])
noncomputable def H_ltoAsked : Hints := ⟨lk [], lk [], lk []⟩
noncomputable def T_ltoAsked : Nat → Option (LoopF c_ltoAsked.Res) := lk []
theorem r_ltoAsked (a) : fnRun X_ltoAsked H_ltoAsked c_ltoAsked Try.f32 T_ltoAsked a = ltoAsked a := by kernel_rfl
theorem h_ltoAsked [Tabs] : CtrHolds Try.prog 32 c_ltoAsked := fn_ok (.cons h_ltoDot Try.call51 (.cons h_ltoCmd Try.call52 (.cons h_ltoDotS Try.call48 .nil))) .nil (H := H_ltoAsked) (tbl := T_ltoAsked) Try.func32 (by kernel_rfl) (loops0 (by kernel_rfl)) r_ltoAsked
/-! 18 ltoAskedS -/
noncomputable def ltoAskedS_L3 (O : Type) : Nat → (List ((Int × Int) × (Int × List UInt8 × List UInt8) × List (Int × Int)) × Int × List ((Int × Int) × (Int × List UInt8 × List UInt8) × List (Int × Int))) → ((List ((Int × Int) × (Int × List UInt8 × List UInt8) × List (Int × Int))) → Option O) → ((List ((Int × Int) × (Int × List UInt8 × List UInt8) × List (Int × Int))) → Option O) → Option O
  | 0, _, _, _ => none
  | q + 1, (a1, i2, out3), x, r => (cond (decide (i2 < ((a1.length : Nat) : Int))) (cond (decide ((0 : Int) ≤ i2) && decide (i2 < ((a1.length : Nat) : Int))) ((ltoAsked (((nth a1 i2).1.1, (nth a1 i2).1.2), ((nth a1 i2).2.1.1, (nth a1 i2).2.1.2.1, (nth a1 i2).2.1.2.2), (nth a1 i2).2.2)).bind fun (r4, r5, r6, r7, r8, r9) => (cond (decide ((0 : Int) ≤ i2) && decide (i2 < ((out3.length : Nat) : Int))) (ltoAskedS_L3 O q (a1, (IntKind.wrap .i64 (i2 + (1 : Int))), (List.set out3 (Int.toNat i2) ((r4, r5), (r6, r7, r8), r9))) x r) none)) none) (x out3))
noncomputable def ltoAskedS : (List ((Int × Int) × (Int × List UInt8 × List UInt8) × List (Int × Int))) → Option (List ((Int × Int) × (Int × List UInt8 × List UInt8) × List (Int × Int)))
  | a0 => (cond (decide ((0 : Int) ≤ ((a0.length : Nat) : Int)) && ((((a0.length : Nat) : Int) == ((a0.length : Nat) : Int)) && decide (((a0.length : Nat) : Int) ≤ (4294967296 : Int)))) (ltoAskedS_L3 (List ((Int × Int) × (Int × List UInt8 × List UInt8) × List (Int × Int))) fuel (a0, (0 : Int), (List.replicate (Int.toNat ((a0.length : Nat) : Int)) (((0 : Int), (0 : Int)), ((0 : Int), [], []), []))) (fun out10 => (some out10)) some) none)
noncomputable def c_ltoAskedS : Ctr := { args := [.val false (.old (.pair (.pair (.int .i64) (.int .i64)) (.pair (.pair (.int .i64) (.pair .str .str)) (.old (.pair (.int .i64) (.int .i64))))))], rets := [(false, [(some 88, (.sl (.pair (.pair (.int .i64) (.int .i64)) (.pair (.pair (.int .i64) (.pair .str .str)) (.sl (.pair (.int .i64) (.int .i64)))))))])], F := ltoAskedS }
noncomputable def X_ltoAskedS : Ctx := XT.withΓ (lk [(32, c_ltoAsked)]) (lk [])
noncomputable def H_ltoAskedS : Hints := ⟨lk [], lk [], lk []⟩
noncomputable def L_ltoAskedS_3 : LoopF c_ltoAskedS.Res := ⟨⟨23, [(0, .one (.val (.old (.pair (.pair (.int .i64) (.int .i64)) (.pair (.pair (.int .i64) (.pair .str .str)) (.old (.pair (.int .i64) (.int .i64)))))))), (3, .one (.own 0)), (4, .one (.val (.int .i64)))], [.arr 88 (.pair (.pair (.int .i64) (.int .i64)) (.pair (.pair (.int .i64) (.pair .str .str)) (.sl (.pair (.int .i64) (.int .i64)))))], []⟩, [(0, ⟨23, [(3, .one (.own 0))], [.arr 88 (.pair (.pair (.int .i64) (.int .i64)) (.pair (.pair (.int .i64) (.pair .str .str)) (.sl (.pair (.int .i64) (.int .i64)))))], []⟩)], ltoAskedS_L3⟩
noncomputable def T_ltoAskedS : Nat → Option (LoopF c_ltoAskedS.Res) := lk [(3, L_ltoAskedS_3)]
theorem s_ltoAskedS_3 : StepOk X_ltoAskedS H_ltoAskedS (c_ltoAskedS.finish X_ltoAskedS Try.f18.results.toList) T_ltoAskedS (loopAt Try.f18 0) := ⟨L_ltoAskedS_3, by kernel_rfl, fun O y x r => by kernel_rfl, fun O k y x r => by kernel_rfl⟩
theorem r_ltoAskedS (a) : fnRun X_ltoAskedS H_ltoAskedS c_ltoAskedS Try.f18 T_ltoAskedS a = ltoAskedS a := by kernel_rfl
theorem h_ltoAskedS [Tabs] : CtrHolds Try.prog 18 c_ltoAskedS := fn_ok (.cons h_ltoAsked Try.call32 .nil) .nil (H := H_ltoAskedS) (tbl := T_ltoAskedS) Try.func18 (by kernel_rfl) (loops1 (by kernel_rfl) s_ltoAskedS_3) r_ltoAskedS
/-! 6 ltoCluster -/
noncomputable def ltoCluster : (List (Int × Int × Int × List ((Int × Int) × (Int × List UInt8 × List UInt8) × List (Int × Int) × Bool) × List ((Int × Int) × Int) × List (Int × Int) × List (List UInt8 × List UInt8 × Bool) × List ((Int × Int) × List UInt8 × Bool)) × List (Int × Int × Int × (Int × Int) × (Int × List UInt8 × List UInt8) × List (Int × Int)) × List ((Int × Int) × (Int × List UInt8 × List UInt8) × List (Int × Int))) → Option (List (Int × Int × Int × List ((Int × Int) × (Int × List UInt8 × List UInt8) × List (Int × Int) × Bool) × List ((Int × Int) × Int) × List (Int × Int) × List (List UInt8 × List UInt8 × Bool) × List ((Int × Int) × List UInt8 × Bool)) × List (Int × Int × Int × (Int × Int) × (Int × List UInt8 × List UInt8) × List (Int × Int)) × List ((Int × Int) × (Int × List UInt8 × List UInt8) × List (Int × Int)))
  | (a0, a1, a2) => ((ltoReplicaS a0).bind fun r3 => ((ltoMsgS a1).bind fun r4 => ((ltoAskedS a2).bind fun r5 => (some (r3, r4, r5)))))
noncomputable def c_ltoCluster : Ctr := { args := [.val true (.pair (.old (.pair (.int .i64) (.pair (.int .i64) (.pair (.int .i64) (.pair (.old (.pair (.pair (.int .i64) (.int .i64)) (.pair (.pair (.int .i64) (.pair .str .str)) (.pair (.old (.pair (.int .i64) (.int .i64))) .bool)))) (.pair (.old (.pair (.pair (.int .i64) (.int .i64)) (.int .i64))) (.pair (.old (.pair (.int .i64) (.int .i64))) (.pair (.old (.pair .str (.pair .str .bool))) (.old (.pair (.pair (.int .i64) (.int .i64)) (.pair .str .bool))))))))))) (.pair (.old (.pair (.int .i64) (.pair (.int .i64) (.pair (.int .i64) (.pair (.pair (.int .i64) (.int .i64)) (.pair (.pair (.int .i64) (.pair .str .str)) (.old (.pair (.int .i64) (.int .i64))))))))) (.old (.pair (.pair (.int .i64) (.int .i64)) (.pair (.pair (.int .i64) (.pair .str .str)) (.old (.pair (.int .i64) (.int .i64))))))))], rets := [(true, [(some 49, (.sl (.pair (.int .i64) (.pair (.int .i64) (.pair (.int .i64) (.pair (.sl (.pair (.pair (.int .i64) (.int .i64)) (.pair (.pair (.int .i64) (.pair .str .str)) (.pair (.sl (.pair (.int .i64) (.int .i64))) .bool)))) (.pair (.sl (.pair (.pair (.int .i64) (.int .i64)) (.int .i64))) (.pair (.sl (.pair (.int .i64) (.int .i64))) (.pair (.sl (.pair .str (.pair .str .bool))) (.sl (.pair (.pair (.int .i64) (.int .i64)) (.pair .str .bool)))))))))))), (some 85, (.sl (.pair (.int .i64) (.pair (.int .i64) (.pair (.int .i64) (.pair (.pair (.int .i64) (.int .i64)) (.pair (.pair (.int .i64) (.pair .str .str)) (.sl (.pair (.int .i64) (.int .i64)))))))))), (some 88, (.sl (.pair (.pair (.int .i64) (.int .i64)) (.pair (.pair (.int .i64) (.pair .str .str)) (.sl (.pair (.int .i64) (.int .i64)))))))])], F := ltoCluster }
noncomputable def X_ltoCluster : Ctx := XT.withΓ (lk [(16, c_ltoReplicaS), (17, c_ltoMsgS), (18, c_ltoAskedS)]) (lk [])
noncomputable def H_ltoCluster : Hints := ⟨lk [], lk [], lk []⟩
noncomputable def T_ltoCluster : Nat → Option (LoopF c_ltoCluster.Res) := lk []
theorem r_ltoCluster (a) : fnRun X_ltoCluster H_ltoCluster c_ltoCluster Try.f6 T_ltoCluster a = ltoCluster a := by kernel_rfl
theorem h_ltoCluster [Tabs] : CtrHolds Try.prog 6 c_ltoCluster := fn_ok (.cons h_ltoReplicaS Try.call16 (.cons h_ltoMsgS Try.call17 (.cons h_ltoAskedS Try.call18 .nil))) .nil (H := H_ltoCluster) (tbl := T_ltoCluster) Try.func6 (by kernel_rfl) (loops0 (by kernel_rfl)) r_ltoCluster
/-! 5 sFinal -/
noncomputable def sFinal : (List (Int × Int × Int × List ((Int × Int) × (Int × List UInt8 × List UInt8) × List (Int × Int) × Bool) × List ((Int × Int) × Int) × List (Int × Int) × List (List UInt8 × List UInt8 × Bool) × List ((Int × Int) × List UInt8 × Bool)) × List (Int × Int × Int × (Int × Int) × (Int × List UInt8 × List UInt8) × List (Int × Int)) × List ((Int × Int) × (Int × List UInt8 × List UInt8) × List (Int × Int))) → Option (List (List UInt8 × List UInt8 × Bool))
  | (w0, w1, w2) => (cond (((w0.length : Nat) : Int) == (0 : Int)) (some []) (cond (decide ((0 : Int) < ((w0.length : Nat) : Int))) (cond (decide ((0 + (nth w0 (0 : Int)).2.2.2.2.2.2.1.length) ≤ lenBound)) (some ([] ++ (nth w0 (0 : Int)).2.2.2.2.2.2.1)) none) none))
noncomputable def c_sFinal : Ctr := { args := [.val true (.pair (.sl (.pair (.int .i64) (.pair (.int .i64) (.pair (.int .i64) (.pair (.sl (.pair (.pair (.int .i64) (.int .i64)) (.pair (.pair (.int .i64) (.pair .str .str)) (.pair (.sl (.pair (.int .i64) (.int .i64))) .bool)))) (.pair (.sl (.pair (.pair (.int .i64) (.int .i64)) (.int .i64))) (.pair (.sl (.pair (.int .i64) (.int .i64))) (.pair (.sl (.pair .str (.pair .str .bool))) (.sl (.pair (.pair (.int .i64) (.int .i64)) (.pair .str .bool))))))))))) (.pair (.sl (.pair (.int .i64) (.pair (.int .i64) (.pair (.int .i64) (.pair (.pair (.int .i64) (.int .i64)) (.pair (.pair (.int .i64) (.pair .str .str)) (.sl (.pair (.int .i64) (.int .i64))))))))) (.sl (.pair (.pair (.int .i64) (.int .i64)) (.pair (.pair (.int .i64) (.pair .str .str)) (.sl (.pair (.int .i64) (.int .i64))))))))], rets := [(false, [(some 55, (.sl (.pair .str (.pair .str .bool))))])], F := sFinal }
noncomputable def X_sFinal : Ctx := XT.withΓ (lk []) (lk [])
noncomputable def H_sFinal : Hints := ⟨lk [], lk [], lk []⟩
noncomputable def T_sFinal : Nat → Option (LoopF c_sFinal.Res) := lk []
theorem r_sFinal (a) : fnRun X_sFinal H_sFinal c_sFinal Try.f5 T_sFinal a = sFinal a := by kernel_rfl
theorem h_sFinal [Tabs] : CtrHolds Try.prog 5 c_sFinal := fn_ok .nil .nil (H := H_sFinal) (tbl := T_sFinal) Try.func5 (by kernel_rfl) (loops0 (by kernel_rfl)) r_sFinal
/-! 7 iFinal -/
noncomputable def iFinal : (List (Int × Int × Int × List ((Int × Int) × (Int × List UInt8 × List UInt8) × List (Int × Int) × Bool) × List ((Int × Int) × Int) × List (Int × Int) × List (List UInt8 × List UInt8 × Bool) × List ((Int × Int) × List UInt8 × Bool)) × List (Int × Int × Int × (Int × Int) × (Int × List UInt8 × List UInt8) × List (Int × Int)) × List ((Int × Int) × (Int × List UInt8 × List UInt8) × List (Int × Int))) → Option (List (List UInt8 × List UInt8 × Bool))
  | (w0, w1, w2) => (cond (((w0.length : Nat) : Int) == (0 : Int)) (some []) (cond (decide ((0 : Int) < ((w0.length : Nat) : Int))) (cond (decide ((nth w0 (0 : Int)).2.2.2.2.2.2.1.length ≤ lenBound)) (some (nth w0 (0 : Int)).2.2.2.2.2.2.1) none) none))
noncomputable def c_iFinal : Ctr := { args := [.val true (.pair (.sl (.pair (.int .i64) (.pair (.int .i64) (.pair (.int .i64) (.pair (.sl (.pair (.pair (.int .i64) (.int .i64)) (.pair (.pair (.int .i64) (.pair .str .str)) (.pair (.sl (.pair (.int .i64) (.int .i64))) .bool)))) (.pair (.sl (.pair (.pair (.int .i64) (.int .i64)) (.int .i64))) (.pair (.sl (.pair (.int .i64) (.int .i64))) (.pair (.sl (.pair .str (.pair .str .bool))) (.sl (.pair (.pair (.int .i64) (.int .i64)) (.pair .str .bool))))))))))) (.pair (.sl (.pair (.int .i64) (.pair (.int .i64) (.pair (.int .i64) (.pair (.pair (.int .i64) (.int .i64)) (.pair (.pair (.int .i64) (.pair .str .str)) (.sl (.pair (.int .i64) (.int .i64))))))))) (.sl (.pair (.pair (.int .i64) (.int .i64)) (.pair (.pair (.int .i64) (.pair .str .str)) (.sl (.pair (.int .i64) (.int .i64))))))))], rets := [(false, [(some 55, (.sl (.pair .str (.pair .str .bool))))])], F := iFinal }
noncomputable def X_iFinal : Ctx := XT.withΓ (lk []) (lk [])
noncomputable def H_iFinal : Hints := ⟨lk [], lk [], lk []⟩
noncomputable def T_iFinal : Nat → Option (LoopF c_iFinal.Res) := lk []
theorem r_iFinal (a) : fnRun X_iFinal H_iFinal c_iFinal Try.f7 T_iFinal a = iFinal a := by kernel_rfl
theorem h_iFinal [Tabs] : CtrHolds Try.prog 7 c_iFinal := fn_ok .nil .nil (H := H_iFinal) (tbl := T_iFinal) Try.func7 (by kernel_rfl) (loops0 (by kernel_rfl)) r_iFinal
/-! 19 leqPair -/
noncomputable def leqPair : ((List UInt8 × List UInt8 × Bool) × List UInt8 × List UInt8 × Bool) → Option Bool
  | ((a0, a1, a2), b3, b4, b5) => (cond (!(a0 == b3)) (some false) (cond (!(a1 == b4)) (some false) (cond (!(a2 == b5)) (some false) (some true))))
noncomputable def c_leqPair : Ctr := { args := [.val true (.pair .str (.pair .str .bool)), .val true (.pair .str (.pair .str .bool))], rets := [(false, [(none, .bool)])], F := leqPair }
noncomputable def X_leqPair : Ctx := XT.withΓ (lk []) (lk [])
noncomputable def H_leqPair : Hints := ⟨lk [], lk [], lk []⟩
noncomputable def T_leqPair : Nat → Option (LoopF c_leqPair.Res) := lk []
theorem r_leqPair (a) : fnRun X_leqPair H_leqPair c_leqPair Try.f19 T_leqPair a = leqPair a := by kernel_rfl
theorem h_leqPair [Tabs] : CtrHolds Try.prog 19 c_leqPair := fn_ok .nil .nil (H := H_leqPair) (tbl := T_leqPair) Try.func19 (by kernel_rfl) (loops0 (by kernel_rfl)) r_leqPair
/-! 8 leqPairS -/
noncomputable def leqPairS_L4 (O : Type) : Nat → (List (List UInt8 × List UInt8 × Bool) × List (List UInt8 × List UInt8 × Bool) × Int) → (Unit → Option O) → (Bool → Option O) → Option O
  | 0, _, _, _ => none
  | q + 1, (a2, b3, i4), x, r => (cond (decide (i4 < ((a2.length : Nat) : Int))) (cond (decide ((0 : Int) ≤ i4) && decide (i4 < ((a2.length : Nat) : Int))) (cond (decide ((0 : Int) ≤ i4) && decide (i4 < ((b3.length : Nat) : Int))) ((leqPair (((nth a2 i4).1, (nth a2 i4).2.1, (nth a2 i4).2.2), (nth b3 i4).1, (nth b3 i4).2.1, (nth b3 i4).2.2)).bind fun r5 => (cond (!r5) (r false) (leqPairS_L4 O q (a2, b3, (IntKind.wrap .i64 (i4 + (1 : Int)))) x r))) none) none) (x ()))
noncomputable def leqPairS : (List (List UInt8 × List UInt8 × Bool) × List (List UInt8 × List UInt8 × Bool)) → Option Bool
  | (a0, b1) => (cond (((a0.length : Nat) : Int) != ((b1.length : Nat) : Int)) (some false) (leqPairS_L4 Bool fuel (a0, b1, (0 : Int)) (fun _ => (some true)) some))
noncomputable def c_leqPairS : Ctr := { args := [.val false (.sl (.pair .str (.pair .str .bool))), .val false (.sl (.pair .str (.pair .str .bool)))], rets := [(false, [(none, .bool)])], F := leqPairS }
noncomputable def X_leqPairS : Ctx := XT.withΓ (lk [(19, c_leqPair)]) (lk [])
noncomputable def H_leqPairS : Hints := ⟨lk [], lk [], lk []⟩
noncomputable def L_leqPairS_4 : LoopF c_leqPairS.Res := ⟨⟨27, [(0, .one (.val (.sl (.pair .str (.pair .str .bool))))), (1, .one (.val (.sl (.pair .str (.pair .str .bool))))), (5, .one (.val (.int .i64)))], [], []⟩, [(0, ⟨27, [], [], []⟩)], leqPairS_L4⟩
noncomputable def T_leqPairS : Nat → Option (LoopF c_leqPairS.Res) := lk [(4, L_leqPairS_4)]
theorem s_leqPairS_4 : StepOk X_leqPairS H_leqPairS (c_leqPairS.finish X_leqPairS Try.f8.results.toList) T_leqPairS (loopAt Try.f8 0) := ⟨L_leqPairS_4, by kernel_rfl, fun O y x r => by kernel_rfl, fun O k y x r => by kernel_rfl⟩
theorem r_leqPairS (a) : fnRun X_leqPairS H_leqPairS c_leqPairS Try.f8 T_leqPairS a = leqPairS a := by kernel_rfl
theorem h_leqPairS [Tabs] : CtrHolds Try.prog 8 c_leqPairS := fn_ok (.cons h_leqPair Try.call19 .nil) .nil (H := H_leqPairS) (tbl := T_leqPairS) Try.func8 (by kernel_rfl) (loops1 (by kernel_rfl) s_leqPairS_4) r_leqPairS
/-! 57 leqDot -/
noncomputable def leqDot : ((Int × Int) × Int × Int) → Option Bool
  | ((a0, a1), b2, b3) => (cond (a0 != b2) (some false) (cond (a1 != b3) (some false) (some true)))
noncomputable def c_leqDot : Ctr := { args := [.val true (.pair (.int .i64) (.int .i64)), .val true (.pair (.int .i64) (.int .i64))], rets := [(false, [(none, .bool)])], F := leqDot }
noncomputable def X_leqDot : Ctx := XT.withΓ (lk []) (lk [])
noncomputable def H_leqDot : Hints := ⟨lk [], lk [], lk []⟩
noncomputable def T_leqDot : Nat → Option (LoopF c_leqDot.Res) := lk []
theorem r_leqDot (a) : fnRun X_leqDot H_leqDot c_leqDot Try.f57 T_leqDot a = leqDot a := by kernel_rfl
theorem h_leqDot [Tabs] : CtrHolds Try.prog 57 c_leqDot := fn_ok .nil .nil (H := H_leqDot) (tbl := T_leqDot) Try.func57 (by kernel_rfl) (loops0 (by kernel_rfl)) r_leqDot
/-! 58 leqCmd -/
noncomputable def leqCmd : ((Int × List UInt8 × List UInt8) × Int × List UInt8 × List UInt8) → Option Bool
  | ((a0, a1, a2), b3, b4, b5) => (cond (a0 != b3) (some false) (cond (!(a1 == b4)) (some false) (cond (!(a2 == b5)) (some false) (some true))))
noncomputable def c_leqCmd : Ctr := { args := [.val true (.pair (.int .i64) (.pair .str .str)), .val true (.pair (.int .i64) (.pair .str .str))], rets := [(false, [(none, .bool)])], F := leqCmd }
noncomputable def X_leqCmd : Ctx := XT.withΓ (lk []) (lk [])
noncomputable def H_leqCmd : Hints := ⟨lk [], lk [], lk []⟩
noncomputable def T_leqCmd : Nat → Option (LoopF c_leqCmd.Res) := lk []
theorem r_leqCmd (a) : fnRun X_leqCmd H_leqCmd c_leqCmd Try.f58 T_leqCmd a = leqCmd a := by kernel_rfl
theorem h_leqCmd [Tabs] : CtrHolds Try.prog 58 c_leqCmd := fn_ok .nil .nil (H := H_leqCmd) (tbl := T_leqCmd) Try.func58 (by kernel_rfl) (loops0 (by kernel_rfl)) r_leqCmd
/-! 55 leqDotS -/
noncomputable def leqDotS_L4 (O : Type) : Nat → (List (Int × Int) × List (Int × Int) × Int) → (Unit → Option O) → (Bool → Option O) → Option O
  | 0, _, _, _ => none
  | q + 1, (a2, b3, i4), x, r => (cond (decide (i4 < ((a2.length : Nat) : Int))) (cond (decide ((0 : Int) ≤ i4) && decide (i4 < ((a2.length : Nat) : Int))) (cond (decide ((0 : Int) ≤ i4) && decide (i4 < ((b3.length : Nat) : Int))) ((leqDot (((nth a2 i4).1, (nth a2 i4).2), (nth b3 i4).1, (nth b3 i4).2)).bind fun r5 => (cond (!r5) (r false) (leqDotS_L4 O q (a2, b3, (IntKind.wrap .i64 (i4 + (1 : Int)))) x r))) none) none) (x ()))
noncomputable def leqDotS : (List (Int × Int) × List (Int × Int)) → Option Bool
  | (a0, b1) => (cond (((a0.length : Nat) : Int) != ((b1.length : Nat) : Int)) (some false) (leqDotS_L4 Bool fuel (a0, b1, (0 : Int)) (fun _ => (some true)) some))
noncomputable def c_leqDotS : Ctr := { args := [.val false (.sl (.pair (.int .i64) (.int .i64))), .val false (.sl (.pair (.int .i64) (.int .i64)))], rets := [(false, [(none, .bool)])], F := leqDotS }
noncomputable def X_leqDotS : Ctx := XT.withΓ (lk [(57, c_leqDot)]) (lk [])
noncomputable def H_leqDotS : Hints := ⟨lk [], lk [], lk []⟩
noncomputable def L_leqDotS_4 : LoopF c_leqDotS.Res := ⟨⟨27, [(0, .one (.val (.sl (.pair (.int .i64) (.int .i64))))), (1, .one (.val (.sl (.pair (.int .i64) (.int .i64))))), (5, .one (.val (.int .i64)))], [], []⟩, [(0, ⟨27, [], [], []⟩)], leqDotS_L4⟩
noncomputable def T_leqDotS : Nat → Option (LoopF c_leqDotS.Res) := lk [(4, L_leqDotS_4)]
theorem s_leqDotS_4 : StepOk X_leqDotS H_leqDotS (c_leqDotS.finish X_leqDotS Try.f55.results.toList) T_leqDotS (loopAt Try.f55 0) := ⟨L_leqDotS_4, by kernel_rfl, fun O y x r => by kernel_rfl, fun O k y x r => by kernel_rfl⟩
theorem r_leqDotS (a) : fnRun X_leqDotS H_leqDotS c_leqDotS Try.f55 T_leqDotS a = leqDotS a := by kernel_rfl
theorem h_leqDotS [Tabs] : CtrHolds Try.prog 55 c_leqDotS := fn_ok (.cons h_leqDot Try.call57 .nil) .nil (H := H_leqDotS) (tbl := T_leqDotS) Try.func55 (by kernel_rfl) (loops1 (by kernel_rfl) s_leqDotS_4) r_leqDotS
/-! 66 leqRec -/
noncomputable def leqRec : (((Int × Int) × (Int × List UInt8 × List UInt8) × List (Int × Int) × Bool) × (Int × Int) × (Int × List UInt8 × List UInt8) × List (Int × Int) × Bool) → Option Bool
  | (((a0, a1), (a2, a3, a4), a5, a6), (b7, b8), (b9, b10, b11), b12, b13) => ((leqDot ((a0, a1), b7, b8)).bind fun r14 => (cond (!r14) (some false) ((leqCmd ((a2, a3, a4), b9, b10, b11)).bind fun r15 => (cond (!r15) (some false) ((leqDotS (a5, b12)).bind fun r16 => (cond (!r16) (some false) (cond (!(a6 == b13)) (some false) (some true))))))))
noncomputable def c_leqRec : Ctr := { args := [.val true (.pair (.pair (.int .i64) (.int .i64)) (.pair (.pair (.int .i64) (.pair .str .str)) (.pair (.sl (.pair (.int .i64) (.int .i64))) .bool))), .val true (.pair (.pair (.int .i64) (.int .i64)) (.pair (.pair (.int .i64) (.pair .str .str)) (.pair (.sl (.pair (.int .i64) (.int .i64))) .bool)))], rets := [(false, [(none, .bool)])], F := leqRec }
noncomputable def X_leqRec : Ctx := XT.withΓ (lk [(57, c_leqDot), (58, c_leqCmd), (55, c_leqDotS)]) (lk [])
noncomputable def H_leqRec : Hints := ⟨lk [], lk [], lk []⟩
noncomputable def T_leqRec : Nat → Option (LoopF c_leqRec.Res) := lk []
theorem r_leqRec (a) : fnRun X_leqRec H_leqRec c_leqRec Try.f66 T_leqRec a = leqRec a := by kernel_rfl
theorem h_leqRec [Tabs] : CtrHolds Try.prog 66 c_leqRec := fn_ok (.cons h_leqDot Try.call57 (.cons h_leqCmd Try.call58 (.cons h_leqDotS Try.call55 .nil))) .nil (H := H_leqRec) (tbl := T_leqRec) Try.func66 (by kernel_rfl) (loops0 (by kernel_rfl)) r_leqRec
/-! 53 leqRecS -/
noncomputable def leqRecS_L4 (O : Type) : Nat → (List ((Int × Int) × (Int × List UInt8 × List UInt8) × List (Int × Int) × Bool) × List ((Int × Int) × (Int × List UInt8 × List UInt8) × List (Int × Int) × Bool) × Int) → (Unit → Option O) → (Bool → Option O) → Option O
  | 0, _, _, _ => none
  | q + 1, (a2, b3, i4), x, r => (cond (decide (i4 < ((a2.length : Nat) : Int))) (cond (decide ((0 : Int) ≤ i4) && decide (i4 < ((a2.length : Nat) : Int))) (cond (decide ((0 : Int) ≤ i4) && decide (i4 < ((b3.length : Nat) : Int))) ((leqRec ((((nth a2 i4).1.1, (nth a2 i4).1.2), ((nth a2 i4).2.1.1, (nth a2 i4).2.1.2.1, (nth a2 i4).2.1.2.2), (nth a2 i4).2.2.1, (nth a2 i4).2.2.2), ((nth b3 i4).1.1, (nth b3 i4).1.2), ((nth b3 i4).2.1.1, (nth b3 i4).2.1.2.1, (nth b3 i4).2.1.2.2), (nth b3 i4).2.2.1, (nth b3 i4).2.2.2)).bind fun r5 => (cond (!r5) (r false) (leqRecS_L4 O q (a2, b3, (IntKind.wrap .i64 (i4 + (1 : Int)))) x r))) none) none) (x ()))
noncomputable def leqRecS : (List ((Int × Int) × (Int × List UInt8 × List UInt8) × List (Int × Int) × Bool) × List ((Int × Int) × (Int × List UInt8 × List UInt8) × List (Int × Int) × Bool)) → Option Bool
  | (a0, b1) => (cond (((a0.length : Nat) : Int) != ((b1.length : Nat) : Int)) (some false) (leqRecS_L4 Bool fuel (a0, b1, (0 : Int)) (fun _ => (some true)) some))
noncomputable def c_leqRecS : Ctr := { args := [.val false (.sl (.pair (.pair (.int .i64) (.int .i64)) (.pair (.pair (.int .i64) (.pair .str .str)) (.pair (.sl (.pair (.int .i64) (.int .i64))) .bool)))), .val false (.sl (.pair (.pair (.int .i64) (.int .i64)) (.pair (.pair (.int .i64) (.pair .str .str)) (.pair (.sl (.pair (.int .i64) (.int .i64))) .bool))))], rets := [(false, [(none, .bool)])], F := leqRecS }
noncomputable def X_leqRecS : Ctx := XT.withΓ (lk [(66, c_leqRec)]) (lk [])
noncomputable def H_leqRecS : Hints := ⟨lk [], lk [], lk []⟩
noncomputable def L_leqRecS_4 : LoopF c_leqRecS.Res := ⟨⟨27, [(0, .one (.val (.sl (.pair (.pair (.int .i64) (.int .i64)) (.pair (.pair (.int .i64) (.pair .str .str)) (.pair (.sl (.pair (.int .i64) (.int .i64))) .bool)))))), (1, .one (.val (.sl (.pair (.pair (.int .i64) (.int .i64)) (.pair (.pair (.int .i64) (.pair .str .str)) (.pair (.sl (.pair (.int .i64) (.int .i64))) .bool)))))), (5, .one (.val (.int .i64)))], [], []⟩, [(0, ⟨27, [], [], []⟩)], leqRecS_L4⟩
noncomputable def T_leqRecS : Nat → Option (LoopF c_leqRecS.Res) := lk [(4, L_leqRecS_4)]
theorem s_leqRecS_4 : StepOk X_leqRecS H_leqRecS (c_leqRecS.finish X_leqRecS Try.f53.results.toList) T_leqRecS (loopAt Try.f53 0) := ⟨L_leqRecS_4, by kernel_rfl, fun O y x r => by kernel_rfl, fun O k y x r => by kernel_rfl⟩
theorem r_leqRecS (a) : fnRun X_leqRecS H_leqRecS c_leqRecS Try.f53 T_leqRecS a = leqRecS a := by kernel_rfl
theorem h_leqRecS [Tabs] : CtrHolds Try.prog 53 c_leqRecS := fn_ok (.cons h_leqRec Try.call66 .nil) .nil (H := H_leqRecS) (tbl := T_leqRecS) Try.func53 (by kernel_rfl) (loops1 (by kernel_rfl) s_leqRecS_4) r_leqRecS
/-! 67 leqAck -/
noncomputable def leqAck : (((Int × Int) × Int) × (Int × Int) × Int) → Option Bool
  | (((a0, a1), a2), (b3, b4), b5) => ((leqDot ((a0, a1), b3, b4)).bind fun r6 => (cond (!r6) (some false) (cond (a2 != b5) (some false) (some true))))
noncomputable def c_leqAck : Ctr := { args := [.val true (.pair (.pair (.int .i64) (.int .i64)) (.int .i64)), .val true (.pair (.pair (.int .i64) (.int .i64)) (.int .i64))], rets := [(false, [(none, .bool)])], F := leqAck }
noncomputable def X_leqAck : Ctx := XT.withΓ (lk [(57, c_leqDot)]) (lk [])
noncomputable def H_leqAck : Hints := ⟨lk [], lk [], lk []⟩
noncomputable def T_leqAck : Nat → Option (LoopF c_leqAck.Res) := lk []
theorem r_leqAck (a) : fnRun X_leqAck H_leqAck c_leqAck Try.f67 T_leqAck a = leqAck a := by kernel_rfl
theorem h_leqAck [Tabs] : CtrHolds Try.prog 67 c_leqAck := fn_ok (.cons h_leqDot Try.call57 .nil) .nil (H := H_leqAck) (tbl := T_leqAck) Try.func67 (by kernel_rfl) (loops0 (by kernel_rfl)) r_leqAck
/-! 54 leqAckS -/
noncomputable def leqAckS_L4 (O : Type) : Nat → (List ((Int × Int) × Int) × List ((Int × Int) × Int) × Int) → (Unit → Option O) → (Bool → Option O) → Option O
  | 0, _, _, _ => none
  | q + 1, (a2, b3, i4), x, r => (cond (decide (i4 < ((a2.length : Nat) : Int))) (cond (decide ((0 : Int) ≤ i4) && decide (i4 < ((a2.length : Nat) : Int))) (cond (decide ((0 : Int) ≤ i4) && decide (i4 < ((b3.length : Nat) : Int))) ((leqAck ((((nth a2 i4).1.1, (nth a2 i4).1.2), (nth a2 i4).2), ((nth b3 i4).1.1, (nth b3 i4).1.2), (nth b3 i4).2)).bind fun r5 => (cond (!r5) (r false) (leqAckS_L4 O q (a2, b3, (IntKind.wrap .i64 (i4 + (1 : Int)))) x r))) none) none) (x ()))
noncomputable def leqAckS : (List ((Int × Int) × Int) × List ((Int × Int) × Int)) → Option Bool
  | (a0, b1) => (cond (((a0.length : Nat) : Int) != ((b1.length : Nat) : Int)) (some false) (leqAckS_L4 Bool fuel (a0, b1, (0 : Int)) (fun _ => (some true)) some))
noncomputable def c_leqAckS : Ctr := { args := [.val false (.sl (.pair (.pair (.int .i64) (.int .i64)) (.int .i64))), .val false (.sl (.pair (.pair (.int .i64) (.int .i64)) (.int .i64)))], rets := [(false, [(none, .bool)])], F := leqAckS }
noncomputable def X_leqAckS : Ctx := XT.withΓ (lk [(67, c_leqAck)]) (lk [])
noncomputable def H_leqAckS : Hints := ⟨lk [], lk [], lk []⟩
noncomputable def L_leqAckS_4 : LoopF c_leqAckS.Res := ⟨⟨27, [(0, .one (.val (.sl (.pair (.pair (.int .i64) (.int .i64)) (.int .i64))))), (1, .one (.val (.sl (.pair (.pair (.int .i64) (.int .i64)) (.int .i64))))), (5, .one (.val (.int .i64)))], [], []⟩, [(0, ⟨27, [], [], []⟩)], leqAckS_L4⟩
noncomputable def T_leqAckS : Nat → Option (LoopF c_leqAckS.Res) := lk [(4, L_leqAckS_4)]
theorem s_leqAckS_4 : StepOk X_leqAckS H_leqAckS (c_leqAckS.finish X_leqAckS Try.f54.results.toList) T_leqAckS (loopAt Try.f54 0) := ⟨L_leqAckS_4, by kernel_rfl, fun O y x r => by kernel_rfl, fun O k y x r => by kernel_rfl⟩
theorem r_leqAckS (a) : fnRun X_leqAckS H_leqAckS c_leqAckS Try.f54 T_leqAckS a = leqAckS a := by kernel_rfl
theorem h_leqAckS [Tabs] : CtrHolds Try.prog 54 c_leqAckS := fn_ok (.cons h_leqAck Try.call67 .nil) .nil (H := H_leqAckS) (tbl := T_leqAckS) Try.func54 (by kernel_rfl) (loops1 (by kernel_rfl) s_leqAckS_4) r_leqAckS
/-! 68 leqAnswer -/
noncomputable def leqAnswer : (((Int × Int) × List UInt8 × Bool) × (Int × Int) × List UInt8 × Bool) → Option Bool
  | (((a0, a1), a2, a3), (b4, b5), b6, b7) => ((leqDot ((a0, a1), b4, b5)).bind fun r8 => (cond (!r8) (some false) (cond (!(a2 == b6)) (some false) (cond (!(a3 == b7)) (some false) (some true)))))
noncomputable def c_leqAnswer : Ctr := { args := [.val true (.pair (.pair (.int .i64) (.int .i64)) (.pair .str .bool)), .val true (.pair (.pair (.int .i64) (.int .i64)) (.pair .str .bool))], rets := [(false, [(none, .bool)])], F := leqAnswer }
noncomputable def X_leqAnswer : Ctx := XT.withΓ (lk [(57, c_leqDot)]) (lk [])
noncomputable def H_leqAnswer : Hints := ⟨lk [], lk [], lk []⟩
noncomputable def T_leqAnswer : Nat → Option (LoopF c_leqAnswer.Res) := lk []
theorem r_leqAnswer (a) : fnRun X_leqAnswer H_leqAnswer c_leqAnswer Try.f68 T_leqAnswer a = leqAnswer a := by kernel_rfl
theorem h_leqAnswer [Tabs] : CtrHolds Try.prog 68 c_leqAnswer := fn_ok (.cons h_leqDot Try.call57 .nil) .nil (H := H_leqAnswer) (tbl := T_leqAnswer) Try.func68 (by kernel_rfl) (loops0 (by kernel_rfl)) r_leqAnswer
/-! 56 leqAnswerS -/
noncomputable def leqAnswerS_L4 (O : Type) : Nat → (List ((Int × Int) × List UInt8 × Bool) × List ((Int × Int) × List UInt8 × Bool) × Int) → (Unit → Option O) → (Bool → Option O) → Option O
  | 0, _, _, _ => none
  | q + 1, (a2, b3, i4), x, r => (cond (decide (i4 < ((a2.length : Nat) : Int))) (cond (decide ((0 : Int) ≤ i4) && decide (i4 < ((a2.length : Nat) : Int))) (cond (decide ((0 : Int) ≤ i4) && decide (i4 < ((b3.length : Nat) : Int))) ((leqAnswer ((((nth a2 i4).1.1, (nth a2 i4).1.2), (nth a2 i4).2.1, (nth a2 i4).2.2), ((nth b3 i4).1.1, (nth b3 i4).1.2), (nth b3 i4).2.1, (nth b3 i4).2.2)).bind fun r5 => (cond (!r5) (r false) (leqAnswerS_L4 O q (a2, b3, (IntKind.wrap .i64 (i4 + (1 : Int)))) x r))) none) none) (x ()))
noncomputable def leqAnswerS : (List ((Int × Int) × List UInt8 × Bool) × List ((Int × Int) × List UInt8 × Bool)) → Option Bool
  | (a0, b1) => (cond (((a0.length : Nat) : Int) != ((b1.length : Nat) : Int)) (some false) (leqAnswerS_L4 Bool fuel (a0, b1, (0 : Int)) (fun _ => (some true)) some))
noncomputable def c_leqAnswerS : Ctr := { args := [.val false (.sl (.pair (.pair (.int .i64) (.int .i64)) (.pair .str .bool))), .val false (.sl (.pair (.pair (.int .i64) (.int .i64)) (.pair .str .bool)))], rets := [(false, [(none, .bool)])], F := leqAnswerS }
noncomputable def X_leqAnswerS : Ctx := XT.withΓ (lk [(68, c_leqAnswer)]) (lk [])
noncomputable def H_leqAnswerS : Hints := ⟨lk [], lk [], lk []⟩
noncomputable def L_leqAnswerS_4 : LoopF c_leqAnswerS.Res := ⟨⟨27, [(0, .one (.val (.sl (.pair (.pair (.int .i64) (.int .i64)) (.pair .str .bool))))), (1, .one (.val (.sl (.pair (.pair (.int .i64) (.int .i64)) (.pair .str .bool))))), (5, .one (.val (.int .i64)))], [], []⟩, [(0, ⟨27, [], [], []⟩)], leqAnswerS_L4⟩
noncomputable def T_leqAnswerS : Nat → Option (LoopF c_leqAnswerS.Res) := lk [(4, L_leqAnswerS_4)]
theorem s_leqAnswerS_4 : StepOk X_leqAnswerS H_leqAnswerS (c_leqAnswerS.finish X_leqAnswerS Try.f56.results.toList) T_leqAnswerS (loopAt Try.f56 0) := ⟨L_leqAnswerS_4, by kernel_rfl, fun O y x r => by kernel_rfl, fun O k y x r => by kernel_rfl⟩
theorem r_leqAnswerS (a) : fnRun X_leqAnswerS H_leqAnswerS c_leqAnswerS Try.f56 T_leqAnswerS a = leqAnswerS a := by kernel_rfl
theorem h_leqAnswerS [Tabs] : CtrHolds Try.prog 56 c_leqAnswerS := fn_ok (.cons h_leqAnswer Try.call68 .nil) .nil (H := H_leqAnswerS) (tbl := T_leqAnswerS) Try.func56 (by kernel_rfl) (loops1 (by kernel_rfl) s_leqAnswerS_4) r_leqAnswerS
/-! 33 leqReplica -/
noncomputable def leqReplica : ((Int × Int × Int × List ((Int × Int) × (Int × List UInt8 × List UInt8) × List (Int × Int) × Bool) × List ((Int × Int) × Int) × List (Int × Int) × List (List UInt8 × List UInt8 × Bool) × List ((Int × Int) × List UInt8 × Bool)) × Int × Int × Int × List ((Int × Int) × (Int × List UInt8 × List UInt8) × List (Int × Int) × Bool) × List ((Int × Int) × Int) × List (Int × Int) × List (List UInt8 × List UInt8 × Bool) × List ((Int × Int) × List UInt8 × Bool)) → Option Bool
  | ((a0, a1, a2, a3, a4, a5, a6, a7), b8, b9, b10, b11, b12, b13, b14, b15) => (cond (a0 != b8) (some false) (cond (a1 != b9) (some false) (cond (a2 != b10) (some false) ((leqRecS (a3, b11)).bind fun r16 => (cond (!r16) (some false) ((leqAckS (a4, b12)).bind fun r17 => (cond (!r17) (some false) ((leqDotS (a5, b13)).bind fun r18 => (cond (!r18) (some false) ((leqPairS (a6, b14)).bind fun r19 => (cond (!r19) (some false) ((leqAnswerS (a7, b15)).bind fun r20 => (cond (!r20) (some false) (some true))))))))))))))
noncomputable def c_leqReplica : Ctr := { args := [.val true (.pair (.int .i64) (.pair (.int .i64) (.pair (.int .i64) (.pair (.sl (.pair (.pair (.int .i64) (.int .i64)) (.pair (.pair (.int .i64) (.pair .str .str)) (.pair (.sl (.pair (.int .i64) (.int .i64))) .bool)))) (.pair (.sl (.pair (.pair (.int .i64) (.int .i64)) (.int .i64))) (.pair (.sl (.pair (.int .i64) (.int .i64))) (.pair (.sl (.pair .str (.pair .str .bool))) (.sl (.pair (.pair (.int .i64) (.int .i64)) (.pair .str .bool)))))))))), .val true (.pair (.int .i64) (.pair (.int .i64) (.pair (.int .i64) (.pair (.sl (.pair (.pair (.int .i64) (.int .i64)) (.pair (.pair (.int .i64) (.pair .str .str)) (.pair (.sl (.pair (.int .i64) (.int .i64))) .bool)))) (.pair (.sl (.pair (.pair (.int .i64) (.int .i64)) (.int .i64))) (.pair (.sl (.pair (.int .i64) (.int .i64))) (.pair (.sl (.pair .str (.pair .str .bool))) (.sl (.pair (.pair (.int .i64) (.int .i64)) (.pair .str .bool))))))))))], rets := [(false, [(none, .bool)])], F := leqReplica }
noncomputable def X_leqReplica : Ctx := XT.withΓ (lk [(53, c_leqRecS), (54, c_leqAckS), (55, c_leqDotS), (8, c_leqPairS), (56, c_leqAnswerS)]) (lk [])
noncomputable def H_leqReplica : Hints := ⟨lk [], lk [], lk []⟩
noncomputable def T_leqReplica : Nat → Option (LoopF c_leqReplica.Res) := lk []
theorem r_leqReplica (a) : fnRun X_leqReplica H_leqReplica c_leqReplica Try.f33 T_leqReplica a = leqReplica a := by kernel_rfl
theorem h_leqReplica [Tabs] : CtrHolds Try.prog 33 c_leqReplica := fn_ok (.cons h_leqRecS Try.call53 (.cons h_leqAckS Try.call54 (.cons h_leqDotS Try.call55 (.cons h_leqPairS Try.call8 (.cons h_leqAnswerS Try.call56 .nil))))) .nil (H := H_leqReplica) (tbl := T_leqReplica) Try.func33 (by kernel_rfl) (loops0 (by kernel_rfl)) r_leqReplica
/-! 20 leqReplicaS -/
noncomputable def leqReplicaS_L4 (O : Type) : Nat → (List (Int × Int × Int × List ((Int × Int) × (Int × List UInt8 × List UInt8) × List (Int × Int) × Bool) × List ((Int × Int) × Int) × List (Int × Int) × List (List UInt8 × List UInt8 × Bool) × List ((Int × Int) × List UInt8 × Bool)) × List (Int × Int × Int × List ((Int × Int) × (Int × List UInt8 × List UInt8) × List (Int × Int) × Bool) × List ((Int × Int) × Int) × List (Int × Int) × List (List UInt8 × List UInt8 × Bool) × List ((Int × Int) × List UInt8 × Bool)) × Int) → (Unit → Option O) → (Bool → Option O) → Option O
  | 0, _, _, _ => none
  | q + 1, (a2, b3, i4), x, r => (cond (decide (i4 < ((a2.length : Nat) : Int))) (cond (decide ((0 : Int) ≤ i4) && decide (i4 < ((a2.length : Nat) : Int))) (cond (decide ((0 : Int) ≤ i4) && decide (i4 < ((b3.length : Nat) : Int))) ((leqReplica (((nth a2 i4).1, (nth a2 i4).2.1, (nth a2 i4).2.2.1, (nth a2 i4).2.2.2.1, (nth a2 i4).2.2.2.2.1, (nth a2 i4).2.2.2.2.2.1, (nth a2 i4).2.2.2.2.2.2.1, (nth a2 i4).2.2.2.2.2.2.2), (nth b3 i4).1, (nth b3 i4).2.1, (nth b3 i4).2.2.1, (nth b3 i4).2.2.2.1, (nth b3 i4).2.2.2.2.1, (nth b3 i4).2.2.2.2.2.1, (nth b3 i4).2.2.2.2.2.2.1, (nth b3 i4).2.2.2.2.2.2.2)).bind fun r5 => (cond (!r5) (r false) (leqReplicaS_L4 O q (a2, b3, (IntKind.wrap .i64 (i4 + (1 : Int)))) x r))) none) none) (x ()))
noncomputable def leqReplicaS : (List (Int × Int × Int × List ((Int × Int) × (Int × List UInt8 × List UInt8) × List (Int × Int) × Bool) × List ((Int × Int) × Int) × List (Int × Int) × List (List UInt8 × List UInt8 × Bool) × List ((Int × Int) × List UInt8 × Bool)) × List (Int × Int × Int × List ((Int × Int) × (Int × List UInt8 × List UInt8) × List (Int × Int) × Bool) × List ((Int × Int) × Int) × List (Int × Int) × List (List UInt8 × List UInt8 × Bool) × List ((Int × Int) × List UInt8 × Bool))) → Option Bool
  | (a0, b1) => (cond (((a0.length : Nat) : Int) != ((b1.length : Nat) : Int)) (some false) (leqReplicaS_L4 Bool fuel (a0, b1, (0 : Int)) (fun _ => (some true)) some))
noncomputable def c_leqReplicaS : Ctr := { args := [.val false (.sl (.pair (.int .i64) (.pair (.int .i64) (.pair (.int .i64) (.pair (.sl (.pair (.pair (.int .i64) (.int .i64)) (.pair (.pair (.int .i64) (.pair .str .str)) (.pair (.sl (.pair (.int .i64) (.int .i64))) .bool)))) (.pair (.sl (.pair (.pair (.int .i64) (.int .i64)) (.int .i64))) (.pair (.sl (.pair (.int .i64) (.int .i64))) (.pair (.sl (.pair .str (.pair .str .bool))) (.sl (.pair (.pair (.int .i64) (.int .i64)) (.pair .str .bool))))))))))), .val false (.sl (.pair (.int .i64) (.pair (.int .i64) (.pair (.int .i64) (.pair (.sl (.pair (.pair (.int .i64) (.int .i64)) (.pair (.pair (.int .i64) (.pair .str .str)) (.pair (.sl (.pair (.int .i64) (.int .i64))) .bool)))) (.pair (.sl (.pair (.pair (.int .i64) (.int .i64)) (.int .i64))) (.pair (.sl (.pair (.int .i64) (.int .i64))) (.pair (.sl (.pair .str (.pair .str .bool))) (.sl (.pair (.pair (.int .i64) (.int .i64)) (.pair .str .bool)))))))))))], rets := [(false, [(none, .bool)])], F := leqReplicaS }
noncomputable def X_leqReplicaS : Ctx := XT.withΓ (lk [(33, c_leqReplica)]) (lk [])
noncomputable def H_leqReplicaS : Hints := ⟨lk [], lk [], lk []⟩
noncomputable def L_leqReplicaS_4 : LoopF c_leqReplicaS.Res := ⟨⟨27, [(0, .one (.val (.sl (.pair (.int .i64) (.pair (.int .i64) (.pair (.int .i64) (.pair (.sl (.pair (.pair (.int .i64) (.int .i64)) (.pair (.pair (.int .i64) (.pair .str .str)) (.pair (.sl (.pair (.int .i64) (.int .i64))) .bool)))) (.pair (.sl (.pair (.pair (.int .i64) (.int .i64)) (.int .i64))) (.pair (.sl (.pair (.int .i64) (.int .i64))) (.pair (.sl (.pair .str (.pair .str .bool))) (.sl (.pair (.pair (.int .i64) (.int .i64)) (.pair .str .bool))))))))))))), (1, .one (.val (.sl (.pair (.int .i64) (.pair (.int .i64) (.pair (.int .i64) (.pair (.sl (.pair (.pair (.int .i64) (.int .i64)) (.pair (.pair (.int .i64) (.pair .str .str)) (.pair (.sl (.pair (.int .i64) (.int .i64))) .bool)))) (.pair (.sl (.pair (.pair (.int .i64) (.int .i64)) (.int .i64))) (.pair (.sl (.pair (.int .i64) (.int .i64))) (.pair (.sl (.pair .str (.pair .str .bool))) (.sl (.pair (.pair (.int .i64) (.int .i64)) (.pair .str .bool))))))))))))), (5, .one (.val (.int .i64)))], [], []⟩, [(0, ⟨27, [], [], []⟩)], leqReplicaS_L4⟩
noncomputable def T_leqReplicaS : Nat → Option (LoopF c_leqReplicaS.Res) := lk [(4, L_leqReplicaS_4)]
theorem s_leqReplicaS_4 : StepOk X_leqReplicaS H_leqReplicaS (c_leqReplicaS.finish X_leqReplicaS Try.f20.results.toList) T_leqReplicaS (loopAt Try.f20 0) := ⟨L_leqReplicaS_4, by kernel_rfl, fun O y x r => by kernel_rfl, fun O k y x r => by kernel_rfl⟩
theorem r_leqReplicaS (a) : fnRun X_leqReplicaS H_leqReplicaS c_leqReplicaS Try.f20 T_leqReplicaS a = leqReplicaS a := by kernel_rfl
theorem h_leqReplicaS [Tabs] : CtrHolds Try.prog 20 c_leqReplicaS := fn_ok (.cons h_leqReplica Try.call33 .nil) .nil (H := H_leqReplicaS) (tbl := T_leqReplicaS) Try.func20 (by kernel_rfl) (loops1 (by kernel_rfl) s_leqReplicaS_4) r_leqReplicaS
/-! 34 leqMsg -/
noncomputable def leqMsg : ((Int × Int × Int × (Int × Int) × (Int × List UInt8 × List UInt8) × List (Int × Int)) × Int × Int × Int × (Int × Int) × (Int × List UInt8 × List UInt8) × List (Int × Int)) → Option Bool
  | ((a0, a1, a2, (a3, a4), (a5, a6, a7), a8), b9, b10, b11, (b12, b13), (b14, b15, b16), b17) => (cond (a0 != b9) (some false) (cond (a1 != b10) (some false) (cond (a2 != b11) (some false) ((leqDot ((a3, a4), b12, b13)).bind fun r18 => (cond (!r18) (some false) ((leqCmd ((a5, a6, a7), b14, b15, b16)).bind fun r19 => (cond (!r19) (some false) ((leqDotS (a8, b17)).bind fun r20 => (cond (!r20) (some false) (some true))))))))))
noncomputable def c_leqMsg : Ctr := { args := [.val true (.pair (.int .i64) (.pair (.int .i64) (.pair (.int .i64) (.pair (.pair (.int .i64) (.int .i64)) (.pair (.pair (.int .i64) (.pair .str .str)) (.sl (.pair (.int .i64) (.int .i64)))))))), .val true (.pair (.int .i64) (.pair (.int .i64) (.pair (.int .i64) (.pair (.pair (.int .i64) (.int .i64)) (.pair (.pair (.int .i64) (.pair .str .str)) (.sl (.pair (.int .i64) (.int .i64))))))))], rets := [(false, [(none, .bool)])], F := leqMsg }
noncomputable def X_leqMsg : Ctx := XT.withΓ (lk [(57, c_leqDot), (58, c_leqCmd), (55, c_leqDotS)]) (lk [])
noncomputable def H_leqMsg : Hints := ⟨lk [], lk [], lk []⟩
noncomputable def T_leqMsg : Nat → Option (LoopF c_leqMsg.Res) := lk []
theorem r_leqMsg (a) : fnRun X_leqMsg H_leqMsg c_leqMsg Try.f34 T_leqMsg a = leqMsg a := by kernel_rfl
theorem h_leqMsg [Tabs] : CtrHolds Try.prog 34 c_leqMsg := fn_ok (.cons h_leqDot Try.call57 (.cons h_leqCmd Try.call58 (.cons h_leqDotS Try.call55 .nil))) .nil (H := H_leqMsg) (tbl := T_leqMsg) Try.func34 (by kernel_rfl) (loops0 (by kernel_rfl)) r_leqMsg
/-! 21 leqMsgS -/
noncomputable def leqMsgS_L4 (O : Type) : Nat → (List (Int × Int × Int × (Int × Int) × (Int × List UInt8 × List UInt8) × List (Int × Int)) × List (Int × Int × Int × (Int × Int) × (Int × List UInt8 × List UInt8) × List (Int × Int)) × Int) → (Unit → Option O) → (Bool → Option O) → Option O
  | 0, _, _, _ => none
  | q + 1, (a2, b3, i4), x, r => (cond (decide (i4 < ((a2.length : Nat) : Int))) (cond (decide ((0 : Int) ≤ i4) && decide (i4 < ((a2.length : Nat) : Int))) (cond (decide ((0 : Int) ≤ i4) && decide (i4 < ((b3.length : Nat) : Int))) ((leqMsg (((nth a2 i4).1, (nth a2 i4).2.1, (nth a2 i4).2.2.1, ((nth a2 i4).2.2.2.1.1, (nth a2 i4).2.2.2.1.2), ((nth a2 i4).2.2.2.2.1.1, (nth a2 i4).2.2.2.2.1.2.1, (nth a2 i4).2.2.2.2.1.2.2), (nth a2 i4).2.2.2.2.2), (nth b3 i4).1, (nth b3 i4).2.1, (nth b3 i4).2.2.1, ((nth b3 i4).2.2.2.1.1, (nth b3 i4).2.2.2.1.2), ((nth b3 i4).2.2.2.2.1.1, (nth b3 i4).2.2.2.2.1.2.1, (nth b3 i4).2.2.2.2.1.2.2), (nth b3 i4).2.2.2.2.2)).bind fun r5 => (cond (!r5) (r false) (leqMsgS_L4 O q (a2, b3, (IntKind.wrap .i64 (i4 + (1 : Int)))) x r))) none) none) (x ()))
noncomputable def leqMsgS : (List (Int × Int × Int × (Int × Int) × (Int × List UInt8 × List UInt8) × List (Int × Int)) × List (Int × Int × Int × (Int × Int) × (Int × List UInt8 × List UInt8) × List (Int × Int))) → Option Bool
  | (a0, b1) => (cond (((a0.length : Nat) : Int) != ((b1.length : Nat) : Int)) (some false) (leqMsgS_L4 Bool fuel (a0, b1, (0 : Int)) (fun _ => (some true)) some))
noncomputable def c_leqMsgS : Ctr := { args := [.val false (.sl (.pair (.int .i64) (.pair (.int .i64) (.pair (.int .i64) (.pair (.pair (.int .i64) (.int .i64)) (.pair (.pair (.int .i64) (.pair .str .str)) (.sl (.pair (.int .i64) (.int .i64))))))))), .val false (.sl (.pair (.int .i64) (.pair (.int .i64) (.pair (.int .i64) (.pair (.pair (.int .i64) (.int .i64)) (.pair (.pair (.int .i64) (.pair .str .str)) (.sl (.pair (.int .i64) (.int .i64)))))))))], rets := [(false, [(none, .bool)])], F := leqMsgS }
noncomputable def X_leqMsgS : Ctx := XT.withΓ (lk [(34, c_leqMsg)]) (lk [])
noncomputable def H_leqMsgS : Hints := ⟨lk [], lk [], lk []⟩
noncomputable def L_leqMsgS_4 : LoopF c_leqMsgS.Res := ⟨⟨27, [(0, .one (.val (.sl (.pair (.int .i64) (.pair (.int .i64) (.pair (.int .i64) (.pair (.pair (.int .i64) (.int .i64)) (.pair (.pair (.int .i64) (.pair .str .str)) (.sl (.pair (.int .i64) (.int .i64))))))))))), (1, .one (.val (.sl (.pair (.int .i64) (.pair (.int .i64) (.pair (.int .i64) (.pair (.pair (.int .i64) (.int .i64)) (.pair (.pair (.int .i64) (.pair .str .str)) (.sl (.pair (.int .i64) (.int .i64))))))))))), (5, .one (.val (.int .i64)))], [], []⟩, [(0, ⟨27, [], [], []⟩)], leqMsgS_L4⟩
noncomputable def T_leqMsgS : Nat → Option (LoopF c_leqMsgS.Res) := lk [(4, L_leqMsgS_4)]
theorem s_leqMsgS_4 : StepOk X_leqMsgS H_leqMsgS (c_leqMsgS.finish X_leqMsgS Try.f21.results.toList) T_leqMsgS (loopAt Try.f21 0) := ⟨L_leqMsgS_4, by kernel_rfl, fun O y x r => by kernel_rfl, fun O k y x r => by kernel_rfl⟩
theorem r_leqMsgS (a) : fnRun X_leqMsgS H_leqMsgS c_leqMsgS Try.f21 T_leqMsgS a = leqMsgS a := by kernel_rfl
theorem h_leqMsgS [Tabs] : CtrHolds Try.prog 21 c_leqMsgS := fn_ok (.cons h_leqMsg Try.call34 .nil) .nil (H := H_leqMsgS) (tbl := T_leqMsgS) Try.func21 (by kernel_rfl) (loops1 (by kernel_rfl) s_leqMsgS_4) r_leqMsgS
/-! 35 leqAsked -/
noncomputable def leqAsked : (((Int × Int) × (Int × List UInt8 × List UInt8) × List (Int × Int)) × (Int × Int) × (Int × List UInt8 × List UInt8) × List (Int × Int)) → Option Bool
  | (((a0, a1), (a2, a3, a4), a5), (b6, b7), (b8, b9, b10), b11) => ((leqDot ((a0, a1), b6, b7)).bind fun r12 => (cond (!r12) (some false) ((leqCmd ((a2, a3, a4), b8, b9, b10)).bind fun r13 => (cond (!r13) (some false) ((leqDotS (a5, b11)).bind fun r14 => (cond (!r14) (some false) (some true)))))))
noncomputable def c_leqAsked : Ctr := { args := [.val true (.pair (.pair (.int .i64) (.int .i64)) (.pair (.pair (.int .i64) (.pair .str .str)) (.sl (.pair (.int .i64) (.int .i64))))), .val true (.pair (.pair (.int .i64) (.int .i64)) (.pair (.pair (.int .i64) (.pair .str .str)) (.sl (.pair (.int .i64) (.int .i64)))))], rets := [(false, [(none, .bool)])], F := leqAsked }
noncomputable def X_leqAsked : Ctx := XT.withΓ (lk [(57, c_leqDot), (58, c_leqCmd), (55, c_leqDotS)]) (lk [])
noncomputable def H_leqAsked : Hints := ⟨lk [], lk [], lk []⟩
noncomputable def T_leqAsked : Nat → Option (LoopF c_leqAsked.Res) := lk []
theorem r_leqAsked (a) : fnRun X_leqAsked H_leqAsked c_leqAsked Try.f35 T_leqAsked a = leqAsked a := by kernel_rfl
theorem h_leqAsked [Tabs] : CtrHolds Try.prog 35 c_leqAsked := fn_ok (.cons h_leqDot Try.call57 (.cons h_leqCmd Try.call58 (.cons h_leqDotS Try.call55 .nil))) .nil (H := H_leqAsked) (tbl := T_leqAsked) Try.func35 (by kernel_rfl) (loops0 (by kernel_rfl)) r_leqAsked
/-! 22 leqAskedS -/
noncomputable def leqAskedS_L4 (O : Type) : Nat → (List ((Int × Int) × (Int × List UInt8 × List UInt8) × List (Int × Int)) × List ((Int × Int) × (Int × List UInt8 × List UInt8) × List (Int × Int)) × Int) → (Unit → Option O) → (Bool → Option O) → Option O
  | 0, _, _, _ => none
  | q + 1, (a2, b3, i4), x, r => (cond (decide (i4 < ((a2.length : Nat) : Int))) (cond (decide ((0 : Int) ≤ i4) && decide (i4 < ((a2.length : Nat) : Int))) (cond (decide ((0 : Int) ≤ i4) && decide (i4 < ((b3.length : Nat) : Int))) ((leqAsked ((((nth a2 i4).1.1, (nth a2 i4).1.2), ((nth a2 i4).2.1.1, (nth a2 i4).2.1.2.1, (nth a2 i4).2.1.2.2), (nth a2 i4).2.2), ((nth b3 i4).1.1, (nth b3 i4).1.2), ((nth b3 i4).2.1.1, (nth b3 i4).2.1.2.1, (nth b3 i4).2.1.2.2), (nth b3 i4).2.2)).bind fun r5 => (cond (!r5) (r false) (leqAskedS_L4 O q (a2, b3, (IntKind.wrap .i64 (i4 + (1 : Int)))) x r))) none) none) (x ()))
noncomputable def leqAskedS : (List ((Int × Int) × (Int × List UInt8 × List UInt8) × List (Int × Int)) × List ((Int × Int) × (Int × List UInt8 × List UInt8) × List (Int × Int))) → Option Bool
  | (a0, b1) => (cond (((a0.length : Nat) : Int) != ((b1.length : Nat) : Int)) (some false) (leqAskedS_L4 Bool fuel (a0, b1, (0 : Int)) (fun _ => (some true)) some))
noncomputable def c_leqAskedS : Ctr := { args := [.val false (.sl (.pair (.pair (.int .i64) (.int .i64)) (.pair (.pair (.int .i64) (.pair .str .str)) (.sl (.pair (.int .i64) (.int .i64)))))), .val false (.sl (.pair (.pair (.int .i64) (.int .i64)) (.pair (.pair (.int .i64) (.pair .str .str)) (.sl (.pair (.int .i64) (.int .i64))))))], rets := [(false, [(none, .bool)])], F := leqAskedS }
noncomputable def X_leqAskedS : Ctx := XT.withΓ (lk [(35, c_leqAsked)]) (lk [])
noncomputable def H_leqAskedS : Hints := ⟨lk [], lk [], lk []⟩
noncomputable def L_leqAskedS_4 : LoopF c_leqAskedS.Res := ⟨⟨27, [(0, .one (.val (.sl (.pair (.pair (.int .i64) (.int .i64)) (.pair (.pair (.int .i64) (.pair .str .str)) (.sl (.pair (.int .i64) (.int .i64)))))))), (1, .one (.val (.sl (.pair (.pair (.int .i64) (.int .i64)) (.pair (.pair (.int .i64) (.pair .str .str)) (.sl (.pair (.int .i64) (.int .i64)))))))), (5, .one (.val (.int .i64)))], [], []⟩, [(0, ⟨27, [], [], []⟩)], leqAskedS_L4⟩
noncomputable def T_leqAskedS : Nat → Option (LoopF c_leqAskedS.Res) := lk [(4, L_leqAskedS_4)]
theorem s_leqAskedS_4 : StepOk X_leqAskedS H_leqAskedS (c_leqAskedS.finish X_leqAskedS Try.f22.results.toList) T_leqAskedS (loopAt Try.f22 0) := ⟨L_leqAskedS_4, by kernel_rfl, fun O y x r => by kernel_rfl, fun O k y x r => by kernel_rfl⟩
theorem r_leqAskedS (a) : fnRun X_leqAskedS H_leqAskedS c_leqAskedS Try.f22 T_leqAskedS a = leqAskedS a := by kernel_rfl
theorem h_leqAskedS [Tabs] : CtrHolds Try.prog 22 c_leqAskedS := fn_ok (.cons h_leqAsked Try.call35 .nil) .nil (H := H_leqAskedS) (tbl := T_leqAskedS) Try.func22 (by kernel_rfl) (loops1 (by kernel_rfl) s_leqAskedS_4) r_leqAskedS
/-! 9 leqCluster -/
noncomputable def leqCluster : ((List (Int × Int × Int × List ((Int × Int) × (Int × List UInt8 × List UInt8) × List (Int × Int) × Bool) × List ((Int × Int) × Int) × List (Int × Int) × List (List UInt8 × List UInt8 × Bool) × List ((Int × Int) × List UInt8 × Bool)) × List (Int × Int × Int × (Int × Int) × (Int × List UInt8 × List UInt8) × List (Int × Int)) × List ((Int × Int) × (Int × List UInt8 × List UInt8) × List (Int × Int))) × List (Int × Int × Int × List ((Int × Int) × (Int × List UInt8 × List UInt8) × List (Int × Int) × Bool) × List ((Int × Int) × Int) × List (Int × Int) × List (List UInt8 × List UInt8 × Bool) × List ((Int × Int) × List UInt8 × Bool)) × List (Int × Int × Int × (Int × Int) × (Int × List UInt8 × List UInt8) × List (Int × Int)) × List ((Int × Int) × (Int × List UInt8 × List UInt8) × List (Int × Int))) → Option Bool
  | ((a0, a1, a2), b3, b4, b5) => ((leqReplicaS (a0, b3)).bind fun r6 => (cond (!r6) (some false) ((leqMsgS (a1, b4)).bind fun r7 => (cond (!r7) (some false) ((leqAskedS (a2, b5)).bind fun r8 => (cond (!r8) (some false) (some true)))))))
noncomputable def c_leqCluster : Ctr := { args := [.val true (.pair (.sl (.pair (.int .i64) (.pair (.int .i64) (.pair (.int .i64) (.pair (.sl (.pair (.pair (.int .i64) (.int .i64)) (.pair (.pair (.int .i64) (.pair .str .str)) (.pair (.sl (.pair (.int .i64) (.int .i64))) .bool)))) (.pair (.sl (.pair (.pair (.int .i64) (.int .i64)) (.int .i64))) (.pair (.sl (.pair (.int .i64) (.int .i64))) (.pair (.sl (.pair .str (.pair .str .bool))) (.sl (.pair (.pair (.int .i64) (.int .i64)) (.pair .str .bool))))))))))) (.pair (.sl (.pair (.int .i64) (.pair (.int .i64) (.pair (.int .i64) (.pair (.pair (.int .i64) (.int .i64)) (.pair (.pair (.int .i64) (.pair .str .str)) (.sl (.pair (.int .i64) (.int .i64))))))))) (.sl (.pair (.pair (.int .i64) (.int .i64)) (.pair (.pair (.int .i64) (.pair .str .str)) (.sl (.pair (.int .i64) (.int .i64)))))))), .val true (.pair (.sl (.pair (.int .i64) (.pair (.int .i64) (.pair (.int .i64) (.pair (.sl (.pair (.pair (.int .i64) (.int .i64)) (.pair (.pair (.int .i64) (.pair .str .str)) (.pair (.sl (.pair (.int .i64) (.int .i64))) .bool)))) (.pair (.sl (.pair (.pair (.int .i64) (.int .i64)) (.int .i64))) (.pair (.sl (.pair (.int .i64) (.int .i64))) (.pair (.sl (.pair .str (.pair .str .bool))) (.sl (.pair (.pair (.int .i64) (.int .i64)) (.pair .str .bool))))))))))) (.pair (.sl (.pair (.int .i64) (.pair (.int .i64) (.pair (.int .i64) (.pair (.pair (.int .i64) (.int .i64)) (.pair (.pair (.int .i64) (.pair .str .str)) (.sl (.pair (.int .i64) (.int .i64))))))))) (.sl (.pair (.pair (.int .i64) (.int .i64)) (.pair (.pair (.int .i64) (.pair .str .str)) (.sl (.pair (.int .i64) (.int .i64))))))))], rets := [(false, [(none, .bool)])], F := leqCluster }
noncomputable def X_leqCluster : Ctx := XT.withΓ (lk [(20, c_leqReplicaS), (21, c_leqMsgS), (22, c_leqAskedS)]) (lk [])
noncomputable def H_leqCluster : Hints := ⟨lk [], lk [], lk []⟩
noncomputable def T_leqCluster : Nat → Option (LoopF c_leqCluster.Res) := lk []
theorem r_leqCluster (a) : fnRun X_leqCluster H_leqCluster c_leqCluster Try.f9 T_leqCluster a = leqCluster a := by kernel_rfl
theorem h_leqCluster [Tabs] : CtrHolds Try.prog 9 c_leqCluster := fn_ok (.cons h_leqReplicaS Try.call20 (.cons h_leqMsgS Try.call21 (.cons h_leqAskedS Try.call22 .nil))) .nil (H := H_leqCluster) (tbl := T_leqCluster) Try.func9 (by kernel_rfl) (loops0 (by kernel_rfl)) r_leqCluster
/-! 26 lmarkText -/
noncomputable def lmarkText_L4 (O : Type) : Nat → (Int × List UInt8) → ((List UInt8) → Option O) → ((List UInt8) → Option O) → Option O
  | 0, _, _, _ => none
  | q + 1, (k1, out2), x, r => (cond (decide (k1 > (0 : Int))) (cond (decide (((strOf [(IntKind.wrap .u8 (IntKind.wrap .i64 ((48 : Int) + (Int.tmod k1 (10 : Int)))))]).length + out2.length) ≤ lenBound)) (lmarkText_L4 O q ((IntKind.wrap .i64 (Int.tdiv k1 (10 : Int))), ((strOf [(IntKind.wrap .u8 (IntKind.wrap .i64 ((48 : Int) + (Int.tmod k1 (10 : Int)))))]) ++ out2)) x r) none) (x out2))
noncomputable def lmarkText : Int → Option (List UInt8)
  | k0 => (cond (decide (k0 ≤ (0 : Int))) (some [109, 48]) (lmarkText_L4 (List UInt8) fuel (k0, []) (fun out3 => (cond (decide ((1 + out3.length) ≤ lenBound)) (some ([109] ++ out3)) none)) some))
noncomputable def c_lmarkText : Ctr := { args := [.val false (.int .i64)], rets := [(false, [(none, .str)])], F := lmarkText }
noncomputable def X_lmarkText : Ctx := XT.withΓ (lk []) (lk [])
noncomputable def H_lmarkText : Hints := ⟨lk [], lk [], lk []⟩
noncomputable def L_lmarkText_4 : LoopF c_lmarkText.Res := ⟨⟨20, [(0, .one (.val (.int .i64))), (3, .one (.val .str))], [], []⟩, [(0, ⟨20, [(3, .one (.val .str))], [], []⟩)], lmarkText_L4⟩
noncomputable def T_lmarkText : Nat → Option (LoopF c_lmarkText.Res) := lk [(4, L_lmarkText_4)]
theorem s_lmarkText_4 : StepOk X_lmarkText H_lmarkText (c_lmarkText.finish X_lmarkText Try.f26.results.toList) T_lmarkText (loopAt Try.f26 0) := ⟨L_lmarkText_4, by kernel_rfl, fun O y x r => by kernel_rfl, fun O k y x r => by kernel_rfl⟩
theorem r_lmarkText (a) : fnRun X_lmarkText H_lmarkText c_lmarkText Try.f26 T_lmarkText a = lmarkText a := by kernel_rfl
theorem h_lmarkText [Tabs] : CtrHolds Try.prog 26 c_lmarkText := fn_ok .nil .nil (H := H_lmarkText) (tbl := T_lmarkText) Try.func26 (by kernel_rfl) (loops1 (by kernel_rfl) s_lmarkText_4) r_lmarkText
/-! 38 lmarkDotSM -/
noncomputable def lmarkDotSM_L2 (O : Type) : Nat → (List (Unit × Unit) × Int × Int) → (Int → Option O) → (Int → Option O) → Option O
  | 0, _, _, _ => none
  | q + 1, (a2, k3, i4), x, r => (cond (decide (i4 < ((a2.length : Nat) : Int))) (cond (decide ((0 : Int) ≤ i4) && decide (i4 < ((a2.length : Nat) : Int))) (cond (decide ((0 : Int) ≤ i4) && decide (i4 < ((a2.length : Nat) : Int))) (lmarkDotSM_L2 O q (a2, (IntKind.wrap .i64 ((IntKind.wrap .i64 (k3 + (1 : Int))) + (1 : Int))), (IntKind.wrap .i64 (i4 + (1 : Int)))) x r) none) none) (x k3))
noncomputable def lmarkDotSM : (List (Unit × Unit) × Int) → Option Int
  | (a0, k1) => (lmarkDotSM_L2 Int fuel (a0, k1, (0 : Int)) (fun k5 => (some k5)) some)
noncomputable def c_lmarkDotSM : Ctr := { args := [.val false (.sl (.pair .any .any)), .val false (.int .i64)], rets := [(false, [(none, (.int .i64))])], F := lmarkDotSM }
noncomputable def m_lmarkDotSM : MCtr := ⟨false, (.sl (.pair (.int .i64) (.int .i64))), lmarkDotSM⟩
noncomputable def X_lmarkDotSM : Ctx := XT.withΓ (lk []) (lk [])
noncomputable def H_lmarkDotSM : Hints := ⟨lk [], lk [], lk []⟩
noncomputable def L_lmarkDotSM_2 : LoopF c_lmarkDotSM.Res := ⟨⟨27, [(0, .one (.val (.sl (.pair .any .any)))), (1, .one (.val (.int .i64))), (5, .one (.val (.int .i64)))], [], []⟩, [(0, ⟨27, [(1, .one (.val (.int .i64)))], [], []⟩)], lmarkDotSM_L2⟩
noncomputable def T_lmarkDotSM : Nat → Option (LoopF c_lmarkDotSM.Res) := lk [(2, L_lmarkDotSM_2)]
theorem s_lmarkDotSM_2 : StepOk X_lmarkDotSM H_lmarkDotSM (c_lmarkDotSM.finish X_lmarkDotSM Try.f38.results.toList) T_lmarkDotSM (loopAt Try.f38 0) := ⟨L_lmarkDotSM_2, by kernel_rfl, fun O y x r => by kernel_rfl, fun O k y x r => by kernel_rfl⟩
theorem r_lmarkDotSM (a) : fnRun X_lmarkDotSM H_lmarkDotSM c_lmarkDotSM Try.f38 T_lmarkDotSM a = lmarkDotSM a := by kernel_rfl
theorem h_lmarkDotSM [Tabs] : CtrHolds Try.prog 38 c_lmarkDotSM := fn_ok .nil .nil (H := H_lmarkDotSM) (tbl := T_lmarkDotSM) Try.func38 (by kernel_rfl) (loops1 (by kernel_rfl) s_lmarkDotSM_2) r_lmarkDotSM
/-! 36 lmarkRecSM -/
noncomputable def lmarkRecSM_L2 (O : Type) : Nat → (List ((Unit × Unit) × (Unit × Unit × Unit) × List (Unit × Unit) × Unit) × Int × Int) → (Int → Option O) → (Int → Option O) → Option O
  | 0, _, _, _ => none
  | q + 1, (a2, k3, i4), x, r => (cond (decide (i4 < ((a2.length : Nat) : Int))) (cond (decide ((0 : Int) ≤ i4) && decide (i4 < ((a2.length : Nat) : Int))) (cond (decide ((0 : Int) ≤ i4) && decide (i4 < ((a2.length : Nat) : Int))) (cond (decide ((0 : Int) ≤ i4) && decide (i4 < ((a2.length : Nat) : Int))) ((lmarkText (IntKind.wrap .i64 ((IntKind.wrap .i64 ((IntKind.wrap .i64 (k3 + (1 : Int))) + (1 : Int))) + (1 : Int)))).bind fun r5 => (cond (decide ((0 : Int) ≤ i4) && decide (i4 < ((a2.length : Nat) : Int))) ((lmarkText (IntKind.wrap .i64 ((IntKind.wrap .i64 ((IntKind.wrap .i64 ((IntKind.wrap .i64 (k3 + (1 : Int))) + (1 : Int))) + (1 : Int))) + (1 : Int)))).bind fun r6 => (cond (decide ((0 : Int) ≤ i4) && decide (i4 < ((a2.length : Nat) : Int))) (cond (decide ((0 : Int) ≤ i4) && decide (i4 < ((a2.length : Nat) : Int))) ((lmarkDotSM ((nth a2 i4).2.2.1, (IntKind.wrap .i64 ((IntKind.wrap .i64 ((IntKind.wrap .i64 ((IntKind.wrap .i64 ((IntKind.wrap .i64 (k3 + (1 : Int))) + (1 : Int))) + (1 : Int))) + (1 : Int))) + (1 : Int))))).bind fun r7 => (cond (decide ((0 : Int) ≤ i4) && decide (i4 < ((a2.length : Nat) : Int))) (lmarkRecSM_L2 O q (a2, (IntKind.wrap .i64 (r7 + (1 : Int))), (IntKind.wrap .i64 (i4 + (1 : Int)))) x r) none)) none) none)) none)) none) none) none) (x k3))
noncomputable def lmarkRecSM : (List ((Unit × Unit) × (Unit × Unit × Unit) × List (Unit × Unit) × Unit) × Int) → Option Int
  | (a0, k1) => (lmarkRecSM_L2 Int fuel (a0, k1, (0 : Int)) (fun k8 => (some k8)) some)
noncomputable def c_lmarkRecSM : Ctr := { args := [.val false (.sl (.pair (.pair .any .any) (.pair (.pair .any (.pair .any .any)) (.pair (.sl (.pair .any .any)) .any)))), .val false (.int .i64)], rets := [(false, [(none, (.int .i64))])], F := lmarkRecSM }
noncomputable def m_lmarkRecSM : MCtr := ⟨false, (.sl (.pair (.pair (.int .i64) (.int .i64)) (.pair (.pair (.int .i64) (.pair .str .str)) (.pair (.sl (.pair (.int .i64) (.int .i64))) .bool)))), lmarkRecSM⟩
noncomputable def X_lmarkRecSM : Ctx := XT.withΓ (lk [(26, c_lmarkText), (38, c_lmarkDotSM)]) (lk [])
noncomputable def H_lmarkRecSM : Hints := ⟨lk [], lk [], lk []⟩
noncomputable def L_lmarkRecSM_2 : LoopF c_lmarkRecSM.Res := ⟨⟨71, [(0, .one (.val (.sl (.pair (.pair .any .any) (.pair (.pair .any (.pair .any .any)) (.pair (.sl (.pair .any .any)) .any)))))), (1, .one (.val (.int .i64))), (5, .one (.val (.int .i64)))], [], []⟩, [(0, ⟨71, [(1, .one (.val (.int .i64)))], [], []⟩)], lmarkRecSM_L2⟩
noncomputable def T_lmarkRecSM : Nat → Option (LoopF c_lmarkRecSM.Res) := lk [(2, L_lmarkRecSM_2)]
theorem s_lmarkRecSM_2 : StepOk X_lmarkRecSM H_lmarkRecSM (c_lmarkRecSM.finish X_lmarkRecSM Try.f36.results.toList) T_lmarkRecSM (loopAt Try.f36 0) := ⟨L_lmarkRecSM_2, by kernel_rfl, fun O y x r => by kernel_rfl, fun O k y x r => by kernel_rfl⟩
theorem r_lmarkRecSM (a) : fnRun X_lmarkRecSM H_lmarkRecSM c_lmarkRecSM Try.f36 T_lmarkRecSM a = lmarkRecSM a := by kernel_rfl
theorem h_lmarkRecSM [Tabs] : CtrHolds Try.prog 36 c_lmarkRecSM := fn_ok (.cons h_lmarkText Try.call26 (.cons h_lmarkDotSM Try.call38 .nil)) .nil (H := H_lmarkRecSM) (tbl := T_lmarkRecSM) Try.func36 (by kernel_rfl) (loops1 (by kernel_rfl) s_lmarkRecSM_2) r_lmarkRecSM
/-! 37 lmarkAckSM -/
noncomputable def lmarkAckSM_L2 (O : Type) : Nat → (List ((Unit × Unit) × Unit) × Int × Int) → (Int → Option O) → (Int → Option O) → Option O
  | 0, _, _, _ => none
  | q + 1, (a2, k3, i4), x, r => (cond (decide (i4 < ((a2.length : Nat) : Int))) (cond (decide ((0 : Int) ≤ i4) && decide (i4 < ((a2.length : Nat) : Int))) (cond (decide ((0 : Int) ≤ i4) && decide (i4 < ((a2.length : Nat) : Int))) (cond (decide ((0 : Int) ≤ i4) && decide (i4 < ((a2.length : Nat) : Int))) (lmarkAckSM_L2 O q (a2, (IntKind.wrap .i64 ((IntKind.wrap .i64 ((IntKind.wrap .i64 (k3 + (1 : Int))) + (1 : Int))) + (1 : Int))), (IntKind.wrap .i64 (i4 + (1 : Int)))) x r) none) none) none) (x k3))
noncomputable def lmarkAckSM : (List ((Unit × Unit) × Unit) × Int) → Option Int
  | (a0, k1) => (lmarkAckSM_L2 Int fuel (a0, k1, (0 : Int)) (fun k5 => (some k5)) some)
noncomputable def c_lmarkAckSM : Ctr := { args := [.val false (.sl (.pair (.pair .any .any) .any)), .val false (.int .i64)], rets := [(false, [(none, (.int .i64))])], F := lmarkAckSM }
noncomputable def m_lmarkAckSM : MCtr := ⟨false, (.sl (.pair (.pair (.int .i64) (.int .i64)) (.int .i64))), lmarkAckSM⟩
noncomputable def X_lmarkAckSM : Ctx := XT.withΓ (lk []) (lk [])
noncomputable def H_lmarkAckSM : Hints := ⟨lk [], lk [], lk []⟩
noncomputable def L_lmarkAckSM_2 : LoopF c_lmarkAckSM.Res := ⟨⟨36, [(0, .one (.val (.sl (.pair (.pair .any .any) .any)))), (1, .one (.val (.int .i64))), (5, .one (.val (.int .i64)))], [], []⟩, [(0, ⟨36, [(1, .one (.val (.int .i64)))], [], []⟩)], lmarkAckSM_L2⟩
noncomputable def T_lmarkAckSM : Nat → Option (LoopF c_lmarkAckSM.Res) := lk [(2, L_lmarkAckSM_2)]
theorem s_lmarkAckSM_2 : StepOk X_lmarkAckSM H_lmarkAckSM (c_lmarkAckSM.finish X_lmarkAckSM Try.f37.results.toList) T_lmarkAckSM (loopAt Try.f37 0) := ⟨L_lmarkAckSM_2, by kernel_rfl, fun O y x r => by kernel_rfl, fun O k y x r => by kernel_rfl⟩
theorem r_lmarkAckSM (a) : fnRun X_lmarkAckSM H_lmarkAckSM c_lmarkAckSM Try.f37 T_lmarkAckSM a = lmarkAckSM a := by kernel_rfl
theorem h_lmarkAckSM [Tabs] : CtrHolds Try.prog 37 c_lmarkAckSM := fn_ok .nil .nil (H := H_lmarkAckSM) (tbl := T_lmarkAckSM) Try.func37 (by kernel_rfl) (loops1 (by kernel_rfl) s_lmarkAckSM_2) r_lmarkAckSM
/-! 11 lmarkPairS -/
noncomputable def lmarkPairS_L2 (O : Type) : Nat → (Int × Int × List (List UInt8 × List UInt8 × Bool)) → ((Int × List (List UInt8 × List UInt8 × Bool)) → Option O) → ((Int × List (List UInt8 × List UInt8 × Bool)) → Option O) → Option O
  | 0, _, _, _ => none
  | q + 1, (k2, i3, a4), x, r => (cond (decide (i3 < ((a4.length : Nat) : Int))) ((lmarkText k2).bind fun r5 => (cond (decide ((0 : Int) ≤ i3) && decide (i3 < ((a4.length : Nat) : Int))) ((lmarkText (IntKind.wrap .i64 (k2 + (1 : Int)))).bind fun r6 => (cond (decide ((0 : Int) ≤ i3) && decide (i3 < (((List.set a4 (Int.toNat i3) (r5, (nth a4 i3).2.1, (nth a4 i3).2.2)).length : Nat) : Int))) (cond (decide ((0 : Int) ≤ i3) && decide (i3 < (((List.set (List.set a4 (Int.toNat i3) (r5, (nth a4 i3).2.1, (nth a4 i3).2.2)) (Int.toNat i3) ((nth (List.set a4 (Int.toNat i3) (r5, (nth a4 i3).2.1, (nth a4 i3).2.2)) i3).1, r6, (nth (List.set a4 (Int.toNat i3) (r5, (nth a4 i3).2.1, (nth a4 i3).2.2)) i3).2.2)).length : Nat) : Int))) (lmarkPairS_L2 O q ((IntKind.wrap .i64 ((IntKind.wrap .i64 ((IntKind.wrap .i64 (k2 + (1 : Int))) + (1 : Int))) + (1 : Int))), (IntKind.wrap .i64 (i3 + (1 : Int))), (List.set (List.set (List.set a4 (Int.toNat i3) (r5, (nth a4 i3).2.1, (nth a4 i3).2.2)) (Int.toNat i3) ((nth (List.set a4 (Int.toNat i3) (r5, (nth a4 i3).2.1, (nth a4 i3).2.2)) i3).1, r6, (nth (List.set a4 (Int.toNat i3) (r5, (nth a4 i3).2.1, (nth a4 i3).2.2)) i3).2.2)) (Int.toNat i3) ((nth (List.set (List.set a4 (Int.toNat i3) (r5, (nth a4 i3).2.1, (nth a4 i3).2.2)) (Int.toNat i3) ((nth (List.set a4 (Int.toNat i3) (r5, (nth a4 i3).2.1, (nth a4 i3).2.2)) i3).1, r6, (nth (List.set a4 (Int.toNat i3) (r5, (nth a4 i3).2.1, (nth a4 i3).2.2)) i3).2.2)) i3).1, (nth (List.set (List.set a4 (Int.toNat i3) (r5, (nth a4 i3).2.1, (nth a4 i3).2.2)) (Int.toNat i3) ((nth (List.set a4 (Int.toNat i3) (r5, (nth a4 i3).2.1, (nth a4 i3).2.2)) i3).1, r6, (nth (List.set a4 (Int.toNat i3) (r5, (nth a4 i3).2.1, (nth a4 i3).2.2)) i3).2.2)) i3).2.1, ((Int.tmod (IntKind.wrap .i64 ((IntKind.wrap .i64 (k2 + (1 : Int))) + (1 : Int))) (3 : Int)) == (0 : Int))))) x r) none) none)) none)) (x (k2, a4)))
noncomputable def lmarkPairS : (List (List UInt8 × List UInt8 × Bool) × Int) → Option (Int × List (List UInt8 × List UInt8 × Bool))
  | (a0, k1) => (lmarkPairS_L2 (Int × List (List UInt8 × List UInt8 × Bool)) fuel (k1, (0 : Int), a0) (fun (k7, b8) => (some (k7, b8))) some)
noncomputable def c_lmarkPairS : Ctr := { args := [.lent false [(some 55, (.sl (.pair .str (.pair .str .bool))))], .val false (.int .i64)], rets := [(false, [(none, (.int .i64))])], F := lmarkPairS }
noncomputable def X_lmarkPairS : Ctx := XT.withΓ (lk [(26, c_lmarkText)]) (lk [])
noncomputable def H_lmarkPairS : Hints := ⟨lk [], lk [], lk []⟩
noncomputable def L_lmarkPairS_2 : LoopF c_lmarkPairS.Res := ⟨⟨38, [(0, .one (.own 0)), (1, .one (.val (.int .i64))), (5, .one (.val (.int .i64)))], [.arr 55 (.pair .str (.pair .str .bool))], [0]⟩, [(0, ⟨38, [(1, .one (.val (.int .i64)))], [.arr 55 (.pair .str (.pair .str .bool))], [0]⟩)], lmarkPairS_L2⟩
noncomputable def T_lmarkPairS : Nat → Option (LoopF c_lmarkPairS.Res) := lk [(2, L_lmarkPairS_2)]
theorem s_lmarkPairS_2 : StepOk X_lmarkPairS H_lmarkPairS (c_lmarkPairS.finish X_lmarkPairS Try.f11.results.toList) T_lmarkPairS (loopAt Try.f11 0) := ⟨L_lmarkPairS_2, by kernel_rfl, fun O y x r => by kernel_rfl, fun O k y x r => by kernel_rfl⟩
theorem r_lmarkPairS (a) : fnRun X_lmarkPairS H_lmarkPairS c_lmarkPairS Try.f11 T_lmarkPairS a = lmarkPairS a := by kernel_rfl
theorem h_lmarkPairS [Tabs] : CtrHolds Try.prog 11 c_lmarkPairS := fn_ok (.cons h_lmarkText Try.call26 .nil) .nil (H := H_lmarkPairS) (tbl := T_lmarkPairS) Try.func11 (by kernel_rfl) (loops1 (by kernel_rfl) s_lmarkPairS_2) r_lmarkPairS
/-! 11 lmarkPairSM -/
noncomputable def lmarkPairSM_L2 (O : Type) : Nat → (List (Unit × Unit × Unit) × Int × Int) → (Int → Option O) → (Int → Option O) → Option O
  | 0, _, _, _ => none
  | q + 1, (a2, k3, i4), x, r => (cond (decide (i4 < ((a2.length : Nat) : Int))) ((lmarkText k3).bind fun r5 => (cond (decide ((0 : Int) ≤ i4) && decide (i4 < ((a2.length : Nat) : Int))) ((lmarkText (IntKind.wrap .i64 (k3 + (1 : Int)))).bind fun r6 => (cond (decide ((0 : Int) ≤ i4) && decide (i4 < ((a2.length : Nat) : Int))) (cond (decide ((0 : Int) ≤ i4) && decide (i4 < ((a2.length : Nat) : Int))) (lmarkPairSM_L2 O q (a2, (IntKind.wrap .i64 ((IntKind.wrap .i64 ((IntKind.wrap .i64 (k3 + (1 : Int))) + (1 : Int))) + (1 : Int))), (IntKind.wrap .i64 (i4 + (1 : Int)))) x r) none) none)) none)) (x k3))
noncomputable def lmarkPairSM : (List (Unit × Unit × Unit) × Int) → Option Int
  | (a0, k1) => (lmarkPairSM_L2 Int fuel (a0, k1, (0 : Int)) (fun k7 => (some k7)) some)
noncomputable def c_lmarkPairSM : Ctr := { args := [.val false (.sl (.pair .any (.pair .any .any))), .val false (.int .i64)], rets := [(false, [(none, (.int .i64))])], F := lmarkPairSM }
noncomputable def m_lmarkPairSM : MCtr := ⟨false, (.sl (.pair .str (.pair .str .bool))), lmarkPairSM⟩
noncomputable def X_lmarkPairSM : Ctx := XT.withΓ (lk [(26, c_lmarkText)]) (lk [])
noncomputable def H_lmarkPairSM : Hints := ⟨lk [], lk [], lk []⟩
noncomputable def L_lmarkPairSM_2 : LoopF c_lmarkPairSM.Res := ⟨⟨38, [(0, .one (.val (.sl (.pair .any (.pair .any .any))))), (1, .one (.val (.int .i64))), (5, .one (.val (.int .i64)))], [], []⟩, [(0, ⟨38, [(1, .one (.val (.int .i64)))], [], []⟩)], lmarkPairSM_L2⟩
noncomputable def T_lmarkPairSM : Nat → Option (LoopF c_lmarkPairSM.Res) := lk [(2, L_lmarkPairSM_2)]
theorem s_lmarkPairSM_2 : StepOk X_lmarkPairSM H_lmarkPairSM (c_lmarkPairSM.finish X_lmarkPairSM Try.f11.results.toList) T_lmarkPairSM (loopAt Try.f11 0) := ⟨L_lmarkPairSM_2, by kernel_rfl, fun O y x r => by kernel_rfl, fun O k y x r => by kernel_rfl⟩
theorem r_lmarkPairSM (a) : fnRun X_lmarkPairSM H_lmarkPairSM c_lmarkPairSM Try.f11 T_lmarkPairSM a = lmarkPairSM a := by kernel_rfl
theorem h_lmarkPairSM [Tabs] : CtrHolds Try.prog 11 c_lmarkPairSM := fn_ok (.cons h_lmarkText Try.call26 .nil) .nil (H := H_lmarkPairSM) (tbl := T_lmarkPairSM) Try.func11 (by kernel_rfl) (loops1 (by kernel_rfl) s_lmarkPairSM_2) r_lmarkPairSM
/-! 39 lmarkAnswerSM -/
noncomputable def lmarkAnswerSM_L2 (O : Type) : Nat → (List ((Unit × Unit) × Unit × Unit) × Int × Int) → (Int → Option O) → (Int → Option O) → Option O
  | 0, _, _, _ => none
  | q + 1, (a2, k3, i4), x, r => (cond (decide (i4 < ((a2.length : Nat) : Int))) (cond (decide ((0 : Int) ≤ i4) && decide (i4 < ((a2.length : Nat) : Int))) (cond (decide ((0 : Int) ≤ i4) && decide (i4 < ((a2.length : Nat) : Int))) ((lmarkText (IntKind.wrap .i64 ((IntKind.wrap .i64 (k3 + (1 : Int))) + (1 : Int)))).bind fun r5 => (cond (decide ((0 : Int) ≤ i4) && decide (i4 < ((a2.length : Nat) : Int))) (cond (decide ((0 : Int) ≤ i4) && decide (i4 < ((a2.length : Nat) : Int))) (lmarkAnswerSM_L2 O q (a2, (IntKind.wrap .i64 ((IntKind.wrap .i64 ((IntKind.wrap .i64 ((IntKind.wrap .i64 (k3 + (1 : Int))) + (1 : Int))) + (1 : Int))) + (1 : Int))), (IntKind.wrap .i64 (i4 + (1 : Int)))) x r) none) none)) none) none) (x k3))
noncomputable def lmarkAnswerSM : (List ((Unit × Unit) × Unit × Unit) × Int) → Option Int
  | (a0, k1) => (lmarkAnswerSM_L2 Int fuel (a0, k1, (0 : Int)) (fun k6 => (some k6)) some)
noncomputable def c_lmarkAnswerSM : Ctr := { args := [.val false (.sl (.pair (.pair .any .any) (.pair .any .any))), .val false (.int .i64)], rets := [(false, [(none, (.int .i64))])], F := lmarkAnswerSM }
noncomputable def m_lmarkAnswerSM : MCtr := ⟨false, (.sl (.pair (.pair (.int .i64) (.int .i64)) (.pair .str .bool))), lmarkAnswerSM⟩
noncomputable def X_lmarkAnswerSM : Ctx := XT.withΓ (lk [(26, c_lmarkText)]) (lk [])
noncomputable def H_lmarkAnswerSM : Hints := ⟨lk [], lk [], lk []⟩
noncomputable def L_lmarkAnswerSM_2 : LoopF c_lmarkAnswerSM.Res := ⟨⟨46, [(0, .one (.val (.sl (.pair (.pair .any .any) (.pair .any .any))))), (1, .one (.val (.int .i64))), (5, .one (.val (.int .i64)))], [], []⟩, [(0, ⟨46, [(1, .one (.val (.int .i64)))], [], []⟩)], lmarkAnswerSM_L2⟩
noncomputable def T_lmarkAnswerSM : Nat → Option (LoopF c_lmarkAnswerSM.Res) := lk [(2, L_lmarkAnswerSM_2)]
theorem s_lmarkAnswerSM_2 : StepOk X_lmarkAnswerSM H_lmarkAnswerSM (c_lmarkAnswerSM.finish X_lmarkAnswerSM Try.f39.results.toList) T_lmarkAnswerSM (loopAt Try.f39 0) := ⟨L_lmarkAnswerSM_2, by kernel_rfl, fun O y x r => by kernel_rfl, fun O k y x r => by kernel_rfl⟩
theorem r_lmarkAnswerSM (a) : fnRun X_lmarkAnswerSM H_lmarkAnswerSM c_lmarkAnswerSM Try.f39 T_lmarkAnswerSM a = lmarkAnswerSM a := by kernel_rfl
theorem h_lmarkAnswerSM [Tabs] : CtrHolds Try.prog 39 c_lmarkAnswerSM := fn_ok (.cons h_lmarkText Try.call26 .nil) .nil (H := H_lmarkAnswerSM) (tbl := T_lmarkAnswerSM) Try.func39 (by kernel_rfl) (loops1 (by kernel_rfl) s_lmarkAnswerSM_2) r_lmarkAnswerSM
/-! 23 lmarkReplicaSM -/
noncomputable def lmarkReplicaSM_L2 (O : Type) : Nat → (List (Unit × Unit × Unit × List ((Unit × Unit) × (Unit × Unit × Unit) × List (Unit × Unit) × Unit) × List ((Unit × Unit) × Unit) × List (Unit × Unit) × List (Unit × Unit × Unit) × List ((Unit × Unit) × Unit × Unit)) × Int × Int) → (Int → Option O) → (Int → Option O) → Option O
  | 0, _, _, _ => none
  | q + 1, (a2, k3, i4), x, r => (cond (decide (i4 < ((a2.length : Nat) : Int))) (cond (decide ((0 : Int) ≤ i4) && decide (i4 < ((a2.length : Nat) : Int))) (cond (decide ((0 : Int) ≤ i4) && decide (i4 < ((a2.length : Nat) : Int))) (cond (decide ((0 : Int) ≤ i4) && decide (i4 < ((a2.length : Nat) : Int))) (cond (decide ((0 : Int) ≤ i4) && decide (i4 < ((a2.length : Nat) : Int))) ((lmarkRecSM ((nth a2 i4).2.2.2.1, (IntKind.wrap .i64 ((IntKind.wrap .i64 ((IntKind.wrap .i64 (k3 + (1 : Int))) + (1 : Int))) + (1 : Int))))).bind fun r5 => (cond (decide ((0 : Int) ≤ i4) && decide (i4 < ((a2.length : Nat) : Int))) ((lmarkAckSM ((nth a2 i4).2.2.2.2.1, r5)).bind fun r6 => (cond (decide ((0 : Int) ≤ i4) && decide (i4 < ((a2.length : Nat) : Int))) ((lmarkDotSM ((nth a2 i4).2.2.2.2.2.1, r6)).bind fun r7 => (cond (decide ((0 : Int) ≤ i4) && decide (i4 < ((a2.length : Nat) : Int))) ((lmarkPairSM ((nth a2 i4).2.2.2.2.2.2.1, r7)).bind fun r8 => (cond (decide ((0 : Int) ≤ i4) && decide (i4 < ((a2.length : Nat) : Int))) ((lmarkAnswerSM ((nth a2 i4).2.2.2.2.2.2.2, r8)).bind fun r9 => (lmarkReplicaSM_L2 O q (a2, r9, (IntKind.wrap .i64 (i4 + (1 : Int)))) x r)) none)) none)) none)) none)) none) none) none) none) (x k3))
noncomputable def lmarkReplicaSM : (List (Unit × Unit × Unit × List ((Unit × Unit) × (Unit × Unit × Unit) × List (Unit × Unit) × Unit) × List ((Unit × Unit) × Unit) × List (Unit × Unit) × List (Unit × Unit × Unit) × List ((Unit × Unit) × Unit × Unit)) × Int) → Option Int
  | (a0, k1) => (lmarkReplicaSM_L2 Int fuel (a0, k1, (0 : Int)) (fun k10 => (some k10)) some)
noncomputable def c_lmarkReplicaSM : Ctr := { args := [.val false (.sl (.pair .any (.pair .any (.pair .any (.pair (.sl (.pair (.pair .any .any) (.pair (.pair .any (.pair .any .any)) (.pair (.sl (.pair .any .any)) .any)))) (.pair (.sl (.pair (.pair .any .any) .any)) (.pair (.sl (.pair .any .any)) (.pair (.sl (.pair .any (.pair .any .any))) (.sl (.pair (.pair .any .any) (.pair .any .any))))))))))), .val false (.int .i64)], rets := [(false, [(none, (.int .i64))])], F := lmarkReplicaSM }
noncomputable def m_lmarkReplicaSM : MCtr := ⟨false, (.sl (.pair (.int .i64) (.pair (.int .i64) (.pair (.int .i64) (.pair (.sl (.pair (.pair (.int .i64) (.int .i64)) (.pair (.pair (.int .i64) (.pair .str .str)) (.pair (.sl (.pair (.int .i64) (.int .i64))) .bool)))) (.pair (.sl (.pair (.pair (.int .i64) (.int .i64)) (.int .i64))) (.pair (.sl (.pair (.int .i64) (.int .i64))) (.pair (.sl (.pair .str (.pair .str .bool))) (.sl (.pair (.pair (.int .i64) (.int .i64)) (.pair .str .bool))))))))))), lmarkReplicaSM⟩
noncomputable def X_lmarkReplicaSM : Ctx := XT.withΓ (lk [(36, c_lmarkRecSM), (37, c_lmarkAckSM), (38, c_lmarkDotSM), (11, c_lmarkPairSM), (39, c_lmarkAnswerSM)]) (lk [])
noncomputable def H_lmarkReplicaSM : Hints := ⟨lk [], lk [], lk []⟩
noncomputable def L_lmarkReplicaSM_2 : LoopF c_lmarkReplicaSM.Res := ⟨⟨69, [(0, .one (.val (.sl (.pair .any (.pair .any (.pair .any (.pair (.sl (.pair (.pair .any .any) (.pair (.pair .any (.pair .any .any)) (.pair (.sl (.pair .any .any)) .any)))) (.pair (.sl (.pair (.pair .any .any) .any)) (.pair (.sl (.pair .any .any)) (.pair (.sl (.pair .any (.pair .any .any))) (.sl (.pair (.pair .any .any) (.pair .any .any))))))))))))), (1, .one (.val (.int .i64))), (5, .one (.val (.int .i64)))], [], []⟩, [(0, ⟨69, [(1, .one (.val (.int .i64)))], [], []⟩)], lmarkReplicaSM_L2⟩
noncomputable def T_lmarkReplicaSM : Nat → Option (LoopF c_lmarkReplicaSM.Res) := lk [(2, L_lmarkReplicaSM_2)]
theorem s_lmarkReplicaSM_2 : StepOk X_lmarkReplicaSM H_lmarkReplicaSM (c_lmarkReplicaSM.finish X_lmarkReplicaSM Try.f23.results.toList) T_lmarkReplicaSM (loopAt Try.f23 0) := ⟨L_lmarkReplicaSM_2, by kernel_rfl, fun O y x r => by kernel_rfl, fun O k y x r => by kernel_rfl⟩
theorem r_lmarkReplicaSM (a) : fnRun X_lmarkReplicaSM H_lmarkReplicaSM c_lmarkReplicaSM Try.f23 T_lmarkReplicaSM a = lmarkReplicaSM a := by kernel_rfl
theorem h_lmarkReplicaSM [Tabs] : CtrHolds Try.prog 23 c_lmarkReplicaSM := fn_ok (.cons h_lmarkRecSM Try.call36 (.cons h_lmarkAckSM Try.call37 (.cons h_lmarkDotSM Try.call38 (.cons h_lmarkPairSM Try.call11 (.cons h_lmarkAnswerSM Try.call39 .nil))))) .nil (H := H_lmarkReplicaSM) (tbl := T_lmarkReplicaSM) Try.func23 (by kernel_rfl) (loops1 (by kernel_rfl) s_lmarkReplicaSM_2) r_lmarkReplicaSM
/-! 24 lmarkMsgSM -/
noncomputable def lmarkMsgSM_L2 (O : Type) : Nat → (List (Unit × Unit × Unit × (Unit × Unit) × (Unit × Unit × Unit) × List (Unit × Unit)) × Int × Int) → (Int → Option O) → (Int → Option O) → Option O
  | 0, _, _, _ => none
  | q + 1, (a2, k3, i4), x, r => (cond (decide (i4 < ((a2.length : Nat) : Int))) (cond (decide ((0 : Int) ≤ i4) && decide (i4 < ((a2.length : Nat) : Int))) (cond (decide ((0 : Int) ≤ i4) && decide (i4 < ((a2.length : Nat) : Int))) (cond (decide ((0 : Int) ≤ i4) && decide (i4 < ((a2.length : Nat) : Int))) (cond (decide ((0 : Int) ≤ i4) && decide (i4 < ((a2.length : Nat) : Int))) (cond (decide ((0 : Int) ≤ i4) && decide (i4 < ((a2.length : Nat) : Int))) (cond (decide ((0 : Int) ≤ i4) && decide (i4 < ((a2.length : Nat) : Int))) ((lmarkText (IntKind.wrap .i64 ((IntKind.wrap .i64 ((IntKind.wrap .i64 ((IntKind.wrap .i64 ((IntKind.wrap .i64 ((IntKind.wrap .i64 (k3 + (1 : Int))) + (1 : Int))) + (1 : Int))) + (1 : Int))) + (1 : Int))) + (1 : Int)))).bind fun r5 => (cond (decide ((0 : Int) ≤ i4) && decide (i4 < ((a2.length : Nat) : Int))) ((lmarkText (IntKind.wrap .i64 ((IntKind.wrap .i64 ((IntKind.wrap .i64 ((IntKind.wrap .i64 ((IntKind.wrap .i64 ((IntKind.wrap .i64 ((IntKind.wrap .i64 (k3 + (1 : Int))) + (1 : Int))) + (1 : Int))) + (1 : Int))) + (1 : Int))) + (1 : Int))) + (1 : Int)))).bind fun r6 => (cond (decide ((0 : Int) ≤ i4) && decide (i4 < ((a2.length : Nat) : Int))) (cond (decide ((0 : Int) ≤ i4) && decide (i4 < ((a2.length : Nat) : Int))) ((lmarkDotSM ((nth a2 i4).2.2.2.2.2, (IntKind.wrap .i64 ((IntKind.wrap .i64 ((IntKind.wrap .i64 ((IntKind.wrap .i64 ((IntKind.wrap .i64 ((IntKind.wrap .i64 ((IntKind.wrap .i64 ((IntKind.wrap .i64 (k3 + (1 : Int))) + (1 : Int))) + (1 : Int))) + (1 : Int))) + (1 : Int))) + (1 : Int))) + (1 : Int))) + (1 : Int))))).bind fun r7 => (lmarkMsgSM_L2 O q (a2, r7, (IntKind.wrap .i64 (i4 + (1 : Int)))) x r)) none) none)) none)) none) none) none) none) none) none) (x k3))
noncomputable def lmarkMsgSM : (List (Unit × Unit × Unit × (Unit × Unit) × (Unit × Unit × Unit) × List (Unit × Unit)) × Int) → Option Int
  | (a0, k1) => (lmarkMsgSM_L2 Int fuel (a0, k1, (0 : Int)) (fun k8 => (some k8)) some)
noncomputable def c_lmarkMsgSM : Ctr := { args := [.val false (.sl (.pair .any (.pair .any (.pair .any (.pair (.pair .any .any) (.pair (.pair .any (.pair .any .any)) (.sl (.pair .any .any)))))))), .val false (.int .i64)], rets := [(false, [(none, (.int .i64))])], F := lmarkMsgSM }
noncomputable def m_lmarkMsgSM : MCtr := ⟨false, (.sl (.pair (.int .i64) (.pair (.int .i64) (.pair (.int .i64) (.pair (.pair (.int .i64) (.int .i64)) (.pair (.pair (.int .i64) (.pair .str .str)) (.sl (.pair (.int .i64) (.int .i64))))))))), lmarkMsgSM⟩
noncomputable def X_lmarkMsgSM : Ctx := XT.withΓ (lk [(26, c_lmarkText), (38, c_lmarkDotSM)]) (lk [])
noncomputable def H_lmarkMsgSM : Hints := ⟨lk [], lk [], lk []⟩
noncomputable def L_lmarkMsgSM_2 : LoopF c_lmarkMsgSM.Res := ⟨⟨83, [(0, .one (.val (.sl (.pair .any (.pair .any (.pair .any (.pair (.pair .any .any) (.pair (.pair .any (.pair .any .any)) (.sl (.pair .any .any)))))))))), (1, .one (.val (.int .i64))), (5, .one (.val (.int .i64)))], [], []⟩, [(0, ⟨83, [(1, .one (.val (.int .i64)))], [], []⟩)], lmarkMsgSM_L2⟩
noncomputable def T_lmarkMsgSM : Nat → Option (LoopF c_lmarkMsgSM.Res) := lk [(2, L_lmarkMsgSM_2)]
theorem s_lmarkMsgSM_2 : StepOk X_lmarkMsgSM H_lmarkMsgSM (c_lmarkMsgSM.finish X_lmarkMsgSM Try.f24.results.toList) T_lmarkMsgSM (loopAt Try.f24 0) := ⟨L_lmarkMsgSM_2, by kernel_rfl, fun O y x r => by kernel_rfl, fun O k y x r => by kernel_rfl⟩
theorem r_lmarkMsgSM (a) : fnRun X_lmarkMsgSM H_lmarkMsgSM c_lmarkMsgSM Try.f24 T_lmarkMsgSM a = lmarkMsgSM a := by kernel_rfl
theorem h_lmarkMsgSM [Tabs] : CtrHolds Try.prog 24 c_lmarkMsgSM := fn_ok (.cons h_lmarkText Try.call26 (.cons h_lmarkDotSM Try.call38 .nil)) .nil (H := H_lmarkMsgSM) (tbl := T_lmarkMsgSM) Try.func24 (by kernel_rfl) (loops1 (by kernel_rfl) s_lmarkMsgSM_2) r_lmarkMsgSM
/-! 25 lmarkAskedSM -/
noncomputable def lmarkAskedSM_L2 (O : Type) : Nat → (List ((Unit × Unit) × (Unit × Unit × Unit) × List (Unit × Unit)) × Int × Int) → (Int → Option O) → (Int → Option O) → Option O
  | 0, _, _, _ => none
  | q + 1, (a2, k3, i4), x, r => (cond (decide (i4 < ((a2.length : Nat) : Int))) (cond (decide ((0 : Int) ≤ i4) && decide (i4 < ((a2.length : Nat) : Int))) (cond (decide ((0 : Int) ≤ i4) && decide (i4 < ((a2.length : Nat) : Int))) (cond (decide ((0 : Int) ≤ i4) && decide (i4 < ((a2.length : Nat) : Int))) ((lmarkText (IntKind.wrap .i64 ((IntKind.wrap .i64 ((IntKind.wrap .i64 (k3 + (1 : Int))) + (1 : Int))) + (1 : Int)))).bind fun r5 => (cond (decide ((0 : Int) ≤ i4) && decide (i4 < ((a2.length : Nat) : Int))) ((lmarkText (IntKind.wrap .i64 ((IntKind.wrap .i64 ((IntKind.wrap .i64 ((IntKind.wrap .i64 (k3 + (1 : Int))) + (1 : Int))) + (1 : Int))) + (1 : Int)))).bind fun r6 => (cond (decide ((0 : Int) ≤ i4) && decide (i4 < ((a2.length : Nat) : Int))) (cond (decide ((0 : Int) ≤ i4) && decide (i4 < ((a2.length : Nat) : Int))) ((lmarkDotSM ((nth a2 i4).2.2, (IntKind.wrap .i64 ((IntKind.wrap .i64 ((IntKind.wrap .i64 ((IntKind.wrap .i64 ((IntKind.wrap .i64 (k3 + (1 : Int))) + (1 : Int))) + (1 : Int))) + (1 : Int))) + (1 : Int))))).bind fun r7 => (lmarkAskedSM_L2 O q (a2, r7, (IntKind.wrap .i64 (i4 + (1 : Int)))) x r)) none) none)) none)) none) none) none) (x k3))
noncomputable def lmarkAskedSM : (List ((Unit × Unit) × (Unit × Unit × Unit) × List (Unit × Unit)) × Int) → Option Int
  | (a0, k1) => (lmarkAskedSM_L2 Int fuel (a0, k1, (0 : Int)) (fun k8 => (some k8)) some)
noncomputable def c_lmarkAskedSM : Ctr := { args := [.val false (.sl (.pair (.pair .any .any) (.pair (.pair .any (.pair .any .any)) (.sl (.pair .any .any))))), .val false (.int .i64)], rets := [(false, [(none, (.int .i64))])], F := lmarkAskedSM }
noncomputable def m_lmarkAskedSM : MCtr := ⟨false, (.sl (.pair (.pair (.int .i64) (.int .i64)) (.pair (.pair (.int .i64) (.pair .str .str)) (.sl (.pair (.int .i64) (.int .i64)))))), lmarkAskedSM⟩
noncomputable def X_lmarkAskedSM : Ctx := XT.withΓ (lk [(26, c_lmarkText), (38, c_lmarkDotSM)]) (lk [])
noncomputable def H_lmarkAskedSM : Hints := ⟨lk [], lk [], lk []⟩
noncomputable def L_lmarkAskedSM_2 : LoopF c_lmarkAskedSM.Res := ⟨⟨62, [(0, .one (.val (.sl (.pair (.pair .any .any) (.pair (.pair .any (.pair .any .any)) (.sl (.pair .any .any))))))), (1, .one (.val (.int .i64))), (5, .one (.val (.int .i64)))], [], []⟩, [(0, ⟨62, [(1, .one (.val (.int .i64)))], [], []⟩)], lmarkAskedSM_L2⟩
noncomputable def T_lmarkAskedSM : Nat → Option (LoopF c_lmarkAskedSM.Res) := lk [(2, L_lmarkAskedSM_2)]
theorem s_lmarkAskedSM_2 : StepOk X_lmarkAskedSM H_lmarkAskedSM (c_lmarkAskedSM.finish X_lmarkAskedSM Try.f25.results.toList) T_lmarkAskedSM (loopAt Try.f25 0) := ⟨L_lmarkAskedSM_2, by kernel_rfl, fun O y x r => by kernel_rfl, fun O k y x r => by kernel_rfl⟩
theorem r_lmarkAskedSM (a) : fnRun X_lmarkAskedSM H_lmarkAskedSM c_lmarkAskedSM Try.f25 T_lmarkAskedSM a = lmarkAskedSM a := by kernel_rfl
theorem h_lmarkAskedSM [Tabs] : CtrHolds Try.prog 25 c_lmarkAskedSM := fn_ok (.cons h_lmarkText Try.call26 (.cons h_lmarkDotSM Try.call38 .nil)) .nil (H := H_lmarkAskedSM) (tbl := T_lmarkAskedSM) Try.func25 (by kernel_rfl) (loops1 (by kernel_rfl) s_lmarkAskedSM_2) r_lmarkAskedSM
/-! 10 lmarkClusterM -/
noncomputable def lmarkClusterM : ((List (Unit × Unit × Unit × List ((Unit × Unit) × (Unit × Unit × Unit) × List (Unit × Unit) × Unit) × List ((Unit × Unit) × Unit) × List (Unit × Unit) × List (Unit × Unit × Unit) × List ((Unit × Unit) × Unit × Unit)) × List (Unit × Unit × Unit × (Unit × Unit) × (Unit × Unit × Unit) × List (Unit × Unit)) × List ((Unit × Unit) × (Unit × Unit × Unit) × List (Unit × Unit))) × Int) → Option Int
  | ((a0, a1, a2), k3) => ((lmarkReplicaSM (a0, k3)).bind fun r4 => ((lmarkMsgSM (a1, r4)).bind fun r5 => ((lmarkAskedSM (a2, r5)).bind fun r6 => (some r6))))
noncomputable def c_lmarkClusterM : Ctr := { args := [.val true (.pair (.sl (.pair .any (.pair .any (.pair .any (.pair (.sl (.pair (.pair .any .any) (.pair (.pair .any (.pair .any .any)) (.pair (.sl (.pair .any .any)) .any)))) (.pair (.sl (.pair (.pair .any .any) .any)) (.pair (.sl (.pair .any .any)) (.pair (.sl (.pair .any (.pair .any .any))) (.sl (.pair (.pair .any .any) (.pair .any .any))))))))))) (.pair (.sl (.pair .any (.pair .any (.pair .any (.pair (.pair .any .any) (.pair (.pair .any (.pair .any .any)) (.sl (.pair .any .any)))))))) (.sl (.pair (.pair .any .any) (.pair (.pair .any (.pair .any .any)) (.sl (.pair .any .any))))))), .val false (.int .i64)], rets := [(false, [(none, (.int .i64))])], F := lmarkClusterM }
noncomputable def m_lmarkClusterM : MCtr := ⟨true, (.pair (.sl (.pair (.int .i64) (.pair (.int .i64) (.pair (.int .i64) (.pair (.sl (.pair (.pair (.int .i64) (.int .i64)) (.pair (.pair (.int .i64) (.pair .str .str)) (.pair (.sl (.pair (.int .i64) (.int .i64))) .bool)))) (.pair (.sl (.pair (.pair (.int .i64) (.int .i64)) (.int .i64))) (.pair (.sl (.pair (.int .i64) (.int .i64))) (.pair (.sl (.pair .str (.pair .str .bool))) (.sl (.pair (.pair (.int .i64) (.int .i64)) (.pair .str .bool))))))))))) (.pair (.sl (.pair (.int .i64) (.pair (.int .i64) (.pair (.int .i64) (.pair (.pair (.int .i64) (.int .i64)) (.pair (.pair (.int .i64) (.pair .str .str)) (.sl (.pair (.int .i64) (.int .i64))))))))) (.sl (.pair (.pair (.int .i64) (.int .i64)) (.pair (.pair (.int .i64) (.pair .str .str)) (.sl (.pair (.int .i64) (.int .i64)))))))), lmarkClusterM⟩
noncomputable def X_lmarkClusterM : Ctx := XT.withΓ (lk [(23, c_lmarkReplicaSM), (24, c_lmarkMsgSM), (25, c_lmarkAskedSM)]) (lk [])
noncomputable def H_lmarkClusterM : Hints := ⟨lk [], lk [], lk []⟩
noncomputable def T_lmarkClusterM : Nat → Option (LoopF c_lmarkClusterM.Res) := lk []
theorem r_lmarkClusterM (a) : fnRun X_lmarkClusterM H_lmarkClusterM c_lmarkClusterM Try.f10 T_lmarkClusterM a = lmarkClusterM a := by kernel_rfl
theorem h_lmarkClusterM [Tabs] : CtrHolds Try.prog 10 c_lmarkClusterM := fn_ok (.cons h_lmarkReplicaSM Try.call23 (.cons h_lmarkMsgSM Try.call24 (.cons h_lmarkAskedSM Try.call25 .nil))) .nil (H := H_lmarkClusterM) (tbl := T_lmarkClusterM) Try.func10 (by kernel_rfl) (loops0 (by kernel_rfl)) r_lmarkClusterM
/-! 12 lheldPairS -/
noncomputable def lheldPairS_L2 (O : Type) : Nat → (List (List UInt8 × List UInt8 × Bool) × Int × Int) → (Int → Option O) → (Int → Option O) → Option O
  | 0, _, _, _ => none
  | q + 1, (a2, k3, i4), x, r => (cond (decide (i4 < ((a2.length : Nat) : Int))) (cond (decide ((0 : Int) ≤ i4) && decide (i4 < ((a2.length : Nat) : Int))) ((lmarkText k3).bind fun r5 => (cond (!((nth a2 i4).1 == r5)) (r (-1 : Int)) (cond (decide ((0 : Int) ≤ i4) && decide (i4 < ((a2.length : Nat) : Int))) ((lmarkText (IntKind.wrap .i64 (k3 + (1 : Int)))).bind fun r6 => (cond (!((nth a2 i4).2.1 == r6)) (r (-1 : Int)) (cond (decide ((0 : Int) ≤ i4) && decide (i4 < ((a2.length : Nat) : Int))) (cond (!((nth a2 i4).2.2 == ((Int.tmod (IntKind.wrap .i64 ((IntKind.wrap .i64 (k3 + (1 : Int))) + (1 : Int))) (3 : Int)) == (0 : Int)))) (r (-1 : Int)) (lheldPairS_L2 O q (a2, (IntKind.wrap .i64 ((IntKind.wrap .i64 ((IntKind.wrap .i64 (k3 + (1 : Int))) + (1 : Int))) + (1 : Int))), (IntKind.wrap .i64 (i4 + (1 : Int)))) x r)) none))) none))) none) (x k3))
noncomputable def lheldPairS : (List (List UInt8 × List UInt8 × Bool) × Int) → Option Int
  | (a0, k1) => (lheldPairS_L2 Int fuel (a0, k1, (0 : Int)) (fun k7 => (some k7)) some)
noncomputable def c_lheldPairS : Ctr := { args := [.val false (.sl (.pair .str (.pair .str .bool))), .val false (.int .i64)], rets := [(false, [(none, (.int .i64))])], F := lheldPairS }
noncomputable def X_lheldPairS : Ctx := XT.withΓ (lk [(26, c_lmarkText)]) (lk [])
noncomputable def H_lheldPairS : Hints := ⟨lk [], lk [], lk []⟩
noncomputable def L_lheldPairS_2 : LoopF c_lheldPairS.Res := ⟨⟨44, [(0, .one (.val (.sl (.pair .str (.pair .str .bool))))), (1, .one (.val (.int .i64))), (5, .one (.val (.int .i64)))], [], []⟩, [(0, ⟨44, [(1, .one (.val (.int .i64)))], [], []⟩)], lheldPairS_L2⟩
noncomputable def T_lheldPairS : Nat → Option (LoopF c_lheldPairS.Res) := lk [(2, L_lheldPairS_2)]
theorem s_lheldPairS_2 : StepOk X_lheldPairS H_lheldPairS (c_lheldPairS.finish X_lheldPairS Try.f12.results.toList) T_lheldPairS (loopAt Try.f12 0) := ⟨L_lheldPairS_2, by kernel_rfl, fun O y x r => by kernel_rfl, fun O k y x r => by kernel_rfl⟩
theorem r_lheldPairS (a) : fnRun X_lheldPairS H_lheldPairS c_lheldPairS Try.f12 T_lheldPairS a = lheldPairS a := by kernel_rfl
theorem h_lheldPairS [Tabs] : CtrHolds Try.prog 12 c_lheldPairS := fn_ok (.cons h_lmarkText Try.call26 .nil) .nil (H := H_lheldPairS) (tbl := T_lheldPairS) Try.func12 (by kernel_rfl) (loops1 (by kernel_rfl) s_lheldPairS_2) r_lheldPairS
/-! 3 lFnExactFinal -/
noncomputable def lFnExactFinal : (List (Int × Int × Int × List ((Int × Int) × (Int × List UInt8 × List UInt8) × List (Int × Int) × Bool) × List ((Int × Int) × Int) × List (Int × Int) × List (List UInt8 × List UInt8 × Bool) × List ((Int × Int) × List UInt8 × Bool)) × List (Int × Int × Int × (Int × Int) × (Int × List UInt8 × List UInt8) × List (Int × Int)) × List ((Int × Int) × (Int × List UInt8 × List UInt8) × List (Int × Int))) → Option Bool
  | (aW0, aW1, aW2) => ((lszCluster ((aW0, aW1, aW2), (1048576 : Int))).bind fun r3 => (cond (decide (r3 < (0 : Int))) (some true) ((ltoCluster (aW0, aW1, aW2)).bind fun (r4, r5, r6) => ((sFinal (r4, r5, r6)).bind fun r7 => ((ltoCluster (aW0, aW1, aW2)).bind fun (r8, r9, r10) => ((iFinal (r8, r9, r10)).bind fun r11 => ((leqPairS (r11, r7)).bind fun r12 => (cond (!r12) (some false) ((ltoCluster (aW0, aW1, aW2)).bind fun (r13, r14, r15) => ((leqCluster ((r8, r9, r10), r13, r14, r15)).bind fun r16 => (cond (!r16) (some false) ((lmarkClusterM ((Ty.shapeVal (.pair (.sl (.pair (.int .i64) (.pair (.int .i64) (.pair (.int .i64) (.pair (.sl (.pair (.pair (.int .i64) (.int .i64)) (.pair (.pair (.int .i64) (.pair .str .str)) (.pair (.sl (.pair (.int .i64) (.int .i64))) .bool)))) (.pair (.sl (.pair (.pair (.int .i64) (.int .i64)) (.int .i64))) (.pair (.sl (.pair (.int .i64) (.int .i64))) (.pair (.sl (.pair .str (.pair .str .bool))) (.sl (.pair (.pair (.int .i64) (.int .i64)) (.pair .str .bool))))))))))) (.pair (.sl (.pair (.int .i64) (.pair (.int .i64) (.pair (.int .i64) (.pair (.pair (.int .i64) (.int .i64)) (.pair (.pair (.int .i64) (.pair .str .str)) (.sl (.pair (.int .i64) (.int .i64))))))))) (.sl (.pair (.pair (.int .i64) (.int .i64)) (.pair (.pair (.int .i64) (.pair .str .str)) (.sl (.pair (.int .i64) (.int .i64)))))))) (r8, r9, r10)), (1 : Int))).bind fun r17 => (cond (decide (r17 < (0 : Int))) (some false) ((leqPairS (r11, r7)).bind fun r18 => (cond (!r18) (some false) ((lmarkPairS (r11, (1 : Int))).bind fun (r19, r20) => ((lheldPairS (r20, (1 : Int))).bind fun r21 => (cond (decide (r21 < (0 : Int))) (some false) (cond (r21 != r19) (some false) ((ltoCluster (aW0, aW1, aW2)).bind fun (r22, r23, r24) => ((iFinal (r22, r23, r24)).bind fun r25 => ((leqPairS (r25, r7)).bind fun r26 => (cond (!r26) (some false) ((lheldPairS (r20, (1 : Int))).bind fun r27 => (cond (decide (r27 < (0 : Int))) (some false) (cond (r27 != r19) (some false) (some true)))))))))))))))))))))))))))
noncomputable def c_lFnExactFinal : Ctr := { args := [.val true (.pair (.old (.pair (.int .i64) (.pair (.int .i64) (.pair (.int .i64) (.pair (.old (.pair (.pair (.int .i64) (.int .i64)) (.pair (.pair (.int .i64) (.pair .str .str)) (.pair (.old (.pair (.int .i64) (.int .i64))) .bool)))) (.pair (.old (.pair (.pair (.int .i64) (.int .i64)) (.int .i64))) (.pair (.old (.pair (.int .i64) (.int .i64))) (.pair (.old (.pair .str (.pair .str .bool))) (.old (.pair (.pair (.int .i64) (.int .i64)) (.pair .str .bool))))))))))) (.pair (.old (.pair (.int .i64) (.pair (.int .i64) (.pair (.int .i64) (.pair (.pair (.int .i64) (.int .i64)) (.pair (.pair (.int .i64) (.pair .str .str)) (.old (.pair (.int .i64) (.int .i64))))))))) (.old (.pair (.pair (.int .i64) (.int .i64)) (.pair (.pair (.int .i64) (.pair .str .str)) (.old (.pair (.int .i64) (.int .i64))))))))], rets := [(false, [(none, .bool)])], F := lFnExactFinal }
noncomputable def X_lFnExactFinal : Ctx := (XT.withΓ (lk [(4, c_lszCluster), (6, c_ltoCluster), (5, c_sFinal), (7, c_iFinal), (8, c_leqPairS), (9, c_leqCluster), (11, c_lmarkPairS), (12, c_lheldPairS)]) (lk [])).withM (lk [(10, m_lmarkClusterM)])
noncomputable def H_lFnExactFinal : Hints := ⟨lk [], lk [], lk []⟩
noncomputable def T_lFnExactFinal : Nat → Option (LoopF c_lFnExactFinal.Res) := lk []
theorem r_lFnExactFinal (a) : fnRun X_lFnExactFinal H_lFnExactFinal c_lFnExactFinal Try.f3 T_lFnExactFinal a = lFnExactFinal a := by kernel_rfl
theorem h_lFnExactFinal [Tabs] {W : World} (hs : Tabs.sep = true) (hN : W.heap.size ≤ Tabs.N) (hS : ∀ b p, ¬ Tabs.S b p) : CtrAt W Try.prog 3 c_lFnExactFinal := law_fn_ok (.cons h_lszCluster Try.call4 (.cons h_ltoCluster Try.call6 (.cons h_sFinal Try.call5 (.cons h_iFinal Try.call7 (.cons h_leqPairS Try.call8 (.cons h_leqCluster Try.call9 (.cons h_lmarkPairS Try.call11 (.cons h_lheldPairS Try.call12 .nil)))))))) .nil (m := [(10, m_lmarkClusterM)]) (.cons (fun T => @h_lmarkClusterM T) Try.call10 .nil) hs hN hS (H := H_lFnExactFinal) (tbl := T_lFnExactFinal) Try.func3 (by kernel_rfl) (loops0 (by kernel_rfl)) r_lFnExactFinal
end Go.Rx
