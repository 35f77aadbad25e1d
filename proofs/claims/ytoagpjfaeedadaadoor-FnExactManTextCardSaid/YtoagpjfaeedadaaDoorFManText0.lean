import Derived.Test.YtoagpjfaeedadaaDoorTab
set_option linter.all false
set_option maxRecDepth 1000000
namespace Go.Rx
open Go.Proofs
/-! 18 lszMeta -/
noncomputable def lszMeta : ((Int × Int × List UInt8 × List UInt8) × Int) → Option Int
  | ((a0, a1, a2, a3), left4) => (cond (decide ((IntKind.wrap .i64 (left4 - ((a2.length : Nat) : Int))) < (0 : Int))) (some (-1 : Int)) (cond (decide ((IntKind.wrap .i64 ((IntKind.wrap .i64 (left4 - ((a2.length : Nat) : Int))) - ((a3.length : Nat) : Int))) < (0 : Int))) (some (-1 : Int)) (some (IntKind.wrap .i64 ((IntKind.wrap .i64 (left4 - ((a2.length : Nat) : Int))) - ((a3.length : Nat) : Int))))))
noncomputable def c_lszMeta : Ctr := { args := [.val true (.pair (.int .i64) (.pair (.int .i64) (.pair .str .str))), .val false (.int .i64)], rets := [(false, [(none, (.int .i64))])], F := lszMeta }
noncomputable def X_lszMeta : Ctx := XT.withΓ (lk []) (lk [])
noncomputable def H_lszMeta : Hints := ⟨lk [], lk [], lk []⟩
noncomputable def T_lszMeta : Nat → Option (LoopF c_lszMeta.Res) := lk []
theorem r_lszMeta (a) : fnRun X_lszMeta H_lszMeta c_lszMeta Tryd.f18 T_lszMeta a = lszMeta a := by kernel_rfl
theorem h_lszMeta : CtrHolds Tryd.prog 18 c_lszMeta := fn_ok .nil .nil (H := H_lszMeta) (tbl := T_lszMeta) Tryd.func18 (by kernel_rfl) (loops0 (by kernel_rfl)) r_lszMeta
/-! 9 lszMetaS -/
noncomputable def lszMetaS_L5 (O : Type) : Nat → (List (Int × Int × List UInt8 × List UInt8) × Int × Int) → (Int → Option O) → (Int → Option O) → Option O
  | 0, _, _, _ => none
  | q + 1, (a2, left3, i4), x, r => (cond (decide (i4 < ((a2.length : Nat) : Int))) (cond (decide ((0 : Int) ≤ i4) && decide (i4 < ((a2.length : Nat) : Int))) ((lszMeta (((nth a2 i4).1, (nth a2 i4).2.1, (nth a2 i4).2.2.1, (nth a2 i4).2.2.2), left3)).bind fun r5 => (cond (decide (r5 < (0 : Int))) (r (-1 : Int)) (lszMetaS_L5 O q (a2, r5, (IntKind.wrap .i64 (i4 + (1 : Int)))) x r))) none) (x left3))
noncomputable def lszMetaS : (List (Int × Int × List UInt8 × List UInt8) × Int) → Option Int
  | (a0, left1) => (cond (decide ((IntKind.wrap .i64 (left1 - ((a0.length : Nat) : Int))) < (0 : Int))) (some (-1 : Int)) (lszMetaS_L5 Int fuel (a0, (IntKind.wrap .i64 (left1 - ((a0.length : Nat) : Int))), (0 : Int)) (fun left6 => (some left6)) some))
noncomputable def c_lszMetaS : Ctr := { args := [.val false (.sl (.pair (.int .i64) (.pair (.int .i64) (.pair .str .str)))), .val false (.int .i64)], rets := [(false, [(none, (.int .i64))])], F := lszMetaS }
noncomputable def X_lszMetaS : Ctx := XT.withΓ (lk [(18, c_lszMeta)]) (lk [])
noncomputable def H_lszMetaS : Hints := ⟨lk [], lk [], lk []⟩
noncomputable def L_lszMetaS_5 : LoopF c_lszMetaS.Res := ⟨⟨27, [(0, .one (.val (.sl (.pair (.int .i64) (.pair (.int .i64) (.pair .str .str)))))), (1, .one (.val (.int .i64))), (5, .one (.val (.int .i64)))], [], []⟩, [(0, ⟨27, [(1, .one (.val (.int .i64)))], [], []⟩)], lszMetaS_L5⟩
noncomputable def T_lszMetaS : Nat → Option (LoopF c_lszMetaS.Res) := lk [(5, L_lszMetaS_5)]
theorem s_lszMetaS_5 : StepOk X_lszMetaS H_lszMetaS (c_lszMetaS.finish X_lszMetaS Tryd.f9.results.toList) T_lszMetaS (loopAt Tryd.f9 0) := ⟨L_lszMetaS_5, by kernel_rfl, fun O y x r => by kernel_rfl, fun O k y x r => by kernel_rfl⟩
theorem r_lszMetaS (a) : fnRun X_lszMetaS H_lszMetaS c_lszMetaS Tryd.f9 T_lszMetaS a = lszMetaS a := by kernel_rfl
theorem h_lszMetaS : CtrHolds Tryd.prog 9 c_lszMetaS := fn_ok (.cons h_lszMeta Tryd.call18 .nil) .nil (H := H_lszMetaS) (tbl := T_lszMetaS) Tryd.func9 (by kernel_rfl) (loops1 (by kernel_rfl) s_lszMetaS_5) r_lszMetaS
/-! 4 lszManifest -/
noncomputable def lszManifest : ((Int × Int × List (Int × Int × List UInt8 × List UInt8)) × Int) → Option Int
  | ((a0, a1, a2), left3) => ((lszMetaS (a2, left3)).bind fun r4 => (cond (decide (r4 < (0 : Int))) (some (-1 : Int)) (some r4)))
noncomputable def c_lszManifest : Ctr := { args := [.val true (.pair (.int .i64) (.pair (.int .i64) (.sl (.pair (.int .i64) (.pair (.int .i64) (.pair .str .str)))))), .val false (.int .i64)], rets := [(false, [(none, (.int .i64))])], F := lszManifest }
noncomputable def X_lszManifest : Ctx := XT.withΓ (lk [(9, c_lszMetaS)]) (lk [])
noncomputable def H_lszManifest : Hints := ⟨lk [], lk [], lk []⟩
noncomputable def T_lszManifest : Nat → Option (LoopF c_lszManifest.Res) := lk []
theorem r_lszManifest (a) : fnRun X_lszManifest H_lszManifest c_lszManifest Tryd.f4 T_lszManifest a = lszManifest a := by kernel_rfl
theorem h_lszManifest : CtrHolds Tryd.prog 4 c_lszManifest := fn_ok (.cons h_lszMetaS Tryd.call9 .nil) .nil (H := H_lszManifest) (tbl := T_lszManifest) Tryd.func4 (by kernel_rfl) (loops0 (by kernel_rfl)) r_lszManifest
/-! 21 ltoMeta -/
noncomputable def ltoMeta : (Int × Int × List UInt8 × List UInt8) → Option (Int × Int × List UInt8 × List UInt8)
  | (a0, a1, a2, a3) => (some (a0, a1, a2, a3))
noncomputable def c_ltoMeta : Ctr := { args := [.val true (.pair (.int .i64) (.pair (.int .i64) (.pair .str .str)))], rets := [(true, [(none, (.int .i64)), (none, (.int .i64)), (none, .str), (none, .str)])], F := ltoMeta }
noncomputable def X_ltoMeta : Ctx := XT.withΓ (lk []) (lk [])
noncomputable def H_ltoMeta : Hints := ⟨lk [], lk [], lk []⟩
noncomputable def T_ltoMeta : Nat → Option (LoopF c_ltoMeta.Res) := lk []
theorem r_ltoMeta (a) : fnRun X_ltoMeta H_ltoMeta c_ltoMeta Tryd.f21 T_ltoMeta a = ltoMeta a := by kernel_rfl
theorem h_ltoMeta : CtrHolds Tryd.prog 21 c_ltoMeta := fn_ok .nil .nil (H := H_ltoMeta) (tbl := T_ltoMeta) Tryd.func21 (by kernel_rfl) (loops0 (by kernel_rfl)) r_ltoMeta
/-! 13 ltoMetaS -/
noncomputable def ltoMetaS_L3 (O : Type) : Nat → (List (Int × Int × List UInt8 × List UInt8) × Int × List (Int × Int × List UInt8 × List UInt8)) → ((List (Int × Int × List UInt8 × List UInt8)) → Option O) → ((List (Int × Int × List UInt8 × List UInt8)) → Option O) → Option O
  | 0, _, _, _ => none
  | q + 1, (a1, i2, out3), x, r => (cond (decide (i2 < ((a1.length : Nat) : Int))) (cond (decide ((0 : Int) ≤ i2) && decide (i2 < ((a1.length : Nat) : Int))) ((ltoMeta ((nth a1 i2).1, (nth a1 i2).2.1, (nth a1 i2).2.2.1, (nth a1 i2).2.2.2)).bind fun (r4, r5, r6, r7) => (cond (decide ((0 : Int) ≤ i2) && decide (i2 < ((out3.length : Nat) : Int))) (ltoMetaS_L3 O q (a1, (IntKind.wrap .i64 (i2 + (1 : Int))), (List.set out3 (Int.toNat i2) (r4, r5, r6, r7))) x r) none)) none) (x out3))
noncomputable def ltoMetaS : (List (Int × Int × List UInt8 × List UInt8)) → Option (List (Int × Int × List UInt8 × List UInt8))
  | a0 => (cond (decide ((0 : Int) ≤ ((a0.length : Nat) : Int)) && ((((a0.length : Nat) : Int) == ((a0.length : Nat) : Int)) && decide (((a0.length : Nat) : Int) ≤ (4294967296 : Int)))) (ltoMetaS_L3 (List (Int × Int × List UInt8 × List UInt8)) fuel (a0, (0 : Int), (List.replicate (Int.toNat ((a0.length : Nat) : Int)) ((0 : Int), (0 : Int), [], []))) (fun out8 => (some out8)) some) none)
noncomputable def c_ltoMetaS : Ctr := { args := [.val false (.sl (.pair (.int .i64) (.pair (.int .i64) (.pair .str .str))))], rets := [(false, [(some 37, (.sl (.pair (.int .i64) (.pair (.int .i64) (.pair .str .str)))))])], F := ltoMetaS }
noncomputable def X_ltoMetaS : Ctx := XT.withΓ (lk [(21, c_ltoMeta)]) (lk [])
noncomputable def H_ltoMetaS : Hints := ⟨lk [], lk [], lk []⟩
noncomputable def L_ltoMetaS_3 : LoopF c_ltoMetaS.Res := ⟨⟨23, [(0, .one (.val (.sl (.pair (.int .i64) (.pair (.int .i64) (.pair .str .str)))))), (3, .one (.own 0)), (4, .one (.val (.int .i64)))], [.arr 37 (.pair (.int .i64) (.pair (.int .i64) (.pair .str .str)))], []⟩, [(0, ⟨23, [(3, .one (.own 0))], [.arr 37 (.pair (.int .i64) (.pair (.int .i64) (.pair .str .str)))], []⟩)], ltoMetaS_L3⟩
noncomputable def T_ltoMetaS : Nat → Option (LoopF c_ltoMetaS.Res) := lk [(3, L_ltoMetaS_3)]
theorem s_ltoMetaS_3 : StepOk X_ltoMetaS H_ltoMetaS (c_ltoMetaS.finish X_ltoMetaS Tryd.f13.results.toList) T_ltoMetaS (loopAt Tryd.f13 0) := ⟨L_ltoMetaS_3, by kernel_rfl, fun O y x r => by kernel_rfl, fun O k y x r => by kernel_rfl⟩
theorem r_ltoMetaS (a) : fnRun X_ltoMetaS H_ltoMetaS c_ltoMetaS Tryd.f13 T_ltoMetaS a = ltoMetaS a := by kernel_rfl
theorem h_ltoMetaS : CtrHolds Tryd.prog 13 c_ltoMetaS := fn_ok (.cons h_ltoMeta Tryd.call21 .nil) .nil (H := H_ltoMetaS) (tbl := T_ltoMetaS) Tryd.func13 (by kernel_rfl) (loops1 (by kernel_rfl) s_ltoMetaS_3) r_ltoMetaS
/-! 6 ltoManifest -/
noncomputable def ltoManifest : (Int × Int × List (Int × Int × List UInt8 × List UInt8)) → Option (Int × Int × List (Int × Int × List UInt8 × List UInt8))
  | (a0, a1, a2) => ((ltoMetaS a2).bind fun r3 => (some (a0, a1, r3)))
noncomputable def c_ltoManifest : Ctr := { args := [.val true (.pair (.int .i64) (.pair (.int .i64) (.sl (.pair (.int .i64) (.pair (.int .i64) (.pair .str .str))))))], rets := [(true, [(none, (.int .i64)), (none, (.int .i64)), (some 37, (.sl (.pair (.int .i64) (.pair (.int .i64) (.pair .str .str)))))])], F := ltoManifest }
noncomputable def X_ltoManifest : Ctx := XT.withΓ (lk [(13, c_ltoMetaS)]) (lk [])
noncomputable def H_ltoManifest : Hints := ⟨lk [], lk [], lk []⟩
noncomputable def T_ltoManifest : Nat → Option (LoopF c_ltoManifest.Res) := lk []
theorem r_ltoManifest (a) : fnRun X_ltoManifest H_ltoManifest c_ltoManifest Tryd.f6 T_ltoManifest a = ltoManifest a := by kernel_rfl
theorem h_ltoManifest : CtrHolds Tryd.prog 6 c_ltoManifest := fn_ok (.cons h_ltoMetaS Tryd.call13 .nil) .nil (H := H_ltoManifest) (tbl := T_ltoManifest) Tryd.func6 (by kernel_rfl) (loops0 (by kernel_rfl)) r_ltoManifest
/-! 19 sl1In -/
noncomputable def sl1In : (Int × Int × Int) → Option Bool
  | (x0, least1, most2) => (cond (decide (x0 ≥ least1)) (some (decide (x0 ≤ most2))) (some false))
noncomputable def c_sl1In : Ctr := { args := [.val false (.int .i64), .val false (.int .i64), .val false (.int .i64)], rets := [(false, [(none, .bool)])], F := sl1In }
noncomputable def X_sl1In : Ctx := XT.withΓ (lk []) (lk [])
noncomputable def H_sl1In : Hints := ⟨lk [], lk [], lk []⟩
noncomputable def T_sl1In : Nat → Option (LoopF c_sl1In.Res) := lk []
theorem r_sl1In (a) : fnRun X_sl1In H_sl1In c_sl1In Tryd.f19 T_sl1In a = sl1In a := by kernel_rfl
theorem h_sl1In : CtrHolds Tryd.prog 19 c_sl1In := fn_ok .nil .nil (H := H_sl1In) (tbl := T_sl1In) Tryd.func19 (by kernel_rfl) (loops0 (by kernel_rfl)) r_sl1In
/-! 27 sl6Key -/
noncomputable def sl6Key : (List UInt8) → Option Bool
  | s0 => ((sl1In (((s0.length : Nat) : Int), (1 : Int), (20 : Int))).bind fun r1 => (some r1))
noncomputable def c_sl6Key : Ctr := { args := [.val false .str], rets := [(false, [(none, .bool)])], F := sl6Key }
noncomputable def X_sl6Key : Ctx := XT.withΓ (lk [(19, c_sl1In)]) (lk [])
noncomputable def H_sl6Key : Hints := ⟨lk [], lk [], lk []⟩
noncomputable def T_sl6Key : Nat → Option (LoopF c_sl6Key.Res) := lk []
theorem r_sl6Key (a) : fnRun X_sl6Key H_sl6Key c_sl6Key Tryd.f27 T_sl6Key a = sl6Key a := by kernel_rfl
theorem h_sl6Key : CtrHolds Tryd.prog 27 c_sl6Key := fn_ok (.cons h_sl1In Tryd.call19 .nil) .nil (H := H_sl6Key) (tbl := T_sl6Key) Tryd.func27 (by kernel_rfl) (loops0 (by kernel_rfl)) r_sl6Key
/-! 20 sl6Meta -/
noncomputable def sl6Meta : ((Int × Int × List (Int × Int × List UInt8 × List UInt8)) × Int × Int × List UInt8 × List UInt8) → Option Bool
  | ((m0, m1, m2), t3, t4, t5, t6) => ((sl1In (t3, (1 : Int), (IntKind.wrap .i64 (m0 - (1 : Int))))).bind fun r7 => (cond r7 ((sl1In (t4, (0 : Int), (3 : Int))).bind fun r8 => (cond r8 ((sl6Key t5).bind fun r9 => (cond r9 ((sl6Key t6).bind fun r10 => (cond r10 (some ((Op.bytesLess t5 t6) || (t5 == t6))) (some false))) (some false))) (some false))) (some false)))
noncomputable def c_sl6Meta : Ctr := { args := [.val true (.pair (.int .i64) (.pair (.int .i64) (.sl (.pair (.int .i64) (.pair (.int .i64) (.pair .str .str)))))), .val true (.pair (.int .i64) (.pair (.int .i64) (.pair .str .str)))], rets := [(false, [(none, .bool)])], F := sl6Meta }
noncomputable def X_sl6Meta : Ctx := XT.withΓ (lk [(19, c_sl1In), (27, c_sl6Key)]) (lk [])
noncomputable def H_sl6Meta : Hints := ⟨lk [], lk [], lk []⟩
noncomputable def T_sl6Meta : Nat → Option (LoopF c_sl6Meta.Res) := lk []
theorem r_sl6Meta (a) : fnRun X_sl6Meta H_sl6Meta c_sl6Meta Tryd.f20 T_sl6Meta a = sl6Meta a := by kernel_rfl
theorem h_sl6Meta : CtrHolds Tryd.prog 20 c_sl6Meta := fn_ok (.cons h_sl1In Tryd.call19 (.cons h_sl6Key Tryd.call27 .nil)) .nil (H := H_sl6Meta) (tbl := T_sl6Meta) Tryd.func20 (by kernel_rfl) (loops0 (by kernel_rfl)) r_sl6Meta
/-! 10 sManOk -/
noncomputable def sManOk_L10 (O : Type) : Nat → (Int × Int × Int × Bool × Bool × Bool × Int × Int × List (Int × Int × List UInt8 × List UInt8) × Int × Int × List UInt8 × List UInt8) → ((Int × Int × Bool × Bool × Bool × Int × Int × List (Int × Int × List UInt8 × List UInt8)) → Option O) → (Bool → Option O) → Option O
  | 0, _, _, _ => none
  | q + 1, (i22, k23, v24, v25, v26, v27, m28, m29, m30, t31, t32, t33, t34), x, r => (cond (decide (k23 < i22)) (cond (decide ((0 : Int) ≤ k23) && decide (k23 < ((m30.length : Nat) : Int))) (cond (decide (t32 > (0 : Int))) (cond ((nth m30 k23).2.1 == t32) (cond ((Op.bytesLess (nth m30 k23).2.2.1 t34) || ((nth m30 k23).2.2.1 == t34)) (cond ((Op.bytesLess t33 (nth m30 k23).2.2.2) || (t33 == (nth m30 k23).2.2.2)) (r false) (sManOk_L10 O q (i22, (IntKind.wrap .i64 (k23 + (1 : Int))), v24, v25, v26, v27, m28, m29, m30, t31, t32, t33, t34) x r)) (sManOk_L10 O q (i22, (IntKind.wrap .i64 (k23 + (1 : Int))), v24, v25, v26, v27, m28, m29, m30, t31, t32, t33, t34) x r)) (sManOk_L10 O q (i22, (IntKind.wrap .i64 (k23 + (1 : Int))), v24, v25, v26, v27, m28, m29, m30, t31, t32, t33, t34) x r)) (sManOk_L10 O q (i22, (IntKind.wrap .i64 (k23 + (1 : Int))), v24, v25, v26, v27, m28, m29, m30, t31, t32, t33, t34) x r)) none) (x (i22, v24, v25, v26, v27, m28, m29, m30)))
noncomputable def sManOk_L4 (O : Type) : Nat → (Int × Int × Int × List (Int × Int × List UInt8 × List UInt8)) → (Unit → Option O) → (Bool → Option O) → Option O
  | 0, _, _, _ => none
  | q + 1, (i5, m6, m7, m8), x, r => (cond (decide (i5 < ((m8.length : Nat) : Int))) (cond (decide ((0 : Int) ≤ i5) && decide (i5 < ((m8.length : Nat) : Int))) ((((sl6Meta ((m6, m7, m8), (nth m8 i5).1, (nth m8 i5).2.1, (nth m8 i5).2.2.1, (nth m8 i5).2.2.2)).bind fun r9 => (cond (!r9) ((r false).map Sum.inr) (cond (decide (i5 > (0 : Int))) (cond (decide ((0 : Int) ≤ (IntKind.wrap .i64 (i5 - (1 : Int)))) && decide ((IntKind.wrap .i64 (i5 - (1 : Int))) < ((m8.length : Nat) : Int))) (cond (decide ((nth m8 (IntKind.wrap .i64 (i5 - (1 : Int)))).1 ≥ (nth m8 i5).1)) ((r false).map Sum.inr) (some (Sum.inl (i5, i5, decide (i5 > (0 : Int)), true, decide ((nth m8 (IntKind.wrap .i64 (i5 - (1 : Int)))).1 ≥ (nth m8 i5).1), m6, m7, m8, (nth m8 i5).1, (nth m8 i5).2.1, (nth m8 i5).2.2.1, (nth m8 i5).2.2.2)))) none) (some (Sum.inl (i5, i5, decide (i5 > (0 : Int)), false, false, m6, m7, m8, (nth m8 i5).1, (nth m8 i5).2.1, (nth m8 i5).2.2.1, (nth m8 i5).2.2.2)))))) : Option ((Int × Int × Bool × Bool × Bool × Int × Int × List (Int × Int × List UInt8 × List UInt8) × Int × Int × List UInt8 × List UInt8) ⊕ O)).bind fun z => match z with | .inl (i10, v11, v12, v13, v14, m15, m16, m17, t18, t19, t20, t21) => (sManOk_L10 O fuel (i10, (0 : Int), v11, v12, v13, v14, m15, m16, m17, t18, t19, t20, t21) (fun (i35, v36, v37, v38, v39, m40, m41, m42) => (sManOk_L4 O q ((IntKind.wrap .i64 (i35 + (1 : Int))), m40, m41, m42) x r)) r) | .inr o => some o) none) (x ()))
noncomputable def sManOk : (Int × Int × List (Int × Int × List UInt8 × List UInt8)) → Option Bool
  | (m0, m1, m2) => ((sl1In (m0, (1 : Int), (100000 : Int))).bind fun r3 => (cond (!r3) (some false) ((sl1In (m1, (0 : Int), (IntKind.wrap .i64 (m0 - (1 : Int))))).bind fun r4 => (cond (!r4) (some false) (cond (decide (((m2.length : Nat) : Int) > (20 : Int))) (some false) (sManOk_L4 Bool fuel ((0 : Int), m0, m1, m2) (fun _ => (some true)) some))))))
noncomputable def c_sManOk : Ctr := { args := [.val true (.pair (.int .i64) (.pair (.int .i64) (.sl (.pair (.int .i64) (.pair (.int .i64) (.pair .str .str))))))], rets := [(false, [(none, .bool)])], F := sManOk }
noncomputable def X_sManOk : Ctx := XT.withΓ (lk [(19, c_sl1In), (20, c_sl6Meta)]) (lk [])
noncomputable def H_sManOk : Hints := ⟨lk [], lk [(9, ⟨92, [(1, .one (.ptr 0 0)), (3, .one (.val (.int .i64))), (4, .one (.ptr 1 0)), (43, .one (.val (.int .i64))), (44, .one (.val .bool)), (45, .one (.val .bool)), (56, .one (.val .bool))], [.vars 29 [.val (.int .i64), .val (.int .i64), .val (.sl (.pair (.int .i64) (.pair (.int .i64) (.pair .str .str))))], .vars 37 [.val (.int .i64), .val (.int .i64), .val .str, .val .str]], []⟩)], lk []⟩
noncomputable def L_sManOk_4 : LoopF c_sManOk.Res := ⟨⟨92, [(1, .one (.ptr 0 0)), (3, .one (.val (.int .i64)))], [.vars 29 [.val (.int .i64), .val (.int .i64), .val (.sl (.pair (.int .i64) (.pair (.int .i64) (.pair .str .str))))]], []⟩, [(0, ⟨92, [], [], []⟩)], sManOk_L4⟩
noncomputable def L_sManOk_10 : LoopF c_sManOk.Res := ⟨⟨92, [(1, .one (.ptr 0 0)), (3, .one (.val (.int .i64))), (4, .one (.ptr 1 0)), (5, .one (.val (.int .i64))), (43, .one (.val (.int .i64))), (44, .one (.val .bool)), (45, .one (.val .bool)), (56, .one (.val .bool))], [.vars 29 [.val (.int .i64), .val (.int .i64), .val (.sl (.pair (.int .i64) (.pair (.int .i64) (.pair .str .str))))], .vars 37 [.val (.int .i64), .val (.int .i64), .val .str, .val .str]], []⟩, [(2, ⟨92, [(1, .one (.ptr 0 0)), (3, .one (.val (.int .i64))), (43, .one (.val (.int .i64))), (44, .one (.val .bool)), (45, .one (.val .bool)), (56, .one (.val .bool))], [.vars 29 [.val (.int .i64), .val (.int .i64), .val (.sl (.pair (.int .i64) (.pair (.int .i64) (.pair .str .str))))]], []⟩)], sManOk_L10⟩
noncomputable def T_sManOk : Nat → Option (LoopF c_sManOk.Res) := lk [(4, L_sManOk_4), (10, L_sManOk_10)]
theorem s_sManOk_4 : StepOk X_sManOk H_sManOk (c_sManOk.finish X_sManOk Tryd.f10.results.toList) T_sManOk (loopAt Tryd.f10 0) := ⟨L_sManOk_4, by kernel_rfl, fun O y x r => by kernel_rfl, fun O k y x r => by kernel_rfl⟩
theorem s_sManOk_10 : StepOk X_sManOk H_sManOk (c_sManOk.finish X_sManOk Tryd.f10.results.toList) T_sManOk (loopAt Tryd.f10 1) := ⟨L_sManOk_10, by kernel_rfl, fun O y x r => by kernel_rfl, fun O k y x r => by kernel_rfl⟩
theorem r_sManOk (a) : fnRun X_sManOk H_sManOk c_sManOk Tryd.f10 T_sManOk a = sManOk a := by kernel_rfl
theorem h_sManOk : CtrHolds Tryd.prog 10 c_sManOk := fn_ok (.cons h_sl1In Tryd.call19 (.cons h_sl6Meta Tryd.call20 .nil)) .nil (H := H_sManOk) (tbl := T_sManOk) Tryd.func10 (by kernel_rfl) (loops2 (by kernel_rfl) s_sManOk_4 s_sManOk_10) r_sManOk
/-! 11 sl6Text -/
noncomputable def sl6TextN : Nat → Int → Option (List UInt8)
  | 0, _ => none
  | q + 1, n0 => (cond (decide (n0 < (10 : Int))) (some (strOf [(IntKind.wrap .u8 (IntKind.wrap .i64 ((48 : Int) + n0)))])) ((sl6TextN q (IntKind.wrap .i64 (Int.tdiv n0 (10 : Int)))).bind fun r1 => (cond (decide ((r1.length + (strOf [(IntKind.wrap .u8 (IntKind.wrap .i64 ((48 : Int) + (Int.tmod n0 (10 : Int)))))]).length) ≤ lenBound)) (some (r1 ++ (strOf [(IntKind.wrap .u8 (IntKind.wrap .i64 ((48 : Int) + (Int.tmod n0 (10 : Int)))))]))) none)))
noncomputable def c_sl6TextN (q : Nat) : Ctr := { args := [.val false (.int .i64)], rets := [(false, [(none, .str)])], F := sl6TextN q }
noncomputable def X_sl6Text (q : Nat) : Ctx := XT.withΓ (lk [(11, c_sl6TextN q)]) (lk [])
noncomputable def H_sl6Text : Hints := ⟨lk [], lk [], lk []⟩
noncomputable def T_sl6Text (q : Nat) : Nat → Option (LoopF (c_sl6TextN q).Res) := lk []
theorem r_sl6Text (q : Nat) (a) : fnRun (X_sl6Text q) H_sl6Text (c_sl6TextN (q + 1)) Tryd.f11 (T_sl6Text (q + 1)) a = sl6TextN (q + 1) a := by kernel_rfl
theorem h_sl6TextN : ∀ q, CtrHolds Tryd.prog 11 (c_sl6TextN q)
  | 0 => fun _ _ _ _ _ _ _ _ _ hF => by cases hF
  | q + 1 => fn_ok (.cons (h_sl6TextN q) Tryd.call11 .nil) .nil (H := H_sl6Text) (tbl := T_sl6Text (q + 1)) Tryd.func11 (by kernel_rfl) (loops0 (by kernel_rfl)) (r_sl6Text q)
noncomputable def sl6Text : Int → Option (List UInt8) := sl6TextN 30
noncomputable def c_sl6Text : Ctr := { args := [.val false (.int .i64)], rets := [(false, [(none, .str)])], F := sl6Text }
theorem h_sl6Text : CtrHolds Tryd.prog 11 c_sl6Text := h_sl6TextN 30
/-! 12 sl6Hex -/
noncomputable def sl6Hex_L4 (O : Type) : Nat → (List UInt8 × List UInt8 × Int × List Int) → ((List Int) → Option O) → ((List UInt8) → Option O) → Option O
  | 0, _, _, _ => none
  | q + 1, (s1, digits2, i3, out4), x, r => (cond (decide (i3 < ((s1.length : Nat) : Int))) (cond (decide ((0 : Int) ≤ i3) && decide (i3 < ((s1.length : Nat) : Int))) (cond (decide ((0 : Int) ≤ (Int.fdiv (((UInt8.toNat (nth s1 i3)) : Nat) : Int) (16 : Int))) && decide ((Int.fdiv (((UInt8.toNat (nth s1 i3)) : Nat) : Int) (16 : Int)) < ((digits2.length : Nat) : Int))) (cond (decide ((0 : Int) ≤ i3) && decide (i3 < ((s1.length : Nat) : Int))) (cond (decide ((0 : Int) ≤ (bits .and .u8 (((UInt8.toNat (nth s1 i3)) : Nat) : Int) (15 : Int))) && decide ((bits .and .u8 (((UInt8.toNat (nth s1 i3)) : Nat) : Int) (15 : Int)) < ((digits2.length : Nat) : Int))) (cond (decide ((out4.length + [(((UInt8.toNat (nth digits2 (Int.fdiv (((UInt8.toNat (nth s1 i3)) : Nat) : Int) (16 : Int)))) : Nat) : Int), (((UInt8.toNat (nth digits2 (bits .and .u8 (((UInt8.toNat (nth s1 i3)) : Nat) : Int) (15 : Int)))) : Nat) : Int)].length) ≤ lenBound)) (sl6Hex_L4 O q (s1, digits2, (IntKind.wrap .i64 (i3 + (1 : Int))), (out4 ++ [(((UInt8.toNat (nth digits2 (Int.fdiv (((UInt8.toNat (nth s1 i3)) : Nat) : Int) (16 : Int)))) : Nat) : Int), (((UInt8.toNat (nth digits2 (bits .and .u8 (((UInt8.toNat (nth s1 i3)) : Nat) : Int) (15 : Int)))) : Nat) : Int)])) x r) none) none) none) none) none) (x out4))
noncomputable def sl6Hex : (List UInt8) → Option (List UInt8)
  | s0 => (sl6Hex_L4 (List UInt8) fuel (s0, [48, 49, 50, 51, 52, 53, 54, 55, 56, 57, 97, 98, 99, 100, 101, 102], (0 : Int), []) (fun out5 => (some (strOf out5))) some)
noncomputable def c_sl6Hex : Ctr := { args := [.val false .str], rets := [(false, [(none, .str)])], F := sl6Hex }
noncomputable def X_sl6Hex : Ctx := XT.withΓ (lk []) (lk [])
noncomputable def H_sl6Hex : Hints := ⟨lk [], lk [], lk []⟩
noncomputable def L_sl6Hex_4 : LoopF c_sl6Hex.Res := ⟨⟨30, [(0, .one (.val .str)), (3, .one (.val .str)), (4, .one (.own 0)), (5, .one (.val (.int .i64)))], [.arr 5 (.int .u8)], []⟩, [(0, ⟨30, [(4, .one (.own 0))], [.arr 5 (.int .u8)], []⟩)], sl6Hex_L4⟩
noncomputable def T_sl6Hex : Nat → Option (LoopF c_sl6Hex.Res) := lk [(4, L_sl6Hex_4)]
theorem s_sl6Hex_4 : StepOk X_sl6Hex H_sl6Hex (c_sl6Hex.finish X_sl6Hex Tryd.f12.results.toList) T_sl6Hex (loopAt Tryd.f12 0) := ⟨L_sl6Hex_4, by kernel_rfl, fun O y x r => by kernel_rfl, fun O k y x r => by kernel_rfl⟩
theorem r_sl6Hex (a) : fnRun X_sl6Hex H_sl6Hex c_sl6Hex Tryd.f12 T_sl6Hex a = sl6Hex a := by kernel_rfl
theorem h_sl6Hex : CtrHolds Tryd.prog 12 c_sl6Hex := fn_ok .nil .nil (H := H_sl6Hex) (tbl := T_sl6Hex) Tryd.func12 (by kernel_rfl) (loops1 (by kernel_rfl) s_sl6Hex_4) r_sl6Hex
/-! 5 sManText -/
noncomputable def sManText_L5 (O : Type) : Nat → (List UInt8 × Int × Int × Int × List (Int × Int × List UInt8 × List UInt8)) → ((List UInt8) → Option O) → ((List UInt8) → Option O) → Option O
  | 0, _, _, _ => none
  | q + 1, (s6, i7, m8, m9, m10), x, r => (cond (decide (i7 < ((m10.length : Nat) : Int))) (cond (decide ((0 : Int) ≤ i7) && decide (i7 < ((m10.length : Nat) : Int))) (cond (decide ((s6.length + 4) ≤ lenBound)) ((sl6Text (nth m10 i7).1).bind fun r11 => (cond (decide (((s6 ++ [116, 97, 98, 32]).length + r11.length) ≤ lenBound)) (cond (decide ((((s6 ++ [116, 97, 98, 32]) ++ r11).length + 1) ≤ lenBound)) ((sl6Text (nth m10 i7).2.1).bind fun r12 => (cond (decide (((((s6 ++ [116, 97, 98, 32]) ++ r11) ++ [32]).length + r12.length) ≤ lenBound)) (cond (decide ((((((s6 ++ [116, 97, 98, 32]) ++ r11) ++ [32]) ++ r12).length + 1) ≤ lenBound)) ((sl6Hex (nth m10 i7).2.2.1).bind fun r13 => (cond (decide (((((((s6 ++ [116, 97, 98, 32]) ++ r11) ++ [32]) ++ r12) ++ [32]).length + r13.length) ≤ lenBound)) (cond (decide ((((((((s6 ++ [116, 97, 98, 32]) ++ r11) ++ [32]) ++ r12) ++ [32]) ++ r13).length + 1) ≤ lenBound)) ((sl6Hex (nth m10 i7).2.2.2).bind fun r14 => (cond (decide (((((((((s6 ++ [116, 97, 98, 32]) ++ r11) ++ [32]) ++ r12) ++ [32]) ++ r13) ++ [32]).length + r14.length) ≤ lenBound)) (cond (decide ((((((((((s6 ++ [116, 97, 98, 32]) ++ r11) ++ [32]) ++ r12) ++ [32]) ++ r13) ++ [32]) ++ r14).length + 1) ≤ lenBound)) (sManText_L5 O q ((((((((((s6 ++ [116, 97, 98, 32]) ++ r11) ++ [32]) ++ r12) ++ [32]) ++ r13) ++ [32]) ++ r14) ++ [10]), (IntKind.wrap .i64 (i7 + (1 : Int))), m8, m9, m10) x r) none) none)) none) none)) none) none)) none) none)) none) none) (x s6))
noncomputable def sManText : (Int × Int × List (Int × Int × List UInt8 × List UInt8)) → Option (List UInt8)
  | (m0, m1, m2) => ((sManOk (m0, m1, m2)).bind fun r3 => (cond (!r3) (some []) ((sl6Text m0).bind fun r4 => (cond (decide ((5 + r4.length) ≤ lenBound)) (cond (decide ((([110, 101, 120, 116, 32] ++ r4).length + 5) ≤ lenBound)) ((sl6Text m1).bind fun r5 => (cond (decide (((([110, 101, 120, 116, 32] ++ r4) ++ [32, 108, 111, 103, 32]).length + r5.length) ≤ lenBound)) (cond (decide ((((([110, 101, 120, 116, 32] ++ r4) ++ [32, 108, 111, 103, 32]) ++ r5).length + 1) ≤ lenBound)) (sManText_L5 (List UInt8) fuel ((((([110, 101, 120, 116, 32] ++ r4) ++ [32, 108, 111, 103, 32]) ++ r5) ++ [10]), (0 : Int), m0, m1, m2) (fun s15 => (cond (decide ((s15.length + 4) ≤ lenBound)) (some (s15 ++ [101, 110, 100, 10])) none)) some) none) none)) none) none))))
noncomputable def c_sManText : Ctr := { args := [.val true (.pair (.int .i64) (.pair (.int .i64) (.sl (.pair (.int .i64) (.pair (.int .i64) (.pair .str .str))))))], rets := [(false, [(none, .str)])], F := sManText }
noncomputable def X_sManText : Ctx := XT.withΓ (lk [(10, c_sManOk), (11, c_sl6Text), (12, c_sl6Hex)]) (lk [])
noncomputable def H_sManText : Hints := ⟨lk [], lk [], lk []⟩
noncomputable def L_sManText_5 : LoopF c_sManText.Res := ⟨⟨55, [(1, .one (.ptr 0 0)), (3, .one (.val .str)), (4, .one (.val (.int .i64)))], [.vars 29 [.val (.int .i64), .val (.int .i64), .val (.sl (.pair (.int .i64) (.pair (.int .i64) (.pair .str .str))))]], []⟩, [(0, ⟨55, [(3, .one (.val .str))], [], []⟩)], sManText_L5⟩
noncomputable def T_sManText : Nat → Option (LoopF c_sManText.Res) := lk [(5, L_sManText_5)]
theorem s_sManText_5 : StepOk X_sManText H_sManText (c_sManText.finish X_sManText Tryd.f5.results.toList) T_sManText (loopAt Tryd.f5 0) := ⟨L_sManText_5, by kernel_rfl, fun O y x r => by kernel_rfl, fun O k y x r => by kernel_rfl⟩
theorem r_sManText (a) : fnRun X_sManText H_sManText c_sManText Tryd.f5 T_sManText a = sManText a := by kernel_rfl
theorem h_sManText : CtrHolds Tryd.prog 5 c_sManText := fn_ok (.cons h_sManOk Tryd.call10 (.cons h_sl6Text Tryd.call11 (.cons h_sl6Hex Tryd.call12 .nil))) .nil (H := H_sManText) (tbl := T_sManText) Tryd.func5 (by kernel_rfl) (loops1 (by kernel_rfl) s_sManText_5) r_sManText
/-! 24 iin -/
noncomputable def iin : (Int × Int × Int) → Option Bool
  | (n0, low1, high2) => (cond (decide (n0 ≥ low1)) (some (decide (n0 ≤ high2))) (some false))
noncomputable def c_iin : Ctr := { args := [.val false (.int .i64), .val false (.int .i64), .val false (.int .i64)], rets := [(false, [(none, .bool)])], F := iin }
noncomputable def X_iin : Ctx := XT.withΓ (lk []) (lk [])
noncomputable def H_iin : Hints := ⟨lk [], lk [], lk []⟩
noncomputable def T_iin : Nat → Option (LoopF c_iin.Res) := lk []
theorem r_iin (a) : fnRun X_iin H_iin c_iin Tryd.f24 T_iin a = iin a := by kernel_rfl
theorem h_iin : CtrHolds Tryd.prog 24 c_iin := fn_ok .nil .nil (H := H_iin) (tbl := T_iin) Tryd.func24 (by kernel_rfl) (loops0 (by kernel_rfl)) r_iin
/-! 28 ikeyOk -/
noncomputable def ikeyOk : (List UInt8) → Option Bool
  | s0 => ((iin (((s0.length : Nat) : Int), (1 : Int), (20 : Int))).bind fun r1 => (some r1))
noncomputable def c_ikeyOk : Ctr := { args := [.val false .str], rets := [(false, [(none, .bool)])], F := ikeyOk }
noncomputable def X_ikeyOk : Ctx := XT.withΓ (lk [(24, c_iin)]) (lk [])
noncomputable def H_ikeyOk : Hints := ⟨lk [], lk [], lk []⟩
noncomputable def T_ikeyOk : Nat → Option (LoopF c_ikeyOk.Res) := lk []
theorem r_ikeyOk (a) : fnRun X_ikeyOk H_ikeyOk c_ikeyOk Tryd.f28 T_ikeyOk a = ikeyOk a := by kernel_rfl
theorem h_ikeyOk : CtrHolds Tryd.prog 28 c_ikeyOk := fn_ok (.cons h_iin Tryd.call24 .nil) .nil (H := H_ikeyOk) (tbl := T_ikeyOk) Tryd.func28 (by kernel_rfl) (loops0 (by kernel_rfl)) r_ikeyOk
/-! 22 imetaOk -/
noncomputable def imetaOk : ((Int × Int × List (Int × Int × List UInt8 × List UInt8)) × Int × Int × List UInt8 × List UInt8) → Option Bool
  | ((m0, m1, m2), x3, x4, x5, x6) => ((iin (x3, (1 : Int), (IntKind.wrap .i64 (m0 - (1 : Int))))).bind fun r7 => (cond r7 ((iin (x4, (0 : Int), (3 : Int))).bind fun r8 => (cond r8 ((ikeyOk x5).bind fun r9 => (cond r9 ((ikeyOk x6).bind fun r10 => (cond r10 (some ((Op.bytesLess x5 x6) || (x5 == x6))) (some false))) (some false))) (some false))) (some false)))
noncomputable def c_imetaOk : Ctr := { args := [.val true (.pair (.int .i64) (.pair (.int .i64) (.sl (.pair (.int .i64) (.pair (.int .i64) (.pair .str .str)))))), .val true (.pair (.int .i64) (.pair (.int .i64) (.pair .str .str)))], rets := [(false, [(none, .bool)])], F := imetaOk }
noncomputable def X_imetaOk : Ctx := XT.withΓ (lk [(24, c_iin), (28, c_ikeyOk)]) (lk [])
noncomputable def H_imetaOk : Hints := ⟨lk [], lk [], lk []⟩
noncomputable def T_imetaOk : Nat → Option (LoopF c_imetaOk.Res) := lk []
theorem r_imetaOk (a) : fnRun X_imetaOk H_imetaOk c_imetaOk Tryd.f22 T_imetaOk a = imetaOk a := by kernel_rfl
theorem h_imetaOk : CtrHolds Tryd.prog 22 c_imetaOk := fn_ok (.cons h_iin Tryd.call24 (.cons h_ikeyOk Tryd.call28 .nil)) .nil (H := H_imetaOk) (tbl := T_imetaOk) Tryd.func22 (by kernel_rfl) (loops0 (by kernel_rfl)) r_imetaOk
/-! 23 imeets -/
noncomputable def imeets : ((Int × Int × List UInt8 × List UInt8) × List UInt8 × List UInt8) → Option Bool
  | ((x0, x1, x2, x3), lo4, hi5) => (cond ((Op.bytesLess x2 hi5) || (x2 == hi5)) (some ((Op.bytesLess lo4 x3) || (lo4 == x3))) (some false))
noncomputable def c_imeets : Ctr := { args := [.val true (.pair (.int .i64) (.pair (.int .i64) (.pair .str .str))), .val false .str, .val false .str], rets := [(false, [(none, .bool)])], F := imeets }
noncomputable def X_imeets : Ctx := XT.withΓ (lk []) (lk [])
noncomputable def H_imeets : Hints := ⟨lk [], lk [], lk []⟩
noncomputable def T_imeets : Nat → Option (LoopF c_imeets.Res) := lk []
theorem r_imeets (a) : fnRun X_imeets H_imeets c_imeets Tryd.f23 T_imeets a = imeets a := by kernel_rfl
theorem h_imeets : CtrHolds Tryd.prog 23 c_imeets := fn_ok .nil .nil (H := H_imeets) (tbl := T_imeets) Tryd.func23 (by kernel_rfl) (loops0 (by kernel_rfl)) r_imeets
/-! 14 iManOk -/
noncomputable def iManOk_L7 (O : Type) : Nat → (List (Int × Int × List UInt8 × List UInt8) × Int × Int × Int × Bool × Bool × Bool × List (Int × Int × List UInt8 × List UInt8) × Int × Int × Int × Int × List (Int × Int × List UInt8 × List UInt8) × Int × Int × List UInt8 × List UInt8) → ((List (Int × Int × List UInt8 × List UInt8) × Int × Int × Int × Bool × Bool × Bool × Int × Int × List (Int × Int × List UInt8 × List UInt8)) → Option O) → (Bool → Option O) → Option O
  | 0, _, _, _ => none
  | q + 1, (v25, v26, v27, v28, v29, v30, v31, v32, v33, v34, m35, m36, m37, x38, x39, x40, x41), x, r => (cond (decide (v34 < v33)) (cond (decide ((0 : Int) ≤ v34) && decide (v34 < ((v32.length : Nat) : Int))) (cond (decide (x39 > (0 : Int))) (cond (x39 == (nth v32 v34).2.1) ((imeets ((x38, x39, x40, x41), (nth v32 v34).2.2.1, (nth v32 v34).2.2.2)).bind fun r42 => (cond r42 (r false) (iManOk_L7 O q (v25, v26, v27, v28, v29, v30, v31, v32, v33, (IntKind.wrap .i64 (v34 + (1 : Int))), m35, m36, m37, x38, x39, x40, x41) x r))) (iManOk_L7 O q (v25, v26, v27, v28, v29, v30, v31, v32, v33, (IntKind.wrap .i64 (v34 + (1 : Int))), m35, m36, m37, x38, x39, x40, x41) x r)) (iManOk_L7 O q (v25, v26, v27, v28, v29, v30, v31, v32, v33, (IntKind.wrap .i64 (v34 + (1 : Int))), m35, m36, m37, x38, x39, x40, x41) x r)) none) (x (v25, v26, v27, v28, v29, v30, v31, m35, m36, m37)))
noncomputable def iManOk_L2 (O : Type) : Nat → (List (Int × Int × List UInt8 × List UInt8) × Int × Int × Int × Int × List (Int × Int × List UInt8 × List UInt8)) → ((Int × Int × List (Int × Int × List UInt8 × List UInt8)) → Option O) → (Bool → Option O) → Option O
  | 0, _, _, _ => none
  | q + 1, (v3, v4, v5, m6, m7, m8), x, r => (cond (decide (v5 < v4)) (cond (decide ((0 : Int) ≤ v5) && decide (v5 < ((v3.length : Nat) : Int))) ((((imetaOk ((m6, m7, m8), (nth v3 v5).1, (nth v3 v5).2.1, (nth v3 v5).2.2.1, (nth v3 v5).2.2.2)).bind fun r9 => (cond (!r9) ((r false).map Sum.inr) (cond (decide (v5 > (0 : Int))) (cond (decide ((0 : Int) ≤ (IntKind.wrap .i64 (v5 - (1 : Int)))) && decide ((IntKind.wrap .i64 (v5 - (1 : Int))) < ((m8.length : Nat) : Int))) (cond (decide ((nth m8 (IntKind.wrap .i64 (v5 - (1 : Int)))).1 ≥ (nth v3 v5).1)) ((r false).map Sum.inr) (some (Sum.inl (v5, v3, v4, v5, v5, decide (v5 > (0 : Int)), true, decide ((nth m8 (IntKind.wrap .i64 (v5 - (1 : Int)))).1 ≥ (nth v3 v5).1), m6, m7, m8, (nth v3 v5).1, (nth v3 v5).2.1, (nth v3 v5).2.2.1, (nth v3 v5).2.2.2)))) none) (some (Sum.inl (v5, v3, v4, v5, v5, decide (v5 > (0 : Int)), false, false, m6, m7, m8, (nth v3 v5).1, (nth v3 v5).2.1, (nth v3 v5).2.2.1, (nth v3 v5).2.2.2)))))) : Option ((Int × List (Int × Int × List UInt8 × List UInt8) × Int × Int × Int × Bool × Bool × Bool × Int × Int × List (Int × Int × List UInt8 × List UInt8) × Int × Int × List UInt8 × List UInt8) ⊕ O)).bind fun z => match z with | .inl (i10, v11, v12, v13, v14, v15, v16, v17, m18, m19, m20, x21, x22, x23, x24) => (cond (decide ((0 : Int) ≤ i10) && decide (i10 ≤ ((m20.length : Nat) : Int))) (iManOk_L7 O fuel (v11, v12, v13, v14, v15, v16, v17, (cut m20 (0 : Int) i10), (((cut m20 (0 : Int) i10).length : Nat) : Int), (0 : Int), m18, m19, m20, x21, x22, x23, x24) (fun (v43, v44, v45, v46, v47, v48, v49, m50, m51, m52) => (iManOk_L2 O q (v43, v44, (IntKind.wrap .i64 (v45 + (1 : Int))), m50, m51, m52) x r)) r) none) | .inr o => some o) none) (x (m6, m7, m8)))
noncomputable def iManOk : (Int × Int × List (Int × Int × List UInt8 × List UInt8)) → Option Bool
  | (m0, m1, m2) => (iManOk_L2 Bool fuel (m2, ((m2.length : Nat) : Int), (0 : Int), m0, m1, m2) (fun (m53, m54, m55) => ((iin (m53, (1 : Int), (100000 : Int))).bind fun r56 => (cond r56 ((iin (m54, (0 : Int), (IntKind.wrap .i64 (m53 - (1 : Int))))).bind fun r57 => (cond r57 (some (decide (((m55.length : Nat) : Int) ≤ (20 : Int)))) (some false))) (some false)))) some)
noncomputable def c_iManOk : Ctr := { args := [.val true (.pair (.int .i64) (.pair (.int .i64) (.sl (.pair (.int .i64) (.pair (.int .i64) (.pair .str .str))))))], rets := [(false, [(none, .bool)])], F := iManOk }
noncomputable def X_iManOk : Ctx := XT.withΓ (lk [(22, c_imetaOk), (23, c_imeets), (24, c_iin)]) (lk [])
noncomputable def H_iManOk : Hints := ⟨lk [], lk [(6, ⟨81, [(1, .one (.ptr 0 0)), (3, .one (.val (.int .i64))), (4, .one (.ptr 1 0)), (8, .one (.val (.sl (.pair (.int .i64) (.pair (.int .i64) (.pair .str .str)))))), (9, .one (.val (.int .i64))), (10, .one (.val (.int .i64))), (20, .one (.val (.int .i64))), (21, .one (.val .bool)), (22, .one (.val .bool)), (33, .one (.val .bool))], [.vars 29 [.val (.int .i64), .val (.int .i64), .val (.sl (.pair (.int .i64) (.pair (.int .i64) (.pair .str .str))))], .vars 37 [.val (.int .i64), .val (.int .i64), .val .str, .val .str]], []⟩)], lk []⟩
noncomputable def L_iManOk_2 : LoopF c_iManOk.Res := ⟨⟨81, [(1, .one (.ptr 0 0)), (8, .one (.val (.sl (.pair (.int .i64) (.pair (.int .i64) (.pair .str .str)))))), (9, .one (.val (.int .i64))), (10, .one (.val (.int .i64)))], [.vars 29 [.val (.int .i64), .val (.int .i64), .val (.sl (.pair (.int .i64) (.pair (.int .i64) (.pair .str .str))))]], []⟩, [(0, ⟨81, [(1, .one (.ptr 0 0))], [.vars 29 [.val (.int .i64), .val (.int .i64), .val (.sl (.pair (.int .i64) (.pair (.int .i64) (.pair .str .str))))]], []⟩)], iManOk_L2⟩
noncomputable def L_iManOk_7 : LoopF c_iManOk.Res := ⟨⟨81, [(1, .one (.ptr 0 0)), (4, .one (.ptr 1 0)), (8, .one (.val (.sl (.pair (.int .i64) (.pair (.int .i64) (.pair .str .str)))))), (9, .one (.val (.int .i64))), (10, .one (.val (.int .i64))), (20, .one (.val (.int .i64))), (21, .one (.val .bool)), (22, .one (.val .bool)), (33, .one (.val .bool)), (38, .one (.val (.sl (.pair (.int .i64) (.pair (.int .i64) (.pair .str .str)))))), (39, .one (.val (.int .i64))), (40, .one (.val (.int .i64)))], [.vars 29 [.val (.int .i64), .val (.int .i64), .val (.sl (.pair (.int .i64) (.pair (.int .i64) (.pair .str .str))))], .vars 37 [.val (.int .i64), .val (.int .i64), .val .str, .val .str]], []⟩, [(2, ⟨81, [(1, .one (.ptr 0 0)), (8, .one (.val (.sl (.pair (.int .i64) (.pair (.int .i64) (.pair .str .str)))))), (9, .one (.val (.int .i64))), (10, .one (.val (.int .i64))), (20, .one (.val (.int .i64))), (21, .one (.val .bool)), (22, .one (.val .bool)), (33, .one (.val .bool))], [.vars 29 [.val (.int .i64), .val (.int .i64), .val (.sl (.pair (.int .i64) (.pair (.int .i64) (.pair .str .str))))]], []⟩)], iManOk_L7⟩
noncomputable def T_iManOk : Nat → Option (LoopF c_iManOk.Res) := lk [(2, L_iManOk_2), (7, L_iManOk_7)]
theorem s_iManOk_2 : StepOk X_iManOk H_iManOk (c_iManOk.finish X_iManOk Tryd.f14.results.toList) T_iManOk (loopAt Tryd.f14 0) := ⟨L_iManOk_2, by kernel_rfl, fun O y x r => by kernel_rfl, fun O k y x r => by kernel_rfl⟩
theorem s_iManOk_7 : StepOk X_iManOk H_iManOk (c_iManOk.finish X_iManOk Tryd.f14.results.toList) T_iManOk (loopAt Tryd.f14 1) := ⟨L_iManOk_7, by kernel_rfl, fun O y x r => by kernel_rfl, fun O k y x r => by kernel_rfl⟩
theorem r_iManOk (a) : fnRun X_iManOk H_iManOk c_iManOk Tryd.f14 T_iManOk a = iManOk a := by kernel_rfl
theorem h_iManOk : CtrHolds Tryd.prog 14 c_iManOk := fn_ok (.cons h_imetaOk Tryd.call22 (.cons h_imeets Tryd.call23 (.cons h_iin Tryd.call24 .nil))) .nil (H := H_iManOk) (tbl := T_iManOk) Tryd.func14 (by kernel_rfl) (loops2 (by kernel_rfl) s_iManOk_2 s_iManOk_7) r_iManOk
/-! 16 ihex -/
noncomputable def ihex_L3 (O : Type) : Nat → (List UInt8 × Int × List Int) → ((List Int) → Option O) → ((List UInt8) → Option O) → Option O
  | 0, _, _, _ => none
  | q + 1, (s1, i2, out3), x, r => (cond (decide (i2 < ((s1.length : Nat) : Int))) (cond (decide ((0 : Int) ≤ i2) && decide (i2 < ((s1.length : Nat) : Int))) (cond (decide ((0 : Int) ≤ (Int.fdiv (((UInt8.toNat (nth s1 i2)) : Nat) : Int) (16 : Int))) && decide ((Int.fdiv (((UInt8.toNat (nth s1 i2)) : Nat) : Int) (16 : Int)) < (16 : Int))) (cond (decide ((0 : Int) ≤ i2) && decide (i2 < ((s1.length : Nat) : Int))) (cond (decide ((0 : Int) ≤ (bits .and .u8 (((UInt8.toNat (nth s1 i2)) : Nat) : Int) (15 : Int))) && decide ((bits .and .u8 (((UInt8.toNat (nth s1 i2)) : Nat) : Int) (15 : Int)) < (16 : Int))) (cond (decide ((out3.length + [(((UInt8.toNat (nth [48, 49, 50, 51, 52, 53, 54, 55, 56, 57, 97, 98, 99, 100, 101, 102] (Int.fdiv (((UInt8.toNat (nth s1 i2)) : Nat) : Int) (16 : Int)))) : Nat) : Int), (((UInt8.toNat (nth [48, 49, 50, 51, 52, 53, 54, 55, 56, 57, 97, 98, 99, 100, 101, 102] (bits .and .u8 (((UInt8.toNat (nth s1 i2)) : Nat) : Int) (15 : Int)))) : Nat) : Int)].length) ≤ lenBound)) (ihex_L3 O q (s1, (IntKind.wrap .i64 (i2 + (1 : Int))), (out3 ++ [(((UInt8.toNat (nth [48, 49, 50, 51, 52, 53, 54, 55, 56, 57, 97, 98, 99, 100, 101, 102] (Int.fdiv (((UInt8.toNat (nth s1 i2)) : Nat) : Int) (16 : Int)))) : Nat) : Int), (((UInt8.toNat (nth [48, 49, 50, 51, 52, 53, 54, 55, 56, 57, 97, 98, 99, 100, 101, 102] (bits .and .u8 (((UInt8.toNat (nth s1 i2)) : Nat) : Int) (15 : Int)))) : Nat) : Int)])) x r) none) none) none) none) none) (x out3))
noncomputable def ihex : (List UInt8) → Option (List UInt8)
  | s0 => (ihex_L3 (List UInt8) fuel (s0, (0 : Int), []) (fun out4 => (some (strOf out4))) some)
noncomputable def c_ihex : Ctr := { args := [.val false .str], rets := [(false, [(none, .str)])], F := ihex }
noncomputable def X_ihex : Ctx := XT.withΓ (lk []) (lk [])
noncomputable def H_ihex : Hints := ⟨lk [], lk [], lk []⟩
noncomputable def L_ihex_3 : LoopF c_ihex.Res := ⟨⟨26, [(0, .one (.val .str)), (3, .one (.own 0)), (4, .one (.val (.int .i64)))], [.arr 5 (.int .u8)], []⟩, [(0, ⟨26, [(3, .one (.own 0))], [.arr 5 (.int .u8)], []⟩)], ihex_L3⟩
noncomputable def T_ihex : Nat → Option (LoopF c_ihex.Res) := lk [(3, L_ihex_3)]
theorem s_ihex_3 : StepOk X_ihex H_ihex (c_ihex.finish X_ihex Tryd.f16.results.toList) T_ihex (loopAt Tryd.f16 0) := ⟨L_ihex_3, by kernel_rfl, fun O y x r => by kernel_rfl, fun O k y x r => by kernel_rfl⟩
theorem r_ihex (a) : fnRun X_ihex H_ihex c_ihex Tryd.f16 T_ihex a = ihex a := by kernel_rfl
theorem h_ihex : CtrHolds Tryd.prog 16 c_ihex := fn_ok .nil .nil (H := H_ihex) (tbl := T_ihex) Tryd.func16 (by kernel_rfl) (loops1 (by kernel_rfl) s_ihex_3) r_ihex
/-! 7 iManText -/
noncomputable def iManText_L5 (O : Type) : Nat → (List UInt8 × List (Int × Int × List UInt8 × List UInt8) × Int × Int) → ((List UInt8) → Option O) → ((List UInt8) → Option O) → Option O
  | 0, _, _, _ => none
  | q + 1, (out6, v7, v8, v9), x, r => (cond (decide (v9 < v8)) (cond (decide ((0 : Int) ≤ v9) && decide (v9 < ((v7.length : Nat) : Int))) ((xItoa (nth v7 v9).1).bind fun r10 => (cond (decide ((4 + r10.length) ≤ lenBound)) (cond (decide ((([116, 97, 98, 32] ++ r10).length + 1) ≤ lenBound)) ((xItoa (nth v7 v9).2.1).bind fun r11 => (cond (decide (((([116, 97, 98, 32] ++ r10) ++ [32]).length + r11.length) ≤ lenBound)) (cond (decide ((((([116, 97, 98, 32] ++ r10) ++ [32]) ++ r11).length + 1) ≤ lenBound)) ((ihex (nth v7 v9).2.2.1).bind fun r12 => (cond (decide (((((([116, 97, 98, 32] ++ r10) ++ [32]) ++ r11) ++ [32]).length + r12.length) ≤ lenBound)) (cond (decide ((((((([116, 97, 98, 32] ++ r10) ++ [32]) ++ r11) ++ [32]) ++ r12).length + 1) ≤ lenBound)) ((ihex (nth v7 v9).2.2.2).bind fun r13 => (cond (decide (((((((([116, 97, 98, 32] ++ r10) ++ [32]) ++ r11) ++ [32]) ++ r12) ++ [32]).length + r13.length) ≤ lenBound)) (cond (decide ((((((((([116, 97, 98, 32] ++ r10) ++ [32]) ++ r11) ++ [32]) ++ r12) ++ [32]) ++ r13).length + 1) ≤ lenBound)) (cond (decide ((out6.length + (((((((([116, 97, 98, 32] ++ r10) ++ [32]) ++ r11) ++ [32]) ++ r12) ++ [32]) ++ r13) ++ [10]).length) ≤ lenBound)) (iManText_L5 O q ((out6 ++ (((((((([116, 97, 98, 32] ++ r10) ++ [32]) ++ r11) ++ [32]) ++ r12) ++ [32]) ++ r13) ++ [10])), v7, v8, (IntKind.wrap .i64 (v9 + (1 : Int)))) x r) none) none) none)) none) none)) none) none)) none) none)) none) (x out6))
noncomputable def iManText : (Int × Int × List (Int × Int × List UInt8 × List UInt8)) → Option (List UInt8)
  | (m0, m1, m2) => ((iManOk (m0, m1, m2)).bind fun r3 => (cond (!r3) (some []) ((xItoa m0).bind fun r4 => (cond (decide ((5 + r4.length) ≤ lenBound)) (cond (decide ((([110, 101, 120, 116, 32] ++ r4).length + 5) ≤ lenBound)) ((xItoa m1).bind fun r5 => (cond (decide (((([110, 101, 120, 116, 32] ++ r4) ++ [32, 108, 111, 103, 32]).length + r5.length) ≤ lenBound)) (cond (decide ((((([110, 101, 120, 116, 32] ++ r4) ++ [32, 108, 111, 103, 32]) ++ r5).length + 1) ≤ lenBound)) (iManText_L5 (List UInt8) fuel ((((([110, 101, 120, 116, 32] ++ r4) ++ [32, 108, 111, 103, 32]) ++ r5) ++ [10]), m2, ((m2.length : Nat) : Int), (0 : Int)) (fun out14 => (cond (decide ((out14.length + 4) ≤ lenBound)) (some (out14 ++ [101, 110, 100, 10])) none)) some) none) none)) none) none))))
noncomputable def c_iManText : Ctr := { args := [.val true (.pair (.int .i64) (.pair (.int .i64) (.sl (.pair (.int .i64) (.pair (.int .i64) (.pair .str .str))))))], rets := [(false, [(none, .str)])], F := iManText }
noncomputable def X_iManText : Ctx := XT.withΓ (lk [(14, c_iManOk), (15, c_xItoa), (16, c_ihex)]) (lk [])
noncomputable def H_iManText : Hints := ⟨lk [], lk [], lk []⟩
noncomputable def L_iManText_5 : LoopF c_iManText.Res := ⟨⟨51, [(3, .one (.val .str)), (20, .one (.val (.sl (.pair (.int .i64) (.pair (.int .i64) (.pair .str .str)))))), (21, .one (.val (.int .i64))), (22, .one (.val (.int .i64)))], [], []⟩, [(0, ⟨51, [(3, .one (.val .str))], [], []⟩)], iManText_L5⟩
noncomputable def T_iManText : Nat → Option (LoopF c_iManText.Res) := lk [(5, L_iManText_5)]
theorem s_iManText_5 : StepOk X_iManText H_iManText (c_iManText.finish X_iManText Tryd.f7.results.toList) T_iManText (loopAt Tryd.f7 0) := ⟨L_iManText_5, by kernel_rfl, fun O y x r => by kernel_rfl, fun O k y x r => by kernel_rfl⟩
theorem r_iManText (a) : fnRun X_iManText H_iManText c_iManText Tryd.f7 T_iManText a = iManText a := by kernel_rfl
theorem h_iManText : CtrHolds Tryd.prog 7 c_iManText := fn_ok (.cons h_iManOk Tryd.call14 (.cons h_xItoa Tryd.call15 (.cons h_ihex Tryd.call16 .nil))) .nil (H := H_iManText) (tbl := T_iManText) Tryd.func7 (by kernel_rfl) (loops1 (by kernel_rfl) s_iManText_5) r_iManText
/-! 26 leqMeta -/
noncomputable def leqMeta : ((Int × Int × List UInt8 × List UInt8) × Int × Int × List UInt8 × List UInt8) → Option Bool
  | ((a0, a1, a2, a3), b4, b5, b6, b7) => (cond (a0 != b4) (some false) (cond (a1 != b5) (some false) (cond (!(a2 == b6)) (some false) (cond (!(a3 == b7)) (some false) (some true)))))
noncomputable def c_leqMeta : Ctr := { args := [.val true (.pair (.int .i64) (.pair (.int .i64) (.pair .str .str))), .val true (.pair (.int .i64) (.pair (.int .i64) (.pair .str .str)))], rets := [(false, [(none, .bool)])], F := leqMeta }
noncomputable def X_leqMeta : Ctx := XT.withΓ (lk []) (lk [])
noncomputable def H_leqMeta : Hints := ⟨lk [], lk [], lk []⟩
noncomputable def T_leqMeta : Nat → Option (LoopF c_leqMeta.Res) := lk []
theorem r_leqMeta (a) : fnRun X_leqMeta H_leqMeta c_leqMeta Tryd.f26 T_leqMeta a = leqMeta a := by kernel_rfl
theorem h_leqMeta : CtrHolds Tryd.prog 26 c_leqMeta := fn_ok .nil .nil (H := H_leqMeta) (tbl := T_leqMeta) Tryd.func26 (by kernel_rfl) (loops0 (by kernel_rfl)) r_leqMeta
/-! 17 leqMetaS -/
noncomputable def leqMetaS_L4 (O : Type) : Nat → (List (Int × Int × List UInt8 × List UInt8) × List (Int × Int × List UInt8 × List UInt8) × Int) → (Unit → Option O) → (Bool → Option O) → Option O
  | 0, _, _, _ => none
  | q + 1, (a2, b3, i4), x, r => (cond (decide (i4 < ((a2.length : Nat) : Int))) (cond (decide ((0 : Int) ≤ i4) && decide (i4 < ((a2.length : Nat) : Int))) (cond (decide ((0 : Int) ≤ i4) && decide (i4 < ((b3.length : Nat) : Int))) ((leqMeta (((nth a2 i4).1, (nth a2 i4).2.1, (nth a2 i4).2.2.1, (nth a2 i4).2.2.2), (nth b3 i4).1, (nth b3 i4).2.1, (nth b3 i4).2.2.1, (nth b3 i4).2.2.2)).bind fun r5 => (cond (!r5) (r false) (leqMetaS_L4 O q (a2, b3, (IntKind.wrap .i64 (i4 + (1 : Int)))) x r))) none) none) (x ()))
noncomputable def leqMetaS : (List (Int × Int × List UInt8 × List UInt8) × List (Int × Int × List UInt8 × List UInt8)) → Option Bool
  | (a0, b1) => (cond (((a0.length : Nat) : Int) != ((b1.length : Nat) : Int)) (some false) (leqMetaS_L4 Bool fuel (a0, b1, (0 : Int)) (fun _ => (some true)) some))
noncomputable def c_leqMetaS : Ctr := { args := [.val false (.sl (.pair (.int .i64) (.pair (.int .i64) (.pair .str .str)))), .val false (.sl (.pair (.int .i64) (.pair (.int .i64) (.pair .str .str))))], rets := [(false, [(none, .bool)])], F := leqMetaS }
noncomputable def X_leqMetaS : Ctx := XT.withΓ (lk [(26, c_leqMeta)]) (lk [])
noncomputable def H_leqMetaS : Hints := ⟨lk [], lk [], lk []⟩
noncomputable def L_leqMetaS_4 : LoopF c_leqMetaS.Res := ⟨⟨27, [(0, .one (.val (.sl (.pair (.int .i64) (.pair (.int .i64) (.pair .str .str)))))), (1, .one (.val (.sl (.pair (.int .i64) (.pair (.int .i64) (.pair .str .str)))))), (5, .one (.val (.int .i64)))], [], []⟩, [(0, ⟨27, [], [], []⟩)], leqMetaS_L4⟩
noncomputable def T_leqMetaS : Nat → Option (LoopF c_leqMetaS.Res) := lk [(4, L_leqMetaS_4)]
theorem s_leqMetaS_4 : StepOk X_leqMetaS H_leqMetaS (c_leqMetaS.finish X_leqMetaS Tryd.f17.results.toList) T_leqMetaS (loopAt Tryd.f17 0) := ⟨L_leqMetaS_4, by kernel_rfl, fun O y x r => by kernel_rfl, fun O k y x r => by kernel_rfl⟩
theorem r_leqMetaS (a) : fnRun X_leqMetaS H_leqMetaS c_leqMetaS Tryd.f17 T_leqMetaS a = leqMetaS a := by kernel_rfl
theorem h_leqMetaS : CtrHolds Tryd.prog 17 c_leqMetaS := fn_ok (.cons h_leqMeta Tryd.call26 .nil) .nil (H := H_leqMetaS) (tbl := T_leqMetaS) Tryd.func17 (by kernel_rfl) (loops1 (by kernel_rfl) s_leqMetaS_4) r_leqMetaS
/-! 8 leqManifest -/
noncomputable def leqManifest : ((Int × Int × List (Int × Int × List UInt8 × List UInt8)) × Int × Int × List (Int × Int × List UInt8 × List UInt8)) → Option Bool
  | ((a0, a1, a2), b3, b4, b5) => (cond (a0 != b3) (some false) (cond (a1 != b4) (some false) ((leqMetaS (a2, b5)).bind fun r6 => (cond (!r6) (some false) (some true)))))
noncomputable def c_leqManifest : Ctr := { args := [.val true (.pair (.int .i64) (.pair (.int .i64) (.sl (.pair (.int .i64) (.pair (.int .i64) (.pair .str .str)))))), .val true (.pair (.int .i64) (.pair (.int .i64) (.sl (.pair (.int .i64) (.pair (.int .i64) (.pair .str .str))))))], rets := [(false, [(none, .bool)])], F := leqManifest }
noncomputable def X_leqManifest : Ctx := XT.withΓ (lk [(17, c_leqMetaS)]) (lk [])
noncomputable def H_leqManifest : Hints := ⟨lk [], lk [], lk []⟩
noncomputable def T_leqManifest : Nat → Option (LoopF c_leqManifest.Res) := lk []
theorem r_leqManifest (a) : fnRun X_leqManifest H_leqManifest c_leqManifest Tryd.f8 T_leqManifest a = leqManifest a := by kernel_rfl
theorem h_leqManifest : CtrHolds Tryd.prog 8 c_leqManifest := fn_ok (.cons h_leqMetaS Tryd.call17 .nil) .nil (H := H_leqManifest) (tbl := T_leqManifest) Tryd.func8 (by kernel_rfl) (loops0 (by kernel_rfl)) r_leqManifest
/-! 3 lFnExactManText -/
noncomputable def lFnExactManText : (Int × Int × List (Int × Int × List UInt8 × List UInt8)) → Option Bool
  | (aM0, aM1, aM2) => ((lszManifest ((aM0, aM1, aM2), (1048576 : Int))).bind fun r3 => (cond (decide (r3 < (0 : Int))) (some true) ((ltoManifest (aM0, aM1, aM2)).bind fun (r4, r5, r6) => ((sManText (r4, r5, r6)).bind fun r7 => ((ltoManifest (aM0, aM1, aM2)).bind fun (r8, r9, r10) => ((iManText (r8, r9, r10)).bind fun r11 => (cond (!(r11 == r7)) (some false) ((ltoManifest (aM0, aM1, aM2)).bind fun (r12, r13, r14) => ((leqManifest ((r8, r9, r10), r12, r13, r14)).bind fun r15 => (cond (!r15) (some false) (some true)))))))))))
noncomputable def c_lFnExactManText : Ctr := { args := [.val true (.pair (.int .i64) (.pair (.int .i64) (.sl (.pair (.int .i64) (.pair (.int .i64) (.pair .str .str))))))], rets := [(false, [(none, .bool)])], F := lFnExactManText }
noncomputable def X_lFnExactManText : Ctx := XT.withΓ (lk [(4, c_lszManifest), (6, c_ltoManifest), (5, c_sManText), (7, c_iManText), (8, c_leqManifest)]) (lk [])
noncomputable def H_lFnExactManText : Hints := ⟨lk [], lk [], lk []⟩
noncomputable def T_lFnExactManText : Nat → Option (LoopF c_lFnExactManText.Res) := lk []
theorem r_lFnExactManText (a) : fnRun X_lFnExactManText H_lFnExactManText c_lFnExactManText Tryd.f3 T_lFnExactManText a = lFnExactManText a := by kernel_rfl
theorem h_lFnExactManText : CtrHolds Tryd.prog 3 c_lFnExactManText := fn_ok (.cons h_lszManifest Tryd.call4 (.cons h_ltoManifest Tryd.call6 (.cons h_sManText Tryd.call5 (.cons h_iManText Tryd.call7 (.cons h_leqManifest Tryd.call8 .nil))))) .nil (H := H_lFnExactManText) (tbl := T_lFnExactManText) Tryd.func3 (by kernel_rfl) (loops0 (by kernel_rfl)) r_lFnExactManText
end Go.Rx
