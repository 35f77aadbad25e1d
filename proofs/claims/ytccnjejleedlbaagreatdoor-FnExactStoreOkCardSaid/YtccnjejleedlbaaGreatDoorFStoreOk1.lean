import Derived.Test.YtccnjejleedlbaaGreatDoorFStoreOk0
set_option linter.all false
set_option maxRecDepth 1000000
namespace Go.Rx
open Go.Proofs
/-! 90 iMemPut -/
noncomputable def iMemPut_L5 (O : Type) : Nat → (Int × Int × List ((List UInt8 × List UInt8 × Bool) × Int) × List UInt8 × List UInt8 × Bool × List ((List UInt8 × List UInt8 × Bool) × Int)) → ((Int × Int × List ((List UInt8 × List UInt8 × Bool) × Int) × List UInt8 × List UInt8 × Bool × List ((List UInt8 × List UInt8 × Bool) × Int)) → Option O) → ((List ((List UInt8 × List UInt8 × Bool) × Int) × Bool) → Option O) → Option O
  | 0, _, _, _ => none
  | q + 1, (tower9, k10, m11, p12, p13, p14, out15), x, r => (cond (decide (k10 < ((m11.length : Nat) : Int))) (cond (decide ((0 : Int) ≤ k10) && decide (k10 < ((m11.length : Nat) : Int))) (cond (Op.bytesLess (nth m11 k10).1.1 p12) (iMemPut_L5 O q (tower9, (IntKind.wrap .i64 (k10 + (1 : Int))), m11, p12, p13, p14, out15) x r) (x (tower9, k10, m11, p12, p13, p14, out15))) none) (x (tower9, k10, m11, p12, p13, p14, out15)))
noncomputable def iMemPut : (List ((List UInt8 × List UInt8 × Bool) × Int) × (List UInt8 × List UInt8 × Bool) × Int) → Option (List ((List UInt8 × List UInt8 × Bool) × Int) × Bool)
  | (m0, (p1, p2, p3), tower4) => ((icopyMem m0).bind fun r5 => ((iMemOk m0).bind fun r6 => (cond (!r6) (some (r5, false)) ((iPairOk (p1, p2, p3)).bind fun r7 => (cond (!r7) (some (r5, false)) ((iin (tower4, (1 : Int), (4 : Int))).bind fun r8 => (cond (!r8) (some (r5, false)) (iMemPut_L5 (List ((List UInt8 × List UInt8 × Bool) × Int) × Bool) fuel (tower4, (0 : Int), m0, p1, p2, p3, r5) (fun (tower16, k17, m18, p19, p20, p21, out22) => ((cond (decide (k17 < ((m18.length : Nat) : Int))) (cond (decide ((0 : Int) ≤ k17) && decide (k17 < ((m18.length : Nat) : Int))) (some (tower16, k17, ((nth m18 k17).1.1 == p19), m18, p19, p20, p21, out22)) none) (some (tower16, k17, false, m18, p19, p20, p21, out22))).bind fun (tower23, k24, v25, m26, p27, p28, p29, out30) => (cond v25 (cond (decide ((0 : Int) ≤ k24) && decide (k24 < ((out30.length : Nat) : Int))) (some ((List.set out30 (Int.toNat k24) ((p27, p28, p29), (nth out30 k24).2)), true)) none) (cond (decide (((m26.length : Nat) : Int) ≥ (60 : Int))) (some (out30, false)) (cond (decide ((0 : Int) ≤ k24) && decide (k24 ≤ ((m26.length : Nat) : Int))) (cond (decide ((cut m26 (0 : Int) k24).length ≤ lenBound)) (cond (decide (((cut m26 (0 : Int) k24).length + [((p27, p28, p29), tower23)].length) ≤ lenBound)) (cond (decide ((0 : Int) ≤ k24) && (decide (k24 ≤ ((m26.length : Nat) : Int)) && decide (((m26.length : Nat) : Int) ≤ ((m26.length : Nat) : Int)))) (cond (decide ((((cut m26 (0 : Int) k24) ++ [((p27, p28, p29), tower23)]).length + (cut m26 k24 ((m26.length : Nat) : Int)).length) ≤ lenBound)) (some ((((cut m26 (0 : Int) k24) ++ [((p27, p28, p29), tower23)]) ++ (cut m26 k24 ((m26.length : Nat) : Int))), true)) none) none) none) none) none))))) some))))))))
noncomputable def c_iMemPut : Ctr := { args := [.val true (.sl (.pair (.pair .str (.pair .str .bool)) (.int .i64))), .val true (.pair .str (.pair .str .bool)), .val false (.int .i64)], rets := [(true, [(some 99, (.sl (.pair (.pair .str (.pair .str .bool)) (.int .i64))))]), (false, [(none, .bool)])], F := iMemPut }
noncomputable def X_iMemPut : Ctx := XT.withΓ (lk [(130, c_icopyMem), (30, c_iMemOk), (78, c_iPairOk), (75, c_iin)]) (lk [])
noncomputable def H_iMemPut : Hints := ⟨lk [(8, ⟨90, [(2, .one (.val (.int .i64))), (3, .one (.ptr 0 0)), (4, .one (.ptr 1 0)), (6, .one (.ptr 2 0)), (8, .one (.ptr 3 0)), (9, .one (.val (.int .i64))), (61, .one (.val .bool))], [.vars 42 [.val (.sl (.pair (.pair .str (.pair .str .bool)) (.int .i64)))], .vars 81 [.val .str, .val .str, .val .bool], .vars 42 [.nils], .vars 42 [.own 4], .arr 99 (.pair (.pair .str (.pair .str .bool)) (.int .i64))], []⟩)], lk [], lk []⟩
noncomputable def L_iMemPut_5 : LoopF c_iMemPut.Res := ⟨⟨90, [(2, .one (.val (.int .i64))), (3, .one (.ptr 0 0)), (4, .one (.ptr 1 0)), (6, .one (.ptr 2 0)), (8, .one (.ptr 3 0)), (9, .one (.val (.int .i64)))], [.vars 42 [.val (.sl (.pair (.pair .str (.pair .str .bool)) (.int .i64)))], .vars 81 [.val .str, .val .str, .val .bool], .vars 42 [.nils], .vars 42 [.own 4], .arr 99 (.pair (.pair .str (.pair .str .bool)) (.int .i64))], []⟩, [(0, ⟨90, [(2, .one (.val (.int .i64))), (3, .one (.ptr 0 0)), (4, .one (.ptr 1 0)), (6, .one (.ptr 2 0)), (8, .one (.ptr 3 0)), (9, .one (.val (.int .i64)))], [.vars 42 [.val (.sl (.pair (.pair .str (.pair .str .bool)) (.int .i64)))], .vars 81 [.val .str, .val .str, .val .bool], .vars 42 [.nils], .vars 42 [.own 4], .arr 99 (.pair (.pair .str (.pair .str .bool)) (.int .i64))], []⟩)], iMemPut_L5⟩
noncomputable def T_iMemPut : Nat → Option (LoopF c_iMemPut.Res) := lk [(5, L_iMemPut_5)]
theorem s_iMemPut_5 : StepOk X_iMemPut H_iMemPut (c_iMemPut.finish X_iMemPut Tryz.f90.results.toList) T_iMemPut (loopAt Tryz.f90 0) := ⟨L_iMemPut_5, by kernel_rfl, fun O y x r => by kernel_rfl, fun O k y x r => by kernel_rfl⟩
theorem r_iMemPut (a) : fnRun X_iMemPut H_iMemPut c_iMemPut Tryz.f90 T_iMemPut a = iMemPut a := by kernel_rfl
theorem h_iMemPut : CtrHolds Tryz.prog 90 c_iMemPut := fn_ok (.cons h_icopyMem Tryz.call130 (.cons h_iMemOk Tryz.call30 (.cons h_iPairOk Tryz.call78 (.cons h_iin Tryz.call75 .nil)))) .nil (H := H_iMemPut) (tbl := T_iMemPut) Tryz.func90 (by kernel_rfl) (loops1 (by kernel_rfl) s_iMemPut_5) r_iMemPut
/-! 36 imemOf -/
noncomputable def imemOf_L3 (O : Type) : Nat → (List (List Int) × Int × Int × List ((List UInt8 × List UInt8 × Bool) × Int)) → ((List ((List UInt8 × List UInt8 × Bool) × Int)) → Option O) → ((List ((List UInt8 × List UInt8 × Bool) × Int) × Bool) → Option O) → Option O
  | 0, _, _, _ => none
  | q + 1, (v1, v2, v3, m4), x, r => (cond (decide (v3 < v2)) (cond (decide ((0 : Int) ≤ v3) && decide (v3 < ((v1.length : Nat) : Int))) ((ireader_text ((nth v1 v3), (0 : Int), false)).bind fun (r5, r6, r7, r8) => ((ireader_flag (r6, r7, r8)).bind fun (r9, r10, r11, r12) => ((ireader_text (r10, r11, r12)).bind fun (r13, r14, r15, r16) => ((ireader_one (r14, r15, r16)).bind fun (r17, r18, r19, r20) => ((iMemPut (m4, (r5, r13, r9), r17)).bind fun (r21, r22) => (cond (!r22) (r ([], false)) (cond r20 (r ([], false)) (cond (r19 != (((nth v1 v3).length : Nat) : Int)) (r ([], false)) (imemOf_L3 O q (v1, v2, (IntKind.wrap .i64 (v3 + (1 : Int))), r21) x r))))))))) none) (x m4))
noncomputable def imemOf : (List (List Int)) → Option (List ((List UInt8 × List UInt8 × Bool) × Int) × Bool)
  | l0 => (imemOf_L3 (List ((List UInt8 × List UInt8 × Bool) × Int) × Bool) fuel (l0, ((l0.length : Nat) : Int), (0 : Int), []) (fun m23 => (some (m23, true))) some)
noncomputable def c_imemOf : Ctr := { args := [.val false (.sl (.sl (.int .u8)))], rets := [(true, [(some 99, (.sl (.pair (.pair .str (.pair .str .bool)) (.int .i64))))]), (false, [(none, .bool)])], F := imemOf }
noncomputable def X_imemOf : Ctx := XT.withΓ (lk [(87, c_ireader_text), (88, c_ireader_flag), (89, c_ireader_one), (90, c_iMemPut)]) (lk [])
noncomputable def H_imemOf : Hints := ⟨lk [], lk [], lk []⟩
noncomputable def L_imemOf_3 : LoopF c_imemOf.Res := ⟨⟨62, [(2, .one (.ptr 0 0)), (4, .one (.ptr 1 0)), (14, .one (.val (.sl (.sl (.int .u8))))), (15, .one (.val (.int .i64))), (16, .one (.val (.int .i64)))], [.vars 42 [.nils], .vars 42 [.own 2], .arr 99 (.pair (.pair .str (.pair .str .bool)) (.int .i64))], []⟩, [(0, ⟨62, [(2, .one (.ptr 0 0)), (4, .one (.ptr 1 0))], [.vars 42 [.nils], .vars 42 [.own 2], .arr 99 (.pair (.pair .str (.pair .str .bool)) (.int .i64))], []⟩)], imemOf_L3⟩
noncomputable def T_imemOf : Nat → Option (LoopF c_imemOf.Res) := lk [(3, L_imemOf_3)]
theorem s_imemOf_3 : StepOk X_imemOf H_imemOf (c_imemOf.finish X_imemOf Tryz.f36.results.toList) T_imemOf (loopAt Tryz.f36 0) := ⟨L_imemOf_3, by kernel_rfl, fun O y x r => by kernel_rfl, fun O k y x r => by kernel_rfl⟩
theorem r_imemOf (a) : fnRun X_imemOf H_imemOf c_imemOf Tryz.f36 T_imemOf a = imemOf a := by kernel_rfl
theorem h_imemOf : CtrHolds Tryz.prog 36 c_imemOf := fn_ok (.cons h_ireader_text Tryz.call87 (.cons h_ireader_flag Tryz.call88 (.cons h_ireader_one Tryz.call89 (.cons h_iMemPut Tryz.call90 .nil)))) .nil (H := H_imemOf) (tbl := T_imemOf) Tryz.func36 (by kernel_rfl) (loops1 (by kernel_rfl) s_imemOf_3) r_imemOf
/-! 37 isameMan -/
noncomputable def isameMan_L4 (O : Type) : Nat → (Int × Int × Int × Int × List (Int × Int × List UInt8 × List UInt8) × Int × Int × List (Int × Int × List UInt8 × List UInt8)) → (Unit → Option O) → (Bool → Option O) → Option O
  | 0, _, _, _ => none
  | q + 1, (v6, v7, a8, a9, a10, b11, b12, b13), x, r => (cond (decide (v7 < v6)) (cond (decide ((0 : Int) ≤ v7) && decide (v7 < ((a10.length : Nat) : Int))) (cond (decide ((0 : Int) ≤ v7) && decide (v7 < ((b13.length : Nat) : Int))) (cond (!(((nth a10 v7).1 == (nth b13 v7).1) && (((nth a10 v7).2.1 == (nth b13 v7).2.1) && (((nth a10 v7).2.2.1 == (nth b13 v7).2.2.1) && ((nth a10 v7).2.2.2 == (nth b13 v7).2.2.2))))) (r false) (isameMan_L4 O q (v6, (IntKind.wrap .i64 (v7 + (1 : Int))), a8, a9, a10, b11, b12, b13) x r)) none) none) (x ()))
noncomputable def isameMan : ((Int × Int × List (Int × Int × List UInt8 × List UInt8)) × Int × Int × List (Int × Int × List UInt8 × List UInt8)) → Option Bool
  | ((a0, a1, a2), b3, b4, b5) => (cond (a0 != b3) (some false) (cond (a1 != b4) (some false) (cond (((a2.length : Nat) : Int) != ((b5.length : Nat) : Int)) (some false) (isameMan_L4 Bool fuel (((a2.length : Nat) : Int), (0 : Int), a0, a1, a2, b3, b4, b5) (fun _ => (some true)) some))))
noncomputable def c_isameMan : Ctr := { args := [.val true (.pair (.int .i64) (.pair (.int .i64) (.sl (.pair (.int .i64) (.pair (.int .i64) (.pair .str .str)))))), .val true (.pair (.int .i64) (.pair (.int .i64) (.sl (.pair (.int .i64) (.pair (.int .i64) (.pair .str .str))))))], rets := [(false, [(none, .bool)])], F := isameMan }
noncomputable def X_isameMan : Ctx := XT.withΓ (lk []) (lk [])
noncomputable def H_isameMan : Hints := ⟨lk [], lk [], lk []⟩
noncomputable def L_isameMan_4 : LoopF c_isameMan.Res := ⟨⟨45, [(2, .one (.ptr 0 0)), (3, .one (.ptr 1 0)), (29, .one (.val (.int .i64))), (30, .one (.val (.int .i64)))], [.vars 45 [.val (.int .i64), .val (.int .i64), .val (.sl (.pair (.int .i64) (.pair (.int .i64) (.pair .str .str))))], .vars 45 [.val (.int .i64), .val (.int .i64), .val (.sl (.pair (.int .i64) (.pair (.int .i64) (.pair .str .str))))]], []⟩, [(0, ⟨45, [], [], []⟩)], isameMan_L4⟩
noncomputable def T_isameMan : Nat → Option (LoopF c_isameMan.Res) := lk [(4, L_isameMan_4)]
theorem s_isameMan_4 : StepOk X_isameMan H_isameMan (c_isameMan.finish X_isameMan Tryz.f37.results.toList) T_isameMan (loopAt Tryz.f37 0) := ⟨L_isameMan_4, by kernel_rfl, fun O y x r => by kernel_rfl, fun O k y x r => by kernel_rfl⟩
theorem r_isameMan (a) : fnRun X_isameMan H_isameMan c_isameMan Tryz.f37 T_isameMan a = isameMan a := by kernel_rfl
theorem h_isameMan : CtrHolds Tryz.prog 37 c_isameMan := fn_ok .nil .nil (H := H_isameMan) (tbl := T_isameMan) Tryz.func37 (by kernel_rfl) (loops1 (by kernel_rfl) s_isameMan_4) r_isameMan
/-! 38 isameMem -/
noncomputable def isameMem_L4 (O : Type) : Nat → (Int × Int × List ((List UInt8 × List UInt8 × Bool) × Int) × List ((List UInt8 × List UInt8 × Bool) × Int)) → (Unit → Option O) → (Bool → Option O) → Option O
  | 0, _, _, _ => none
  | q + 1, (v2, v3, a4, b5), x, r => (cond (decide (v3 < v2)) (cond (decide ((0 : Int) ≤ v3) && decide (v3 < ((a4.length : Nat) : Int))) (cond (decide ((0 : Int) ≤ v3) && decide (v3 < ((b5.length : Nat) : Int))) (cond (!(((nth a4 v3).1.1 == (nth b5 v3).1.1) && (((nth a4 v3).1.2.1 == (nth b5 v3).1.2.1) && (((nth a4 v3).1.2.2 == (nth b5 v3).1.2.2) && ((nth a4 v3).2 == (nth b5 v3).2))))) (r false) (isameMem_L4 O q (v2, (IntKind.wrap .i64 (v3 + (1 : Int))), a4, b5) x r)) none) none) (x ()))
noncomputable def isameMem : (List ((List UInt8 × List UInt8 × Bool) × Int) × List ((List UInt8 × List UInt8 × Bool) × Int)) → Option Bool
  | (a0, b1) => (cond (((a0.length : Nat) : Int) != ((b1.length : Nat) : Int)) (some false) (isameMem_L4 Bool fuel (((a0.length : Nat) : Int), (0 : Int), a0, b1) (fun _ => (some true)) some))
noncomputable def c_isameMem : Ctr := { args := [.val true (.sl (.pair (.pair .str (.pair .str .bool)) (.int .i64))), .val true (.sl (.pair (.pair .str (.pair .str .bool)) (.int .i64)))], rets := [(false, [(none, .bool)])], F := isameMem }
noncomputable def X_isameMem : Ctx := XT.withΓ (lk []) (lk [])
noncomputable def H_isameMem : Hints := ⟨lk [], lk [], lk []⟩
noncomputable def L_isameMem_4 : LoopF c_isameMem.Res := ⟨⟨31, [(2, .one (.ptr 0 0)), (3, .one (.ptr 1 0)), (15, .one (.val (.int .i64))), (16, .one (.val (.int .i64)))], [.vars 42 [.val (.sl (.pair (.pair .str (.pair .str .bool)) (.int .i64)))], .vars 42 [.val (.sl (.pair (.pair .str (.pair .str .bool)) (.int .i64)))]], []⟩, [(0, ⟨31, [], [], []⟩)], isameMem_L4⟩
noncomputable def T_isameMem : Nat → Option (LoopF c_isameMem.Res) := lk [(4, L_isameMem_4)]
theorem s_isameMem_4 : StepOk X_isameMem H_isameMem (c_isameMem.finish X_isameMem Tryz.f38.results.toList) T_isameMem (loopAt Tryz.f38 0) := ⟨L_isameMem_4, by kernel_rfl, fun O y x r => by kernel_rfl, fun O k y x r => by kernel_rfl⟩
theorem r_isameMem (a) : fnRun X_isameMem H_isameMem c_isameMem Tryz.f38 T_isameMem a = isameMem a := by kernel_rfl
theorem h_isameMem : CtrHolds Tryz.prog 38 c_isameMem := fn_ok .nil .nil (H := H_isameMem) (tbl := T_isameMem) Tryz.func38 (by kernel_rfl) (loops1 (by kernel_rfl) s_isameMem_4) r_isameMem
/-! 51 itabName -/
noncomputable def itabName : Int → Option (List UInt8)
  | n0 => ((xItoa n0).bind fun r1 => (cond (decide ((4 + r1.length) ≤ lenBound)) (some ([116, 97, 98, 45] ++ r1)) none))
noncomputable def c_itabName : Ctr := { args := [.val false (.int .i64)], rets := [(false, [(none, .str)])], F := itabName }
noncomputable def X_itabName : Ctx := XT.withΓ (lk [(85, c_xItoa)]) (lk [])
noncomputable def H_itabName : Hints := ⟨lk [], lk [], lk []⟩
noncomputable def T_itabName : Nat → Option (LoopF c_itabName.Res) := lk []
theorem r_itabName (a) : fnRun X_itabName H_itabName c_itabName Tryz.f51 T_itabName a = itabName a := by kernel_rfl
theorem h_itabName : CtrHolds Tryz.prog 51 c_itabName := fn_ok (.cons h_xItoa Tryz.call85 .nil) .nil (H := H_itabName) (tbl := T_itabName) Tryz.func51 (by kernel_rfl) (loops0 (by kernel_rfl)) r_itabName
/-! 137 ireader_num -/
noncomputable def ireader_num : (List Int × Int × Bool) → Option (Int × List Int × Int × Bool)
  | (r0, r1, r2) => ((iGetNum (r0, r1)).bind fun (r3, r4, r5) => ((cond r2 (some (r3, r4, true, r0, r1, r2)) (some (r3, r4, (!r5), r0, r1, r2))).bind fun (n6, next7, v8, r9, r10, r11) => (cond v8 (some ((0 : Int), r9, r10, true)) (some (n6, r9, next7, r11)))))
noncomputable def c_ireader_num : Ctr := { args := [.ref 125 [(none, (.sl (.int .u8))), (none, (.int .i64)), (none, .bool)]], rets := [(false, [(none, (.int .i64))])], F := ireader_num }
noncomputable def X_ireader_num : Ctx := XT.withΓ (lk [(157, c_iGetNum)]) (lk [])
noncomputable def H_ireader_num : Hints := ⟨lk [(3, ⟨35, [(0, .one (.ptr 0 0)), (3, .one (.val (.int .i64))), (4, .one (.val (.int .i64))), (26, .one (.val .bool))], [.vars 125 [.val (.sl (.int .u8)), .val (.int .i64), .val .bool]], [0]⟩)], lk [], lk []⟩
noncomputable def T_ireader_num : Nat → Option (LoopF c_ireader_num.Res) := lk []
theorem r_ireader_num (a) : fnRun X_ireader_num H_ireader_num c_ireader_num Tryz.f137 T_ireader_num a = ireader_num a := by kernel_rfl
theorem h_ireader_num : CtrHolds Tryz.prog 137 c_ireader_num := fn_ok (.cons h_iGetNum Tryz.call157 .nil) .nil (H := H_ireader_num) (tbl := T_ireader_num) Tryz.func137 (by kernel_rfl) (loops0 (by kernel_rfl)) r_ireader_num
/-! 99 iindexOf -/
noncomputable def iindexOf_L10 (O : Type) : Nat → (List Int × Int × Int × List Int × Int × Bool × List (List UInt8 × Int)) → ((List Int × List Int × Int × Bool × List (List UInt8 × Int)) → Option O) → ((List (List UInt8 × Int) × List Int × Bool) → Option O) → Option O
  | 0, _, _, _ => none
  | q + 1, (body9, n10, k11, r12, r13, r14, out15), x, r => (cond (decide (k11 < n10)) (cond (!r14) ((ireader_text (r12, r13, r14)).bind fun (r16, r17, r18, r19) => ((ireader_num (r17, r18, r19)).bind fun (r20, r21, r22, r23) => (cond (decide ((out15.length + [(r16, r20)].length) ≤ lenBound)) (iindexOf_L10 O q (body9, n10, (IntKind.wrap .i64 (k11 + (1 : Int))), r21, r22, r23, (out15 ++ [(r16, r20)])) x r) none))) (x (body9, r12, r13, r14, out15))) (x (body9, r12, r13, r14, out15)))
noncomputable def iindexOf : (List Int) → Option (List (List UInt8 × Int) × List Int × Bool)
  | b0 => (cond (decide (((b0.length : Nat) : Int) < (4 : Int))) (some ([], [], false)) ((iwordAt (b0, (IntKind.wrap .i64 (((b0.length : Nat) : Int) - (4 : Int))))).bind fun r1 => ((iUnframe (b0, r1)).bind fun (r2, r3, r4) => (cond (!r4) (some ([], [], false)) (cond (r3 != (IntKind.wrap .i64 (((b0.length : Nat) : Int) - (4 : Int)))) (some ([], [], false)) ((ireader_num (r2, (0 : Int), false)).bind fun (r5, r6, r7, r8) => (iindexOf_L10 (List (List UInt8 × Int) × List Int × Bool) fuel (r2, r5, (0 : Int), r6, r7, r8, []) (fun (body24, r25, r26, r27, out28) => (cond r27 (some ([], [], false)) (cond (r26 != (IntKind.wrap .i64 (((body24.length : Nat) : Int) - (8 : Int)))) (some ([], [], false)) (cond (decide ((0 : Int) ≤ r26) && (decide (r26 ≤ ((body24.length : Nat) : Int)) && decide (((body24.length : Nat) : Int) ≤ ((body24.length : Nat) : Int)))) (some (out28, (cut body24 r26 ((body24.length : Nat) : Int)), true)) none)))) some)))))))
noncomputable def c_iindexOf : Ctr := { args := [.val false (.sl (.int .u8))], rets := [(false, [(some 143, (.sl (.pair .str (.int .i64))))]), (false, [(none, (.sl (.int .u8)))]), (false, [(none, .bool)])], F := iindexOf }
noncomputable def X_iindexOf : Ctx := XT.withΓ (lk [(129, c_iwordAt), (86, c_iUnframe), (137, c_ireader_num), (87, c_ireader_text)]) (lk [])
noncomputable def H_iindexOf : Hints := ⟨lk [], lk [], lk []⟩
noncomputable def L_iindexOf_10 : LoopF c_iindexOf.Res := ⟨⟨83, [(5, .one (.val (.sl (.int .u8)))), (8, .one (.ptr 0 0)), (9, .one (.val (.int .i64))), (10, .one (.own 1)), (11, .one (.val (.int .i64)))], [.vars 125 [.val (.sl (.int .u8)), .val (.int .i64), .val .bool], .arr 143 (.pair .str (.int .i64))], []⟩, [(0, ⟨83, [(5, .one (.val (.sl (.int .u8)))), (8, .one (.ptr 0 0)), (10, .one (.own 1))], [.vars 125 [.val (.sl (.int .u8)), .val (.int .i64), .val .bool], .arr 143 (.pair .str (.int .i64))], []⟩)], iindexOf_L10⟩
noncomputable def T_iindexOf : Nat → Option (LoopF c_iindexOf.Res) := lk [(10, L_iindexOf_10)]
theorem s_iindexOf_10 : StepOk X_iindexOf H_iindexOf (c_iindexOf.finish X_iindexOf Tryz.f99.results.toList) T_iindexOf (loopAt Tryz.f99 0) := ⟨L_iindexOf_10, by kernel_rfl, fun O y x r => by kernel_rfl, fun O k y x r => by kernel_rfl⟩
theorem r_iindexOf (a) : fnRun X_iindexOf H_iindexOf c_iindexOf Tryz.f99 T_iindexOf a = iindexOf a := by kernel_rfl
theorem h_iindexOf : CtrHolds Tryz.prog 99 c_iindexOf := fn_ok (.cons h_iwordAt Tryz.call129 (.cons h_iUnframe Tryz.call86 (.cons h_ireader_num Tryz.call137 (.cons h_ireader_text Tryz.call87 .nil)))) .nil (H := H_iindexOf) (tbl := T_iindexOf) Tryz.func99 (by kernel_rfl) (loops1 (by kernel_rfl) s_iindexOf_10) r_iindexOf
/-! 101 ipairsAt -/
noncomputable def ipairsAt_L7 (O : Type) : Nat → (List Int × List UInt8 × List Int × Int × Bool × List (List UInt8 × List UInt8 × Bool)) → ((List Int × Int × Bool × List (List UInt8 × List UInt8 × Bool)) → Option O) → ((List (List UInt8 × List UInt8 × Bool) × Bool) → Option O) → Option O
  | 0, _, _, _ => none
  | q + 1, (body5, last6, r7, r8, r9, out10), x, r => (cond (decide (r8 < ((body5.length : Nat) : Int))) (cond (!r9) ((ireader_num (r7, r8, r9)).bind fun (r11, r12, r13, r14) => ((ireader_text (r12, r13, r14)).bind fun (r15, r16, r17, r18) => ((ireader_flag (r16, r17, r18)).bind fun (r19, r20, r21, r22) => ((ireader_text (r20, r21, r22)).bind fun (r23, r24, r25, r26) => (cond (decide ((0 : Int) ≤ (if (((last6.length : Nat) : Int) < r11) then ((last6.length : Nat) : Int) else r11)) && decide ((if (((last6.length : Nat) : Int) < r11) then ((last6.length : Nat) : Int) else r11) ≤ ((last6.length : Nat) : Int))) (cond (decide (((cut last6 (0 : Int) (if (((last6.length : Nat) : Int) < r11) then ((last6.length : Nat) : Int) else r11)).length + r15.length) ≤ lenBound)) (cond (decide (r11 > ((last6.length : Nat) : Int))) (r ([], false)) (cond (decide ((out10.length + [(((cut last6 (0 : Int) (if (((last6.length : Nat) : Int) < r11) then ((last6.length : Nat) : Int) else r11)) ++ r15), r23, r19)].length) ≤ lenBound)) (ipairsAt_L7 O q (body5, ((cut last6 (0 : Int) (if (((last6.length : Nat) : Int) < r11) then ((last6.length : Nat) : Int) else r11)) ++ r15), r24, r25, r26, (out10 ++ [(((cut last6 (0 : Int) (if (((last6.length : Nat) : Int) < r11) then ((last6.length : Nat) : Int) else r11)) ++ r15), r23, r19)])) x r) none)) none) none))))) (x (r7, r8, r9, out10))) (x (r7, r8, r9, out10)))
noncomputable def ipairsAt : (List Int × Int) → Option (List (List UInt8 × List UInt8 × Bool) × Bool)
  | (b0, at1) => ((iUnframe (b0, at1)).bind fun (r2, r3, r4) => (cond (!r4) (some ([], false)) (ipairsAt_L7 (List (List UInt8 × List UInt8 × Bool) × Bool) fuel (r2, [], r2, (0 : Int), false, []) (fun (r27, r28, r29, out30) => (some (out30, (!r29)))) some)))
noncomputable def c_ipairsAt : Ctr := { args := [.val false (.sl (.int .u8)), .val false (.int .i64)], rets := [(false, [(some 81, (.sl (.pair .str (.pair .str .bool))))]), (false, [(none, .bool)])], F := ipairsAt }
noncomputable def X_ipairsAt : Ctx := XT.withΓ (lk [(86, c_iUnframe), (137, c_ireader_num), (87, c_ireader_text), (88, c_ireader_flag)]) (lk [])
noncomputable def H_ipairsAt : Hints := ⟨lk [], lk [], lk [(11, [8, 9, 0, 1, 2, 3, 4, 5, 6, 7, 10, 11, 12, 13])]⟩
noncomputable def L_ipairsAt_7 : LoopF c_ipairsAt.Res := ⟨⟨76, [(6, .one (.val (.sl (.int .u8)))), (9, .one (.ptr 0 0)), (10, .one (.own 1)), (11, .one (.val .str))], [.vars 125 [.val (.sl (.int .u8)), .val (.int .i64), .val .bool], .arr 81 (.pair .str (.pair .str .bool))], []⟩, [(0, ⟨76, [(9, .one (.ptr 0 0)), (10, .one (.own 1))], [.vars 125 [.val (.sl (.int .u8)), .val (.int .i64), .val .bool], .arr 81 (.pair .str (.pair .str .bool))], []⟩)], ipairsAt_L7⟩
noncomputable def T_ipairsAt : Nat → Option (LoopF c_ipairsAt.Res) := lk [(7, L_ipairsAt_7)]
theorem s_ipairsAt_7 : StepOk X_ipairsAt H_ipairsAt (c_ipairsAt.finish X_ipairsAt Tryz.f101.results.toList) T_ipairsAt (loopAt Tryz.f101 0) := ⟨L_ipairsAt_7, by kernel_rfl, fun O y x r => by kernel_rfl, fun O k y x r => by kernel_rfl⟩
theorem r_ipairsAt (a) : fnRun X_ipairsAt H_ipairsAt c_ipairsAt Tryz.f101 T_ipairsAt a = ipairsAt a := by kernel_rfl
theorem h_ipairsAt : CtrHolds Tryz.prog 101 c_ipairsAt := fn_ok (.cons h_iUnframe Tryz.call86 (.cons h_ireader_num Tryz.call137 (.cons h_ireader_text Tryz.call87 (.cons h_ireader_flag Tryz.call88 .nil)))) .nil (H := H_ipairsAt) (tbl := T_ipairsAt) Tryz.func101 (by kernel_rfl) (loops1 (by kernel_rfl) s_ipairsAt_7) r_ipairsAt
/-! 158 irising -/
noncomputable def irising_L2 (O : Type) : Nat → (List (List UInt8 × List UInt8 × Bool) × List (List UInt8 × List UInt8 × Bool) × Int × Int) → (Unit → Option O) → (Bool → Option O) → Option O
  | 0, _, _, _ => none
  | q + 1, (l1, v2, v3, v4), x, r => (cond (decide (v4 < v3)) (cond (decide ((0 : Int) ≤ v4) && decide (v4 < ((v2.length : Nat) : Int))) ((iPairOk ((nth v2 v4).1, (nth v2 v4).2.1, (nth v2 v4).2.2)).bind fun r5 => (cond (!r5) (r false) (cond (decide (v4 > (0 : Int))) (cond (decide ((0 : Int) ≤ (IntKind.wrap .i64 (v4 - (1 : Int)))) && decide ((IntKind.wrap .i64 (v4 - (1 : Int))) < ((l1.length : Nat) : Int))) (cond (!(Op.bytesLess (nth l1 (IntKind.wrap .i64 (v4 - (1 : Int)))).1 (nth v2 v4).1)) (r false) (irising_L2 O q (l1, v2, v3, (IntKind.wrap .i64 (v4 + (1 : Int)))) x r)) none) (irising_L2 O q (l1, v2, v3, (IntKind.wrap .i64 (v4 + (1 : Int)))) x r)))) none) (x ()))
noncomputable def irising : (List (List UInt8 × List UInt8 × Bool)) → Option Bool
  | l0 => (irising_L2 Bool fuel (l0, l0, ((l0.length : Nat) : Int), (0 : Int)) (fun _ => (some true)) some)
noncomputable def c_irising : Ctr := { args := [.val false (.sl (.pair .str (.pair .str .bool)))], rets := [(false, [(none, .bool)])], F := irising }
noncomputable def X_irising : Ctx := XT.withΓ (lk [(78, c_iPairOk)]) (lk [])
noncomputable def H_irising : Hints := ⟨lk [], lk [], lk []⟩
noncomputable def L_irising_2 : LoopF c_irising.Res := ⟨⟨31, [(0, .one (.val (.sl (.pair .str (.pair .str .bool))))), (5, .one (.val (.sl (.pair .str (.pair .str .bool))))), (6, .one (.val (.int .i64))), (7, .one (.val (.int .i64)))], [], []⟩, [(0, ⟨31, [], [], []⟩)], irising_L2⟩
noncomputable def T_irising : Nat → Option (LoopF c_irising.Res) := lk [(2, L_irising_2)]
theorem s_irising_2 : StepOk X_irising H_irising (c_irising.finish X_irising Tryz.f158.results.toList) T_irising (loopAt Tryz.f158 0) := ⟨L_irising_2, by kernel_rfl, fun O y x r => by kernel_rfl, fun O k y x r => by kernel_rfl⟩
theorem r_irising (a) : fnRun X_irising H_irising c_irising Tryz.f158 T_irising a = irising a := by kernel_rfl
theorem h_irising : CtrHolds Tryz.prog 158 c_irising := fn_ok (.cons h_iPairOk Tryz.call78 .nil) .nil (H := H_irising) (tbl := T_irising) Tryz.func158 (by kernel_rfl) (loops1 (by kernel_rfl) s_irising_2) r_irising
/-! 159 iaddNum -/
noncomputable def iaddNum_L3 (O : Type) : Nat → (Int × Int × List Int) → ((Int × Int × List Int) → Option O) → ((List Int) → Option O) → Option O
  | 0, _, _, _ => none
  | q + 1, (n2, shift3, out4), x, r => (cond (decide (shift3 < (0 : Int))) none (cond (decide ((Int.fdiv n2 ((2 : Int) ^ (min (Int.toNat shift3) 64))) > (127 : Int))) (iaddNum_L3 O q (n2, (IntKind.wrap .i64 (shift3 + (7 : Int))), out4) x r) (x (n2, shift3, out4))))
noncomputable def iaddNum_L5 (O : Type) : Nat → (Int × Int × List Int) → ((Int × List Int) → Option O) → ((List Int) → Option O) → Option O
  | 0, _, _, _ => none
  | q + 1, (n8, shift9, out10), x, r => (cond (decide (shift9 > (0 : Int))) (cond (decide (shift9 < (0 : Int))) none (cond (decide ((out10.length + [(IntKind.wrap .u8 (IntKind.wrap .i64 ((bits .and .i64 (Int.fdiv n8 ((2 : Int) ^ (min (Int.toNat shift9) 64))) (127 : Int)) + (128 : Int))))].length) ≤ lenBound)) (iaddNum_L5 O q (n8, (IntKind.wrap .i64 (shift9 - (7 : Int))), (out10 ++ [(IntKind.wrap .u8 (IntKind.wrap .i64 ((bits .and .i64 (Int.fdiv n8 ((2 : Int) ^ (min (Int.toNat shift9) 64))) (127 : Int)) + (128 : Int))))])) x r) none)) (x (n8, out10)))
noncomputable def iaddNum : (List Int × Int) → Option (List Int)
  | (out0, n1) => (iaddNum_L3 (List Int) fuel ((if ((if ((1000000000 : Int) < n1) then (1000000000 : Int) else n1) > (0 : Int)) then (if ((1000000000 : Int) < n1) then (1000000000 : Int) else n1) else (0 : Int)), (0 : Int), out0) (fun (n5, shift6, out7) => (iaddNum_L5 (List Int) fuel (n5, shift6, out7) (fun (n11, out12) => (cond (decide ((out12.length + [(IntKind.wrap .u8 (bits .and .i64 n11 (127 : Int)))].length) ≤ lenBound)) (some (out12 ++ [(IntKind.wrap .u8 (bits .and .i64 n11 (127 : Int)))])) none)) some)) some)
noncomputable def c_iaddNum : Ctr := { args := [.given 5 (.int .u8), .val false (.int .i64)], rets := [(false, [(some 5, (.sl (.int .u8)))])], F := iaddNum }
noncomputable def X_iaddNum : Ctx := XT.withΓ (lk []) (lk [])
noncomputable def H_iaddNum : Hints := ⟨lk [], lk [], lk []⟩
noncomputable def L_iaddNum_3 : LoopF c_iaddNum.Res := ⟨⟨34, [(0, .one (.own 0)), (1, .one (.val (.int .i64))), (5, .one (.val (.int .i64)))], [.arr 5 (.int .u8)], []⟩, [(0, ⟨34, [(0, .one (.own 0)), (1, .one (.val (.int .i64))), (5, .one (.val (.int .i64)))], [.arr 5 (.int .u8)], []⟩)], iaddNum_L3⟩
noncomputable def L_iaddNum_5 : LoopF c_iaddNum.Res := ⟨⟨34, [(0, .one (.own 0)), (1, .one (.val (.int .i64))), (5, .one (.val (.int .i64)))], [.arr 5 (.int .u8)], []⟩, [(2, ⟨34, [(0, .one (.own 0)), (1, .one (.val (.int .i64)))], [.arr 5 (.int .u8)], []⟩)], iaddNum_L5⟩
noncomputable def T_iaddNum : Nat → Option (LoopF c_iaddNum.Res) := lk [(3, L_iaddNum_3), (5, L_iaddNum_5)]
theorem s_iaddNum_3 : StepOk X_iaddNum H_iaddNum (c_iaddNum.finish X_iaddNum Tryz.f159.results.toList) T_iaddNum (loopAt Tryz.f159 0) := ⟨L_iaddNum_3, by kernel_rfl, fun O y x r => by kernel_rfl, fun O k y x r => by kernel_rfl⟩
theorem s_iaddNum_5 : StepOk X_iaddNum H_iaddNum (c_iaddNum.finish X_iaddNum Tryz.f159.results.toList) T_iaddNum (loopAt Tryz.f159 1) := ⟨L_iaddNum_5, by kernel_rfl, fun O y x r => by kernel_rfl, fun O k y x r => by kernel_rfl⟩
theorem r_iaddNum (a) : fnRun X_iaddNum H_iaddNum c_iaddNum Tryz.f159 T_iaddNum a = iaddNum a := by kernel_rfl
theorem h_iaddNum : CtrHolds Tryz.prog 159 c_iaddNum := fn_ok .nil .nil (H := H_iaddNum) (tbl := T_iaddNum) Tryz.func159 (by kernel_rfl) (loops2 (by kernel_rfl) s_iaddNum_3 s_iaddNum_5) r_iaddNum
/-! 160 iaddText -/
noncomputable def iaddText : (List Int × List UInt8) → Option (List Int)
  | (out0, s1) => ((iaddNum (out0, ((s1.length : Nat) : Int))).bind fun r2 => (cond (decide ((r2.length + (bytesOf s1).length) ≤ lenBound)) (some (r2 ++ (bytesOf s1))) none))
noncomputable def c_iaddText : Ctr := { args := [.given 5 (.int .u8), .val false .str], rets := [(false, [(some 5, (.sl (.int .u8)))])], F := iaddText }
noncomputable def X_iaddText : Ctx := XT.withΓ (lk [(159, c_iaddNum)]) (lk [])
noncomputable def H_iaddText : Hints := ⟨lk [], lk [], lk []⟩
noncomputable def T_iaddText : Nat → Option (LoopF c_iaddText.Res) := lk []
theorem r_iaddText (a) : fnRun X_iaddText H_iaddText c_iaddText Tryz.f160 T_iaddText a = iaddText a := by kernel_rfl
theorem h_iaddText : CtrHolds Tryz.prog 160 c_iaddText := fn_ok (.cons h_iaddNum Tryz.call159 .nil) .nil (H := H_iaddText) (tbl := T_iaddText) Tryz.func160 (by kernel_rfl) (loops0 (by kernel_rfl)) r_iaddText
/-! 181 icommon -/
noncomputable def icommon_L2 (O : Type) : Nat → (List UInt8 × List UInt8 × Int) → (Int → Option O) → (Int → Option O) → Option O
  | 0, _, _, _ => none
  | q + 1, (a2, b3, n4), x, r => (cond (decide (n4 < ((a2.length : Nat) : Int))) (cond (decide (n4 < ((b3.length : Nat) : Int))) (cond (decide ((0 : Int) ≤ n4) && decide (n4 < ((a2.length : Nat) : Int))) (cond (decide ((0 : Int) ≤ n4) && decide (n4 < ((b3.length : Nat) : Int))) (cond ((((UInt8.toNat (nth a2 n4)) : Nat) : Int) == (((UInt8.toNat (nth b3 n4)) : Nat) : Int)) (icommon_L2 O q (a2, b3, (IntKind.wrap .i64 (n4 + (1 : Int)))) x r) (x n4)) none) none) (x n4)) (x n4))
noncomputable def icommon : (List UInt8 × List UInt8) → Option Int
  | (a0, b1) => (icommon_L2 Int fuel (a0, b1, (0 : Int)) (fun n5 => (some n5)) some)
noncomputable def c_icommon : Ctr := { args := [.val false .str, .val false .str], rets := [(false, [(none, (.int .i64))])], F := icommon }
noncomputable def X_icommon : Ctx := XT.withΓ (lk []) (lk [])
noncomputable def H_icommon : Hints := ⟨lk [], lk [], lk []⟩
noncomputable def L_icommon_2 : LoopF c_icommon.Res := ⟨⟨28, [(0, .one (.val .str)), (1, .one (.val .str)), (5, .one (.val (.int .i64)))], [], []⟩, [(0, ⟨28, [(5, .one (.val (.int .i64)))], [], []⟩)], icommon_L2⟩
noncomputable def T_icommon : Nat → Option (LoopF c_icommon.Res) := lk [(2, L_icommon_2)]
theorem s_icommon_2 : StepOk X_icommon H_icommon (c_icommon.finish X_icommon Tryz.f181.results.toList) T_icommon (loopAt Tryz.f181 0) := ⟨L_icommon_2, by kernel_rfl, fun O y x r => by kernel_rfl, fun O k y x r => by kernel_rfl⟩
theorem r_icommon (a) : fnRun X_icommon H_icommon c_icommon Tryz.f181 T_icommon a = icommon a := by kernel_rfl
theorem h_icommon : CtrHolds Tryz.prog 181 c_icommon := fn_ok .nil .nil (H := H_icommon) (tbl := T_icommon) Tryz.func181 (by kernel_rfl) (loops1 (by kernel_rfl) s_icommon_2) r_icommon
/-! 182 ibit -/
noncomputable def ibit : Bool → Option Int
  | is0 => (cond is0 (some (1 : Int)) (some (0 : Int)))
noncomputable def c_ibit : Ctr := { args := [.val false .bool], rets := [(false, [(none, (.int .u8))])], F := ibit }
noncomputable def X_ibit : Ctx := XT.withΓ (lk []) (lk [])
noncomputable def H_ibit : Hints := ⟨lk [], lk [], lk []⟩
noncomputable def T_ibit : Nat → Option (LoopF c_ibit.Res) := lk []
theorem r_ibit (a) : fnRun X_ibit H_ibit c_ibit Tryz.f182 T_ibit a = ibit a := by kernel_rfl
theorem h_ibit : CtrHolds Tryz.prog 182 c_ibit := fn_ok .nil .nil (H := H_ibit) (tbl := T_ibit) Tryz.func182 (by kernel_rfl) (loops0 (by kernel_rfl)) r_ibit
/-! 164 iword -/
noncomputable def iword : Int → Option (List Int)
  | n0 => (some [(IntKind.wrap .u8 (Int.fdiv n0 (16777216 : Int))), (IntKind.wrap .u8 (Int.fdiv n0 (65536 : Int))), (IntKind.wrap .u8 (Int.fdiv n0 (256 : Int))), (IntKind.wrap .u8 n0)])
noncomputable def c_iword : Ctr := { args := [.val false (.int .i64)], rets := [(false, [(some 5, (.sl (.int .u8)))])], F := iword }
noncomputable def X_iword : Ctx := XT.withΓ (lk []) (lk [])
noncomputable def H_iword : Hints := ⟨lk [], lk [], lk []⟩
noncomputable def T_iword : Nat → Option (LoopF c_iword.Res) := lk []
theorem r_iword (a) : fnRun X_iword H_iword c_iword Tryz.f164 T_iword a = iword a := by kernel_rfl
theorem h_iword : CtrHolds Tryz.prog 164 c_iword := fn_ok .nil .nil (H := H_iword) (tbl := T_iword) Tryz.func164 (by kernel_rfl) (loops0 (by kernel_rfl)) r_iword
/-! 163 iFrame -/
noncomputable def iFrame : (List Int) → Option (List Int)
  | body0 => ((iSum body0).bind fun r1 => ((iword r1).bind fun r2 => ((iaddNum (r2, ((body0.length : Nat) : Int))).bind fun r3 => (cond (decide ((r3.length + body0.length) ≤ lenBound)) (some (r3 ++ body0)) none))))
noncomputable def c_iFrame : Ctr := { args := [.val false (.sl (.int .u8))], rets := [(false, [(some 5, (.sl (.int .u8)))])], F := iFrame }
noncomputable def X_iFrame : Ctx := XT.withΓ (lk [(128, c_iSum), (164, c_iword), (159, c_iaddNum)]) (lk [])
noncomputable def H_iFrame : Hints := ⟨lk [], lk [], lk []⟩
noncomputable def T_iFrame : Nat → Option (LoopF c_iFrame.Res) := lk []
theorem r_iFrame (a) : fnRun X_iFrame H_iFrame c_iFrame Tryz.f163 T_iFrame a = iFrame a := by kernel_rfl
theorem h_iFrame : CtrHolds Tryz.prog 163 c_iFrame := fn_ok (.cons h_iSum Tryz.call128 (.cons h_iword Tryz.call164 (.cons h_iaddNum Tryz.call159 .nil))) .nil (H := H_iFrame) (tbl := T_iFrame) Tryz.func163 (by kernel_rfl) (loops0 (by kernel_rfl)) r_iFrame
/-! 161 iputBlock -/
noncomputable def iputBlock_L4 (O : Type) : Nat → (List UInt8 × List (List UInt8 × List UInt8 × Bool) × Int × Int × List Int) → ((List Int) → Option O) → ((List Int) → Option O) → Option O
  | 0, _, _, _ => none
  | q + 1, (last1, v2, v3, v4, out5), x, r => (cond (decide (v4 < v3)) (cond (decide ((0 : Int) ≤ v4) && decide (v4 < ((v2.length : Nat) : Int))) ((icommon (last1, (nth v2 v4).1)).bind fun r6 => ((iaddNum (out5, r6)).bind fun r7 => (cond (decide ((0 : Int) ≤ r6) && (decide (r6 ≤ (((nth v2 v4).1.length : Nat) : Int)) && decide ((((nth v2 v4).1.length : Nat) : Int) ≤ (((nth v2 v4).1.length : Nat) : Int)))) ((iaddText (r7, (cut (nth v2 v4).1 r6 (((nth v2 v4).1.length : Nat) : Int)))).bind fun r8 => ((ibit (nth v2 v4).2.2).bind fun r9 => (cond (decide ((r8.length + [r9].length) ≤ lenBound)) ((iaddText ((r8 ++ [r9]), (nth v2 v4).2.1)).bind fun r10 => (iputBlock_L4 O q ((nth v2 v4).1, v2, v3, (IntKind.wrap .i64 (v4 + (1 : Int))), r10) x r)) none))) none))) none) (x out5))
noncomputable def iputBlock : (List (List UInt8 × List UInt8 × Bool)) → Option (List Int)
  | l0 => (iputBlock_L4 (List Int) fuel ([], l0, ((l0.length : Nat) : Int), (0 : Int), []) (fun out11 => ((iFrame out11).bind fun r12 => (some r12))) some)
noncomputable def c_iputBlock : Ctr := { args := [.val false (.sl (.pair .str (.pair .str .bool)))], rets := [(false, [(some 5, (.sl (.int .u8)))])], F := iputBlock }
noncomputable def X_iputBlock : Ctx := XT.withΓ (lk [(181, c_icommon), (159, c_iaddNum), (160, c_iaddText), (182, c_ibit), (163, c_iFrame)]) (lk [])
noncomputable def H_iputBlock : Hints := ⟨lk [], lk [], lk []⟩
noncomputable def L_iputBlock_4 : LoopF c_iputBlock.Res := ⟨⟨40, [(3, .one (.own 0)), (4, .one (.val .str)), (8, .one (.val (.sl (.pair .str (.pair .str .bool))))), (9, .one (.val (.int .i64))), (10, .one (.val (.int .i64)))], [.arr 5 (.int .u8)], []⟩, [(0, ⟨40, [(3, .one (.own 0))], [.arr 5 (.int .u8)], []⟩)], iputBlock_L4⟩
noncomputable def T_iputBlock : Nat → Option (LoopF c_iputBlock.Res) := lk [(4, L_iputBlock_4)]
theorem s_iputBlock_4 : StepOk X_iputBlock H_iputBlock (c_iputBlock.finish X_iputBlock Tryz.f161.results.toList) T_iputBlock (loopAt Tryz.f161 0) := ⟨L_iputBlock_4, by kernel_rfl, fun O y x r => by kernel_rfl, fun O k y x r => by kernel_rfl⟩
theorem r_iputBlock (a) : fnRun X_iputBlock H_iputBlock c_iputBlock Tryz.f161 T_iputBlock a = iputBlock a := by kernel_rfl
theorem h_iputBlock : CtrHolds Tryz.prog 161 c_iputBlock := fn_ok (.cons h_icommon Tryz.call181 (.cons h_iaddNum Tryz.call159 (.cons h_iaddText Tryz.call160 (.cons h_ibit Tryz.call182 (.cons h_iFrame Tryz.call163 .nil))))) .nil (H := H_iputBlock) (tbl := T_iputBlock) Tryz.func161 (by kernel_rfl) (loops1 (by kernel_rfl) s_iputBlock_4) r_iputBlock
/-! 138 iMark -/
noncomputable def iMark : (List UInt8) → Option (Int × Int)
  | key0 => ((iSum (bytesOf key0)).bind fun r1 => (some ((Int.tmod r1 (64 : Int)), (Int.tmod (IntKind.wrap .i64 (Int.tdiv r1 (64 : Int))) (64 : Int)))))
noncomputable def c_iMark : Ctr := { args := [.val false .str], rets := [(false, [(none, (.int .i64))]), (false, [(none, (.int .i64))])], F := iMark }
noncomputable def X_iMark : Ctx := XT.withΓ (lk [(128, c_iSum)]) (lk [])
noncomputable def H_iMark : Hints := ⟨lk [], lk [], lk []⟩
noncomputable def T_iMark : Nat → Option (LoopF c_iMark.Res) := lk []
theorem r_iMark (a) : fnRun X_iMark H_iMark c_iMark Tryz.f138 T_iMark a = iMark a := by kernel_rfl
theorem h_iMark : CtrHolds Tryz.prog 138 c_iMark := fn_ok (.cons h_iSum Tryz.call128 .nil) .nil (H := H_iMark) (tbl := T_iMark) Tryz.func138 (by kernel_rfl) (loops0 (by kernel_rfl)) r_iMark
/-! 162 iFilter -/
noncomputable def iFilter_L3 (O : Type) : Nat → (List (List UInt8) × Int × Int × List Int) → ((List Int) → Option O) → ((List Int) → Option O) → Option O
  | 0, _, _, _ => none
  | q + 1, (v1, v2, v3, out4), x, r => (cond (decide (v3 < v2)) (cond (decide ((0 : Int) ≤ v3) && decide (v3 < ((v1.length : Nat) : Int))) ((iMark (nth v1 v3)).bind fun (r5, r6) => (cond (decide ((0 : Int) ≤ (IntKind.wrap .i64 (Int.tdiv r5 (8 : Int)))) && decide ((IntKind.wrap .i64 (Int.tdiv r5 (8 : Int))) < ((out4.length : Nat) : Int))) (cond (decide ((Int.tmod r5 (8 : Int)) < (0 : Int))) none (cond (decide ((0 : Int) ≤ (IntKind.wrap .i64 (Int.tdiv r5 (8 : Int)))) && decide ((IntKind.wrap .i64 (Int.tdiv r5 (8 : Int))) < ((out4.length : Nat) : Int))) (cond (decide ((0 : Int) ≤ (IntKind.wrap .i64 (Int.tdiv r6 (8 : Int)))) && decide ((IntKind.wrap .i64 (Int.tdiv r6 (8 : Int))) < (((List.set out4 (Int.toNat (IntKind.wrap .i64 (Int.tdiv r5 (8 : Int)))) (bits .or .u8 (nth out4 (IntKind.wrap .i64 (Int.tdiv r5 (8 : Int)))) (IntKind.wrap .u8 ((1 : Int) * ((2 : Int) ^ (min (Int.toNat (Int.tmod r5 (8 : Int))) 8)))))).length : Nat) : Int))) (cond (decide ((Int.tmod r6 (8 : Int)) < (0 : Int))) none (cond (decide ((0 : Int) ≤ (IntKind.wrap .i64 (Int.tdiv r6 (8 : Int)))) && decide ((IntKind.wrap .i64 (Int.tdiv r6 (8 : Int))) < (((List.set out4 (Int.toNat (IntKind.wrap .i64 (Int.tdiv r5 (8 : Int)))) (bits .or .u8 (nth out4 (IntKind.wrap .i64 (Int.tdiv r5 (8 : Int)))) (IntKind.wrap .u8 ((1 : Int) * ((2 : Int) ^ (min (Int.toNat (Int.tmod r5 (8 : Int))) 8)))))).length : Nat) : Int))) (iFilter_L3 O q (v1, v2, (IntKind.wrap .i64 (v3 + (1 : Int))), (List.set (List.set out4 (Int.toNat (IntKind.wrap .i64 (Int.tdiv r5 (8 : Int)))) (bits .or .u8 (nth out4 (IntKind.wrap .i64 (Int.tdiv r5 (8 : Int)))) (IntKind.wrap .u8 ((1 : Int) * ((2 : Int) ^ (min (Int.toNat (Int.tmod r5 (8 : Int))) 8)))))) (Int.toNat (IntKind.wrap .i64 (Int.tdiv r6 (8 : Int)))) (bits .or .u8 (nth (List.set out4 (Int.toNat (IntKind.wrap .i64 (Int.tdiv r5 (8 : Int)))) (bits .or .u8 (nth out4 (IntKind.wrap .i64 (Int.tdiv r5 (8 : Int)))) (IntKind.wrap .u8 ((1 : Int) * ((2 : Int) ^ (min (Int.toNat (Int.tmod r5 (8 : Int))) 8)))))) (IntKind.wrap .i64 (Int.tdiv r6 (8 : Int)))) (IntKind.wrap .u8 ((1 : Int) * ((2 : Int) ^ (min (Int.toNat (Int.tmod r6 (8 : Int))) 8))))))) x r) none)) none) none)) none)) none) (x out4))
noncomputable def iFilter : (List (List UInt8)) → Option (List Int)
  | keys0 => (iFilter_L3 (List Int) fuel (keys0, ((keys0.length : Nat) : Int), (0 : Int), [(0 : Int), (0 : Int), (0 : Int), (0 : Int), (0 : Int), (0 : Int), (0 : Int), (0 : Int)]) (fun out7 => (some out7)) some)
noncomputable def c_iFilter : Ctr := { args := [.val false (.sl .str)], rets := [(false, [(some 5, (.sl (.int .u8)))])], F := iFilter }
noncomputable def X_iFilter : Ctx := XT.withΓ (lk [(138, c_iMark)]) (lk [])
noncomputable def H_iFilter : Hints := ⟨lk [], lk [], lk []⟩
noncomputable def L_iFilter_3 : LoopF c_iFilter.Res := ⟨⟨42, [(3, .one (.own 0)), (9, .one (.val (.sl .str))), (10, .one (.val (.int .i64))), (11, .one (.val (.int .i64)))], [.arr 5 (.int .u8)], []⟩, [(0, ⟨42, [(3, .one (.own 0))], [.arr 5 (.int .u8)], []⟩)], iFilter_L3⟩
noncomputable def T_iFilter : Nat → Option (LoopF c_iFilter.Res) := lk [(3, L_iFilter_3)]
theorem s_iFilter_3 : StepOk X_iFilter H_iFilter (c_iFilter.finish X_iFilter Tryz.f162.results.toList) T_iFilter (loopAt Tryz.f162 0) := ⟨L_iFilter_3, by kernel_rfl, fun O y x r => by kernel_rfl, fun O k y x r => by kernel_rfl⟩
theorem r_iFilter (a) : fnRun X_iFilter H_iFilter c_iFilter Tryz.f162 T_iFilter a = iFilter a := by kernel_rfl
theorem h_iFilter : CtrHolds Tryz.prog 162 c_iFilter := fn_ok (.cons h_iMark Tryz.call138 .nil) .nil (H := H_iFilter) (tbl := T_iFilter) Tryz.func162 (by kernel_rfl) (loops1 (by kernel_rfl) s_iFilter_3) r_iFilter
/-! 131 iPutTable -/
noncomputable def iPutTable_L7 (O : Type) : Nat → (List (List UInt8 × List UInt8 × Bool) × Int × Int × List Int × List Int) → ((List (List UInt8 × List UInt8 × Bool) × Int × List Int × List Int) → Option O) → ((List Int) → Option O) → Option O
  | 0, _, _, _ => none
  | q + 1, (l3, count4, from5, out6, index7), x, r => (cond (decide (from5 < ((l3.length : Nat) : Int))) (cond (decide ((0 : Int) ≤ from5) && (decide (from5 ≤ (if (((l3.length : Nat) : Int) < (IntKind.wrap .i64 (from5 + (4 : Int)))) then ((l3.length : Nat) : Int) else (IntKind.wrap .i64 (from5 + (4 : Int))))) && decide ((if (((l3.length : Nat) : Int) < (IntKind.wrap .i64 (from5 + (4 : Int)))) then ((l3.length : Nat) : Int) else (IntKind.wrap .i64 (from5 + (4 : Int)))) ≤ ((l3.length : Nat) : Int)))) (cond (decide ((0 : Int) ≤ (IntKind.wrap .i64 ((((cut l3 from5 (if (((l3.length : Nat) : Int) < (IntKind.wrap .i64 (from5 + (4 : Int)))) then ((l3.length : Nat) : Int) else (IntKind.wrap .i64 (from5 + (4 : Int))))).length : Nat) : Int) - (1 : Int)))) && decide ((IntKind.wrap .i64 ((((cut l3 from5 (if (((l3.length : Nat) : Int) < (IntKind.wrap .i64 (from5 + (4 : Int)))) then ((l3.length : Nat) : Int) else (IntKind.wrap .i64 (from5 + (4 : Int))))).length : Nat) : Int) - (1 : Int))) < (((cut l3 from5 (if (((l3.length : Nat) : Int) < (IntKind.wrap .i64 (from5 + (4 : Int)))) then ((l3.length : Nat) : Int) else (IntKind.wrap .i64 (from5 + (4 : Int))))).length : Nat) : Int))) ((iaddText (index7, (nth (cut l3 from5 (if (((l3.length : Nat) : Int) < (IntKind.wrap .i64 (from5 + (4 : Int)))) then ((l3.length : Nat) : Int) else (IntKind.wrap .i64 (from5 + (4 : Int))))) (IntKind.wrap .i64 ((((cut l3 from5 (if (((l3.length : Nat) : Int) < (IntKind.wrap .i64 (from5 + (4 : Int)))) then ((l3.length : Nat) : Int) else (IntKind.wrap .i64 (from5 + (4 : Int))))).length : Nat) : Int) - (1 : Int)))).1)).bind fun r8 => ((iaddNum (r8, ((out6.length : Nat) : Int))).bind fun r9 => ((iputBlock (cut l3 from5 (if (((l3.length : Nat) : Int) < (IntKind.wrap .i64 (from5 + (4 : Int)))) then ((l3.length : Nat) : Int) else (IntKind.wrap .i64 (from5 + (4 : Int)))))).bind fun r10 => (cond (decide ((out6.length + r10.length) ≤ lenBound)) (iPutTable_L7 O q (l3, (IntKind.wrap .i64 (count4 + (1 : Int))), (IntKind.wrap .i64 (from5 + (4 : Int))), (out6 ++ r10), r9) x r) none)))) none) none) (x (l3, count4, out6, index7)))
noncomputable def iPutTable_L14 (O : Type) : Nat → (Int × List (List UInt8 × List UInt8 × Bool) × Int × Int × List Int × List Int × List (List UInt8)) → ((Int × List Int × List Int × List (List UInt8)) → Option O) → ((List Int) → Option O) → Option O
  | 0, _, _, _ => none
  | q + 1, (count15, v16, v17, v18, out19, index20, keys21), x, r => (cond (decide (v18 < v17)) (cond (decide ((0 : Int) ≤ v18) && decide (v18 < ((v16.length : Nat) : Int))) (cond (decide ((keys21.length + [(nth v16 v18).1].length) ≤ lenBound)) (iPutTable_L14 O q (count15, v16, v17, (IntKind.wrap .i64 (v18 + (1 : Int))), out19, index20, (keys21 ++ [(nth v16 v18).1])) x r) none) none) (x (count15, out19, index20, keys21)))
noncomputable def iPutTable : (List (List UInt8 × List UInt8 × Bool)) → Option (List Int)
  | l0 => ((iin (((l0.length : Nat) : Int), (1 : Int), (200 : Int))).bind fun r1 => (cond (!r1) (some []) ((irising l0).bind fun r2 => (cond (!r2) (some []) (iPutTable_L7 (List Int) fuel (l0, (0 : Int), (0 : Int), [], []) (fun (l11, count12, out13, index14) => (iPutTable_L14 (List Int) fuel (count12, l11, ((l11.length : Nat) : Int), (0 : Int), out13, index14, []) (fun (count22, out23, index24, keys25) => ((iaddNum ([], count22)).bind fun r26 => (cond (decide ((r26.length + index24.length) ≤ lenBound)) ((iFilter keys25).bind fun r27 => (cond (decide (((r26 ++ index24).length + r27.length) ≤ lenBound)) ((iFrame ((r26 ++ index24) ++ r27)).bind fun r28 => (cond (decide ((out23.length + r28.length) ≤ lenBound)) ((iword ((out23.length : Nat) : Int)).bind fun r29 => (cond (decide (((out23 ++ r28).length + r29.length) ≤ lenBound)) (some ((out23 ++ r28) ++ r29)) none)) none)) none)) none))) some)) some)))))
noncomputable def c_iPutTable : Ctr := { args := [.val false (.sl (.pair .str (.pair .str .bool)))], rets := [(false, [(some 5, (.sl (.int .u8)))])], F := iPutTable }
noncomputable def X_iPutTable : Ctx := XT.withΓ (lk [(75, c_iin), (158, c_irising), (160, c_iaddText), (159, c_iaddNum), (161, c_iputBlock), (162, c_iFilter), (163, c_iFrame), (164, c_iword)]) (lk [])
noncomputable def H_iPutTable : Hints := ⟨lk [], lk [], lk []⟩
noncomputable def L_iPutTable_7 : LoopF c_iPutTable.Res := ⟨⟨82, [(0, .one (.val (.sl (.pair .str (.pair .str .bool))))), (3, .one (.own 0)), (4, .one (.own 1)), (5, .one (.nils)), (6, .one (.val (.int .i64))), (7, .one (.val (.int .i64)))], [.arr 5 (.int .u8), .arr 5 (.int .u8)], []⟩, [(0, ⟨82, [(0, .one (.val (.sl (.pair .str (.pair .str .bool))))), (3, .one (.own 0)), (4, .one (.own 1)), (5, .one (.nils)), (6, .one (.val (.int .i64)))], [.arr 5 (.int .u8), .arr 5 (.int .u8)], []⟩)], iPutTable_L7⟩
noncomputable def L_iPutTable_14 : LoopF c_iPutTable.Res := ⟨⟨82, [(3, .one (.own 0)), (4, .one (.own 1)), (5, .one (.own 2)), (6, .one (.val (.int .i64))), (54, .one (.val (.sl (.pair .str (.pair .str .bool))))), (55, .one (.val (.int .i64))), (56, .one (.val (.int .i64)))], [.arr 5 (.int .u8), .arr 5 (.int .u8), .arr 9 .str], []⟩, [(2, ⟨82, [(3, .one (.own 0)), (4, .one (.own 1)), (5, .one (.own 2)), (6, .one (.val (.int .i64)))], [.arr 5 (.int .u8), .arr 5 (.int .u8), .arr 9 .str], []⟩)], iPutTable_L14⟩
noncomputable def T_iPutTable : Nat → Option (LoopF c_iPutTable.Res) := lk [(7, L_iPutTable_7), (14, L_iPutTable_14)]
theorem s_iPutTable_7 : StepOk X_iPutTable H_iPutTable (c_iPutTable.finish X_iPutTable Tryz.f131.results.toList) T_iPutTable (loopAt Tryz.f131 0) := ⟨L_iPutTable_7, by kernel_rfl, fun O y x r => by kernel_rfl, fun O k y x r => by kernel_rfl⟩
theorem s_iPutTable_14 : StepOk X_iPutTable H_iPutTable (c_iPutTable.finish X_iPutTable Tryz.f131.results.toList) T_iPutTable (loopAt Tryz.f131 1) := ⟨L_iPutTable_14, by kernel_rfl, fun O y x r => by kernel_rfl, fun O k y x r => by kernel_rfl⟩
theorem r_iPutTable (a) : fnRun X_iPutTable H_iPutTable c_iPutTable Tryz.f131 T_iPutTable a = iPutTable a := by kernel_rfl
theorem h_iPutTable : CtrHolds Tryz.prog 131 c_iPutTable := fn_ok (.cons h_iin Tryz.call75 (.cons h_irising Tryz.call158 (.cons h_iaddText Tryz.call160 (.cons h_iaddNum Tryz.call159 (.cons h_iputBlock Tryz.call161 (.cons h_iFilter Tryz.call162 (.cons h_iFrame Tryz.call163 (.cons h_iword Tryz.call164 .nil)))))))) .nil (H := H_iPutTable) (tbl := T_iPutTable) Tryz.func131 (by kernel_rfl) (loops2 (by kernel_rfl) s_iPutTable_7 s_iPutTable_14) r_iPutTable
/-! 91 iTablePairs -/
noncomputable def iTablePairs_L4 (O : Type) : Nat → (List Int × Bool × Int × Int × List (List UInt8 × List UInt8 × Bool) × List (List UInt8 × Int)) → ((List Int × Bool × List (List UInt8 × List UInt8 × Bool)) → Option O) → ((List (List UInt8 × List UInt8 × Bool) × Bool) → Option O) → Option O
  | 0, _, _, _ => none
  | q + 1, (b4, ok5, v6, v7, out8, v9), x, r => (cond (decide (v7 < v6)) (cond (decide ((0 : Int) ≤ v7) && decide (v7 < ((v9.length : Nat) : Int))) ((ipairsAt (b4, (nth v9 v7).2)).bind fun (r10, r11) => (cond (!ok5) (r ([], false)) (cond (!r11) (r ([], false)) (cond (decide (((out8.length : Nat) : Int) > (200 : Int))) (r ([], false)) (cond (decide ((out8.length + r10.length) ≤ lenBound)) (iTablePairs_L4 O q (b4, ok5, v6, (IntKind.wrap .i64 (v7 + (1 : Int))), (out8 ++ r10), v9) x r) none))))) none) (x (b4, ok5, out8)))
noncomputable def iTablePairs : (List Int) → Option (List (List UInt8 × List UInt8 × Bool) × Bool)
  | b0 => ((iindexOf b0).bind fun (r1, r2, r3) => (iTablePairs_L4 (List (List UInt8 × List UInt8 × Bool) × Bool) fuel (b0, r3, ((r1.length : Nat) : Int), (0 : Int), [], r1) (fun (b12, ok13, out14) => ((iPutTable out14).bind fun r15 => (cond (!ok13) (some ([], false)) (cond (((r15.length : Nat) : Int) == (0 : Int)) (some ([], false)) (cond (!((strOf r15) == (strOf b12))) (some ([], false)) (some (out14, true))))))) some))
noncomputable def c_iTablePairs : Ctr := { args := [.val false (.sl (.int .u8))], rets := [(false, [(some 81, (.sl (.pair .str (.pair .str .bool))))]), (false, [(none, .bool)])], F := iTablePairs }
noncomputable def X_iTablePairs : Ctx := XT.withΓ (lk [(99, c_iindexOf), (101, c_ipairsAt), (131, c_iPutTable)]) (lk [])
noncomputable def H_iTablePairs : Hints := ⟨lk [], lk [], lk []⟩
noncomputable def L_iTablePairs_4 : LoopF c_iTablePairs.Res := ⟨⟨64, [(0, .one (.val (.sl (.int .u8)))), (6, .one (.val .bool)), (7, .one (.own 0)), (19, .one (.own 1)), (20, .one (.val (.int .i64))), (21, .one (.val (.int .i64)))], [.arr 81 (.pair .str (.pair .str .bool)), .arr 143 (.pair .str (.int .i64))], []⟩, [(0, ⟨64, [(0, .one (.val (.sl (.int .u8)))), (6, .one (.val .bool)), (7, .one (.own 0))], [.arr 81 (.pair .str (.pair .str .bool))], []⟩)], iTablePairs_L4⟩
noncomputable def T_iTablePairs : Nat → Option (LoopF c_iTablePairs.Res) := lk [(4, L_iTablePairs_4)]
theorem s_iTablePairs_4 : StepOk X_iTablePairs H_iTablePairs (c_iTablePairs.finish X_iTablePairs Tryz.f91.results.toList) T_iTablePairs (loopAt Tryz.f91 0) := ⟨L_iTablePairs_4, by kernel_rfl, fun O y x r => by kernel_rfl, fun O k y x r => by kernel_rfl⟩
theorem r_iTablePairs (a) : fnRun X_iTablePairs H_iTablePairs c_iTablePairs Tryz.f91 T_iTablePairs a = iTablePairs a := by kernel_rfl
theorem h_iTablePairs : CtrHolds Tryz.prog 91 c_iTablePairs := fn_ok (.cons h_iindexOf Tryz.call99 (.cons h_ipairsAt Tryz.call101 (.cons h_iPutTable Tryz.call131 .nil))) .nil (H := H_iTablePairs) (tbl := T_iTablePairs) Tryz.func91 (by kernel_rfl) (loops1 (by kernel_rfl) s_iTablePairs_4) r_iTablePairs
/-! 39 itablesOk -/
noncomputable def itablesOk_L2 (O : Type) : Nat → (List (Int × Int × List UInt8 × List UInt8) × Int × Int × List (Int × List Int × Int) × List (List UInt8 × Int) × List (List UInt8 × Int) × Int) → (Unit → Option O) → (Bool → Option O) → Option O
  | 0, _, _, _ => none
  | q + 1, (v7, v8, v9, d10, d11, d12, d13), x, r => (cond (decide (v9 < v8)) (cond (decide ((0 : Int) ≤ v9) && decide (v9 < ((v7.length : Nat) : Int))) ((itabName (nth v7 v9).1).bind fun r14 => ((iBytes ((d10, d11, d12, d13), r14)).bind fun (r15, r16) => ((iTablePairs r15).bind fun (r17, r18) => (cond (!r16) (r false) (cond (!r18) (r false) (cond (decide ((0 : Int) < ((r17.length : Nat) : Int))) (cond (!((List.getD r17 0 ([], [], false)).1 == (nth v7 v9).2.2.1)) (r false) (cond (decide ((0 : Int) ≤ (IntKind.wrap .i64 (((r17.length : Nat) : Int) - (1 : Int)))) && decide ((IntKind.wrap .i64 (((r17.length : Nat) : Int) - (1 : Int))) < ((r17.length : Nat) : Int))) (cond (!((nth r17 (IntKind.wrap .i64 (((r17.length : Nat) : Int) - (1 : Int)))).1 == (nth v7 v9).2.2.2)) (r false) (itablesOk_L2 O q (v7, v8, (IntKind.wrap .i64 (v9 + (1 : Int))), d10, d11, d12, d13) x r)) none)) none)))))) none) (x ()))
noncomputable def itablesOk : ((List (Int × List Int × Int) × List (List UInt8 × Int) × List (List UInt8 × Int) × Int) × Int × Int × List (Int × Int × List UInt8 × List UInt8)) → Option Bool
  | ((d0, d1, d2, d3), m4, m5, m6) => (itablesOk_L2 Bool fuel (m6, ((m6.length : Nat) : Int), (0 : Int), d0, d1, d2, d3) (fun _ => (some true)) some)
noncomputable def c_itablesOk : Ctr := { args := [.val true (.pair (.sl (.pair (.int .i64) (.pair (.sl (.int .u8)) (.int .i64)))) (.pair (.sl (.pair .str (.int .i64))) (.pair (.sl (.pair .str (.int .i64))) (.int .i64)))), .val true (.pair (.int .i64) (.pair (.int .i64) (.sl (.pair (.int .i64) (.pair (.int .i64) (.pair .str .str))))))], rets := [(false, [(none, .bool)])], F := itablesOk }
noncomputable def X_itablesOk : Ctx := XT.withΓ (lk [(51, c_itabName), (33, c_iBytes), (91, c_iTablePairs)]) (lk [])
noncomputable def H_itablesOk : Hints := ⟨lk [], lk [], lk []⟩
noncomputable def L_itablesOk_2 : LoopF c_itablesOk.Res := ⟨⟨59, [(2, .one (.ptr 0 0)), (12, .one (.val (.sl (.pair (.int .i64) (.pair (.int .i64) (.pair .str .str)))))), (13, .one (.val (.int .i64))), (14, .one (.val (.int .i64)))], [.vars 39 [.val (.sl (.pair (.int .i64) (.pair (.sl (.int .u8)) (.int .i64)))), .val (.sl (.pair .str (.int .i64))), .val (.sl (.pair .str (.int .i64))), .val (.int .i64)]], []⟩, [(0, ⟨59, [], [], []⟩)], itablesOk_L2⟩
noncomputable def T_itablesOk : Nat → Option (LoopF c_itablesOk.Res) := lk [(2, L_itablesOk_2)]
theorem s_itablesOk_2 : StepOk X_itablesOk H_itablesOk (c_itablesOk.finish X_itablesOk Tryz.f39.results.toList) T_itablesOk (loopAt Tryz.f39 0) := ⟨L_itablesOk_2, by kernel_rfl, fun O y x r => by kernel_rfl, fun O k y x r => by kernel_rfl⟩
theorem r_itablesOk (a) : fnRun X_itablesOk H_itablesOk c_itablesOk Tryz.f39 T_itablesOk a = itablesOk a := by kernel_rfl
theorem h_itablesOk : CtrHolds Tryz.prog 39 c_itablesOk := fn_ok (.cons h_itabName Tryz.call51 (.cons h_iBytes Tryz.call33 (.cons h_iTablePairs Tryz.call91 .nil))) .nil (H := H_itablesOk) (tbl := T_itablesOk) Tryz.func39 (by kernel_rfl) (loops1 (by kernel_rfl) s_itablesOk_2) r_itablesOk
/-! 8 iStoreOk -/
noncomputable def iStoreOk : ((List (Int × List Int × Int) × List (List UInt8 × Int) × List (List UInt8 × Int) × Int) × List ((List UInt8 × List UInt8 × Bool) × Int) × Int × Int × List (Int × Int × List UInt8 × List UInt8)) → Option Bool
  | ((s0, s1, s2, s3), s4, s5, s6, s7) => ((iDiskOk (s0, s1, s2, s3)).bind fun r8 => (cond (!r8) (some false) ((iMemOk s4).bind fun r9 => (cond (!r9) (some false) ((iManOk (s5, s6, s7)).bind fun r10 => (cond (!r10) (some false) ((iCurrent (s0, s1, s2, s3)).bind fun ((r11, r12, r13), r14) => ((ilogName s6).bind fun r15 => ((iBytes ((s0, s1, s2, s3), r15)).bind fun (r16, r17) => ((iRecords r16).bind fun (r18, r19) => ((imemOf r18).bind fun (r20, r21) => (cond r14 (cond r17 (cond r21 (cond (r19 == ((r16.length : Nat) : Int)) ((isameMan ((r11, r12, r13), s5, s6, s7)).bind fun r22 => (cond r22 ((isameMem (r20, s4)).bind fun r23 => (cond r23 ((itablesOk ((s0, s1, s2, s3), s5, s6, s7)).bind fun r24 => (some r24)) (some false))) (some false))) (some false)) (some false)) (some false)) (some false)))))))))))))
noncomputable def c_iStoreOk : Ctr := { args := [.val true (.pair (.pair (.sl (.pair (.int .i64) (.pair (.sl (.int .u8)) (.int .i64)))) (.pair (.sl (.pair .str (.int .i64))) (.pair (.sl (.pair .str (.int .i64))) (.int .i64)))) (.pair (.sl (.pair (.pair .str (.pair .str .bool)) (.int .i64))) (.pair (.int .i64) (.pair (.int .i64) (.sl (.pair (.int .i64) (.pair (.int .i64) (.pair .str .str))))))))], rets := [(false, [(none, .bool)])], F := iStoreOk }
noncomputable def X_iStoreOk : Ctx := XT.withΓ (lk [(29, c_iDiskOk), (30, c_iMemOk), (31, c_iManOk), (32, c_iCurrent), (34, c_ilogName), (33, c_iBytes), (35, c_iRecords), (36, c_imemOf), (37, c_isameMan), (38, c_isameMem), (39, c_itablesOk)]) (lk [])
noncomputable def H_iStoreOk : Hints := ⟨lk [], lk [], lk []⟩
noncomputable def T_iStoreOk : Nat → Option (LoopF c_iStoreOk.Res) := lk []
theorem r_iStoreOk (a) : fnRun X_iStoreOk H_iStoreOk c_iStoreOk Tryz.f8 T_iStoreOk a = iStoreOk a := by kernel_rfl
theorem h_iStoreOk : CtrHolds Tryz.prog 8 c_iStoreOk := fn_ok (.cons h_iDiskOk Tryz.call29 (.cons h_iMemOk Tryz.call30 (.cons h_iManOk Tryz.call31 (.cons h_iCurrent Tryz.call32 (.cons h_ilogName Tryz.call34 (.cons h_iBytes Tryz.call33 (.cons h_iRecords Tryz.call35 (.cons h_imemOf Tryz.call36 (.cons h_isameMan Tryz.call37 (.cons h_isameMem Tryz.call38 (.cons h_itablesOk Tryz.call39 .nil))))))))))) .nil (H := H_iStoreOk) (tbl := T_iStoreOk) Tryz.func8 (by kernel_rfl) (loops0 (by kernel_rfl)) r_iStoreOk
/-! 165 leqByteS -/
noncomputable def leqByteS_L4 (O : Type) : Nat → (List Int × List Int × Int) → (Unit → Option O) → (Bool → Option O) → Option O
  | 0, _, _, _ => none
  | q + 1, (a2, b3, i4), x, r => (cond (decide (i4 < ((a2.length : Nat) : Int))) (cond (decide ((0 : Int) ≤ i4) && decide (i4 < ((a2.length : Nat) : Int))) (cond (decide ((0 : Int) ≤ i4) && decide (i4 < ((b3.length : Nat) : Int))) (cond ((nth a2 i4) != (nth b3 i4)) (r false) (leqByteS_L4 O q (a2, b3, (IntKind.wrap .i64 (i4 + (1 : Int)))) x r)) none) none) (x ()))
noncomputable def leqByteS : (List Int × List Int) → Option Bool
  | (a0, b1) => (cond (((a0.length : Nat) : Int) != ((b1.length : Nat) : Int)) (some false) (leqByteS_L4 Bool fuel (a0, b1, (0 : Int)) (fun _ => (some true)) some))
noncomputable def c_leqByteS : Ctr := { args := [.val false (.sl (.int .u8)), .val false (.sl (.int .u8))], rets := [(false, [(none, .bool)])], F := leqByteS }
noncomputable def X_leqByteS : Ctx := XT.withΓ (lk []) (lk [])
noncomputable def H_leqByteS : Hints := ⟨lk [], lk [], lk []⟩
noncomputable def L_leqByteS_4 : LoopF c_leqByteS.Res := ⟨⟨26, [(0, .one (.val (.sl (.int .u8)))), (1, .one (.val (.sl (.int .u8)))), (5, .one (.val (.int .i64)))], [], []⟩, [(0, ⟨26, [], [], []⟩)], leqByteS_L4⟩
noncomputable def T_leqByteS : Nat → Option (LoopF c_leqByteS.Res) := lk [(4, L_leqByteS_4)]
theorem s_leqByteS_4 : StepOk X_leqByteS H_leqByteS (c_leqByteS.finish X_leqByteS Tryz.f165.results.toList) T_leqByteS (loopAt Tryz.f165 0) := ⟨L_leqByteS_4, by kernel_rfl, fun O y x r => by kernel_rfl, fun O k y x r => by kernel_rfl⟩
theorem r_leqByteS (a) : fnRun X_leqByteS H_leqByteS c_leqByteS Tryz.f165 T_leqByteS a = leqByteS a := by kernel_rfl
theorem h_leqByteS : CtrHolds Tryz.prog 165 c_leqByteS := fn_ok .nil .nil (H := H_leqByteS) (tbl := T_leqByteS) Tryz.func165 (by kernel_rfl) (loops1 (by kernel_rfl) s_leqByteS_4) r_leqByteS
/-! 132 leqInode -/
noncomputable def leqInode : ((Int × List Int × Int) × Int × List Int × Int) → Option Bool
  | ((a0, a1, a2), b3, b4, b5) => (cond (a0 != b3) (some false) ((leqByteS (a1, b4)).bind fun r6 => (cond (!r6) (some false) (cond (a2 != b5) (some false) (some true)))))
noncomputable def c_leqInode : Ctr := { args := [.val true (.pair (.int .i64) (.pair (.sl (.int .u8)) (.int .i64))), .val true (.pair (.int .i64) (.pair (.sl (.int .u8)) (.int .i64)))], rets := [(false, [(none, .bool)])], F := leqInode }
noncomputable def X_leqInode : Ctx := XT.withΓ (lk [(165, c_leqByteS)]) (lk [])
noncomputable def H_leqInode : Hints := ⟨lk [], lk [], lk []⟩
noncomputable def T_leqInode : Nat → Option (LoopF c_leqInode.Res) := lk []
theorem r_leqInode (a) : fnRun X_leqInode H_leqInode c_leqInode Tryz.f132 T_leqInode a = leqInode a := by kernel_rfl
theorem h_leqInode : CtrHolds Tryz.prog 132 c_leqInode := fn_ok (.cons h_leqByteS Tryz.call165 .nil) .nil (H := H_leqInode) (tbl := T_leqInode) Tryz.func132 (by kernel_rfl) (loops0 (by kernel_rfl)) r_leqInode
/-! 92 leqInodeS -/
noncomputable def leqInodeS_L4 (O : Type) : Nat → (List (Int × List Int × Int) × List (Int × List Int × Int) × Int) → (Unit → Option O) → (Bool → Option O) → Option O
  | 0, _, _, _ => none
  | q + 1, (a2, b3, i4), x, r => (cond (decide (i4 < ((a2.length : Nat) : Int))) (cond (decide ((0 : Int) ≤ i4) && decide (i4 < ((a2.length : Nat) : Int))) (cond (decide ((0 : Int) ≤ i4) && decide (i4 < ((b3.length : Nat) : Int))) ((leqInode (((nth a2 i4).1, (nth a2 i4).2.1, (nth a2 i4).2.2), (nth b3 i4).1, (nth b3 i4).2.1, (nth b3 i4).2.2)).bind fun r5 => (cond (!r5) (r false) (leqInodeS_L4 O q (a2, b3, (IntKind.wrap .i64 (i4 + (1 : Int)))) x r))) none) none) (x ()))
noncomputable def leqInodeS : (List (Int × List Int × Int) × List (Int × List Int × Int)) → Option Bool
  | (a0, b1) => (cond (((a0.length : Nat) : Int) != ((b1.length : Nat) : Int)) (some false) (leqInodeS_L4 Bool fuel (a0, b1, (0 : Int)) (fun _ => (some true)) some))
noncomputable def c_leqInodeS : Ctr := { args := [.val false (.sl (.pair (.int .i64) (.pair (.sl (.int .u8)) (.int .i64)))), .val false (.sl (.pair (.int .i64) (.pair (.sl (.int .u8)) (.int .i64))))], rets := [(false, [(none, .bool)])], F := leqInodeS }
noncomputable def X_leqInodeS : Ctx := XT.withΓ (lk [(132, c_leqInode)]) (lk [])
noncomputable def H_leqInodeS : Hints := ⟨lk [], lk [], lk []⟩
noncomputable def L_leqInodeS_4 : LoopF c_leqInodeS.Res := ⟨⟨27, [(0, .one (.val (.sl (.pair (.int .i64) (.pair (.sl (.int .u8)) (.int .i64)))))), (1, .one (.val (.sl (.pair (.int .i64) (.pair (.sl (.int .u8)) (.int .i64)))))), (5, .one (.val (.int .i64)))], [], []⟩, [(0, ⟨27, [], [], []⟩)], leqInodeS_L4⟩
noncomputable def T_leqInodeS : Nat → Option (LoopF c_leqInodeS.Res) := lk [(4, L_leqInodeS_4)]
theorem s_leqInodeS_4 : StepOk X_leqInodeS H_leqInodeS (c_leqInodeS.finish X_leqInodeS Tryz.f92.results.toList) T_leqInodeS (loopAt Tryz.f92 0) := ⟨L_leqInodeS_4, by kernel_rfl, fun O y x r => by kernel_rfl, fun O k y x r => by kernel_rfl⟩
theorem r_leqInodeS (a) : fnRun X_leqInodeS H_leqInodeS c_leqInodeS Tryz.f92 T_leqInodeS a = leqInodeS a := by kernel_rfl
theorem h_leqInodeS : CtrHolds Tryz.prog 92 c_leqInodeS := fn_ok (.cons h_leqInode Tryz.call132 .nil) .nil (H := H_leqInodeS) (tbl := T_leqInodeS) Tryz.func92 (by kernel_rfl) (loops1 (by kernel_rfl) s_leqInodeS_4) r_leqInodeS
/-! 133 leqEntry -/
noncomputable def leqEntry : ((List UInt8 × Int) × List UInt8 × Int) → Option Bool
  | ((a0, a1), b2, b3) => (cond (!(a0 == b2)) (some false) (cond (a1 != b3) (some false) (some true)))
noncomputable def c_leqEntry : Ctr := { args := [.val true (.pair .str (.int .i64)), .val true (.pair .str (.int .i64))], rets := [(false, [(none, .bool)])], F := leqEntry }
noncomputable def X_leqEntry : Ctx := XT.withΓ (lk []) (lk [])
noncomputable def H_leqEntry : Hints := ⟨lk [], lk [], lk []⟩
noncomputable def T_leqEntry : Nat → Option (LoopF c_leqEntry.Res) := lk []
theorem r_leqEntry (a) : fnRun X_leqEntry H_leqEntry c_leqEntry Tryz.f133 T_leqEntry a = leqEntry a := by kernel_rfl
theorem h_leqEntry : CtrHolds Tryz.prog 133 c_leqEntry := fn_ok .nil .nil (H := H_leqEntry) (tbl := T_leqEntry) Tryz.func133 (by kernel_rfl) (loops0 (by kernel_rfl)) r_leqEntry
/-! 93 leqEntryS -/
noncomputable def leqEntryS_L4 (O : Type) : Nat → (List (List UInt8 × Int) × List (List UInt8 × Int) × Int) → (Unit → Option O) → (Bool → Option O) → Option O
  | 0, _, _, _ => none
  | q + 1, (a2, b3, i4), x, r => (cond (decide (i4 < ((a2.length : Nat) : Int))) (cond (decide ((0 : Int) ≤ i4) && decide (i4 < ((a2.length : Nat) : Int))) (cond (decide ((0 : Int) ≤ i4) && decide (i4 < ((b3.length : Nat) : Int))) ((leqEntry (((nth a2 i4).1, (nth a2 i4).2), (nth b3 i4).1, (nth b3 i4).2)).bind fun r5 => (cond (!r5) (r false) (leqEntryS_L4 O q (a2, b3, (IntKind.wrap .i64 (i4 + (1 : Int)))) x r))) none) none) (x ()))
noncomputable def leqEntryS : (List (List UInt8 × Int) × List (List UInt8 × Int)) → Option Bool
  | (a0, b1) => (cond (((a0.length : Nat) : Int) != ((b1.length : Nat) : Int)) (some false) (leqEntryS_L4 Bool fuel (a0, b1, (0 : Int)) (fun _ => (some true)) some))
noncomputable def c_leqEntryS : Ctr := { args := [.val false (.sl (.pair .str (.int .i64))), .val false (.sl (.pair .str (.int .i64)))], rets := [(false, [(none, .bool)])], F := leqEntryS }
noncomputable def X_leqEntryS : Ctx := XT.withΓ (lk [(133, c_leqEntry)]) (lk [])
noncomputable def H_leqEntryS : Hints := ⟨lk [], lk [], lk []⟩
noncomputable def L_leqEntryS_4 : LoopF c_leqEntryS.Res := ⟨⟨27, [(0, .one (.val (.sl (.pair .str (.int .i64))))), (1, .one (.val (.sl (.pair .str (.int .i64))))), (5, .one (.val (.int .i64)))], [], []⟩, [(0, ⟨27, [], [], []⟩)], leqEntryS_L4⟩
noncomputable def T_leqEntryS : Nat → Option (LoopF c_leqEntryS.Res) := lk [(4, L_leqEntryS_4)]
theorem s_leqEntryS_4 : StepOk X_leqEntryS H_leqEntryS (c_leqEntryS.finish X_leqEntryS Tryz.f93.results.toList) T_leqEntryS (loopAt Tryz.f93 0) := ⟨L_leqEntryS_4, by kernel_rfl, fun O y x r => by kernel_rfl, fun O k y x r => by kernel_rfl⟩
theorem r_leqEntryS (a) : fnRun X_leqEntryS H_leqEntryS c_leqEntryS Tryz.f93 T_leqEntryS a = leqEntryS a := by kernel_rfl
theorem h_leqEntryS : CtrHolds Tryz.prog 93 c_leqEntryS := fn_ok (.cons h_leqEntry Tryz.call133 .nil) .nil (H := H_leqEntryS) (tbl := T_leqEntryS) Tryz.func93 (by kernel_rfl) (loops1 (by kernel_rfl) s_leqEntryS_4) r_leqEntryS
/-! 40 leqDisk -/
noncomputable def leqDisk : ((List (Int × List Int × Int) × List (List UInt8 × Int) × List (List UInt8 × Int) × Int) × List (Int × List Int × Int) × List (List UInt8 × Int) × List (List UInt8 × Int) × Int) → Option Bool
  | ((a0, a1, a2, a3), b4, b5, b6, b7) => ((leqInodeS (a0, b4)).bind fun r8 => (cond (!r8) (some false) ((leqEntryS (a1, b5)).bind fun r9 => (cond (!r9) (some false) ((leqEntryS (a2, b6)).bind fun r10 => (cond (!r10) (some false) (cond (a3 != b7) (some false) (some true))))))))
noncomputable def c_leqDisk : Ctr := { args := [.val true (.pair (.sl (.pair (.int .i64) (.pair (.sl (.int .u8)) (.int .i64)))) (.pair (.sl (.pair .str (.int .i64))) (.pair (.sl (.pair .str (.int .i64))) (.int .i64)))), .val true (.pair (.sl (.pair (.int .i64) (.pair (.sl (.int .u8)) (.int .i64)))) (.pair (.sl (.pair .str (.int .i64))) (.pair (.sl (.pair .str (.int .i64))) (.int .i64))))], rets := [(false, [(none, .bool)])], F := leqDisk }
noncomputable def X_leqDisk : Ctx := XT.withΓ (lk [(92, c_leqInodeS), (93, c_leqEntryS)]) (lk [])
noncomputable def H_leqDisk : Hints := ⟨lk [], lk [], lk []⟩
noncomputable def T_leqDisk : Nat → Option (LoopF c_leqDisk.Res) := lk []
theorem r_leqDisk (a) : fnRun X_leqDisk H_leqDisk c_leqDisk Tryz.f40 T_leqDisk a = leqDisk a := by kernel_rfl
theorem h_leqDisk : CtrHolds Tryz.prog 40 c_leqDisk := fn_ok (.cons h_leqInodeS Tryz.call92 (.cons h_leqEntryS Tryz.call93 .nil)) .nil (H := H_leqDisk) (tbl := T_leqDisk) Tryz.func40 (by kernel_rfl) (loops0 (by kernel_rfl)) r_leqDisk
/-! 166 leqPair -/
noncomputable def leqPair : ((List UInt8 × List UInt8 × Bool) × List UInt8 × List UInt8 × Bool) → Option Bool
  | ((a0, a1, a2), b3, b4, b5) => (cond (!(a0 == b3)) (some false) (cond (!(a1 == b4)) (some false) (cond (!(a2 == b5)) (some false) (some true))))
noncomputable def c_leqPair : Ctr := { args := [.val true (.pair .str (.pair .str .bool)), .val true (.pair .str (.pair .str .bool))], rets := [(false, [(none, .bool)])], F := leqPair }
noncomputable def X_leqPair : Ctx := XT.withΓ (lk []) (lk [])
noncomputable def H_leqPair : Hints := ⟨lk [], lk [], lk []⟩
noncomputable def T_leqPair : Nat → Option (LoopF c_leqPair.Res) := lk []
theorem r_leqPair (a) : fnRun X_leqPair H_leqPair c_leqPair Tryz.f166 T_leqPair a = leqPair a := by kernel_rfl
theorem h_leqPair : CtrHolds Tryz.prog 166 c_leqPair := fn_ok .nil .nil (H := H_leqPair) (tbl := T_leqPair) Tryz.func166 (by kernel_rfl) (loops0 (by kernel_rfl)) r_leqPair
/-! 134 leqNode -/
noncomputable def leqNode : (((List UInt8 × List UInt8 × Bool) × Int) × (List UInt8 × List UInt8 × Bool) × Int) → Option Bool
  | (((a0, a1, a2), a3), (b4, b5, b6), b7) => ((leqPair ((a0, a1, a2), b4, b5, b6)).bind fun r8 => (cond (!r8) (some false) (cond (a3 != b7) (some false) (some true))))
noncomputable def c_leqNode : Ctr := { args := [.val true (.pair (.pair .str (.pair .str .bool)) (.int .i64)), .val true (.pair (.pair .str (.pair .str .bool)) (.int .i64))], rets := [(false, [(none, .bool)])], F := leqNode }
noncomputable def X_leqNode : Ctx := XT.withΓ (lk [(166, c_leqPair)]) (lk [])
noncomputable def H_leqNode : Hints := ⟨lk [], lk [], lk []⟩
noncomputable def T_leqNode : Nat → Option (LoopF c_leqNode.Res) := lk []
theorem r_leqNode (a) : fnRun X_leqNode H_leqNode c_leqNode Tryz.f134 T_leqNode a = leqNode a := by kernel_rfl
theorem h_leqNode : CtrHolds Tryz.prog 134 c_leqNode := fn_ok (.cons h_leqPair Tryz.call166 .nil) .nil (H := H_leqNode) (tbl := T_leqNode) Tryz.func134 (by kernel_rfl) (loops0 (by kernel_rfl)) r_leqNode
/-! 94 leqNodeS -/
noncomputable def leqNodeS_L4 (O : Type) : Nat → (List ((List UInt8 × List UInt8 × Bool) × Int) × List ((List UInt8 × List UInt8 × Bool) × Int) × Int) → (Unit → Option O) → (Bool → Option O) → Option O
  | 0, _, _, _ => none
  | q + 1, (a2, b3, i4), x, r => (cond (decide (i4 < ((a2.length : Nat) : Int))) (cond (decide ((0 : Int) ≤ i4) && decide (i4 < ((a2.length : Nat) : Int))) (cond (decide ((0 : Int) ≤ i4) && decide (i4 < ((b3.length : Nat) : Int))) ((leqNode ((((nth a2 i4).1.1, (nth a2 i4).1.2.1, (nth a2 i4).1.2.2), (nth a2 i4).2), ((nth b3 i4).1.1, (nth b3 i4).1.2.1, (nth b3 i4).1.2.2), (nth b3 i4).2)).bind fun r5 => (cond (!r5) (r false) (leqNodeS_L4 O q (a2, b3, (IntKind.wrap .i64 (i4 + (1 : Int)))) x r))) none) none) (x ()))
noncomputable def leqNodeS : (List ((List UInt8 × List UInt8 × Bool) × Int) × List ((List UInt8 × List UInt8 × Bool) × Int)) → Option Bool
  | (a0, b1) => (cond (((a0.length : Nat) : Int) != ((b1.length : Nat) : Int)) (some false) (leqNodeS_L4 Bool fuel (a0, b1, (0 : Int)) (fun _ => (some true)) some))
noncomputable def c_leqNodeS : Ctr := { args := [.val false (.sl (.pair (.pair .str (.pair .str .bool)) (.int .i64))), .val false (.sl (.pair (.pair .str (.pair .str .bool)) (.int .i64)))], rets := [(false, [(none, .bool)])], F := leqNodeS }
noncomputable def X_leqNodeS : Ctx := XT.withΓ (lk [(134, c_leqNode)]) (lk [])
noncomputable def H_leqNodeS : Hints := ⟨lk [], lk [], lk []⟩
noncomputable def L_leqNodeS_4 : LoopF c_leqNodeS.Res := ⟨⟨27, [(0, .one (.val (.sl (.pair (.pair .str (.pair .str .bool)) (.int .i64))))), (1, .one (.val (.sl (.pair (.pair .str (.pair .str .bool)) (.int .i64))))), (5, .one (.val (.int .i64)))], [], []⟩, [(0, ⟨27, [], [], []⟩)], leqNodeS_L4⟩
noncomputable def T_leqNodeS : Nat → Option (LoopF c_leqNodeS.Res) := lk [(4, L_leqNodeS_4)]
theorem s_leqNodeS_4 : StepOk X_leqNodeS H_leqNodeS (c_leqNodeS.finish X_leqNodeS Tryz.f94.results.toList) T_leqNodeS (loopAt Tryz.f94 0) := ⟨L_leqNodeS_4, by kernel_rfl, fun O y x r => by kernel_rfl, fun O k y x r => by kernel_rfl⟩
theorem r_leqNodeS (a) : fnRun X_leqNodeS H_leqNodeS c_leqNodeS Tryz.f94 T_leqNodeS a = leqNodeS a := by kernel_rfl
theorem h_leqNodeS : CtrHolds Tryz.prog 94 c_leqNodeS := fn_ok (.cons h_leqNode Tryz.call134 .nil) .nil (H := H_leqNodeS) (tbl := T_leqNodeS) Tryz.func94 (by kernel_rfl) (loops1 (by kernel_rfl) s_leqNodeS_4) r_leqNodeS
/-! 41 leqMem -/
noncomputable def leqMem : (List ((List UInt8 × List UInt8 × Bool) × Int) × List ((List UInt8 × List UInt8 × Bool) × Int)) → Option Bool
  | (a0, b1) => ((leqNodeS (a0, b1)).bind fun r2 => (cond (!r2) (some false) (some true)))
noncomputable def c_leqMem : Ctr := { args := [.val true (.sl (.pair (.pair .str (.pair .str .bool)) (.int .i64))), .val true (.sl (.pair (.pair .str (.pair .str .bool)) (.int .i64)))], rets := [(false, [(none, .bool)])], F := leqMem }
noncomputable def X_leqMem : Ctx := XT.withΓ (lk [(94, c_leqNodeS)]) (lk [])
noncomputable def H_leqMem : Hints := ⟨lk [], lk [], lk []⟩
noncomputable def T_leqMem : Nat → Option (LoopF c_leqMem.Res) := lk []
theorem r_leqMem (a) : fnRun X_leqMem H_leqMem c_leqMem Tryz.f41 T_leqMem a = leqMem a := by kernel_rfl
theorem h_leqMem : CtrHolds Tryz.prog 41 c_leqMem := fn_ok (.cons h_leqNodeS Tryz.call94 .nil) .nil (H := H_leqMem) (tbl := T_leqMem) Tryz.func41 (by kernel_rfl) (loops0 (by kernel_rfl)) r_leqMem
/-! 135 leqMeta -/
noncomputable def leqMeta : ((Int × Int × List UInt8 × List UInt8) × Int × Int × List UInt8 × List UInt8) → Option Bool
  | ((a0, a1, a2, a3), b4, b5, b6, b7) => (cond (a0 != b4) (some false) (cond (a1 != b5) (some false) (cond (!(a2 == b6)) (some false) (cond (!(a3 == b7)) (some false) (some true)))))
noncomputable def c_leqMeta : Ctr := { args := [.val true (.pair (.int .i64) (.pair (.int .i64) (.pair .str .str))), .val true (.pair (.int .i64) (.pair (.int .i64) (.pair .str .str)))], rets := [(false, [(none, .bool)])], F := leqMeta }
noncomputable def X_leqMeta : Ctx := XT.withΓ (lk []) (lk [])
noncomputable def H_leqMeta : Hints := ⟨lk [], lk [], lk []⟩
noncomputable def T_leqMeta : Nat → Option (LoopF c_leqMeta.Res) := lk []
theorem r_leqMeta (a) : fnRun X_leqMeta H_leqMeta c_leqMeta Tryz.f135 T_leqMeta a = leqMeta a := by kernel_rfl
theorem h_leqMeta : CtrHolds Tryz.prog 135 c_leqMeta := fn_ok .nil .nil (H := H_leqMeta) (tbl := T_leqMeta) Tryz.func135 (by kernel_rfl) (loops0 (by kernel_rfl)) r_leqMeta
/-! 95 leqMetaS -/
noncomputable def leqMetaS_L4 (O : Type) : Nat → (List (Int × Int × List UInt8 × List UInt8) × List (Int × Int × List UInt8 × List UInt8) × Int) → (Unit → Option O) → (Bool → Option O) → Option O
  | 0, _, _, _ => none
  | q + 1, (a2, b3, i4), x, r => (cond (decide (i4 < ((a2.length : Nat) : Int))) (cond (decide ((0 : Int) ≤ i4) && decide (i4 < ((a2.length : Nat) : Int))) (cond (decide ((0 : Int) ≤ i4) && decide (i4 < ((b3.length : Nat) : Int))) ((leqMeta (((nth a2 i4).1, (nth a2 i4).2.1, (nth a2 i4).2.2.1, (nth a2 i4).2.2.2), (nth b3 i4).1, (nth b3 i4).2.1, (nth b3 i4).2.2.1, (nth b3 i4).2.2.2)).bind fun r5 => (cond (!r5) (r false) (leqMetaS_L4 O q (a2, b3, (IntKind.wrap .i64 (i4 + (1 : Int)))) x r))) none) none) (x ()))
noncomputable def leqMetaS : (List (Int × Int × List UInt8 × List UInt8) × List (Int × Int × List UInt8 × List UInt8)) → Option Bool
  | (a0, b1) => (cond (((a0.length : Nat) : Int) != ((b1.length : Nat) : Int)) (some false) (leqMetaS_L4 Bool fuel (a0, b1, (0 : Int)) (fun _ => (some true)) some))
noncomputable def c_leqMetaS : Ctr := { args := [.val false (.sl (.pair (.int .i64) (.pair (.int .i64) (.pair .str .str)))), .val false (.sl (.pair (.int .i64) (.pair (.int .i64) (.pair .str .str))))], rets := [(false, [(none, .bool)])], F := leqMetaS }
noncomputable def X_leqMetaS : Ctx := XT.withΓ (lk [(135, c_leqMeta)]) (lk [])
noncomputable def H_leqMetaS : Hints := ⟨lk [], lk [], lk []⟩
noncomputable def L_leqMetaS_4 : LoopF c_leqMetaS.Res := ⟨⟨27, [(0, .one (.val (.sl (.pair (.int .i64) (.pair (.int .i64) (.pair .str .str)))))), (1, .one (.val (.sl (.pair (.int .i64) (.pair (.int .i64) (.pair .str .str)))))), (5, .one (.val (.int .i64)))], [], []⟩, [(0, ⟨27, [], [], []⟩)], leqMetaS_L4⟩
noncomputable def T_leqMetaS : Nat → Option (LoopF c_leqMetaS.Res) := lk [(4, L_leqMetaS_4)]
theorem s_leqMetaS_4 : StepOk X_leqMetaS H_leqMetaS (c_leqMetaS.finish X_leqMetaS Tryz.f95.results.toList) T_leqMetaS (loopAt Tryz.f95 0) := ⟨L_leqMetaS_4, by kernel_rfl, fun O y x r => by kernel_rfl, fun O k y x r => by kernel_rfl⟩
theorem r_leqMetaS (a) : fnRun X_leqMetaS H_leqMetaS c_leqMetaS Tryz.f95 T_leqMetaS a = leqMetaS a := by kernel_rfl
theorem h_leqMetaS : CtrHolds Tryz.prog 95 c_leqMetaS := fn_ok (.cons h_leqMeta Tryz.call135 .nil) .nil (H := H_leqMetaS) (tbl := T_leqMetaS) Tryz.func95 (by kernel_rfl) (loops1 (by kernel_rfl) s_leqMetaS_4) r_leqMetaS
/-! 42 leqManifest -/
noncomputable def leqManifest : ((Int × Int × List (Int × Int × List UInt8 × List UInt8)) × Int × Int × List (Int × Int × List UInt8 × List UInt8)) → Option Bool
  | ((a0, a1, a2), b3, b4, b5) => (cond (a0 != b3) (some false) (cond (a1 != b4) (some false) ((leqMetaS (a2, b5)).bind fun r6 => (cond (!r6) (some false) (some true)))))
noncomputable def c_leqManifest : Ctr := { args := [.val true (.pair (.int .i64) (.pair (.int .i64) (.sl (.pair (.int .i64) (.pair (.int .i64) (.pair .str .str)))))), .val true (.pair (.int .i64) (.pair (.int .i64) (.sl (.pair (.int .i64) (.pair (.int .i64) (.pair .str .str))))))], rets := [(false, [(none, .bool)])], F := leqManifest }
noncomputable def X_leqManifest : Ctx := XT.withΓ (lk [(95, c_leqMetaS)]) (lk [])
noncomputable def H_leqManifest : Hints := ⟨lk [], lk [], lk []⟩
noncomputable def T_leqManifest : Nat → Option (LoopF c_leqManifest.Res) := lk []
theorem r_leqManifest (a) : fnRun X_leqManifest H_leqManifest c_leqManifest Tryz.f42 T_leqManifest a = leqManifest a := by kernel_rfl
theorem h_leqManifest : CtrHolds Tryz.prog 42 c_leqManifest := fn_ok (.cons h_leqMetaS Tryz.call95 .nil) .nil (H := H_leqManifest) (tbl := T_leqManifest) Tryz.func42 (by kernel_rfl) (loops0 (by kernel_rfl)) r_leqManifest
/-! 9 leqStore -/
noncomputable def leqStore : (((List (Int × List Int × Int) × List (List UInt8 × Int) × List (List UInt8 × Int) × Int) × List ((List UInt8 × List UInt8 × Bool) × Int) × Int × Int × List (Int × Int × List UInt8 × List UInt8)) × (List (Int × List Int × Int) × List (List UInt8 × Int) × List (List UInt8 × Int) × Int) × List ((List UInt8 × List UInt8 × Bool) × Int) × Int × Int × List (Int × Int × List UInt8 × List UInt8)) → Option Bool
  | (((a0, a1, a2, a3), a4, a5, a6, a7), (b8, b9, b10, b11), b12, b13, b14, b15) => ((leqDisk ((a0, a1, a2, a3), b8, b9, b10, b11)).bind fun r16 => (cond (!r16) (some false) ((leqMem (a4, b12)).bind fun r17 => (cond (!r17) (some false) ((leqManifest ((a5, a6, a7), b13, b14, b15)).bind fun r18 => (cond (!r18) (some false) (some true)))))))
noncomputable def c_leqStore : Ctr := { args := [.val true (.pair (.pair (.sl (.pair (.int .i64) (.pair (.sl (.int .u8)) (.int .i64)))) (.pair (.sl (.pair .str (.int .i64))) (.pair (.sl (.pair .str (.int .i64))) (.int .i64)))) (.pair (.sl (.pair (.pair .str (.pair .str .bool)) (.int .i64))) (.pair (.int .i64) (.pair (.int .i64) (.sl (.pair (.int .i64) (.pair (.int .i64) (.pair .str .str)))))))), .val true (.pair (.pair (.sl (.pair (.int .i64) (.pair (.sl (.int .u8)) (.int .i64)))) (.pair (.sl (.pair .str (.int .i64))) (.pair (.sl (.pair .str (.int .i64))) (.int .i64)))) (.pair (.sl (.pair (.pair .str (.pair .str .bool)) (.int .i64))) (.pair (.int .i64) (.pair (.int .i64) (.sl (.pair (.int .i64) (.pair (.int .i64) (.pair .str .str))))))))], rets := [(false, [(none, .bool)])], F := leqStore }
noncomputable def X_leqStore : Ctx := XT.withΓ (lk [(40, c_leqDisk), (41, c_leqMem), (42, c_leqManifest)]) (lk [])
noncomputable def H_leqStore : Hints := ⟨lk [], lk [], lk []⟩
noncomputable def T_leqStore : Nat → Option (LoopF c_leqStore.Res) := lk []
theorem r_leqStore (a) : fnRun X_leqStore H_leqStore c_leqStore Tryz.f9 T_leqStore a = leqStore a := by kernel_rfl
theorem h_leqStore : CtrHolds Tryz.prog 9 c_leqStore := fn_ok (.cons h_leqDisk Tryz.call40 (.cons h_leqMem Tryz.call41 (.cons h_leqManifest Tryz.call42 .nil))) .nil (H := H_leqStore) (tbl := T_leqStore) Tryz.func9 (by kernel_rfl) (loops0 (by kernel_rfl)) r_leqStore
/-! 3 lFnExactStoreOk -/
noncomputable def lFnExactStoreOk : ((List (Int × List Int × Int) × List (List UInt8 × Int) × List (List UInt8 × Int) × Int) × List ((List UInt8 × List UInt8 × Bool) × Int) × Int × Int × List (Int × Int × List UInt8 × List UInt8)) → Option Bool
  | ((aS0, aS1, aS2, aS3), aS4, aS5, aS6, aS7) => ((lszStore (((aS0, aS1, aS2, aS3), aS4, aS5, aS6, aS7), (1048576 : Int))).bind fun r8 => (cond (decide (r8 < (0 : Int))) (some true) ((ltoStore ((aS0, aS1, aS2, aS3), aS4, aS5, aS6, aS7)).bind fun (r9, r10, r11, r12, r13, r14, r15, r16) => ((sStoreOk ((r9, r10, r11, r12), r13, r14, r15, r16)).bind fun r17 => ((ltoStore ((aS0, aS1, aS2, aS3), aS4, aS5, aS6, aS7)).bind fun (r18, r19, r20, r21, r22, r23, r24, r25) => ((iStoreOk ((r18, r19, r20, r21), r22, r23, r24, r25)).bind fun r26 => (cond (!(r26 == r17)) (some false) ((ltoStore ((aS0, aS1, aS2, aS3), aS4, aS5, aS6, aS7)).bind fun (r27, r28, r29, r30, r31, r32, r33, r34) => ((leqStore (((r18, r19, r20, r21), r22, r23, r24, r25), (r27, r28, r29, r30), r31, r32, r33, r34)).bind fun r35 => (cond (!r35) (some false) (some true)))))))))))
noncomputable def c_lFnExactStoreOk : Ctr := { args := [.val true (.pair (.pair (.sl (.pair (.int .i64) (.pair (.sl (.int .u8)) (.int .i64)))) (.pair (.sl (.pair .str (.int .i64))) (.pair (.sl (.pair .str (.int .i64))) (.int .i64)))) (.pair (.sl (.pair (.pair .str (.pair .str .bool)) (.int .i64))) (.pair (.int .i64) (.pair (.int .i64) (.sl (.pair (.int .i64) (.pair (.int .i64) (.pair .str .str))))))))], rets := [(false, [(none, .bool)])], F := lFnExactStoreOk }
noncomputable def X_lFnExactStoreOk : Ctx := XT.withΓ (lk [(5, c_lszStore), (7, c_ltoStore), (6, c_sStoreOk), (8, c_iStoreOk), (9, c_leqStore)]) (lk [])
noncomputable def H_lFnExactStoreOk : Hints := ⟨lk [], lk [], lk []⟩
noncomputable def T_lFnExactStoreOk : Nat → Option (LoopF c_lFnExactStoreOk.Res) := lk []
theorem r_lFnExactStoreOk (a) : fnRun X_lFnExactStoreOk H_lFnExactStoreOk c_lFnExactStoreOk Tryz.f3 T_lFnExactStoreOk a = lFnExactStoreOk a := by kernel_rfl
theorem h_lFnExactStoreOk : CtrHolds Tryz.prog 3 c_lFnExactStoreOk := fn_ok (.cons h_lszStore Tryz.call5 (.cons h_ltoStore Tryz.call7 (.cons h_sStoreOk Tryz.call6 (.cons h_iStoreOk Tryz.call8 (.cons h_leqStore Tryz.call9 .nil))))) .nil (H := H_lFnExactStoreOk) (tbl := T_lFnExactStoreOk) Tryz.func3 (by kernel_rfl) (loops0 (by kernel_rfl)) r_lFnExactStoreOk
/-! 100 iMayHave -/
noncomputable def iMayHave : (List Int × List UInt8) → Option Bool
  | (filter0, key1) => (cond (((filter0.length : Nat) : Int) != (8 : Int)) (some true) ((iMark key1).bind fun (r2, r3) => (cond (decide ((0 : Int) ≤ (IntKind.wrap .i64 (Int.tdiv r2 (8 : Int)))) && decide ((IntKind.wrap .i64 (Int.tdiv r2 (8 : Int))) < ((filter0.length : Nat) : Int))) (cond (decide ((Int.tmod r2 (8 : Int)) < (0 : Int))) none (cond ((bits .and .u8 (Int.fdiv (nth filter0 (IntKind.wrap .i64 (Int.tdiv r2 (8 : Int)))) ((2 : Int) ^ (min (Int.toNat (Int.tmod r2 (8 : Int))) 8))) (1 : Int)) == (1 : Int)) (cond (decide ((0 : Int) ≤ (IntKind.wrap .i64 (Int.tdiv r3 (8 : Int)))) && decide ((IntKind.wrap .i64 (Int.tdiv r3 (8 : Int))) < ((filter0.length : Nat) : Int))) (cond (decide ((Int.tmod r3 (8 : Int)) < (0 : Int))) none (some ((bits .and .u8 (Int.fdiv (nth filter0 (IntKind.wrap .i64 (Int.tdiv r3 (8 : Int)))) ((2 : Int) ^ (min (Int.toNat (Int.tmod r3 (8 : Int))) 8))) (1 : Int)) == (1 : Int)))) none) (some false))) none)))
noncomputable def c_iMayHave : Ctr := { args := [.val false (.sl (.int .u8)), .val false .str], rets := [(false, [(none, .bool)])], F := iMayHave }
noncomputable def X_iMayHave : Ctx := XT.withΓ (lk [(138, c_iMark)]) (lk [])
noncomputable def H_iMayHave : Hints := ⟨lk [], lk [], lk []⟩
noncomputable def T_iMayHave : Nat → Option (LoopF c_iMayHave.Res) := lk []
theorem r_iMayHave (a) : fnRun X_iMayHave H_iMayHave c_iMayHave Tryz.f100 T_iMayHave a = iMayHave a := by kernel_rfl
theorem h_iMayHave : CtrHolds Tryz.prog 100 c_iMayHave := fn_ok (.cons h_iMark Tryz.call138 .nil) .nil (H := H_iMayHave) (tbl := T_iMayHave) Tryz.func100 (by kernel_rfl) (loops0 (by kernel_rfl)) r_iMayHave
end Go.Rx
