import Derived.Test.YtnjjljnjgemkdaaTab
set_option linter.all false
set_option maxRecDepth 1000000
namespace Go.Rx
open Go.Proofs
/-! 17 lbig -/
noncomputable def lbig : (List Int) → Option Bool
  | code0 => (some (decide (((code0.length : Nat) : Int) > (1048576 : Int))))
noncomputable def c_lbig : Ctr := { args := [.val false (.sl (.int .u8))], rets := [(false, [(none, .bool)])], F := lbig }
noncomputable def X_lbig : Ctx := XT.withΓ (lk []) (lk [])
noncomputable def H_lbig : Hints := ⟨lk [], lk [], lk []⟩
noncomputable def T_lbig : Nat → Option (LoopF c_lbig.Res) := lk []
theorem r_lbig (a) : fnRun X_lbig H_lbig c_lbig Try.f17 T_lbig a = lbig a := by kernel_rfl
theorem h_lbig : CtrHolds Try.prog 17 c_lbig := fn_ok .nil .nil (H := H_lbig) (tbl := T_lbig) Try.func17 (by kernel_rfl) (loops0 (by kernel_rfl)) r_lbig
/-! 77 sl1New -/
noncomputable def sl1New_L3 (O : Type) : Nat → (List Int × Int × Int) → ((List Int × Int) → Option O) → ((List Int × Int × Int) → Option O) → Option O
  | 0, _, _, _ => none
  | q + 1, (code1, h2, i3), x, r => (cond (decide (i3 < ((code1.length : Nat) : Int))) (cond (decide (i3 < (4000 : Int))) (cond (decide ((0 : Int) ≤ i3) && decide (i3 < ((code1.length : Nat) : Int))) (sl1New_L3 O q (code1, (bits .and .i64 (IntKind.wrap .i64 ((IntKind.wrap .i64 ((IntKind.wrap .i64 (h2 * (137 : Int))) + (IntKind.wrap .i64 (nth code1 i3)))) + (11 : Int))) (1073741823 : Int)), (IntKind.wrap .i64 (i3 + (1 : Int)))) x r) none) (x (code1, h2))) (x (code1, h2)))
noncomputable def sl1New : (List Int) → Option (List Int × Int × Int)
  | code0 => (sl1New_L3 (List Int × Int × Int) fuel (code0, (IntKind.wrap .i64 ((281281 : Int) + ((code0.length : Nat) : Int))), (0 : Int)) (fun (code4, h5) => (some (code4, (0 : Int), h5))) some)
noncomputable def c_sl1New : NCtr := { args := [.val false (.sl (.int .u8))], t := 208, cs := [(.sl (.int .u8)), (.int .i64), (.int .i64)], F := sl1New }
noncomputable def X_sl1New : Ctx := XT.withΓ (lk []) (lk [])
noncomputable def H_sl1New : Hints := ⟨lk [], lk [], lk []⟩
noncomputable def L_sl1New_3 : LoopF (Ty.prod c_sl1New.cs).den := ⟨⟨32, [(0, .one (.val (.sl (.int .u8)))), (3, .one (.val (.int .i64))), (4, .one (.val (.int .i64)))], [], []⟩, [(0, ⟨32, [(0, .one (.val (.sl (.int .u8)))), (3, .one (.val (.int .i64)))], [], []⟩)], sl1New_L3⟩
noncomputable def T_sl1New : Nat → Option (LoopF (Ty.prod c_sl1New.cs).den) := lk [(3, L_sl1New_3)]
theorem s_sl1New_3 : StepOk X_sl1New H_sl1New (c_sl1New.fin X_sl1New Try.f77.results.toList) T_sl1New (loopAt Try.f77 0) := ⟨L_sl1New_3, by kernel_rfl, fun O y x r => by kernel_rfl, fun O k y x r => by kernel_rfl⟩
theorem r_sl1New (a) : nRun X_sl1New H_sl1New c_sl1New Try.f77 T_sl1New a = sl1New a := by kernel_rfl
theorem h_sl1New : NHolds Try.prog 77 c_sl1New := nw_ok .nil .nil (H := H_sl1New) (tbl := T_sl1New) Try.func77 (by kernel_rfl) (loops1 (by kernel_rfl) s_sl1New_3) r_sl1New
/-! 79 sl1Size -/
noncomputable def sl1Size : (List Int × Int) → Option Int
  | (code0, most1) => (cond (decide ((IntKind.wrap .i64 ((3 : Int) + (IntKind.wrap .i64 (Int.tdiv ((code0.length : Nat) : Int) (12 : Int))))) > most1)) (some most1) (some (IntKind.wrap .i64 ((3 : Int) + (IntKind.wrap .i64 (Int.tdiv ((code0.length : Nat) : Int) (12 : Int)))))))
noncomputable def c_sl1Size : Ctr := { args := [.val false (.sl (.int .u8)), .val false (.int .i64)], rets := [(false, [(none, (.int .i64))])], F := sl1Size }
noncomputable def X_sl1Size : Ctx := XT.withΓ (lk []) (lk [])
noncomputable def H_sl1Size : Hints := ⟨lk [], lk [], lk []⟩
noncomputable def T_sl1Size : Nat → Option (LoopF c_sl1Size.Res) := lk []
theorem r_sl1Size (a) : fnRun X_sl1Size H_sl1Size c_sl1Size Try.f79 T_sl1Size a = sl1Size a := by kernel_rfl
theorem h_sl1Size : CtrHolds Try.prog 79 c_sl1Size := fn_ok .nil .nil (H := H_sl1Size) (tbl := T_sl1Size) Try.func79 (by kernel_rfl) (loops0 (by kernel_rfl)) r_sl1Size
/-! 226 sl1Byte -/
noncomputable def sl1Byte : (List Int × Int × Int) → Option (Int × List Int × Int × Int)
  | (c0, c1, c2) => (cond (decide (c1 < ((c0.length : Nat) : Int))) (cond (decide ((0 : Int) ≤ c1) && decide (c1 < ((c0.length : Nat) : Int))) (some ((bits .and .i64 (IntKind.wrap .i64 ((bits .and .i64 (bits .xor .i64 (Int.fdiv (IntKind.wrap .i64 ((IntKind.wrap .i64 (c2 * (6364136223846793005 : Int))) + (1442695040888963407 : Int))) (8589934592 : Int)) (Int.fdiv (IntKind.wrap .i64 ((IntKind.wrap .i64 (c2 * (6364136223846793005 : Int))) + (1442695040888963407 : Int))) (140737488355328 : Int))) (255 : Int)) + (IntKind.wrap .i64 (nth c0 c1)))) (255 : Int)), c0, (IntKind.wrap .i64 (c1 + (1 : Int))), (IntKind.wrap .i64 ((IntKind.wrap .i64 (c2 * (6364136223846793005 : Int))) + (1442695040888963407 : Int))))) none) (some ((bits .and .i64 (bits .xor .i64 (Int.fdiv (IntKind.wrap .i64 ((IntKind.wrap .i64 (c2 * (6364136223846793005 : Int))) + (1442695040888963407 : Int))) (8589934592 : Int)) (Int.fdiv (IntKind.wrap .i64 ((IntKind.wrap .i64 (c2 * (6364136223846793005 : Int))) + (1442695040888963407 : Int))) (140737488355328 : Int))) (255 : Int)), c0, c1, (IntKind.wrap .i64 ((IntKind.wrap .i64 (c2 * (6364136223846793005 : Int))) + (1442695040888963407 : Int))))))
noncomputable def c_sl1Byte : Ctr := { args := [.ref 208 [(none, (.sl (.int .u8))), (none, (.int .i64)), (none, (.int .i64))]], rets := [(false, [(none, (.int .i64))])], F := sl1Byte }
noncomputable def X_sl1Byte : Ctx := XT.withΓ (lk []) (lk [])
noncomputable def H_sl1Byte : Hints := ⟨lk [], lk [], lk []⟩
noncomputable def T_sl1Byte : Nat → Option (LoopF c_sl1Byte.Res) := lk []
theorem r_sl1Byte (a) : fnRun X_sl1Byte H_sl1Byte c_sl1Byte Try.f226 T_sl1Byte a = sl1Byte a := by kernel_rfl
theorem h_sl1Byte : CtrHolds Try.prog 226 c_sl1Byte := fn_ok .nil .nil (H := H_sl1Byte) (tbl := T_sl1Byte) Try.func226 (by kernel_rfl) (loops0 (by kernel_rfl)) r_sl1Byte
/-! 187 sl1Below -/
noncomputable def sl1Below : ((List Int × Int × Int) × Int) → Option (Int × List Int × Int × Int)
  | ((c0, c1, c2), n3) => (cond (decide (n3 ≤ (0 : Int))) (some ((0 : Int), c0, c1, c2)) (cond (decide (n3 ≤ (256 : Int))) ((sl1Byte (c0, c1, c2)).bind fun (r4, r5, r6, r7) => (cond (n3 == (0 : Int)) none (some ((Int.tmod r4 n3), r5, r6, r7)))) ((sl1Byte (c0, c1, c2)).bind fun (r8, r9, r10, r11) => ((sl1Byte (r9, r10, r11)).bind fun (r12, r13, r14, r15) => ((sl1Byte (r13, r14, r15)).bind fun (r16, r17, r18, r19) => (cond (n3 == (0 : Int)) none (some ((Int.tmod (IntKind.wrap .i64 ((IntKind.wrap .i64 ((IntKind.wrap .i64 (r8 * (65536 : Int))) + (IntKind.wrap .i64 (r12 * (256 : Int))))) + r16)) n3), r17, r18, r19))))))))
noncomputable def c_sl1Below : Ctr := { args := [.ref 208 [(none, (.sl (.int .u8))), (none, (.int .i64)), (none, (.int .i64))], .val false (.int .i64)], rets := [(false, [(none, (.int .i64))])], F := sl1Below }
noncomputable def X_sl1Below : Ctx := XT.withΓ (lk [(226, c_sl1Byte)]) (lk [])
noncomputable def H_sl1Below : Hints := ⟨lk [], lk [], lk []⟩
noncomputable def T_sl1Below : Nat → Option (LoopF c_sl1Below.Res) := lk []
theorem r_sl1Below (a) : fnRun X_sl1Below H_sl1Below c_sl1Below Try.f187 T_sl1Below a = sl1Below a := by kernel_rfl
theorem h_sl1Below : CtrHolds Try.prog 187 c_sl1Below := fn_ok (.cons h_sl1Byte Try.call226 .nil) .nil (H := H_sl1Below) (tbl := T_sl1Below) Try.func187 (by kernel_rfl) (loops0 (by kernel_rfl)) r_sl1Below
/-! 80 sl8Dot -/
noncomputable def sl8Dot : (List Int × Int × Int) → Option ((Int × Int) × List Int × Int × Int)
  | (c0, c1, c2) => ((sl1Below ((c0, c1, c2), (3 : Int))).bind fun (r3, r4, r5, r6) => ((sl1Below ((r4, r5, r6), (5 : Int))).bind fun (r7, r8, r9, r10) => (some (((IntKind.wrap .i64 ((1 : Int) + r3)), (IntKind.wrap .i64 ((1 : Int) + r7))), r8, r9, r10))))
noncomputable def c_sl8Dot : Ctr := { args := [.ref 208 [(none, (.sl (.int .u8))), (none, (.int .i64)), (none, (.int .i64))]], rets := [(true, [(none, (.int .i64)), (none, (.int .i64))])], F := sl8Dot }
noncomputable def X_sl8Dot : Ctx := XT.withΓ (lk [(187, c_sl1Below)]) (lk [])
noncomputable def H_sl8Dot : Hints := ⟨lk [], lk [], lk []⟩
noncomputable def T_sl8Dot : Nat → Option (LoopF c_sl8Dot.Res) := lk []
theorem r_sl8Dot (a) : fnRun X_sl8Dot H_sl8Dot c_sl8Dot Try.f80 T_sl8Dot a = sl8Dot a := by kernel_rfl
theorem h_sl8Dot : CtrHolds Try.prog 80 c_sl8Dot := fn_ok (.cons h_sl1Below Try.call187 .nil) .nil (H := H_sl8Dot) (tbl := T_sl8Dot) Try.func80 (by kernel_rfl) (loops0 (by kernel_rfl)) r_sl8Dot
/-! 185 sl1Once -/
noncomputable def sl1Once : ((List Int × Int × Int) × Int) → Option (Bool × List Int × Int × Int)
  | ((c0, c1, c2), n3) => ((sl1Below ((c0, c1, c2), n3)).bind fun (r4, r5, r6, r7) => (some ((r4 == (0 : Int)), r5, r6, r7)))
noncomputable def c_sl1Once : Ctr := { args := [.ref 208 [(none, (.sl (.int .u8))), (none, (.int .i64)), (none, (.int .i64))], .val false (.int .i64)], rets := [(false, [(none, .bool)])], F := sl1Once }
noncomputable def X_sl1Once : Ctx := XT.withΓ (lk [(187, c_sl1Below)]) (lk [])
noncomputable def H_sl1Once : Hints := ⟨lk [], lk [], lk []⟩
noncomputable def T_sl1Once : Nat → Option (LoopF c_sl1Once.Res) := lk []
theorem r_sl1Once (a) : fnRun X_sl1Once H_sl1Once c_sl1Once Try.f185 T_sl1Once a = sl1Once a := by kernel_rfl
theorem h_sl1Once : CtrHolds Try.prog 185 c_sl1Once := fn_ok (.cons h_sl1Below Try.call187 .nil) .nil (H := H_sl1Once) (tbl := T_sl1Once) Try.func185 (by kernel_rfl) (loops0 (by kernel_rfl)) r_sl1Once
/-! 191 sDotLess -/
noncomputable def sDotLess : ((Int × Int) × Int × Int) → Option Bool
  | ((a0, a1), b2, b3) => (cond (decide (a0 < b2)) (some true) (cond (a0 == b2) (some (decide (a1 < b3))) (some false)))
noncomputable def c_sDotLess : Ctr := { args := [.val true (.pair (.int .i64) (.int .i64)), .val true (.pair (.int .i64) (.int .i64))], rets := [(false, [(none, .bool)])], F := sDotLess }
noncomputable def X_sDotLess : Ctx := XT.withΓ (lk []) (lk [])
noncomputable def H_sDotLess : Hints := ⟨lk [], lk [], lk []⟩
noncomputable def T_sDotLess : Nat → Option (LoopF c_sDotLess.Res) := lk []
theorem r_sDotLess (a) : fnRun X_sDotLess H_sDotLess c_sDotLess Try.f191 T_sDotLess a = sDotLess a := by kernel_rfl
theorem h_sDotLess : CtrHolds Try.prog 191 c_sDotLess := fn_ok .nil .nil (H := H_sDotLess) (tbl := T_sDotLess) Try.func191 (by kernel_rfl) (loops0 (by kernel_rfl)) r_sDotLess
/-! 237 sl8CopyItem -/
noncomputable def sl8CopyItem : ((Int × Int) × List (Int × Int)) → Option (Int × Int × List (Int × Int))
  | ((it0, it1), it2) => (cond (decide ((0 + it2.length) ≤ lenBound)) (some (it0, it1, ([] ++ it2))) none)
noncomputable def c_sl8CopyItem : Ctr := { args := [.val true (.pair (.pair (.int .i64) (.int .i64)) (.sl (.pair (.int .i64) (.int .i64))))], rets := [(true, [(none, (.int .i64)), (none, (.int .i64)), (none, (.sl (.pair (.int .i64) (.int .i64))))])], F := sl8CopyItem }
noncomputable def X_sl8CopyItem : Ctx := XT.withΓ (lk []) (lk [])
noncomputable def H_sl8CopyItem : Hints := ⟨lk [], lk [], lk [(1, [2, 3, 4, 5, 0, 1, 6, 7])]⟩
noncomputable def T_sl8CopyItem : Nat → Option (LoopF c_sl8CopyItem.Res) := lk []
theorem r_sl8CopyItem (a) : fnRun X_sl8CopyItem H_sl8CopyItem c_sl8CopyItem Try.f237 T_sl8CopyItem a = sl8CopyItem a := by kernel_rfl
theorem h_sl8CopyItem : CtrHolds Try.prog 237 c_sl8CopyItem := fn_ok .nil .nil (H := H_sl8CopyItem) (tbl := T_sl8CopyItem) Try.func237 (by kernel_rfl) (loops0 (by kernel_rfl)) r_sl8CopyItem
/-! 193 sl8At -/
noncomputable def sl8At_L2 (O : Type) : Nat → (Int × List ((Int × Int) × List (Int × Int)) × Int × Int) → (Unit → Option O) → (Int → Option O) → Option O
  | 0, _, _, _ => none
  | q + 1, (i3, g4, d5, d6), x, r => (cond (decide (i3 < ((g4.length : Nat) : Int))) (cond (decide ((0 : Int) ≤ i3) && decide (i3 < ((g4.length : Nat) : Int))) (cond (((nth g4 i3).1.1 == d5) && ((nth g4 i3).1.2 == d6)) (r i3) (sl8At_L2 O q ((IntKind.wrap .i64 (i3 + (1 : Int))), g4, d5, d6) x r)) none) (x ()))
noncomputable def sl8At : (List ((Int × Int) × List (Int × Int)) × Int × Int) → Option Int
  | (g0, d1, d2) => (sl8At_L2 Int fuel ((0 : Int), g0, d1, d2) (fun _ => (some (-1 : Int))) some)
noncomputable def c_sl8At : Ctr := { args := [.val true (.sl (.pair (.pair (.int .i64) (.int .i64)) (.sl (.pair (.int .i64) (.int .i64))))), .val true (.pair (.int .i64) (.int .i64))], rets := [(false, [(none, (.int .i64))])], F := sl8At }
noncomputable def X_sl8At : Ctx := XT.withΓ (lk []) (lk [])
noncomputable def H_sl8At : Hints := ⟨lk [], lk [], lk []⟩
noncomputable def L_sl8At_2 : LoopF c_sl8At.Res := ⟨⟨22, [(2, .one (.ptr 0 0)), (3, .one (.ptr 1 0)), (5, .one (.val (.int .i64)))], [.vars 26 [.val (.sl (.pair (.pair (.int .i64) (.int .i64)) (.sl (.pair (.int .i64) (.int .i64)))))], .vars 28 [.val (.int .i64), .val (.int .i64)]], []⟩, [(0, ⟨22, [], [], []⟩)], sl8At_L2⟩
noncomputable def T_sl8At : Nat → Option (LoopF c_sl8At.Res) := lk [(2, L_sl8At_2)]
theorem s_sl8At_2 : StepOk X_sl8At H_sl8At (c_sl8At.finish X_sl8At Try.f193.results.toList) T_sl8At (loopAt Try.f193 0) := ⟨L_sl8At_2, by kernel_rfl, fun O y x r => by kernel_rfl, fun O k y x r => by kernel_rfl⟩
theorem r_sl8At (a) : fnRun X_sl8At H_sl8At c_sl8At Try.f193 T_sl8At a = sl8At a := by kernel_rfl
theorem h_sl8At : CtrHolds Try.prog 193 c_sl8At := fn_ok .nil .nil (H := H_sl8At) (tbl := T_sl8At) Try.func193 (by kernel_rfl) (loops1 (by kernel_rfl) s_sl8At_2) r_sl8At
/-! 122 sl1In -/
noncomputable def sl1In : (Int × Int × Int) → Option Bool
  | (x0, least1, most2) => (cond (decide (x0 ≥ least1)) (some (decide (x0 ≤ most2))) (some false))
noncomputable def c_sl1In : Ctr := { args := [.val false (.int .i64), .val false (.int .i64), .val false (.int .i64)], rets := [(false, [(none, .bool)])], F := sl1In }
noncomputable def X_sl1In : Ctx := XT.withΓ (lk []) (lk [])
noncomputable def H_sl1In : Hints := ⟨lk [], lk [], lk []⟩
noncomputable def T_sl1In : Nat → Option (LoopF c_sl1In.Res) := lk []
theorem r_sl1In (a) : fnRun X_sl1In H_sl1In c_sl1In Try.f122 T_sl1In a = sl1In a := by kernel_rfl
theorem h_sl1In : CtrHolds Try.prog 122 c_sl1In := fn_ok .nil .nil (H := H_sl1In) (tbl := T_sl1In) Try.func122 (by kernel_rfl) (loops0 (by kernel_rfl)) r_sl1In
/-! 208 sDotOk -/
noncomputable def sDotOk : (Int × Int) → Option Bool
  | (d0, d1) => ((sl1In (d0, (1 : Int), (7 : Int))).bind fun r2 => (cond r2 ((sl1In (d1, (1 : Int), (999 : Int))).bind fun r3 => (some r3)) (some false)))
noncomputable def c_sDotOk : Ctr := { args := [.val true (.pair (.int .i64) (.int .i64))], rets := [(false, [(none, .bool)])], F := sDotOk }
noncomputable def X_sDotOk : Ctx := XT.withΓ (lk [(122, c_sl1In)]) (lk [])
noncomputable def H_sDotOk : Hints := ⟨lk [], lk [], lk []⟩
noncomputable def T_sDotOk : Nat → Option (LoopF c_sDotOk.Res) := lk []
theorem r_sDotOk (a) : fnRun X_sDotOk H_sDotOk c_sDotOk Try.f208 T_sDotOk a = sDotOk a := by kernel_rfl
theorem h_sDotOk : CtrHolds Try.prog 208 c_sDotOk := fn_ok (.cons h_sl1In Try.call122 .nil) .nil (H := H_sDotOk) (tbl := T_sDotOk) Try.func208 (by kernel_rfl) (loops0 (by kernel_rfl)) r_sDotOk
/-! 160 sl8Has -/
noncomputable def sl8Has_L2 (O : Type) : Nat → (List (Int × Int) × Int × Int × Int) → (Unit → Option O) → (Bool → Option O) → Option O
  | 0, _, _, _ => none
  | q + 1, (l3, i4, d5, d6), x, r => (cond (decide (i4 < ((l3.length : Nat) : Int))) (cond (decide ((0 : Int) ≤ i4) && decide (i4 < ((l3.length : Nat) : Int))) (cond (((nth l3 i4).1 == d5) && ((nth l3 i4).2 == d6)) (r true) (sl8Has_L2 O q (l3, (IntKind.wrap .i64 (i4 + (1 : Int))), d5, d6) x r)) none) (x ()))
noncomputable def sl8Has : (List (Int × Int) × Int × Int) → Option Bool
  | (l0, d1, d2) => (sl8Has_L2 Bool fuel (l0, (0 : Int), d1, d2) (fun _ => (some false)) some)
noncomputable def c_sl8Has : Ctr := { args := [.val false (.sl (.pair (.int .i64) (.int .i64))), .val true (.pair (.int .i64) (.int .i64))], rets := [(false, [(none, .bool)])], F := sl8Has }
noncomputable def X_sl8Has : Ctx := XT.withΓ (lk []) (lk [])
noncomputable def H_sl8Has : Hints := ⟨lk [], lk [], lk []⟩
noncomputable def L_sl8Has_2 : LoopF c_sl8Has.Res := ⟨⟨18, [(0, .one (.val (.sl (.pair (.int .i64) (.int .i64))))), (3, .one (.ptr 0 0)), (5, .one (.val (.int .i64)))], [.vars 28 [.val (.int .i64), .val (.int .i64)]], []⟩, [(0, ⟨18, [], [], []⟩)], sl8Has_L2⟩
noncomputable def T_sl8Has : Nat → Option (LoopF c_sl8Has.Res) := lk [(2, L_sl8Has_2)]
theorem s_sl8Has_2 : StepOk X_sl8Has H_sl8Has (c_sl8Has.finish X_sl8Has Try.f160.results.toList) T_sl8Has (loopAt Try.f160 0) := ⟨L_sl8Has_2, by kernel_rfl, fun O y x r => by kernel_rfl, fun O k y x r => by kernel_rfl⟩
theorem r_sl8Has (a) : fnRun X_sl8Has H_sl8Has c_sl8Has Try.f160 T_sl8Has a = sl8Has a := by kernel_rfl
theorem h_sl8Has : CtrHolds Try.prog 160 c_sl8Has := fn_ok .nil .nil (H := H_sl8Has) (tbl := T_sl8Has) Try.func160 (by kernel_rfl) (loops1 (by kernel_rfl) s_sl8Has_2) r_sl8Has
/-! 123 sl8Item -/
noncomputable def sl8Item_L4 (O : Type) : Nat → (Int × Int × Int × List (Int × Int)) → (Unit → Option O) → (Bool → Option O) → Option O
  | 0, _, _, _ => none
  | q + 1, (i5, it6, it7, it8), x, r => (cond (decide (i5 < ((it8.length : Nat) : Int))) (cond (decide ((0 : Int) ≤ i5) && decide (i5 < ((it8.length : Nat) : Int))) ((sDotOk ((nth it8 i5).1, (nth it8 i5).2)).bind fun r9 => (cond (!r9) (r false) (cond (decide (i5 > (0 : Int))) (cond (decide ((0 : Int) ≤ (IntKind.wrap .i64 (i5 - (1 : Int)))) && decide ((IntKind.wrap .i64 (i5 - (1 : Int))) < ((it8.length : Nat) : Int))) (cond (decide ((0 : Int) ≤ i5) && decide (i5 < ((it8.length : Nat) : Int))) ((sDotLess (((nth it8 (IntKind.wrap .i64 (i5 - (1 : Int)))).1, (nth it8 (IntKind.wrap .i64 (i5 - (1 : Int)))).2), (nth it8 i5).1, (nth it8 i5).2)).bind fun r10 => (cond (!r10) (r false) (sl8Item_L4 O q ((IntKind.wrap .i64 (i5 + (1 : Int))), it6, it7, it8) x r))) none) none) (sl8Item_L4 O q ((IntKind.wrap .i64 (i5 + (1 : Int))), it6, it7, it8) x r)))) none) (x ()))
noncomputable def sl8Item : ((Int × Int) × List (Int × Int)) → Option Bool
  | ((it0, it1), it2) => ((sDotOk (it0, it1)).bind fun r3 => (cond (!r3) (some false) (cond (decide (((it2.length : Nat) : Int) > (60 : Int))) (some false) ((sl8Has (it2, it0, it1)).bind fun r4 => (cond r4 (some false) (sl8Item_L4 Bool fuel ((0 : Int), it0, it1, it2) (fun _ => (some true)) some))))))
noncomputable def c_sl8Item : Ctr := { args := [.val true (.pair (.pair (.int .i64) (.int .i64)) (.sl (.pair (.int .i64) (.int .i64))))], rets := [(false, [(none, .bool)])], F := sl8Item }
noncomputable def X_sl8Item : Ctx := XT.withΓ (lk [(208, c_sDotOk), (160, c_sl8Has), (191, c_sDotLess)]) (lk [])
noncomputable def H_sl8Item : Hints := ⟨lk [], lk [], lk []⟩
noncomputable def L_sl8Item_4 : LoopF c_sl8Item.Res := ⟨⟨54, [(1, .one (.ptr 0 0)), (3, .one (.val (.int .i64)))], [.vars 40 [.val (.int .i64), .val (.int .i64), .val (.sl (.pair (.int .i64) (.int .i64)))]], []⟩, [(0, ⟨54, [], [], []⟩)], sl8Item_L4⟩
noncomputable def T_sl8Item : Nat → Option (LoopF c_sl8Item.Res) := lk [(4, L_sl8Item_4)]
theorem s_sl8Item_4 : StepOk X_sl8Item H_sl8Item (c_sl8Item.finish X_sl8Item Try.f123.results.toList) T_sl8Item (loopAt Try.f123 0) := ⟨L_sl8Item_4, by kernel_rfl, fun O y x r => by kernel_rfl, fun O k y x r => by kernel_rfl⟩
theorem r_sl8Item (a) : fnRun X_sl8Item H_sl8Item c_sl8Item Try.f123 T_sl8Item a = sl8Item a := by kernel_rfl
theorem h_sl8Item : CtrHolds Try.prog 123 c_sl8Item := fn_ok (.cons h_sDotOk Try.call208 (.cons h_sl8Has Try.call160 (.cons h_sDotLess Try.call191 .nil))) .nil (H := H_sl8Item) (tbl := T_sl8Item) Try.func123 (by kernel_rfl) (loops1 (by kernel_rfl) s_sl8Item_4) r_sl8Item
/-! 83 sGraphOk -/
noncomputable def sGraphOk_L2 (O : Type) : Nat → (Int × List ((Int × Int) × List (Int × Int))) → ((List ((Int × Int) × List (Int × Int))) → Option O) → (Bool → Option O) → Option O
  | 0, _, _, _ => none
  | q + 1, (i1, g2), x, r => (cond (decide (i1 < ((g2.length : Nat) : Int))) (cond (decide ((0 : Int) ≤ i1) && decide (i1 < ((g2.length : Nat) : Int))) ((sl8Item (((nth g2 i1).1.1, (nth g2 i1).1.2), (nth g2 i1).2)).bind fun r3 => (cond (!r3) (r false) (cond (decide (i1 > (0 : Int))) (cond (decide ((0 : Int) ≤ (IntKind.wrap .i64 (i1 - (1 : Int)))) && decide ((IntKind.wrap .i64 (i1 - (1 : Int))) < ((g2.length : Nat) : Int))) (cond (decide ((0 : Int) ≤ i1) && decide (i1 < ((g2.length : Nat) : Int))) ((sDotLess (((nth g2 (IntKind.wrap .i64 (i1 - (1 : Int)))).1.1, (nth g2 (IntKind.wrap .i64 (i1 - (1 : Int)))).1.2), (nth g2 i1).1.1, (nth g2 i1).1.2)).bind fun r4 => (cond (!r4) (r false) (sGraphOk_L2 O q ((IntKind.wrap .i64 (i1 + (1 : Int))), g2) x r))) none) none) (sGraphOk_L2 O q ((IntKind.wrap .i64 (i1 + (1 : Int))), g2) x r)))) none) (x g2))
noncomputable def sGraphOk : (List ((Int × Int) × List (Int × Int))) → Option Bool
  | g0 => (sGraphOk_L2 Bool fuel ((0 : Int), g0) (fun g5 => (some (decide (((g5.length : Nat) : Int) ≤ (100 : Int))))) some)
noncomputable def c_sGraphOk : Ctr := { args := [.val true (.sl (.pair (.pair (.int .i64) (.int .i64)) (.sl (.pair (.int .i64) (.int .i64)))))], rets := [(false, [(none, .bool)])], F := sGraphOk }
noncomputable def X_sGraphOk : Ctx := XT.withΓ (lk [(123, c_sl8Item), (191, c_sDotLess)]) (lk [])
noncomputable def H_sGraphOk : Hints := ⟨lk [], lk [], lk []⟩
noncomputable def L_sGraphOk_2 : LoopF c_sGraphOk.Res := ⟨⟨43, [(1, .one (.ptr 0 0)), (3, .one (.val (.int .i64)))], [.vars 26 [.val (.sl (.pair (.pair (.int .i64) (.int .i64)) (.sl (.pair (.int .i64) (.int .i64)))))]], []⟩, [(0, ⟨43, [(1, .one (.ptr 0 0))], [.vars 26 [.val (.sl (.pair (.pair (.int .i64) (.int .i64)) (.sl (.pair (.int .i64) (.int .i64)))))]], []⟩)], sGraphOk_L2⟩
noncomputable def T_sGraphOk : Nat → Option (LoopF c_sGraphOk.Res) := lk [(2, L_sGraphOk_2)]
theorem s_sGraphOk_2 : StepOk X_sGraphOk H_sGraphOk (c_sGraphOk.finish X_sGraphOk Try.f83.results.toList) T_sGraphOk (loopAt Try.f83 0) := ⟨L_sGraphOk_2, by kernel_rfl, fun O y x r => by kernel_rfl, fun O k y x r => by kernel_rfl⟩
theorem r_sGraphOk (a) : fnRun X_sGraphOk H_sGraphOk c_sGraphOk Try.f83 T_sGraphOk a = sGraphOk a := by kernel_rfl
theorem h_sGraphOk : CtrHolds Try.prog 83 c_sGraphOk := fn_ok (.cons h_sl8Item Try.call123 (.cons h_sDotLess Try.call191 .nil)) .nil (H := H_sGraphOk) (tbl := T_sGraphOk) Try.func83 (by kernel_rfl) (loops1 (by kernel_rfl) s_sGraphOk_2) r_sGraphOk
/-! 238 sl8Copy -/
noncomputable def sl8Copy_L3 (O : Type) : Nat → (Int × List ((Int × Int) × List (Int × Int)) × List ((Int × Int) × List (Int × Int))) → ((List ((Int × Int) × List (Int × Int))) → Option O) → ((List ((Int × Int) × List (Int × Int))) → Option O) → Option O
  | 0, _, _, _ => none
  | q + 1, (i1, g2, out3), x, r => (cond (decide (i1 < ((g2.length : Nat) : Int))) (cond (decide ((0 : Int) ≤ i1) && decide (i1 < ((g2.length : Nat) : Int))) ((sl8CopyItem (((nth g2 i1).1.1, (nth g2 i1).1.2), (nth g2 i1).2)).bind fun (r4, r5, r6) => (cond (decide ((out3.length + [((r4, r5), r6)].length) ≤ lenBound)) (sl8Copy_L3 O q ((IntKind.wrap .i64 (i1 + (1 : Int))), g2, (out3 ++ [((r4, r5), r6)])) x r) none)) none) (x out3))
noncomputable def sl8Copy : (List ((Int × Int) × List (Int × Int))) → Option (List ((Int × Int) × List (Int × Int)))
  | g0 => (sl8Copy_L3 (List ((Int × Int) × List (Int × Int))) fuel ((0 : Int), g0, []) (fun out7 => (some out7)) some)
noncomputable def c_sl8Copy : Ctr := { args := [.val true (.sl (.pair (.pair (.int .i64) (.int .i64)) (.sl (.pair (.int .i64) (.int .i64)))))], rets := [(false, [(some 40, (.sl (.pair (.pair (.int .i64) (.int .i64)) (.sl (.pair (.int .i64) (.int .i64))))))])], F := sl8Copy }
noncomputable def X_sl8Copy : Ctx := XT.withΓ (lk [(237, c_sl8CopyItem)]) (lk [])
noncomputable def H_sl8Copy : Hints := ⟨lk [], lk [], lk []⟩
noncomputable def L_sl8Copy_3 : LoopF c_sl8Copy.Res := ⟨⟨23, [(1, .one (.ptr 0 0)), (3, .one (.own 1)), (4, .one (.val (.int .i64)))], [.vars 26 [.val (.sl (.pair (.pair (.int .i64) (.int .i64)) (.sl (.pair (.int .i64) (.int .i64)))))], .arr 40 (.pair (.pair (.int .i64) (.int .i64)) (.sl (.pair (.int .i64) (.int .i64))))], []⟩, [(0, ⟨23, [(3, .one (.own 0))], [.arr 40 (.pair (.pair (.int .i64) (.int .i64)) (.sl (.pair (.int .i64) (.int .i64))))], []⟩)], sl8Copy_L3⟩
noncomputable def T_sl8Copy : Nat → Option (LoopF c_sl8Copy.Res) := lk [(3, L_sl8Copy_3)]
theorem s_sl8Copy_3 : StepOk X_sl8Copy H_sl8Copy (c_sl8Copy.finish X_sl8Copy Try.f238.results.toList) T_sl8Copy (loopAt Try.f238 0) := ⟨L_sl8Copy_3, by kernel_rfl, fun O y x r => by kernel_rfl, fun O k y x r => by kernel_rfl⟩
theorem r_sl8Copy (a) : fnRun X_sl8Copy H_sl8Copy c_sl8Copy Try.f238 T_sl8Copy a = sl8Copy a := by kernel_rfl
theorem h_sl8Copy : CtrHolds Try.prog 238 c_sl8Copy := fn_ok (.cons h_sl8CopyItem Try.call237 .nil) .nil (H := H_sl8Copy) (tbl := T_sl8Copy) Try.func238 (by kernel_rfl) (loops1 (by kernel_rfl) s_sl8Copy_3) r_sl8Copy
/-! 225 sGraphPut -/
noncomputable def sGraphPut_L4 (O : Type) : Nat → (Bool × Int × List ((Int × Int) × List (Int × Int)) × Int × Int × List (Int × Int) × List ((Int × Int) × List (Int × Int))) → ((Bool × List ((Int × Int) × List (Int × Int)) × Int × Int × List (Int × Int) × List ((Int × Int) × List (Int × Int))) → Option O) → ((List ((Int × Int) × List (Int × Int)) × Bool) → Option O) → Option O
  | 0, _, _, _ => none
  | q + 1, (put4, i5, g6, it7, it8, it9, out10), x, r => (cond (decide (i5 < ((g6.length : Nat) : Int))) ((cond (!put4) (cond (decide ((0 : Int) ≤ i5) && decide (i5 < ((g6.length : Nat) : Int))) ((sDotLess ((it7, it8), (nth g6 i5).1.1, (nth g6 i5).1.2)).bind fun r11 => (some (put4, i5, r11, g6, it7, it8, it9, out10))) none) (some (put4, i5, false, g6, it7, it8, it9, out10))).bind fun (put12, i13, v14, g15, it16, it17, it18, out19) => (cond v14 ((sl8CopyItem ((it16, it17), it18)).bind fun (r20, r21, r22) => (cond (decide ((out19.length + [((r20, r21), r22)].length) ≤ lenBound)) (cond (decide ((0 : Int) ≤ i13) && decide (i13 < ((g15.length : Nat) : Int))) ((sl8CopyItem (((nth g15 i13).1.1, (nth g15 i13).1.2), (nth g15 i13).2)).bind fun (r23, r24, r25) => (cond (decide (((out19 ++ [((r20, r21), r22)]).length + [((r23, r24), r25)].length) ≤ lenBound)) (sGraphPut_L4 O q (true, (IntKind.wrap .i64 (i13 + (1 : Int))), g15, it16, it17, it18, ((out19 ++ [((r20, r21), r22)]) ++ [((r23, r24), r25)])) x r) none)) none) none)) (cond (decide ((0 : Int) ≤ i13) && decide (i13 < ((g15.length : Nat) : Int))) ((sl8CopyItem (((nth g15 i13).1.1, (nth g15 i13).1.2), (nth g15 i13).2)).bind fun (r26, r27, r28) => (cond (decide ((out19.length + [((r26, r27), r28)].length) ≤ lenBound)) (sGraphPut_L4 O q (put12, (IntKind.wrap .i64 (i13 + (1 : Int))), g15, it16, it17, it18, (out19 ++ [((r26, r27), r28)])) x r) none)) none))) (x (put4, g6, it7, it8, it9, out10)))
noncomputable def sGraphPut : (List ((Int × Int) × List (Int × Int)) × (Int × Int) × List (Int × Int)) → Option (List ((Int × Int) × List (Int × Int)) × Bool)
  | (g0, (it1, it2), it3) => (sGraphPut_L4 (List ((Int × Int) × List (Int × Int)) × Bool) fuel (false, (0 : Int), g0, it1, it2, it3, []) (fun (put29, g30, it31, it32, it33, out34) => ((cond (!put29) ((sl8CopyItem ((it31, it32), it33)).bind fun (r35, r36, r37) => (cond (decide ((out34.length + [((r35, r36), r37)].length) ≤ lenBound)) (some (g30, it31, it32, it33, (out34 ++ [((r35, r36), r37)]))) none)) (some (g30, it31, it32, it33, out34))).bind fun (g38, it39, it40, it41, out42) => ((sl8At (g38, it39, it40)).bind fun r43 => (cond (decide (r43 ≥ (0 : Int))) ((sl8Copy g38).bind fun r44 => (some (r44, false))) ((sGraphOk out42).bind fun r45 => (cond (!r45) ((sl8Copy g38).bind fun r46 => (some (r46, false))) (some (out42, true)))))))) some)
noncomputable def c_sGraphPut : Ctr := { args := [.val true (.sl (.pair (.pair (.int .i64) (.int .i64)) (.sl (.pair (.int .i64) (.int .i64))))), .val true (.pair (.pair (.int .i64) (.int .i64)) (.sl (.pair (.int .i64) (.int .i64))))], rets := [(true, [(some 40, (.sl (.pair (.pair (.int .i64) (.int .i64)) (.sl (.pair (.int .i64) (.int .i64))))))]), (false, [(none, .bool)])], F := sGraphPut }
noncomputable def X_sGraphPut : Ctx := XT.withΓ (lk [(191, c_sDotLess), (237, c_sl8CopyItem), (193, c_sl8At), (83, c_sGraphOk), (238, c_sl8Copy)]) (lk [])
noncomputable def H_sGraphPut : Hints := ⟨lk [(7, ⟨71, [(2, .one (.ptr 0 0)), (3, .one (.ptr 1 0)), (4, .one (.ptr 2 0)), (6, .one (.ptr 3 0)), (7, .one (.val .bool)), (8, .one (.val (.int .i64))), (29, .one (.val .bool))], [.vars 26 [.val (.sl (.pair (.pair (.int .i64) (.int .i64)) (.sl (.pair (.int .i64) (.int .i64)))))], .vars 40 [.val (.int .i64), .val (.int .i64), .val (.sl (.pair (.int .i64) (.int .i64)))], .vars 26 [.nils], .vars 26 [.own 4], .arr 40 (.pair (.pair (.int .i64) (.int .i64)) (.sl (.pair (.int .i64) (.int .i64))))], []⟩), (12, ⟨71, [(2, .one (.ptr 0 0)), (3, .one (.ptr 1 0)), (4, .one (.ptr 2 0)), (6, .one (.ptr 3 0))], [.vars 26 [.val (.sl (.pair (.pair (.int .i64) (.int .i64)) (.sl (.pair (.int .i64) (.int .i64)))))], .vars 40 [.val (.int .i64), .val (.int .i64), .val (.sl (.pair (.int .i64) (.int .i64)))], .vars 26 [.nils], .vars 26 [.own 4], .arr 40 (.pair (.pair (.int .i64) (.int .i64)) (.sl (.pair (.int .i64) (.int .i64))))], []⟩)], lk [], lk []⟩
noncomputable def L_sGraphPut_4 : LoopF c_sGraphPut.Res := ⟨⟨71, [(2, .one (.ptr 0 0)), (3, .one (.ptr 1 0)), (4, .one (.ptr 2 0)), (6, .one (.ptr 3 0)), (7, .one (.val .bool)), (8, .one (.val (.int .i64)))], [.vars 26 [.val (.sl (.pair (.pair (.int .i64) (.int .i64)) (.sl (.pair (.int .i64) (.int .i64)))))], .vars 40 [.val (.int .i64), .val (.int .i64), .val (.sl (.pair (.int .i64) (.int .i64)))], .vars 26 [.nils], .vars 26 [.own 4], .arr 40 (.pair (.pair (.int .i64) (.int .i64)) (.sl (.pair (.int .i64) (.int .i64))))], []⟩, [(0, ⟨71, [(2, .one (.ptr 0 0)), (3, .one (.ptr 1 0)), (4, .one (.ptr 2 0)), (6, .one (.ptr 3 0)), (7, .one (.val .bool))], [.vars 26 [.val (.sl (.pair (.pair (.int .i64) (.int .i64)) (.sl (.pair (.int .i64) (.int .i64)))))], .vars 40 [.val (.int .i64), .val (.int .i64), .val (.sl (.pair (.int .i64) (.int .i64)))], .vars 26 [.nils], .vars 26 [.own 4], .arr 40 (.pair (.pair (.int .i64) (.int .i64)) (.sl (.pair (.int .i64) (.int .i64))))], []⟩)], sGraphPut_L4⟩
noncomputable def T_sGraphPut : Nat → Option (LoopF c_sGraphPut.Res) := lk [(4, L_sGraphPut_4)]
theorem s_sGraphPut_4 : StepOk X_sGraphPut H_sGraphPut (c_sGraphPut.finish X_sGraphPut Try.f225.results.toList) T_sGraphPut (loopAt Try.f225 0) := ⟨L_sGraphPut_4, by kernel_rfl, fun O y x r => by kernel_rfl, fun O k y x r => by kernel_rfl⟩
theorem r_sGraphPut (a) : fnRun X_sGraphPut H_sGraphPut c_sGraphPut Try.f225 T_sGraphPut a = sGraphPut a := by kernel_rfl
theorem h_sGraphPut : CtrHolds Try.prog 225 c_sGraphPut := fn_ok (.cons h_sDotLess Try.call191 (.cons h_sl8CopyItem Try.call237 (.cons h_sl8At Try.call193 (.cons h_sGraphOk Try.call83 (.cons h_sl8Copy Try.call238 .nil))))) .nil (H := H_sGraphPut) (tbl := T_sGraphPut) Try.func225 (by kernel_rfl) (loops1 (by kernel_rfl) s_sGraphPut_4) r_sGraphPut
/-! 184 sl8Draw -/
noncomputable def sl8Draw_L10 (O : Type) : Nat → (Int × Int × Int × List Int × Int × Int × Int × Int × List ((Int × Int) × List (Int × Int)) × List (Int × Int)) → ((Int × Int × List Int × Int × Int × Int × Int × List ((Int × Int) × List (Int × Int)) × List (Int × Int)) → Option O) → ((List ((Int × Int) × List (Int × Int)) × List Int × Int × Int) → Option O) → Option O
  | 0, _, _, _ => none
  | q + 1, (i27, r28, n29, c30, c31, c32, it33, it34, g35, it36), x, r => (cond (decide (n29 < (6 : Int))) (cond (!((r28 == it33) && (n29 == it34))) ((sl1Once ((c30, c31, c32), (5 : Int))).bind fun (r37, r38, r39, r40) => (cond r37 (cond (decide ((it36.length + [(r28, n29)].length) ≤ lenBound)) (sl8Draw_L10 O q (i27, r28, (IntKind.wrap .i64 (n29 + (1 : Int))), r38, r39, r40, it33, it34, g35, (it36 ++ [(r28, n29)])) x r) none) (sl8Draw_L10 O q (i27, r28, (IntKind.wrap .i64 (n29 + (1 : Int))), r38, r39, r40, it33, it34, g35, it36) x r))) (sl8Draw_L10 O q (i27, r28, (IntKind.wrap .i64 (n29 + (1 : Int))), c30, c31, c32, it33, it34, g35, it36) x r)) (x (i27, r28, c30, c31, c32, it33, it34, g35, it36)))
noncomputable def sl8Draw_L7 (O : Type) : Nat → (Int × Int × List Int × Int × Int × Int × Int × List ((Int × Int) × List (Int × Int)) × List (Int × Int)) → ((Int × List Int × Int × Int × Int × Int × List ((Int × Int) × List (Int × Int)) × List (Int × Int)) → Option O) → ((List ((Int × Int) × List (Int × Int)) × List Int × Int × Int) → Option O) → Option O
  | 0, _, _, _ => none
  | q + 1, (i18, r19, c20, c21, c22, it23, it24, g25, it26), x, r => (cond (decide (r19 < (4 : Int))) (sl8Draw_L10 O fuel (i18, r19, (1 : Int), c20, c21, c22, it23, it24, g25, it26) (fun (i41, r42, c43, c44, c45, it46, it47, g48, it49) => (sl8Draw_L7 O q (i41, (IntKind.wrap .i64 (r42 + (1 : Int))), c43, c44, c45, it46, it47, g48, it49) x r)) r) (x (i18, c20, c21, c22, it23, it24, g25, it26)))
noncomputable def sl8Draw_L3 (O : Type) : Nat → (Int × List Int × Int × Int × List ((Int × Int) × List (Int × Int))) → ((List Int × Int × Int × List ((Int × Int) × List (Int × Int))) → Option O) → ((List ((Int × Int) × List (Int × Int)) × List Int × Int × Int) → Option O) → Option O
  | 0, _, _, _ => none
  | q + 1, (i8, c9, c10, c11, g12), x, r => (cond (decide (i8 > (0 : Int))) ((sl8Dot (c9, c10, c11)).bind fun ((r13, r14), r15, r16, r17) => (sl8Draw_L7 O fuel (i8, (1 : Int), r15, r16, r17, r13, r14, g12, []) (fun (i50, c51, c52, c53, it54, it55, g56, it57) => ((sGraphPut (g56, (it54, it55), it57)).bind fun (r58, r59) => (sl8Draw_L3 O q ((IntKind.wrap .i64 (i50 - (1 : Int))), c51, c52, c53, r58) x r))) r)) (x (c9, c10, c11, g12)))
noncomputable def sl8Draw : ((List Int × Int × Int) × Int) → Option (List ((Int × Int) × List (Int × Int)) × List Int × Int × Int)
  | ((c0, c1, c2), most3) => ((sl1Below ((c0, c1, c2), most3)).bind fun (r4, r5, r6, r7) => (sl8Draw_L3 (List ((Int × Int) × List (Int × Int)) × List Int × Int × Int) fuel (r4, r5, r6, r7, []) (fun (b60, b61, b62, g63) => (some (g63, b60, b61, b62))) some))
noncomputable def c_sl8Draw : Ctr := { args := [.ref 208 [(none, (.sl (.int .u8))), (none, (.int .i64)), (none, (.int .i64))], .val false (.int .i64)], rets := [(true, [(some 40, (.sl (.pair (.pair (.int .i64) (.int .i64)) (.sl (.pair (.int .i64) (.int .i64))))))])], F := sl8Draw }
noncomputable def X_sl8Draw : Ctx := XT.withΓ (lk [(187, c_sl1Below), (80, c_sl8Dot), (185, c_sl1Once), (225, c_sGraphPut)]) (lk [])
noncomputable def H_sl8Draw : Hints := ⟨lk [], lk [], lk []⟩
noncomputable def L_sl8Draw_3 : LoopF c_sl8Draw.Res := ⟨⟨54, [(0, .one (.ptr 0 0)), (4, .one (.ptr 1 0)), (5, .one (.ptr 2 0)), (6, .one (.val (.int .i64)))], [.vars 208 [.val (.sl (.int .u8)), .val (.int .i64), .val (.int .i64)], .vars 26 [.nils], .vars 26 [.own 3], .arr 40 (.pair (.pair (.int .i64) (.int .i64)) (.sl (.pair (.int .i64) (.int .i64))))], [0]⟩, [(0, ⟨54, [(4, .one (.ptr 1 0)), (5, .one (.ptr 2 0))], [.vars 208 [.val (.sl (.int .u8)), .val (.int .i64), .val (.int .i64)], .vars 26 [.nils], .vars 26 [.own 3], .arr 40 (.pair (.pair (.int .i64) (.int .i64)) (.sl (.pair (.int .i64) (.int .i64))))], [0]⟩)], sl8Draw_L3⟩
noncomputable def L_sl8Draw_7 : LoopF c_sl8Draw.Res := ⟨⟨54, [(0, .one (.ptr 0 0)), (4, .one (.ptr 1 0)), (5, .one (.ptr 2 0)), (6, .one (.val (.int .i64))), (7, .one (.ptr 3 0)), (8, .one (.val (.int .i64)))], [.vars 208 [.val (.sl (.int .u8)), .val (.int .i64), .val (.int .i64)], .vars 26 [.nils], .vars 26 [.own 4], .vars 40 [.val (.int .i64), .val (.int .i64), .own 5], .arr 40 (.pair (.pair (.int .i64) (.int .i64)) (.sl (.pair (.int .i64) (.int .i64)))), .arr 28 (.pair (.int .i64) (.int .i64))], [0]⟩, [(2, ⟨54, [(0, .one (.ptr 0 0)), (4, .one (.ptr 1 0)), (5, .one (.ptr 2 0)), (6, .one (.val (.int .i64))), (7, .one (.ptr 3 0))], [.vars 208 [.val (.sl (.int .u8)), .val (.int .i64), .val (.int .i64)], .vars 26 [.nils], .vars 26 [.own 4], .vars 40 [.val (.int .i64), .val (.int .i64), .own 5], .arr 40 (.pair (.pair (.int .i64) (.int .i64)) (.sl (.pair (.int .i64) (.int .i64)))), .arr 28 (.pair (.int .i64) (.int .i64))], [0]⟩)], sl8Draw_L7⟩
noncomputable def L_sl8Draw_10 : LoopF c_sl8Draw.Res := ⟨⟨54, [(0, .one (.ptr 0 0)), (4, .one (.ptr 1 0)), (5, .one (.ptr 2 0)), (6, .one (.val (.int .i64))), (7, .one (.ptr 3 0)), (8, .one (.val (.int .i64))), (9, .one (.val (.int .i64)))], [.vars 208 [.val (.sl (.int .u8)), .val (.int .i64), .val (.int .i64)], .vars 26 [.nils], .vars 26 [.own 4], .vars 40 [.val (.int .i64), .val (.int .i64), .own 5], .arr 40 (.pair (.pair (.int .i64) (.int .i64)) (.sl (.pair (.int .i64) (.int .i64)))), .arr 28 (.pair (.int .i64) (.int .i64))], [0]⟩, [(4, ⟨54, [(0, .one (.ptr 0 0)), (4, .one (.ptr 1 0)), (5, .one (.ptr 2 0)), (6, .one (.val (.int .i64))), (7, .one (.ptr 3 0)), (8, .one (.val (.int .i64)))], [.vars 208 [.val (.sl (.int .u8)), .val (.int .i64), .val (.int .i64)], .vars 26 [.nils], .vars 26 [.own 4], .vars 40 [.val (.int .i64), .val (.int .i64), .own 5], .arr 40 (.pair (.pair (.int .i64) (.int .i64)) (.sl (.pair (.int .i64) (.int .i64)))), .arr 28 (.pair (.int .i64) (.int .i64))], [0]⟩)], sl8Draw_L10⟩
noncomputable def T_sl8Draw : Nat → Option (LoopF c_sl8Draw.Res) := lk [(3, L_sl8Draw_3), (7, L_sl8Draw_7), (10, L_sl8Draw_10)]
theorem s_sl8Draw_3 : StepOk X_sl8Draw H_sl8Draw (c_sl8Draw.finish X_sl8Draw Try.f184.results.toList) T_sl8Draw (loopAt Try.f184 0) := ⟨L_sl8Draw_3, by kernel_rfl, fun O y x r => by kernel_rfl, fun O k y x r => by kernel_rfl⟩
theorem s_sl8Draw_7 : StepOk X_sl8Draw H_sl8Draw (c_sl8Draw.finish X_sl8Draw Try.f184.results.toList) T_sl8Draw (loopAt Try.f184 1) := ⟨L_sl8Draw_7, by kernel_rfl, fun O y x r => by kernel_rfl, fun O k y x r => by kernel_rfl⟩
theorem s_sl8Draw_10 : StepOk X_sl8Draw H_sl8Draw (c_sl8Draw.finish X_sl8Draw Try.f184.results.toList) T_sl8Draw (loopAt Try.f184 2) := ⟨L_sl8Draw_10, by kernel_rfl, fun O y x r => by kernel_rfl, fun O k y x r => by kernel_rfl⟩
theorem r_sl8Draw (a) : fnRun X_sl8Draw H_sl8Draw c_sl8Draw Try.f184 T_sl8Draw a = sl8Draw a := by kernel_rfl
theorem h_sl8Draw : CtrHolds Try.prog 184 c_sl8Draw := fn_ok (.cons h_sl1Below Try.call187 (.cons h_sl8Dot Try.call80 (.cons h_sl1Once Try.call185 (.cons h_sGraphPut Try.call225 .nil)))) .nil (H := H_sl8Draw) (tbl := T_sl8Draw) Try.func184 (by kernel_rfl) (loops3 (by kernel_rfl) s_sl8Draw_3 s_sl8Draw_7 s_sl8Draw_10) r_sl8Draw
/-! 186 sl8Full -/
noncomputable def sl8Full_L14 (O : Type) : Nat → (Int × Int × Int × Int × Int × List Int × Int × Int × Int × Int × List ((Int × Int) × List (Int × Int)) × List (Int × Int)) → ((Int × Int × Int × Int × List Int × Int × Int × Int × Int × List ((Int × Int) × List (Int × Int)) × List (Int × Int)) → Option O) → ((List ((Int × Int) × List (Int × Int)) × List Int × Int × Int) → Option O) → Option O
  | 0, _, _, _ => none
  | q + 1, (k31, r32, n33, a34, b35, c36, c37, c38, it39, it40, g41, it42), x, r => (cond (decide (b35 < (5 : Int))) (cond (!((a34 == it39) && (b35 == it40))) ((sl1Once ((c36, c37, c38), k31)).bind fun (r43, r44, r45, r46) => (cond r43 (cond (decide ((it42.length + [(a34, b35)].length) ≤ lenBound)) (sl8Full_L14 O q (k31, r32, n33, a34, (IntKind.wrap .i64 (b35 + (1 : Int))), r44, r45, r46, it39, it40, g41, (it42 ++ [(a34, b35)])) x r) none) (sl8Full_L14 O q (k31, r32, n33, a34, (IntKind.wrap .i64 (b35 + (1 : Int))), r44, r45, r46, it39, it40, g41, it42) x r))) (sl8Full_L14 O q (k31, r32, n33, a34, (IntKind.wrap .i64 (b35 + (1 : Int))), c36, c37, c38, it39, it40, g41, it42) x r)) (x (k31, r32, n33, a34, c36, c37, c38, it39, it40, g41, it42)))
noncomputable def sl8Full_L11 (O : Type) : Nat → (Int × Int × Int × Int × List Int × Int × Int × Int × Int × List ((Int × Int) × List (Int × Int)) × List (Int × Int)) → ((Int × Int × Int × List Int × Int × Int × Int × Int × List ((Int × Int) × List (Int × Int)) × List (Int × Int)) → Option O) → ((List ((Int × Int) × List (Int × Int)) × List Int × Int × Int) → Option O) → Option O
  | 0, _, _, _ => none
  | q + 1, (k20, r21, n22, a23, c24, c25, c26, it27, it28, g29, it30), x, r => (cond (decide (a23 < (4 : Int))) (sl8Full_L14 O fuel (k20, r21, n22, a23, (1 : Int), c24, c25, c26, it27, it28, g29, it30) (fun (k47, r48, n49, a50, c51, c52, c53, it54, it55, g56, it57) => (sl8Full_L11 O q (k47, r48, n49, (IntKind.wrap .i64 (a50 + (1 : Int))), c51, c52, c53, it54, it55, g56, it57) x r)) r) (x (k20, r21, n22, c24, c25, c26, it27, it28, g29, it30)))
noncomputable def sl8Full_L7 (O : Type) : Nat → (Int × Int × Int × List Int × Int × Int × List ((Int × Int) × List (Int × Int))) → ((Int × Int × List Int × Int × Int × List ((Int × Int) × List (Int × Int))) → Option O) → ((List ((Int × Int) × List (Int × Int)) × List Int × Int × Int) → Option O) → Option O
  | 0, _, _, _ => none
  | q + 1, (k13, r14, n15, c16, c17, c18, g19), x, r => (cond (decide (n15 < (5 : Int))) (sl8Full_L11 O fuel (k13, r14, n15, (1 : Int), c16, c17, c18, r14, n15, g19, []) (fun (k58, r59, n60, c61, c62, c63, it64, it65, g66, it67) => ((sGraphPut (g66, (it64, it65), it67)).bind fun (r68, r69) => (sl8Full_L7 O q (k58, r59, (IntKind.wrap .i64 (n60 + (1 : Int))), c61, c62, c63, r68) x r))) r) (x (k13, r14, c16, c17, c18, g19)))
noncomputable def sl8Full_L4 (O : Type) : Nat → (Int × Int × List Int × Int × Int × List ((Int × Int) × List (Int × Int))) → ((List Int × Int × Int × List ((Int × Int) × List (Int × Int))) → Option O) → ((List ((Int × Int) × List (Int × Int)) × List Int × Int × Int) → Option O) → Option O
  | 0, _, _, _ => none
  | q + 1, (k7, r8, c9, c10, c11, g12), x, r => (cond (decide (r8 < (4 : Int))) (sl8Full_L7 O fuel (k7, r8, (1 : Int), c9, c10, c11, g12) (fun (k70, r71, c72, c73, c74, g75) => (sl8Full_L4 O q (k70, (IntKind.wrap .i64 (r71 + (1 : Int))), c72, c73, c74, g75) x r)) r) (x (c9, c10, c11, g12)))
noncomputable def sl8Full : (List Int × Int × Int) → Option (List ((Int × Int) × List (Int × Int)) × List Int × Int × Int)
  | (c0, c1, c2) => ((sl1Below ((c0, c1, c2), (6 : Int))).bind fun (r3, r4, r5, r6) => (sl8Full_L4 (List ((Int × Int) × List (Int × Int)) × List Int × Int × Int) fuel ((IntKind.wrap .i64 ((2 : Int) + r3)), (1 : Int), r4, r5, r6, []) (fun (b76, b77, b78, g79) => (some (g79, b76, b77, b78))) some))
noncomputable def c_sl8Full : Ctr := { args := [.ref 208 [(none, (.sl (.int .u8))), (none, (.int .i64)), (none, (.int .i64))]], rets := [(true, [(some 40, (.sl (.pair (.pair (.int .i64) (.int .i64)) (.sl (.pair (.int .i64) (.int .i64))))))])], F := sl8Full }
noncomputable def X_sl8Full : Ctx := XT.withΓ (lk [(187, c_sl1Below), (185, c_sl1Once), (225, c_sGraphPut)]) (lk [])
noncomputable def H_sl8Full : Hints := ⟨lk [], lk [], lk []⟩
noncomputable def L_sl8Full_4 : LoopF c_sl8Full.Res := ⟨⟨60, [(0, .one (.ptr 0 0)), (2, .one (.ptr 1 0)), (3, .one (.ptr 2 0)), (4, .one (.val (.int .i64))), (5, .one (.val (.int .i64)))], [.vars 208 [.val (.sl (.int .u8)), .val (.int .i64), .val (.int .i64)], .vars 26 [.nils], .vars 26 [.own 3], .arr 40 (.pair (.pair (.int .i64) (.int .i64)) (.sl (.pair (.int .i64) (.int .i64))))], [0]⟩, [(0, ⟨60, [(2, .one (.ptr 1 0)), (3, .one (.ptr 2 0))], [.vars 208 [.val (.sl (.int .u8)), .val (.int .i64), .val (.int .i64)], .vars 26 [.nils], .vars 26 [.own 3], .arr 40 (.pair (.pair (.int .i64) (.int .i64)) (.sl (.pair (.int .i64) (.int .i64))))], [0]⟩)], sl8Full_L4⟩
noncomputable def L_sl8Full_7 : LoopF c_sl8Full.Res := ⟨⟨60, [(0, .one (.ptr 0 0)), (2, .one (.ptr 1 0)), (3, .one (.ptr 2 0)), (4, .one (.val (.int .i64))), (5, .one (.val (.int .i64))), (6, .one (.val (.int .i64)))], [.vars 208 [.val (.sl (.int .u8)), .val (.int .i64), .val (.int .i64)], .vars 26 [.nils], .vars 26 [.own 3], .arr 40 (.pair (.pair (.int .i64) (.int .i64)) (.sl (.pair (.int .i64) (.int .i64))))], [0]⟩, [(2, ⟨60, [(0, .one (.ptr 0 0)), (2, .one (.ptr 1 0)), (3, .one (.ptr 2 0)), (4, .one (.val (.int .i64))), (5, .one (.val (.int .i64)))], [.vars 208 [.val (.sl (.int .u8)), .val (.int .i64), .val (.int .i64)], .vars 26 [.nils], .vars 26 [.own 3], .arr 40 (.pair (.pair (.int .i64) (.int .i64)) (.sl (.pair (.int .i64) (.int .i64))))], [0]⟩)], sl8Full_L7⟩
noncomputable def L_sl8Full_11 : LoopF c_sl8Full.Res := ⟨⟨60, [(0, .one (.ptr 0 0)), (2, .one (.ptr 1 0)), (3, .one (.ptr 2 0)), (4, .one (.val (.int .i64))), (5, .one (.val (.int .i64))), (6, .one (.val (.int .i64))), (7, .one (.ptr 3 0)), (8, .one (.val (.int .i64)))], [.vars 208 [.val (.sl (.int .u8)), .val (.int .i64), .val (.int .i64)], .vars 26 [.nils], .vars 26 [.own 4], .vars 40 [.val (.int .i64), .val (.int .i64), .own 5], .arr 40 (.pair (.pair (.int .i64) (.int .i64)) (.sl (.pair (.int .i64) (.int .i64)))), .arr 28 (.pair (.int .i64) (.int .i64))], [0]⟩, [(4, ⟨60, [(0, .one (.ptr 0 0)), (2, .one (.ptr 1 0)), (3, .one (.ptr 2 0)), (4, .one (.val (.int .i64))), (5, .one (.val (.int .i64))), (6, .one (.val (.int .i64))), (7, .one (.ptr 3 0))], [.vars 208 [.val (.sl (.int .u8)), .val (.int .i64), .val (.int .i64)], .vars 26 [.nils], .vars 26 [.own 4], .vars 40 [.val (.int .i64), .val (.int .i64), .own 5], .arr 40 (.pair (.pair (.int .i64) (.int .i64)) (.sl (.pair (.int .i64) (.int .i64)))), .arr 28 (.pair (.int .i64) (.int .i64))], [0]⟩)], sl8Full_L11⟩
noncomputable def L_sl8Full_14 : LoopF c_sl8Full.Res := ⟨⟨60, [(0, .one (.ptr 0 0)), (2, .one (.ptr 1 0)), (3, .one (.ptr 2 0)), (4, .one (.val (.int .i64))), (5, .one (.val (.int .i64))), (6, .one (.val (.int .i64))), (7, .one (.ptr 3 0)), (8, .one (.val (.int .i64))), (9, .one (.val (.int .i64)))], [.vars 208 [.val (.sl (.int .u8)), .val (.int .i64), .val (.int .i64)], .vars 26 [.nils], .vars 26 [.own 4], .vars 40 [.val (.int .i64), .val (.int .i64), .own 5], .arr 40 (.pair (.pair (.int .i64) (.int .i64)) (.sl (.pair (.int .i64) (.int .i64)))), .arr 28 (.pair (.int .i64) (.int .i64))], [0]⟩, [(6, ⟨60, [(0, .one (.ptr 0 0)), (2, .one (.ptr 1 0)), (3, .one (.ptr 2 0)), (4, .one (.val (.int .i64))), (5, .one (.val (.int .i64))), (6, .one (.val (.int .i64))), (7, .one (.ptr 3 0)), (8, .one (.val (.int .i64)))], [.vars 208 [.val (.sl (.int .u8)), .val (.int .i64), .val (.int .i64)], .vars 26 [.nils], .vars 26 [.own 4], .vars 40 [.val (.int .i64), .val (.int .i64), .own 5], .arr 40 (.pair (.pair (.int .i64) (.int .i64)) (.sl (.pair (.int .i64) (.int .i64)))), .arr 28 (.pair (.int .i64) (.int .i64))], [0]⟩)], sl8Full_L14⟩
noncomputable def T_sl8Full : Nat → Option (LoopF c_sl8Full.Res) := lk [(4, L_sl8Full_4), (7, L_sl8Full_7), (11, L_sl8Full_11), (14, L_sl8Full_14)]
theorem s_sl8Full_4 : StepOk X_sl8Full H_sl8Full (c_sl8Full.finish X_sl8Full Try.f186.results.toList) T_sl8Full (loopAt Try.f186 0) := ⟨L_sl8Full_4, by kernel_rfl, fun O y x r => by kernel_rfl, fun O k y x r => by kernel_rfl⟩
theorem s_sl8Full_7 : StepOk X_sl8Full H_sl8Full (c_sl8Full.finish X_sl8Full Try.f186.results.toList) T_sl8Full (loopAt Try.f186 1) := ⟨L_sl8Full_7, by kernel_rfl, fun O y x r => by kernel_rfl, fun O k y x r => by kernel_rfl⟩
theorem s_sl8Full_11 : StepOk X_sl8Full H_sl8Full (c_sl8Full.finish X_sl8Full Try.f186.results.toList) T_sl8Full (loopAt Try.f186 2) := ⟨L_sl8Full_11, by kernel_rfl, fun O y x r => by kernel_rfl, fun O k y x r => by kernel_rfl⟩
theorem s_sl8Full_14 : StepOk X_sl8Full H_sl8Full (c_sl8Full.finish X_sl8Full Try.f186.results.toList) T_sl8Full (loopAt Try.f186 3) := ⟨L_sl8Full_14, by kernel_rfl, fun O y x r => by kernel_rfl, fun O k y x r => by kernel_rfl⟩
theorem r_sl8Full (a) : fnRun X_sl8Full H_sl8Full c_sl8Full Try.f186 T_sl8Full a = sl8Full a := by kernel_rfl
theorem h_sl8Full : CtrHolds Try.prog 186 c_sl8Full := fn_ok (.cons h_sl1Below Try.call187 (.cons h_sl1Once Try.call185 (.cons h_sGraphPut Try.call225 .nil))) .nil (H := H_sl8Full) (tbl := T_sl8Full) Try.func186 (by kernel_rfl) (loops4 (by kernel_rfl) s_sl8Full_4 s_sl8Full_7 s_sl8Full_11 s_sl8Full_14) r_sl8Full
/-! 188 sl1Int -/
noncomputable def sl1Int : ((List Int × Int × Int) × List Int) → Option (Int × List Int × Int × Int)
  | ((c0, c1, c2), list3) => ((sl1Below ((c0, c1, c2), ((list3.length : Nat) : Int))).bind fun (r4, r5, r6, r7) => (cond (decide ((0 : Int) ≤ r4) && decide (r4 < ((list3.length : Nat) : Int))) (some ((nth list3 r4), r5, r6, r7)) none))
noncomputable def c_sl1Int : Ctr := { args := [.ref 208 [(none, (.sl (.int .u8))), (none, (.int .i64)), (none, (.int .i64))], .val false (.sl (.int .i64))], rets := [(false, [(none, (.int .i64))])], F := sl1Int }
noncomputable def X_sl1Int : Ctx := XT.withΓ (lk [(187, c_sl1Below)]) (lk [])
noncomputable def H_sl1Int : Hints := ⟨lk [], lk [], lk []⟩
noncomputable def T_sl1Int : Nat → Option (LoopF c_sl1Int.Res) := lk []
theorem r_sl1Int (a) : fnRun X_sl1Int H_sl1Int c_sl1Int Try.f188 T_sl1Int a = sl1Int a := by kernel_rfl
theorem h_sl1Int : CtrHolds Try.prog 188 c_sl1Int := fn_ok (.cons h_sl1Below Try.call187 .nil) .nil (H := H_sl1Int) (tbl := T_sl1Int) Try.func188 (by kernel_rfl) (loops0 (by kernel_rfl)) r_sl1Int
/-! 78 sl8DrawAny -/
noncomputable def sl8DrawAny : ((List Int × Int × Int) × Int) → Option (List ((Int × Int) × List (Int × Int)) × List Int × Int × Int)
  | ((c0, c1, c2), most3) => ((sl8Draw ((c0, c1, c2), most3)).bind fun (r4, r5, r6, r7) => (((sl1Once ((r5, r6, r7), (3 : Int))).bind fun (r8, r9, r10, r11) => (cond r8 ((sl8Full (r9, r10, r11)).bind fun (r12, r13, r14, r15) => (some (r13, r14, r15, r12))) (some (r9, r10, r11, r4)))).bind fun (c16, c17, c18, g19) => ((sl1Below ((c16, c17, c18), (12 : Int))).bind fun (r20, r21, r22, r23) => (cond (r20 == (0 : Int)) ((sl8Dot (r21, r22, r23)).bind fun ((r24, r25), r26, r27, r28) => ((sl8Dot (r26, r27, r28)).bind fun ((r29, r30), r31, r32, r33) => ((sl8Dot (r31, r32, r33)).bind fun ((r34, r35), r36, r37, r38) => (cond (decide ((g19.length + [((r24, r25), [(r29, r30), (r34, r35)])].length) ≤ lenBound)) (some ((g19 ++ [((r24, r25), [(r29, r30), (r34, r35)])]), r36, r37, r38)) none)))) (cond (r20 == (1 : Int)) (cond (decide (((g19.length : Nat) : Int) > (0 : Int))) ((sl1Int ((r21, r22, r23), [(0 : Int), (8 : Int), (1 : Int)])).bind fun (r39, r40, r41, r42) => (cond (decide ((0 : Int) < ((g19.length : Nat) : Int))) (some ((List.set g19 0 ((r39, (List.getD g19 0 (((0 : Int), (0 : Int)), [])).1.2), (List.getD g19 0 (((0 : Int), (0 : Int)), [])).2)), r40, r41, r42)) none)) (some (g19, r21, r22, r23))) (some (g19, r21, r22, r23)))))))
noncomputable def c_sl8DrawAny : Ctr := { args := [.ref 208 [(none, (.sl (.int .u8))), (none, (.int .i64)), (none, (.int .i64))], .val false (.int .i64)], rets := [(true, [(some 40, (.sl (.pair (.pair (.int .i64) (.int .i64)) (.sl (.pair (.int .i64) (.int .i64))))))])], F := sl8DrawAny }
noncomputable def X_sl8DrawAny : Ctx := XT.withΓ (lk [(184, c_sl8Draw), (185, c_sl1Once), (186, c_sl8Full), (187, c_sl1Below), (80, c_sl8Dot), (188, c_sl1Int)]) (lk [])
noncomputable def H_sl8DrawAny : Hints := ⟨lk [(4, ⟨45, [(0, .one (.ptr 0 0)), (4, .one (.ptr 1 0)), (5, .one (.ptr 2 0))], [.vars 208 [.val (.sl (.int .u8)), .val (.int .i64), .val (.int .i64)], .vars 26 [.nils], .vars 26 [.own 3], .arr 40 (.pair (.pair (.int .i64) (.int .i64)) (.sl (.pair (.int .i64) (.int .i64))))], [0]⟩)], lk [], lk [(6, [2, 3, 4, 5, 6, 7, 8, 9, 10, 0, 1, 11, 12, 13]), (9, [2, 3, 4, 0, 1, 5, 6, 7, 8])]⟩
noncomputable def T_sl8DrawAny : Nat → Option (LoopF c_sl8DrawAny.Res) := lk []
theorem r_sl8DrawAny (a) : fnRun X_sl8DrawAny H_sl8DrawAny c_sl8DrawAny Try.f78 T_sl8DrawAny a = sl8DrawAny a := by kernel_rfl
theorem h_sl8DrawAny : CtrHolds Try.prog 78 c_sl8DrawAny := fn_ok (.cons h_sl8Draw Try.call184 (.cons h_sl1Once Try.call185 (.cons h_sl8Full Try.call186 (.cons h_sl1Below Try.call187 (.cons h_sl8Dot Try.call80 (.cons h_sl1Int Try.call188 .nil)))))) .nil (H := H_sl8DrawAny) (tbl := T_sl8DrawAny) Try.func78 (by kernel_rfl) (loops0 (by kernel_rfl)) r_sl8DrawAny
/-! 18 sDrawGroup -/
noncomputable def sDrawGroup : (List Int) → Option (List ((Int × Int) × List (Int × Int)) × Int × Int)
  | code0 => ((sl1New code0).bind fun (r1, r2, r3) => ((sl1Size (code0, (16 : Int))).bind fun r4 => ((sl8DrawAny ((r1, r2, r3), r4)).bind fun (r5, r6, r7, r8) => ((sl8Dot (r6, r7, r8)).bind fun ((r9, r10), r11, r12, r13) => (some (r5, r9, r10))))))
noncomputable def c_sDrawGroup : Ctr := { args := [.val false (.sl (.int .u8))], rets := [(true, [(some 40, (.sl (.pair (.pair (.int .i64) (.int .i64)) (.sl (.pair (.int .i64) (.int .i64))))))]), (true, [(none, (.int .i64)), (none, (.int .i64))])], F := sDrawGroup }
noncomputable def X_sDrawGroup : Ctx := XT.withΓ (lk [(79, c_sl1Size), (78, c_sl8DrawAny), (80, c_sl8Dot)]) (lk [(77, c_sl1New)])
noncomputable def H_sDrawGroup : Hints := ⟨lk [], lk [], lk []⟩
noncomputable def T_sDrawGroup : Nat → Option (LoopF c_sDrawGroup.Res) := lk []
theorem r_sDrawGroup (a) : fnRun X_sDrawGroup H_sDrawGroup c_sDrawGroup Try.f18 T_sDrawGroup a = sDrawGroup a := by kernel_rfl
theorem h_sDrawGroup : CtrHolds Try.prog 18 c_sDrawGroup := fn_ok (.cons h_sl1Size Try.call79 (.cons h_sl8DrawAny Try.call78 (.cons h_sl8Dot Try.call80 .nil))) (.cons h_sl1New Try.call77 .nil) (H := H_sDrawGroup) (tbl := T_sDrawGroup) Try.func18 (by kernel_rfl) (loops0 (by kernel_rfl)) r_sDrawGroup
/-! 91 iin -/
noncomputable def iin : (Int × Int × Int) → Option Bool
  | (n0, low1, high2) => (cond (decide (n0 ≥ low1)) (some (decide (n0 ≤ high2))) (some false))
noncomputable def c_iin : Ctr := { args := [.val false (.int .i64), .val false (.int .i64), .val false (.int .i64)], rets := [(false, [(none, .bool)])], F := iin }
noncomputable def X_iin : Ctx := XT.withΓ (lk []) (lk [])
noncomputable def H_iin : Hints := ⟨lk [], lk [], lk []⟩
noncomputable def T_iin : Nat → Option (LoopF c_iin.Res) := lk []
theorem r_iin (a) : fnRun X_iin H_iin c_iin Try.f91 T_iin a = iin a := by kernel_rfl
theorem h_iin : CtrHolds Try.prog 91 c_iin := fn_ok .nil .nil (H := H_iin) (tbl := T_iin) Try.func91 (by kernel_rfl) (loops0 (by kernel_rfl)) r_iin
/-! 86 iDotOk -/
noncomputable def iDotOk : (Int × Int) → Option Bool
  | (d0, d1) => ((iin (d0, (1 : Int), (7 : Int))).bind fun r2 => (cond r2 ((iin (d1, (1 : Int), (999 : Int))).bind fun r3 => (some r3)) (some false)))
noncomputable def c_iDotOk : Ctr := { args := [.val true (.pair (.int .i64) (.int .i64))], rets := [(false, [(none, .bool)])], F := iDotOk }
noncomputable def X_iDotOk : Ctx := XT.withΓ (lk [(91, c_iin)]) (lk [])
noncomputable def H_iDotOk : Hints := ⟨lk [], lk [], lk []⟩
noncomputable def T_iDotOk : Nat → Option (LoopF c_iDotOk.Res) := lk []
theorem r_iDotOk (a) : fnRun X_iDotOk H_iDotOk c_iDotOk Try.f86 T_iDotOk a = iDotOk a := by kernel_rfl
theorem h_iDotOk : CtrHolds Try.prog 86 c_iDotOk := fn_ok (.cons h_iin Try.call91 .nil) .nil (H := H_iDotOk) (tbl := T_iDotOk) Try.func86 (by kernel_rfl) (loops0 (by kernel_rfl)) r_iDotOk
/-! 24 iDotLess -/
noncomputable def iDotLess : ((Int × Int) × Int × Int) → Option Bool
  | ((a0, a1), b2, b3) => (cond (decide (a0 < b2)) (some true) (cond (a0 == b2) (some (decide (a1 < b3))) (some false)))
noncomputable def c_iDotLess : Ctr := { args := [.val true (.pair (.int .i64) (.int .i64)), .val true (.pair (.int .i64) (.int .i64))], rets := [(false, [(none, .bool)])], F := iDotLess }
noncomputable def X_iDotLess : Ctx := XT.withΓ (lk []) (lk [])
noncomputable def H_iDotLess : Hints := ⟨lk [], lk [], lk []⟩
noncomputable def T_iDotLess : Nat → Option (LoopF c_iDotLess.Res) := lk []
theorem r_iDotLess (a) : fnRun X_iDotLess H_iDotLess c_iDotLess Try.f24 T_iDotLess a = iDotLess a := by kernel_rfl
theorem h_iDotLess : CtrHolds Try.prog 24 c_iDotLess := fn_ok .nil .nil (H := H_iDotLess) (tbl := T_iDotLess) Try.func24 (by kernel_rfl) (loops0 (by kernel_rfl)) r_iDotLess
/-! 87 idepsOk -/
noncomputable def idepsOk_L2 (O : Type) : Nat → (List (Int × Int) × List (Int × Int) × Int × Int × Int × Int) → ((List (Int × Int)) → Option O) → (Bool → Option O) → Option O
  | 0, _, _, _ => none
  | q + 1, (deps3, v4, v5, v6, d7, d8), x, r => (cond (decide (v6 < v5)) (cond (decide ((0 : Int) ≤ v6) && decide (v6 < ((v4.length : Nat) : Int))) ((iDotOk ((nth v4 v6).1, (nth v4 v6).2)).bind fun r9 => (cond (!r9) (r false) (cond (((nth v4 v6).1 == d7) && ((nth v4 v6).2 == d8)) (r false) (cond (decide (v6 > (0 : Int))) (cond (decide ((0 : Int) ≤ (IntKind.wrap .i64 (v6 - (1 : Int)))) && decide ((IntKind.wrap .i64 (v6 - (1 : Int))) < ((deps3.length : Nat) : Int))) ((iDotLess (((nth deps3 (IntKind.wrap .i64 (v6 - (1 : Int)))).1, (nth deps3 (IntKind.wrap .i64 (v6 - (1 : Int)))).2), (nth v4 v6).1, (nth v4 v6).2)).bind fun r10 => (cond (!r10) (r false) (idepsOk_L2 O q (deps3, v4, v5, (IntKind.wrap .i64 (v6 + (1 : Int))), d7, d8) x r))) none) (idepsOk_L2 O q (deps3, v4, v5, (IntKind.wrap .i64 (v6 + (1 : Int))), d7, d8) x r))))) none) (x deps3))
noncomputable def idepsOk : ((Int × Int) × List (Int × Int)) → Option Bool
  | ((d0, d1), deps2) => (idepsOk_L2 Bool fuel (deps2, deps2, ((deps2.length : Nat) : Int), (0 : Int), d0, d1) (fun deps11 => (some (decide (((deps11.length : Nat) : Int) ≤ (60 : Int))))) some)
noncomputable def c_idepsOk : Ctr := { args := [.val true (.pair (.int .i64) (.int .i64)), .val false (.sl (.pair (.int .i64) (.int .i64)))], rets := [(false, [(none, .bool)])], F := idepsOk }
noncomputable def X_idepsOk : Ctx := XT.withΓ (lk [(86, c_iDotOk), (24, c_iDotLess)]) (lk [])
noncomputable def H_idepsOk : Hints := ⟨lk [], lk [], lk []⟩
noncomputable def L_idepsOk_2 : LoopF c_idepsOk.Res := ⟨⟨40, [(1, .one (.val (.sl (.pair (.int .i64) (.int .i64))))), (2, .one (.ptr 0 0)), (7, .one (.val (.sl (.pair (.int .i64) (.int .i64))))), (8, .one (.val (.int .i64))), (9, .one (.val (.int .i64)))], [.vars 28 [.val (.int .i64), .val (.int .i64)]], []⟩, [(0, ⟨40, [(1, .one (.val (.sl (.pair (.int .i64) (.int .i64)))))], [], []⟩)], idepsOk_L2⟩
noncomputable def T_idepsOk : Nat → Option (LoopF c_idepsOk.Res) := lk [(2, L_idepsOk_2)]
theorem s_idepsOk_2 : StepOk X_idepsOk H_idepsOk (c_idepsOk.finish X_idepsOk Try.f87.results.toList) T_idepsOk (loopAt Try.f87 0) := ⟨L_idepsOk_2, by kernel_rfl, fun O y x r => by kernel_rfl, fun O k y x r => by kernel_rfl⟩
theorem r_idepsOk (a) : fnRun X_idepsOk H_idepsOk c_idepsOk Try.f87 T_idepsOk a = idepsOk a := by kernel_rfl
theorem h_idepsOk : CtrHolds Try.prog 87 c_idepsOk := fn_ok (.cons h_iDotOk Try.call86 (.cons h_iDotLess Try.call24 .nil)) .nil (H := H_idepsOk) (tbl := T_idepsOk) Try.func87 (by kernel_rfl) (loops1 (by kernel_rfl) s_idepsOk_2) r_idepsOk
/-! 25 iGraphOk -/
noncomputable def iGraphOk_L2 (O : Type) : Nat → (List ((Int × Int) × List (Int × Int)) × Int × Int × List ((Int × Int) × List (Int × Int))) → ((List ((Int × Int) × List (Int × Int))) → Option O) → (Bool → Option O) → Option O
  | 0, _, _, _ => none
  | q + 1, (v1, v2, v3, g4), x, r => (cond (decide (v3 < v2)) (cond (decide ((0 : Int) ≤ v3) && decide (v3 < ((v1.length : Nat) : Int))) ((iDotOk ((nth v1 v3).1.1, (nth v1 v3).1.2)).bind fun r5 => (cond (!r5) (r false) ((idepsOk (((nth v1 v3).1.1, (nth v1 v3).1.2), (nth v1 v3).2)).bind fun r6 => (cond (!r6) (r false) (cond (decide (v3 > (0 : Int))) (cond (decide ((0 : Int) ≤ (IntKind.wrap .i64 (v3 - (1 : Int)))) && decide ((IntKind.wrap .i64 (v3 - (1 : Int))) < ((g4.length : Nat) : Int))) ((iDotLess (((nth g4 (IntKind.wrap .i64 (v3 - (1 : Int)))).1.1, (nth g4 (IntKind.wrap .i64 (v3 - (1 : Int)))).1.2), (nth v1 v3).1.1, (nth v1 v3).1.2)).bind fun r7 => (cond (!r7) (r false) (iGraphOk_L2 O q (v1, v2, (IntKind.wrap .i64 (v3 + (1 : Int))), g4) x r))) none) (iGraphOk_L2 O q (v1, v2, (IntKind.wrap .i64 (v3 + (1 : Int))), g4) x r)))))) none) (x g4))
noncomputable def iGraphOk : (List ((Int × Int) × List (Int × Int))) → Option Bool
  | g0 => (iGraphOk_L2 Bool fuel (g0, ((g0.length : Nat) : Int), (0 : Int), g0) (fun g8 => (some (decide (((g8.length : Nat) : Int) ≤ (100 : Int))))) some)
noncomputable def c_iGraphOk : Ctr := { args := [.val true (.sl (.pair (.pair (.int .i64) (.int .i64)) (.sl (.pair (.int .i64) (.int .i64)))))], rets := [(false, [(none, .bool)])], F := iGraphOk }
noncomputable def X_iGraphOk : Ctx := XT.withΓ (lk [(86, c_iDotOk), (87, c_idepsOk), (24, c_iDotLess)]) (lk [])
noncomputable def H_iGraphOk : Hints := ⟨lk [], lk [], lk []⟩
noncomputable def L_iGraphOk_2 : LoopF c_iGraphOk.Res := ⟨⟨47, [(1, .one (.ptr 0 0)), (6, .one (.val (.sl (.pair (.pair (.int .i64) (.int .i64)) (.sl (.pair (.int .i64) (.int .i64))))))), (7, .one (.val (.int .i64))), (8, .one (.val (.int .i64)))], [.vars 26 [.val (.sl (.pair (.pair (.int .i64) (.int .i64)) (.sl (.pair (.int .i64) (.int .i64)))))]], []⟩, [(0, ⟨47, [(1, .one (.ptr 0 0))], [.vars 26 [.val (.sl (.pair (.pair (.int .i64) (.int .i64)) (.sl (.pair (.int .i64) (.int .i64)))))]], []⟩)], iGraphOk_L2⟩
noncomputable def T_iGraphOk : Nat → Option (LoopF c_iGraphOk.Res) := lk [(2, L_iGraphOk_2)]
theorem s_iGraphOk_2 : StepOk X_iGraphOk H_iGraphOk (c_iGraphOk.finish X_iGraphOk Try.f25.results.toList) T_iGraphOk (loopAt Try.f25 0) := ⟨L_iGraphOk_2, by kernel_rfl, fun O y x r => by kernel_rfl, fun O k y x r => by kernel_rfl⟩
theorem r_iGraphOk (a) : fnRun X_iGraphOk H_iGraphOk c_iGraphOk Try.f25 T_iGraphOk a = iGraphOk a := by kernel_rfl
theorem h_iGraphOk : CtrHolds Try.prog 25 c_iGraphOk := fn_ok (.cons h_iDotOk Try.call86 (.cons h_idepsOk Try.call87 (.cons h_iDotLess Try.call24 .nil))) .nil (H := H_iGraphOk) (tbl := T_iGraphOk) Try.func25 (by kernel_rfl) (loops1 (by kernel_rfl) s_iGraphOk_2) r_iGraphOk
/-! 189 iitemAt -/
noncomputable def iitemAt_L2 (O : Type) : Nat → (List ((Int × Int) × List (Int × Int)) × Int × Int × Int × Int) → (Unit → Option O) → (Int → Option O) → Option O
  | 0, _, _, _ => none
  | q + 1, (v3, v4, v5, d6, d7), x, r => (cond (decide (v5 < v4)) (cond (decide ((0 : Int) ≤ v5) && decide (v5 < ((v3.length : Nat) : Int))) (cond (((nth v3 v5).1.1 == d6) && ((nth v3 v5).1.2 == d7)) (r v5) (iitemAt_L2 O q (v3, v4, (IntKind.wrap .i64 (v5 + (1 : Int))), d6, d7) x r)) none) (x ()))
noncomputable def iitemAt : (List ((Int × Int) × List (Int × Int)) × Int × Int) → Option Int
  | (g0, d1, d2) => (iitemAt_L2 Int fuel (g0, ((g0.length : Nat) : Int), (0 : Int), d1, d2) (fun _ => (some (-1 : Int))) some)
noncomputable def c_iitemAt : Ctr := { args := [.val true (.sl (.pair (.pair (.int .i64) (.int .i64)) (.sl (.pair (.int .i64) (.int .i64))))), .val true (.pair (.int .i64) (.int .i64))], rets := [(false, [(none, (.int .i64))])], F := iitemAt }
noncomputable def X_iitemAt : Ctx := XT.withΓ (lk []) (lk [])
noncomputable def H_iitemAt : Hints := ⟨lk [], lk [], lk []⟩
noncomputable def L_iitemAt_2 : LoopF c_iitemAt.Res := ⟨⟨21, [(3, .one (.ptr 0 0)), (8, .one (.val (.sl (.pair (.pair (.int .i64) (.int .i64)) (.sl (.pair (.int .i64) (.int .i64))))))), (9, .one (.val (.int .i64))), (10, .one (.val (.int .i64)))], [.vars 28 [.val (.int .i64), .val (.int .i64)]], []⟩, [(0, ⟨21, [], [], []⟩)], iitemAt_L2⟩
noncomputable def T_iitemAt : Nat → Option (LoopF c_iitemAt.Res) := lk [(2, L_iitemAt_2)]
theorem s_iitemAt_2 : StepOk X_iitemAt H_iitemAt (c_iitemAt.finish X_iitemAt Try.f189.results.toList) T_iitemAt (loopAt Try.f189 0) := ⟨L_iitemAt_2, by kernel_rfl, fun O y x r => by kernel_rfl, fun O k y x r => by kernel_rfl⟩
theorem r_iitemAt (a) : fnRun X_iitemAt H_iitemAt c_iitemAt Try.f189 T_iitemAt a = iitemAt a := by kernel_rfl
theorem h_iitemAt : CtrHolds Try.prog 189 c_iitemAt := fn_ok .nil .nil (H := H_iitemAt) (tbl := T_iitemAt) Try.func189 (by kernel_rfl) (loops1 (by kernel_rfl) s_iitemAt_2) r_iitemAt
/-! 85 ihasDot -/
noncomputable def ihasDot_L2 (O : Type) : Nat → (List (Int × Int) × Int × Int × Int × Int) → (Unit → Option O) → (Bool → Option O) → Option O
  | 0, _, _, _ => none
  | q + 1, (v3, v4, v5, d6, d7), x, r => (cond (decide (v5 < v4)) (cond (decide ((0 : Int) ≤ v5) && decide (v5 < ((v3.length : Nat) : Int))) (cond (((nth v3 v5).1 == d6) && ((nth v3 v5).2 == d7)) (r true) (ihasDot_L2 O q (v3, v4, (IntKind.wrap .i64 (v5 + (1 : Int))), d6, d7) x r)) none) (x ()))
noncomputable def ihasDot : (List (Int × Int) × Int × Int) → Option Bool
  | (l0, d1, d2) => (ihasDot_L2 Bool fuel (l0, ((l0.length : Nat) : Int), (0 : Int), d1, d2) (fun _ => (some false)) some)
noncomputable def c_ihasDot : Ctr := { args := [.val false (.sl (.pair (.int .i64) (.int .i64))), .val true (.pair (.int .i64) (.int .i64))], rets := [(false, [(none, .bool)])], F := ihasDot }
noncomputable def X_ihasDot : Ctx := XT.withΓ (lk []) (lk [])
noncomputable def H_ihasDot : Hints := ⟨lk [], lk [], lk []⟩
noncomputable def L_ihasDot_2 : LoopF c_ihasDot.Res := ⟨⟨17, [(3, .one (.ptr 0 0)), (7, .one (.val (.sl (.pair (.int .i64) (.int .i64))))), (8, .one (.val (.int .i64))), (9, .one (.val (.int .i64)))], [.vars 28 [.val (.int .i64), .val (.int .i64)]], []⟩, [(0, ⟨17, [], [], []⟩)], ihasDot_L2⟩
noncomputable def T_ihasDot : Nat → Option (LoopF c_ihasDot.Res) := lk [(2, L_ihasDot_2)]
theorem s_ihasDot_2 : StepOk X_ihasDot H_ihasDot (c_ihasDot.finish X_ihasDot Try.f85.results.toList) T_ihasDot (loopAt Try.f85 0) := ⟨L_ihasDot_2, by kernel_rfl, fun O y x r => by kernel_rfl, fun O k y x r => by kernel_rfl⟩
theorem r_ihasDot (a) : fnRun X_ihasDot H_ihasDot c_ihasDot Try.f85 T_ihasDot a = ihasDot a := by kernel_rfl
theorem h_ihasDot : CtrHolds Try.prog 85 c_ihasDot := fn_ok .nil .nil (H := H_ihasDot) (tbl := T_ihasDot) Try.func85 (by kernel_rfl) (loops1 (by kernel_rfl) s_ihasDot_2) r_ihasDot
/-! 81 ireached -/
noncomputable def ireached_L9 (O : Type) : Nat → (List (Int × Int) × Int × Int × List ((Int × Int) × List (Int × Int)) × List (Int × Int) × List (Int × Int)) → ((List ((Int × Int) × List (Int × Int)) × List (Int × Int) × List (Int × Int)) → Option O) → ((List (Int × Int) × Bool) → Option O) → Option O
  | 0, _, _, _ => none
  | q + 1, (v7, v8, v9, g10, out11, todo12), x, r => (cond (decide (v9 < v8)) (cond (decide ((0 : Int) ≤ v9) && decide (v9 < ((v7.length : Nat) : Int))) ((ihasDot (out11, (nth v7 v9).1, (nth v7 v9).2)).bind fun r13 => (cond (!r13) (cond (decide ((out11.length + [((nth v7 v9).1, (nth v7 v9).2)].length) ≤ lenBound)) (cond (decide ((todo12.length + [((nth v7 v9).1, (nth v7 v9).2)].length) ≤ lenBound)) (ireached_L9 O q (v7, v8, (IntKind.wrap .i64 (v9 + (1 : Int))), g10, (out11 ++ [((nth v7 v9).1, (nth v7 v9).2)]), (todo12 ++ [((nth v7 v9).1, (nth v7 v9).2)])) x r) none) none) (ireached_L9 O q (v7, v8, (IntKind.wrap .i64 (v9 + (1 : Int))), g10, out11, todo12) x r))) none) (x (g10, out11, todo12)))
noncomputable def ireached_L3 (O : Type) : Nat → (List ((Int × Int) × List (Int × Int)) × List (Int × Int) × List (Int × Int)) → ((List (Int × Int)) → Option O) → ((List (Int × Int) × Bool) → Option O) → Option O
  | 0, _, _, _ => none
  | q + 1, (g3, out4, todo5), x, r => (cond (decide (((todo5.length : Nat) : Int) > (0 : Int))) (cond (decide ((0 : Int) < ((todo5.length : Nat) : Int))) ((iitemAt (g3, (List.getD todo5 0 ((0 : Int), (0 : Int))).1, (List.getD todo5 0 ((0 : Int), (0 : Int))).2)).bind fun r6 => (cond (decide ((1 : Int) ≤ ((todo5.length : Nat) : Int))) (cond (decide (r6 < (0 : Int))) (r ([], false)) (cond (decide ((0 : Int) ≤ r6) && decide (r6 < ((g3.length : Nat) : Int))) (ireached_L9 O fuel ((nth g3 r6).2, (((nth g3 r6).2.length : Nat) : Int), (0 : Int), g3, out4, (List.drop 1 todo5)) (fun (g14, out15, todo16) => (ireached_L3 O q (g14, out15, todo16) x r)) r) none)) none)) none) (x out4))
noncomputable def ireached : (List ((Int × Int) × List (Int × Int)) × Int × Int) → Option (List (Int × Int) × Bool)
  | (g0, d1, d2) => (ireached_L3 (List (Int × Int) × Bool) fuel (g0, [], [(d1, d2)]) (fun out17 => (some (out17, true))) some)
noncomputable def c_ireached : Ctr := { args := [.val true (.sl (.pair (.pair (.int .i64) (.int .i64)) (.sl (.pair (.int .i64) (.int .i64))))), .val true (.pair (.int .i64) (.int .i64))], rets := [(false, [(some 28, (.sl (.pair (.int .i64) (.int .i64))))]), (false, [(none, .bool)])], F := ireached }
noncomputable def X_ireached : Ctx := XT.withΓ (lk [(189, c_iitemAt), (85, c_ihasDot)]) (lk [])
noncomputable def H_ireached : Hints := ⟨lk [], lk [], lk []⟩
noncomputable def L_ireached_3 : LoopF c_ireached.Res := ⟨⟨50, [(2, .one (.ptr 0 0)), (6, .one (.own 1)), (7, .one (.own 2))], [.vars 26 [.val (.sl (.pair (.pair (.int .i64) (.int .i64)) (.sl (.pair (.int .i64) (.int .i64)))))], .arr 28 (.pair (.int .i64) (.int .i64)), .arr 28 (.pair (.int .i64) (.int .i64))], []⟩, [(0, ⟨50, [(6, .one (.own 0))], [.arr 28 (.pair (.int .i64) (.int .i64))], []⟩)], ireached_L3⟩
noncomputable def L_ireached_9 : LoopF c_ireached.Res := ⟨⟨50, [(2, .one (.ptr 0 0)), (6, .one (.own 1)), (7, .one (.own 2)), (30, .one (.val (.sl (.pair (.int .i64) (.int .i64))))), (31, .one (.val (.int .i64))), (32, .one (.val (.int .i64)))], [.vars 26 [.val (.sl (.pair (.pair (.int .i64) (.int .i64)) (.sl (.pair (.int .i64) (.int .i64)))))], .arr 28 (.pair (.int .i64) (.int .i64)), .arr 28 (.pair (.int .i64) (.int .i64))], []⟩, [(2, ⟨50, [(2, .one (.ptr 0 0)), (6, .one (.own 1)), (7, .one (.own 2))], [.vars 26 [.val (.sl (.pair (.pair (.int .i64) (.int .i64)) (.sl (.pair (.int .i64) (.int .i64)))))], .arr 28 (.pair (.int .i64) (.int .i64)), .arr 28 (.pair (.int .i64) (.int .i64))], []⟩)], ireached_L9⟩
noncomputable def T_ireached : Nat → Option (LoopF c_ireached.Res) := lk [(3, L_ireached_3), (9, L_ireached_9)]
theorem s_ireached_3 : StepOk X_ireached H_ireached (c_ireached.finish X_ireached Try.f81.results.toList) T_ireached (loopAt Try.f81 0) := ⟨L_ireached_3, by kernel_rfl, fun O y x r => by kernel_rfl, fun O k y x r => by kernel_rfl⟩
theorem s_ireached_9 : StepOk X_ireached H_ireached (c_ireached.finish X_ireached Try.f81.results.toList) T_ireached (loopAt Try.f81 1) := ⟨L_ireached_9, by kernel_rfl, fun O y x r => by kernel_rfl, fun O k y x r => by kernel_rfl⟩
theorem r_ireached (a) : fnRun X_ireached H_ireached c_ireached Try.f81 T_ireached a = ireached a := by kernel_rfl
theorem h_ireached : CtrHolds Try.prog 81 c_ireached := fn_ok (.cons h_iitemAt Try.call189 (.cons h_ihasDot Try.call85 .nil)) .nil (H := H_ireached) (tbl := T_ireached) Try.func81 (by kernel_rfl) (loops2 (by kernel_rfl) s_ireached_3 s_ireached_9) r_ireached
/-! 190 icopyDots -/
noncomputable def icopyDots : (List (Int × Int)) → Option (List (Int × Int))
  | l0 => (cond (decide (l0.length ≤ lenBound)) (some l0) none)
noncomputable def c_icopyDots : Ctr := { args := [.val false (.sl (.pair (.int .i64) (.int .i64)))], rets := [(false, [(some 28, (.sl (.pair (.int .i64) (.int .i64))))])], F := icopyDots }
noncomputable def X_icopyDots : Ctx := XT.withΓ (lk []) (lk [])
noncomputable def H_icopyDots : Hints := ⟨lk [], lk [], lk []⟩
noncomputable def T_icopyDots : Nat → Option (LoopF c_icopyDots.Res) := lk []
theorem r_icopyDots (a) : fnRun X_icopyDots H_icopyDots c_icopyDots Try.f190 T_icopyDots a = icopyDots a := by kernel_rfl
theorem h_icopyDots : CtrHolds Try.prog 190 c_icopyDots := fn_ok .nil .nil (H := H_icopyDots) (tbl := T_icopyDots) Try.func190 (by kernel_rfl) (loops0 (by kernel_rfl)) r_icopyDots
/-! 82 iwithDot -/
noncomputable def iwithDot_L2 (O : Type) : Nat → (List (Int × Int) × Int × Int × Int) → ((List (Int × Int) × Int × Int × Int) → Option O) → ((List (Int × Int)) → Option O) → Option O
  | 0, _, _, _ => none
  | q + 1, (l3, k4, d5, d6), x, r => (cond (decide (k4 < ((l3.length : Nat) : Int))) (cond (decide ((0 : Int) ≤ k4) && decide (k4 < ((l3.length : Nat) : Int))) ((iDotLess (((nth l3 k4).1, (nth l3 k4).2), d5, d6)).bind fun r7 => (cond r7 (iwithDot_L2 O q (l3, (IntKind.wrap .i64 (k4 + (1 : Int))), d5, d6) x r) (x (l3, k4, d5, d6)))) none) (x (l3, k4, d5, d6)))
noncomputable def iwithDot : (List (Int × Int) × Int × Int) → Option (List (Int × Int))
  | (l0, d1, d2) => (iwithDot_L2 (List (Int × Int)) fuel (l0, (0 : Int), d1, d2) (fun (l8, k9, d10, d11) => (cond (decide (k9 < ((l8.length : Nat) : Int))) (cond (decide ((0 : Int) ≤ k9) && decide (k9 < ((l8.length : Nat) : Int))) (cond (((nth l8 k9).1 == d10) && ((nth l8 k9).2 == d11)) (some l8) (cond (decide ((0 : Int) ≤ k9) && decide (k9 ≤ ((l8.length : Nat) : Int))) ((icopyDots (cut l8 (0 : Int) k9)).bind fun r12 => (cond (decide ((r12.length + [(d10, d11)].length) ≤ lenBound)) (cond (decide ((0 : Int) ≤ k9) && (decide (k9 ≤ ((l8.length : Nat) : Int)) && decide (((l8.length : Nat) : Int) ≤ ((l8.length : Nat) : Int)))) (cond (decide (((r12 ++ [(d10, d11)]).length + (cut l8 k9 ((l8.length : Nat) : Int)).length) ≤ lenBound)) (some ((r12 ++ [(d10, d11)]) ++ (cut l8 k9 ((l8.length : Nat) : Int)))) none) none) none)) none)) none) (cond (decide ((0 : Int) ≤ k9) && decide (k9 ≤ ((l8.length : Nat) : Int))) ((icopyDots (cut l8 (0 : Int) k9)).bind fun r13 => (cond (decide ((r13.length + [(d10, d11)].length) ≤ lenBound)) (cond (decide ((0 : Int) ≤ k9) && (decide (k9 ≤ ((l8.length : Nat) : Int)) && decide (((l8.length : Nat) : Int) ≤ ((l8.length : Nat) : Int)))) (cond (decide (((r13 ++ [(d10, d11)]).length + (cut l8 k9 ((l8.length : Nat) : Int)).length) ≤ lenBound)) (some ((r13 ++ [(d10, d11)]) ++ (cut l8 k9 ((l8.length : Nat) : Int)))) none) none) none)) none))) some)
noncomputable def c_iwithDot : Ctr := { args := [.val false (.sl (.pair (.int .i64) (.int .i64))), .val true (.pair (.int .i64) (.int .i64))], rets := [(false, [(none, (.sl (.pair (.int .i64) (.int .i64))))])], F := iwithDot }
noncomputable def X_iwithDot : Ctx := XT.withΓ (lk [(24, c_iDotLess), (190, c_icopyDots)]) (lk [])
noncomputable def H_iwithDot : Hints := ⟨lk [], lk [], lk []⟩
noncomputable def L_iwithDot_2 : LoopF c_iwithDot.Res := ⟨⟨44, [(0, .one (.val (.sl (.pair (.int .i64) (.int .i64))))), (3, .one (.ptr 0 0)), (5, .one (.val (.int .i64)))], [.vars 28 [.val (.int .i64), .val (.int .i64)]], []⟩, [(0, ⟨44, [(0, .one (.val (.sl (.pair (.int .i64) (.int .i64))))), (3, .one (.ptr 0 0)), (5, .one (.val (.int .i64)))], [.vars 28 [.val (.int .i64), .val (.int .i64)]], []⟩)], iwithDot_L2⟩
noncomputable def T_iwithDot : Nat → Option (LoopF c_iwithDot.Res) := lk [(2, L_iwithDot_2)]
theorem s_iwithDot_2 : StepOk X_iwithDot H_iwithDot (c_iwithDot.finish X_iwithDot Try.f82.results.toList) T_iwithDot (loopAt Try.f82 0) := ⟨L_iwithDot_2, by kernel_rfl, fun O y x r => by kernel_rfl, fun O k y x r => by kernel_rfl⟩
theorem r_iwithDot (a) : fnRun X_iwithDot H_iwithDot c_iwithDot Try.f82 T_iwithDot a = iwithDot a := by kernel_rfl
theorem h_iwithDot : CtrHolds Try.prog 82 c_iwithDot := fn_ok (.cons h_iDotLess Try.call24 (.cons h_icopyDots Try.call190 .nil)) .nil (H := H_iwithDot) (tbl := T_iwithDot) Try.func82 (by kernel_rfl) (loops1 (by kernel_rfl) s_iwithDot_2) r_iwithDot
/-! 19 iWhole -/
noncomputable def iWhole_L5 (O : Type) : Nat → (List (Int × Int) × List ((Int × Int) × List (Int × Int)) × Int × Int × List ((Int × Int) × List (Int × Int))) → ((List (Int × Int)) → Option O) → ((List (Int × Int)) → Option O) → Option O
  | 0, _, _, _ => none
  | q + 1, (out2, v3, v4, v5, g6), x, r => (cond (decide (v5 < v4)) (cond (decide ((0 : Int) ≤ v5) && decide (v5 < ((v3.length : Nat) : Int))) ((ireached (g6, (nth v3 v5).1.1, (nth v3 v5).1.2)).bind fun (r7, r8) => (cond r8 ((iwithDot (out2, (nth v3 v5).1.1, (nth v3 v5).1.2)).bind fun r9 => (iWhole_L5 O q (r9, v3, v4, (IntKind.wrap .i64 (v5 + (1 : Int))), g6) x r)) (iWhole_L5 O q (out2, v3, v4, (IntKind.wrap .i64 (v5 + (1 : Int))), g6) x r))) none) (x out2))
noncomputable def iWhole : (List ((Int × Int) × List (Int × Int))) → Option (List (Int × Int))
  | g0 => ((iGraphOk g0).bind fun r1 => (cond (!r1) (some []) (iWhole_L5 (List (Int × Int)) fuel ([], g0, ((g0.length : Nat) : Int), (0 : Int), g0) (fun out10 => (some out10)) some)))
noncomputable def c_iWhole : Ctr := { args := [.val true (.sl (.pair (.pair (.int .i64) (.int .i64)) (.sl (.pair (.int .i64) (.int .i64)))))], rets := [(false, [(none, (.sl (.pair (.int .i64) (.int .i64))))])], F := iWhole }
noncomputable def X_iWhole : Ctx := XT.withΓ (lk [(25, c_iGraphOk), (81, c_ireached), (82, c_iwithDot)]) (lk [])
noncomputable def H_iWhole : Hints := ⟨lk [], lk [], lk []⟩
noncomputable def L_iWhole_5 : LoopF c_iWhole.Res := ⟨⟨33, [(1, .one (.ptr 0 0)), (3, .one (.val (.sl (.pair (.int .i64) (.int .i64))))), (13, .one (.val (.sl (.pair (.pair (.int .i64) (.int .i64)) (.sl (.pair (.int .i64) (.int .i64))))))), (14, .one (.val (.int .i64))), (15, .one (.val (.int .i64)))], [.vars 26 [.val (.sl (.pair (.pair (.int .i64) (.int .i64)) (.sl (.pair (.int .i64) (.int .i64)))))]], []⟩, [(0, ⟨33, [(3, .one (.val (.sl (.pair (.int .i64) (.int .i64)))))], [], []⟩)], iWhole_L5⟩
noncomputable def T_iWhole : Nat → Option (LoopF c_iWhole.Res) := lk [(5, L_iWhole_5)]
theorem s_iWhole_5 : StepOk X_iWhole H_iWhole (c_iWhole.finish X_iWhole Try.f19.results.toList) T_iWhole (loopAt Try.f19 0) := ⟨L_iWhole_5, by kernel_rfl, fun O y x r => by kernel_rfl, fun O k y x r => by kernel_rfl⟩
theorem r_iWhole (a) : fnRun X_iWhole H_iWhole c_iWhole Try.f19 T_iWhole a = iWhole a := by kernel_rfl
theorem h_iWhole : CtrHolds Try.prog 19 c_iWhole := fn_ok (.cons h_iGraphOk Try.call25 (.cons h_ireached Try.call81 (.cons h_iwithDot Try.call82 .nil))) .nil (H := H_iWhole) (tbl := T_iWhole) Try.func19 (by kernel_rfl) (loops1 (by kernel_rfl) s_iWhole_5) r_iWhole
/-! 192 sl8Reach -/
noncomputable def sl8Reach_L9 (O : Type) : Nat → (Bool × Int × List (Int × Int) × Int × List ((Int × Int) × List (Int × Int)) × List Bool × List Int) → ((Bool × Int × List ((Int × Int) × List (Int × Int)) × List Bool × List Int) → Option O) → ((List Bool × Bool) → Option O) → Option O
  | 0, _, _, _ => none
  | q + 1, (whole7, k8, deps9, i10, g11, met12, queue13), x, r => (cond (decide (i10 < ((deps9.length : Nat) : Int))) (cond (decide ((0 : Int) ≤ i10) && decide (i10 < ((deps9.length : Nat) : Int))) ((sl8At (g11, (nth deps9 i10).1, (nth deps9 i10).2)).bind fun r14 => (cond (decide (r14 < (0 : Int))) (sl8Reach_L9 O q (false, k8, deps9, (IntKind.wrap .i64 (i10 + (1 : Int))), g11, met12, queue13) x r) (cond (decide ((0 : Int) ≤ r14) && decide (r14 < ((met12.length : Nat) : Int))) (cond (!(nth met12 r14)) (cond (decide ((0 : Int) ≤ r14) && decide (r14 < ((met12.length : Nat) : Int))) (cond (decide ((queue13.length + [r14].length) ≤ lenBound)) (sl8Reach_L9 O q (whole7, k8, deps9, (IntKind.wrap .i64 (i10 + (1 : Int))), g11, (List.set met12 (Int.toNat r14) true), (queue13 ++ [r14])) x r) none) none) (sl8Reach_L9 O q (whole7, k8, deps9, (IntKind.wrap .i64 (i10 + (1 : Int))), g11, met12, queue13) x r)) none))) none) (x (whole7, k8, g11, met12, queue13)))
noncomputable def sl8Reach_L5 (O : Type) : Nat → (Bool × Int × List ((Int × Int) × List (Int × Int)) × List Bool × List Int) → ((Bool × List Bool) → Option O) → ((List Bool × Bool) → Option O) → Option O
  | 0, _, _, _ => none
  | q + 1, (whole2, k3, g4, met5, queue6), x, r => (cond (decide (k3 < ((queue6.length : Nat) : Int))) (cond (decide ((0 : Int) ≤ k3) && decide (k3 < ((queue6.length : Nat) : Int))) (cond (decide ((0 : Int) ≤ (nth queue6 k3)) && decide ((nth queue6 k3) < ((g4.length : Nat) : Int))) (sl8Reach_L9 O fuel (whole2, k3, (nth g4 (nth queue6 k3)).2, (0 : Int), g4, met5, queue6) (fun (whole15, k16, g17, met18, queue19) => (sl8Reach_L5 O q (whole15, (IntKind.wrap .i64 (k16 + (1 : Int))), g17, met18, queue19) x r)) r) none) none) (x (whole2, met5)))
noncomputable def sl8Reach : (List ((Int × Int) × List (Int × Int)) × Int) → Option (List Bool × Bool)
  | (g0, from1) => (cond (decide ((0 : Int) ≤ ((g0.length : Nat) : Int)) && ((((g0.length : Nat) : Int) == ((g0.length : Nat) : Int)) && decide (((g0.length : Nat) : Int) ≤ (4294967296 : Int)))) (sl8Reach_L5 (List Bool × Bool) fuel (true, (0 : Int), g0, (List.replicate (Int.toNat ((g0.length : Nat) : Int)) false), [from1]) (fun (whole20, met21) => (some (met21, whole20))) some) none)
noncomputable def c_sl8Reach : Ctr := { args := [.val true (.sl (.pair (.pair (.int .i64) (.int .i64)) (.sl (.pair (.int .i64) (.int .i64))))), .val false (.int .i64)], rets := [(false, [(some 4, (.sl .bool))]), (false, [(none, .bool)])], F := sl8Reach }
noncomputable def X_sl8Reach : Ctx := XT.withΓ (lk [(193, c_sl8At)]) (lk [])
noncomputable def H_sl8Reach : Hints := ⟨lk [], lk [], lk []⟩
noncomputable def L_sl8Reach_5 : LoopF c_sl8Reach.Res := ⟨⟨62, [(2, .one (.ptr 0 0)), (6, .one (.own 1)), (7, .one (.val .bool)), (8, .one (.own 2)), (9, .one (.val (.int .i64)))], [.vars 26 [.val (.sl (.pair (.pair (.int .i64) (.int .i64)) (.sl (.pair (.int .i64) (.int .i64)))))], .arr 4 .bool, .arr 3 (.int .i64)], []⟩, [(0, ⟨62, [(6, .one (.own 0)), (7, .one (.val .bool))], [.arr 4 .bool], []⟩)], sl8Reach_L5⟩
noncomputable def L_sl8Reach_9 : LoopF c_sl8Reach.Res := ⟨⟨62, [(2, .one (.ptr 0 0)), (6, .one (.own 1)), (7, .one (.val .bool)), (8, .one (.own 2)), (9, .one (.val (.int .i64))), (10, .one (.val (.sl (.pair (.int .i64) (.int .i64))))), (11, .one (.val (.int .i64)))], [.vars 26 [.val (.sl (.pair (.pair (.int .i64) (.int .i64)) (.sl (.pair (.int .i64) (.int .i64)))))], .arr 4 .bool, .arr 3 (.int .i64)], []⟩, [(2, ⟨62, [(2, .one (.ptr 0 0)), (6, .one (.own 1)), (7, .one (.val .bool)), (8, .one (.own 2)), (9, .one (.val (.int .i64)))], [.vars 26 [.val (.sl (.pair (.pair (.int .i64) (.int .i64)) (.sl (.pair (.int .i64) (.int .i64)))))], .arr 4 .bool, .arr 3 (.int .i64)], []⟩)], sl8Reach_L9⟩
noncomputable def T_sl8Reach : Nat → Option (LoopF c_sl8Reach.Res) := lk [(5, L_sl8Reach_5), (9, L_sl8Reach_9)]
theorem s_sl8Reach_5 : StepOk X_sl8Reach H_sl8Reach (c_sl8Reach.finish X_sl8Reach Try.f192.results.toList) T_sl8Reach (loopAt Try.f192 0) := ⟨L_sl8Reach_5, by kernel_rfl, fun O y x r => by kernel_rfl, fun O k y x r => by kernel_rfl⟩
theorem s_sl8Reach_9 : StepOk X_sl8Reach H_sl8Reach (c_sl8Reach.finish X_sl8Reach Try.f192.results.toList) T_sl8Reach (loopAt Try.f192 1) := ⟨L_sl8Reach_9, by kernel_rfl, fun O y x r => by kernel_rfl, fun O k y x r => by kernel_rfl⟩
theorem r_sl8Reach (a) : fnRun X_sl8Reach H_sl8Reach c_sl8Reach Try.f192 T_sl8Reach a = sl8Reach a := by kernel_rfl
theorem h_sl8Reach : CtrHolds Try.prog 192 c_sl8Reach := fn_ok (.cons h_sl8At Try.call193 .nil) .nil (H := H_sl8Reach) (tbl := T_sl8Reach) Try.func192 (by kernel_rfl) (loops2 (by kernel_rfl) s_sl8Reach_5 s_sl8Reach_9) r_sl8Reach
/-! 84 sl8All -/
noncomputable def sl8All_L4 (O : Type) : Nat → (Int × List ((Int × Int) × List (Int × Int)) × List (List Bool) × List Bool) → ((List (List Bool) × List Bool) → Option O) → ((List (List Bool) × List Bool) → Option O) → Option O
  | 0, _, _, _ => none
  | q + 1, (i1, g2, reach3, whole4), x, r => (cond (decide (i1 < ((g2.length : Nat) : Int))) ((sl8Reach (g2, i1)).bind fun (r5, r6) => (cond (decide ((reach3.length + [r5].length) ≤ lenBound)) (cond (decide ((whole4.length + [r6].length) ≤ lenBound)) (sl8All_L4 O q ((IntKind.wrap .i64 (i1 + (1 : Int))), g2, (reach3 ++ [r5]), (whole4 ++ [r6])) x r) none) none)) (x (reach3, whole4)))
noncomputable def sl8All : (List ((Int × Int) × List (Int × Int))) → Option (List (List Bool) × List Bool)
  | g0 => (sl8All_L4 (List (List Bool) × List Bool) fuel ((0 : Int), g0, [], []) (fun (reach7, whole8) => (some (reach7, whole8))) some)
noncomputable def c_sl8All : Ctr := { args := [.val true (.sl (.pair (.pair (.int .i64) (.int .i64)) (.sl (.pair (.int .i64) (.int .i64)))))], rets := [(false, [(some 125, (.sl (.sl .bool)))]), (false, [(some 4, (.sl .bool))])], F := sl8All }
noncomputable def X_sl8All : Ctx := XT.withΓ (lk [(192, c_sl8Reach)]) (lk [])
noncomputable def H_sl8All : Hints := ⟨lk [], lk [], lk []⟩
noncomputable def L_sl8All_4 : LoopF c_sl8All.Res := ⟨⟨34, [(1, .one (.ptr 0 0)), (4, .one (.own 1)), (5, .one (.own 2)), (6, .one (.val (.int .i64)))], [.vars 26 [.val (.sl (.pair (.pair (.int .i64) (.int .i64)) (.sl (.pair (.int .i64) (.int .i64)))))], .arr 125 (.sl .bool), .arr 4 .bool], []⟩, [(0, ⟨34, [(4, .one (.own 0)), (5, .one (.own 1))], [.arr 125 (.sl .bool), .arr 4 .bool], []⟩)], sl8All_L4⟩
noncomputable def T_sl8All : Nat → Option (LoopF c_sl8All.Res) := lk [(4, L_sl8All_4)]
theorem s_sl8All_4 : StepOk X_sl8All H_sl8All (c_sl8All.finish X_sl8All Try.f84.results.toList) T_sl8All (loopAt Try.f84 0) := ⟨L_sl8All_4, by kernel_rfl, fun O y x r => by kernel_rfl, fun O k y x r => by kernel_rfl⟩
theorem r_sl8All (a) : fnRun X_sl8All H_sl8All c_sl8All Try.f84 T_sl8All a = sl8All a := by kernel_rfl
theorem h_sl8All : CtrHolds Try.prog 84 c_sl8All := fn_ok (.cons h_sl8Reach Try.call192 .nil) .nil (H := H_sl8All) (tbl := T_sl8All) Try.func84 (by kernel_rfl) (loops1 (by kernel_rfl) s_sl8All_4) r_sl8All
/-! 21 sWhole -/
noncomputable def sWhole_L6 (O : Type) : Nat → (Int × List ((Int × Int) × List (Int × Int)) × List (Int × Int) × List Bool) → ((List (Int × Int)) → Option O) → ((List (Int × Int)) → Option O) → Option O
  | 0, _, _, _ => none
  | q + 1, (i4, g5, out6, whole7), x, r => (cond (decide (i4 < ((whole7.length : Nat) : Int))) (cond (decide ((0 : Int) ≤ i4) && decide (i4 < ((whole7.length : Nat) : Int))) (cond (nth whole7 i4) (cond (decide ((0 : Int) ≤ i4) && decide (i4 < ((g5.length : Nat) : Int))) (cond (decide ((out6.length + [((nth g5 i4).1.1, (nth g5 i4).1.2)].length) ≤ lenBound)) (sWhole_L6 O q ((IntKind.wrap .i64 (i4 + (1 : Int))), g5, (out6 ++ [((nth g5 i4).1.1, (nth g5 i4).1.2)]), whole7) x r) none) none) (sWhole_L6 O q ((IntKind.wrap .i64 (i4 + (1 : Int))), g5, out6, whole7) x r)) none) (x out6))
noncomputable def sWhole : (List ((Int × Int) × List (Int × Int))) → Option (List (Int × Int))
  | g0 => ((sGraphOk g0).bind fun r1 => (cond (!r1) (some []) ((sl8All g0).bind fun (r2, r3) => (sWhole_L6 (List (Int × Int)) fuel ((0 : Int), g0, [], r3) (fun out8 => (some out8)) some))))
noncomputable def c_sWhole : Ctr := { args := [.val true (.sl (.pair (.pair (.int .i64) (.int .i64)) (.sl (.pair (.int .i64) (.int .i64)))))], rets := [(false, [(some 28, (.sl (.pair (.int .i64) (.int .i64))))])], F := sWhole }
noncomputable def X_sWhole : Ctx := XT.withΓ (lk [(83, c_sGraphOk), (84, c_sl8All)]) (lk [])
noncomputable def H_sWhole : Hints := ⟨lk [], lk [], lk []⟩
noncomputable def L_sWhole_6 : LoopF c_sWhole.Res := ⟨⟨37, [(1, .one (.ptr 0 0)), (3, .one (.own 1)), (5, .one (.own 2)), (6, .one (.val (.int .i64)))], [.vars 26 [.val (.sl (.pair (.pair (.int .i64) (.int .i64)) (.sl (.pair (.int .i64) (.int .i64)))))], .arr 28 (.pair (.int .i64) (.int .i64)), .arr 4 .bool], []⟩, [(0, ⟨37, [(3, .one (.own 0))], [.arr 28 (.pair (.int .i64) (.int .i64))], []⟩)], sWhole_L6⟩
noncomputable def T_sWhole : Nat → Option (LoopF c_sWhole.Res) := lk [(6, L_sWhole_6)]
theorem s_sWhole_6 : StepOk X_sWhole H_sWhole (c_sWhole.finish X_sWhole Try.f21.results.toList) T_sWhole (loopAt Try.f21 0) := ⟨L_sWhole_6, by kernel_rfl, fun O y x r => by kernel_rfl, fun O k y x r => by kernel_rfl⟩
theorem r_sWhole (a) : fnRun X_sWhole H_sWhole c_sWhole Try.f21 T_sWhole a = sWhole a := by kernel_rfl
theorem h_sWhole : CtrHolds Try.prog 21 c_sWhole := fn_ok (.cons h_sGraphOk Try.call83 (.cons h_sl8All Try.call84 .nil)) .nil (H := H_sWhole) (tbl := T_sWhole) Try.func21 (by kernel_rfl) (loops1 (by kernel_rfl) s_sWhole_6) r_sWhole
/-! 20 lsameDots -/
noncomputable def lsameDots_L4 (O : Type) : Nat → (List (Int × Int) × List (Int × Int) × Int) → (Unit → Option O) → (Bool → Option O) → Option O
  | 0, _, _, _ => none
  | q + 1, (a2, b3, i4), x, r => (cond (decide (i4 < ((a2.length : Nat) : Int))) (cond (decide ((0 : Int) ≤ i4) && decide (i4 < ((a2.length : Nat) : Int))) (cond (decide ((0 : Int) ≤ i4) && decide (i4 < ((b3.length : Nat) : Int))) (cond (!(((nth a2 i4).1 == (nth b3 i4).1) && ((nth a2 i4).2 == (nth b3 i4).2))) (r false) (lsameDots_L4 O q (a2, b3, (IntKind.wrap .i64 (i4 + (1 : Int)))) x r)) none) none) (x ()))
noncomputable def lsameDots : (List (Int × Int) × List (Int × Int)) → Option Bool
  | (a0, b1) => (cond (((a0.length : Nat) : Int) != ((b1.length : Nat) : Int)) (some false) (lsameDots_L4 Bool fuel (a0, b1, (0 : Int)) (fun _ => (some true)) some))
noncomputable def c_lsameDots : Ctr := { args := [.val false (.sl (.pair (.int .i64) (.int .i64))), .val false (.sl (.pair (.int .i64) (.int .i64)))], rets := [(false, [(none, .bool)])], F := lsameDots }
noncomputable def X_lsameDots : Ctx := XT.withΓ (lk []) (lk [])
noncomputable def H_lsameDots : Hints := ⟨lk [], lk [], lk []⟩
noncomputable def L_lsameDots_4 : LoopF c_lsameDots.Res := ⟨⟨26, [(0, .one (.val (.sl (.pair (.int .i64) (.int .i64))))), (1, .one (.val (.sl (.pair (.int .i64) (.int .i64))))), (5, .one (.val (.int .i64)))], [], []⟩, [(0, ⟨26, [], [], []⟩)], lsameDots_L4⟩
noncomputable def T_lsameDots : Nat → Option (LoopF c_lsameDots.Res) := lk [(4, L_lsameDots_4)]
theorem s_lsameDots_4 : StepOk X_lsameDots H_lsameDots (c_lsameDots.finish X_lsameDots Try.f20.results.toList) T_lsameDots (loopAt Try.f20 0) := ⟨L_lsameDots_4, by kernel_rfl, fun O y x r => by kernel_rfl, fun O k y x r => by kernel_rfl⟩
theorem r_lsameDots (a) : fnRun X_lsameDots H_lsameDots c_lsameDots Try.f20 T_lsameDots a = lsameDots a := by kernel_rfl
theorem h_lsameDots : CtrHolds Try.prog 20 c_lsameDots := fn_ok .nil .nil (H := H_lsameDots) (tbl := T_lsameDots) Try.func20 (by kernel_rfl) (loops1 (by kernel_rfl) s_lsameDots_4) r_lsameDots
/-! 22 iGroup -/
noncomputable def iGroup_L6 (O : Type) : Nat → (List (Int × Int) × Int × Int × List ((Int × Int) × List (Int × Int)) × Int × Int × List (Int × Int)) → ((List (Int × Int)) → Option O) → ((List (Int × Int)) → Option O) → Option O
  | 0, _, _, _ => none
  | q + 1, (out6, v7, v8, g9, d10, d11, v12), x, r => (cond (decide (v8 < v7)) (cond (decide ((0 : Int) ≤ v8) && decide (v8 < ((v12.length : Nat) : Int))) ((ireached (g9, (nth v12 v8).1, (nth v12 v8).2)).bind fun (r13, r14) => ((ihasDot (r13, d10, d11)).bind fun r15 => (cond r15 ((iwithDot (out6, (nth v12 v8).1, (nth v12 v8).2)).bind fun r16 => (iGroup_L6 O q (r16, v7, (IntKind.wrap .i64 (v8 + (1 : Int))), g9, d10, d11, v12) x r)) (iGroup_L6 O q (out6, v7, (IntKind.wrap .i64 (v8 + (1 : Int))), g9, d10, d11, v12) x r)))) none) (x out6))
noncomputable def iGroup : (List ((Int × Int) × List (Int × Int)) × Int × Int) → Option (List (Int × Int))
  | (g0, d1, d2) => ((ireached (g0, d1, d2)).bind fun (r3, r4) => (cond (!r4) (some []) ((iGraphOk g0).bind fun r5 => (cond (!r5) (some []) (iGroup_L6 (List (Int × Int)) fuel ([(d1, d2)], ((r3.length : Nat) : Int), (0 : Int), g0, d1, d2, r3) (fun out17 => (some out17)) some)))))
noncomputable def c_iGroup : Ctr := { args := [.val true (.sl (.pair (.pair (.int .i64) (.int .i64)) (.sl (.pair (.int .i64) (.int .i64))))), .val true (.pair (.int .i64) (.int .i64))], rets := [(false, [(none, (.sl (.pair (.int .i64) (.int .i64))))])], F := iGroup }
noncomputable def X_iGroup : Ctx := XT.withΓ (lk [(81, c_ireached), (25, c_iGraphOk), (85, c_ihasDot), (82, c_iwithDot)]) (lk [])
noncomputable def H_iGroup : Hints := ⟨lk [], lk [], lk []⟩
noncomputable def L_iGroup_6 : LoopF c_iGroup.Res := ⟨⟨47, [(2, .one (.ptr 0 0)), (3, .one (.ptr 1 0)), (7, .one (.val (.sl (.pair (.int .i64) (.int .i64))))), (27, .one (.own 2)), (28, .one (.val (.int .i64))), (29, .one (.val (.int .i64)))], [.vars 26 [.val (.sl (.pair (.pair (.int .i64) (.int .i64)) (.sl (.pair (.int .i64) (.int .i64)))))], .vars 28 [.val (.int .i64), .val (.int .i64)], .arr 28 (.pair (.int .i64) (.int .i64))], []⟩, [(0, ⟨47, [(7, .one (.val (.sl (.pair (.int .i64) (.int .i64)))))], [], []⟩)], iGroup_L6⟩
noncomputable def T_iGroup : Nat → Option (LoopF c_iGroup.Res) := lk [(6, L_iGroup_6)]
theorem s_iGroup_6 : StepOk X_iGroup H_iGroup (c_iGroup.finish X_iGroup Try.f22.results.toList) T_iGroup (loopAt Try.f22 0) := ⟨L_iGroup_6, by kernel_rfl, fun O y x r => by kernel_rfl, fun O k y x r => by kernel_rfl⟩
theorem r_iGroup (a) : fnRun X_iGroup H_iGroup c_iGroup Try.f22 T_iGroup a = iGroup a := by kernel_rfl
theorem h_iGroup : CtrHolds Try.prog 22 c_iGroup := fn_ok (.cons h_ireached Try.call81 (.cons h_iGraphOk Try.call25 (.cons h_ihasDot Try.call85 (.cons h_iwithDot Try.call82 .nil)))) .nil (H := H_iGroup) (tbl := T_iGroup) Try.func22 (by kernel_rfl) (loops1 (by kernel_rfl) s_iGroup_6) r_iGroup
/-! 23 lplace -/
noncomputable def lplace_L2 (O : Type) : Nat → (List (Int × Int) × Int × Int × Int) → (Unit → Option O) → (Int → Option O) → Option O
  | 0, _, _, _ => none
  | q + 1, (l3, i4, d5, d6), x, r => (cond (decide (i4 < ((l3.length : Nat) : Int))) (cond (decide ((0 : Int) ≤ i4) && decide (i4 < ((l3.length : Nat) : Int))) (cond (((nth l3 i4).1 == d5) && ((nth l3 i4).2 == d6)) (r i4) (lplace_L2 O q (l3, (IntKind.wrap .i64 (i4 + (1 : Int))), d5, d6) x r)) none) (x ()))
noncomputable def lplace : (List (Int × Int) × Int × Int) → Option Int
  | (l0, d1, d2) => (lplace_L2 Int fuel (l0, (0 : Int), d1, d2) (fun _ => (some (-1 : Int))) some)
noncomputable def c_lplace : Ctr := { args := [.val false (.sl (.pair (.int .i64) (.int .i64))), .val true (.pair (.int .i64) (.int .i64))], rets := [(false, [(none, (.int .i64))])], F := lplace }
noncomputable def X_lplace : Ctx := XT.withΓ (lk []) (lk [])
noncomputable def H_lplace : Hints := ⟨lk [], lk [], lk []⟩
noncomputable def L_lplace_2 : LoopF c_lplace.Res := ⟨⟨19, [(0, .one (.val (.sl (.pair (.int .i64) (.int .i64))))), (3, .one (.ptr 0 0)), (5, .one (.val (.int .i64)))], [.vars 28 [.val (.int .i64), .val (.int .i64)]], []⟩, [(0, ⟨19, [], [], []⟩)], lplace_L2⟩
noncomputable def T_lplace : Nat → Option (LoopF c_lplace.Res) := lk [(2, L_lplace_2)]
theorem s_lplace_2 : StepOk X_lplace H_lplace (c_lplace.finish X_lplace Try.f23.results.toList) T_lplace (loopAt Try.f23 0) := ⟨L_lplace_2, by kernel_rfl, fun O y x r => by kernel_rfl, fun O k y x r => by kernel_rfl⟩
theorem r_lplace (a) : fnRun X_lplace H_lplace c_lplace Try.f23 T_lplace a = lplace a := by kernel_rfl
theorem h_lplace : CtrHolds Try.prog 23 c_lplace := fn_ok .nil .nil (H := H_lplace) (tbl := T_lplace) Try.func23 (by kernel_rfl) (loops1 (by kernel_rfl) s_lplace_2) r_lplace
/-! 3 lFnGroups -/
noncomputable def lFnGroups_L11 (O : Type) : Nat → (List (Int × Int) × List (Int × Int) × Int × List ((Int × Int) × List (Int × Int)) × Int × Int) → ((List (Int × Int) × List ((Int × Int) × List (Int × Int)) × Int × Int) → Option O) → (Bool → Option O) → Option O
  | 0, _, _, _ => none
  | q + 1, (w10, l11, i12, g13, d14, d15), x, r => (cond (decide (i12 < ((l11.length : Nat) : Int))) (cond (decide ((0 : Int) ≤ i12) && decide (i12 < ((l11.length : Nat) : Int))) ((iGroup (g13, (nth l11 i12).1, (nth l11 i12).2)).bind fun r16 => ((lsameDots (r16, l11)).bind fun r17 => (cond (!r17) (r false) (cond (decide ((0 : Int) ≤ i12) && decide (i12 < ((l11.length : Nat) : Int))) ((lplace (w10, (nth l11 i12).1, (nth l11 i12).2)).bind fun r18 => (cond (decide (r18 < (0 : Int))) (r false) (cond (decide (i12 > (0 : Int))) (cond (decide ((0 : Int) ≤ (IntKind.wrap .i64 (i12 - (1 : Int)))) && decide ((IntKind.wrap .i64 (i12 - (1 : Int))) < ((l11.length : Nat) : Int))) (cond (decide ((0 : Int) ≤ i12) && decide (i12 < ((l11.length : Nat) : Int))) ((iDotLess (((nth l11 (IntKind.wrap .i64 (i12 - (1 : Int)))).1, (nth l11 (IntKind.wrap .i64 (i12 - (1 : Int)))).2), (nth l11 i12).1, (nth l11 i12).2)).bind fun r19 => (cond (!r19) (r false) (cond (decide ((0 : Int) ≤ i12) && decide (i12 < ((l11.length : Nat) : Int))) (cond (decide ((0 : Int) ≤ i12) && decide (i12 < ((l11.length : Nat) : Int))) ((iDotLess (((nth l11 i12).1, (nth l11 i12).2), (nth l11 i12).1, (nth l11 i12).2)).bind fun r20 => (cond r20 (r false) (lFnGroups_L11 O q (w10, l11, (IntKind.wrap .i64 (i12 + (1 : Int))), g13, d14, d15) x r))) none) none))) none) none) (cond (decide ((0 : Int) ≤ i12) && decide (i12 < ((l11.length : Nat) : Int))) (cond (decide ((0 : Int) ≤ i12) && decide (i12 < ((l11.length : Nat) : Int))) ((iDotLess (((nth l11 i12).1, (nth l11 i12).2), (nth l11 i12).1, (nth l11 i12).2)).bind fun r21 => (cond r21 (r false) (lFnGroups_L11 O q (w10, l11, (IntKind.wrap .i64 (i12 + (1 : Int))), g13, d14, d15) x r))) none) none)))) none)))) none) (x (l11, g13, d14, d15)))
noncomputable def lFnGroups : (List Int) → Option Bool
  | code0 => ((lbig code0).bind fun r1 => (cond r1 (some true) ((sDrawGroup code0).bind fun (r2, r3, r4) => ((iWhole r2).bind fun r5 => ((sWhole r2).bind fun r6 => ((lsameDots (r5, r6)).bind fun r7 => (cond (!r7) (some false) ((iGroup (r2, r3, r4)).bind fun r8 => ((lplace (r5, r3, r4)).bind fun r9 => (cond (decide (r9 < (0 : Int))) (some (((r8.length : Nat) : Int) == (0 : Int))) (lFnGroups_L11 Bool fuel (r5, r8, (0 : Int), r2, r3, r4) (fun (l22, g23, d24, d25) => ((lplace (l22, d24, d25)).bind fun r26 => (cond (decide (r26 ≥ (0 : Int))) ((iGraphOk g23).bind fun r27 => (some r27)) (some false)))) some)))))))))))
noncomputable def c_lFnGroups : Ctr := { args := [.val false (.sl (.int .u8))], rets := [(false, [(none, .bool)])], F := lFnGroups }
noncomputable def X_lFnGroups : Ctx := XT.withΓ (lk [(17, c_lbig), (18, c_sDrawGroup), (19, c_iWhole), (21, c_sWhole), (20, c_lsameDots), (22, c_iGroup), (23, c_lplace), (24, c_iDotLess), (25, c_iGraphOk)]) (lk [])
noncomputable def H_lFnGroups : Hints := ⟨lk [], lk [], lk []⟩
noncomputable def L_lFnGroups_11 : LoopF c_lFnGroups.Res := ⟨⟨92, [(3, .one (.ptr 0 0)), (4, .one (.ptr 1 0)), (5, .one (.val (.sl (.pair (.int .i64) (.int .i64))))), (6, .one (.val (.sl (.pair (.int .i64) (.int .i64))))), (7, .one (.val (.int .i64)))], [.vars 26 [.val (.sl (.pair (.pair (.int .i64) (.int .i64)) (.sl (.pair (.int .i64) (.int .i64)))))], .vars 28 [.val (.int .i64), .val (.int .i64)]], []⟩, [(0, ⟨92, [(3, .one (.ptr 0 0)), (4, .one (.ptr 1 0)), (6, .one (.val (.sl (.pair (.int .i64) (.int .i64)))))], [.vars 26 [.val (.sl (.pair (.pair (.int .i64) (.int .i64)) (.sl (.pair (.int .i64) (.int .i64)))))], .vars 28 [.val (.int .i64), .val (.int .i64)]], []⟩)], lFnGroups_L11⟩
noncomputable def T_lFnGroups : Nat → Option (LoopF c_lFnGroups.Res) := lk [(11, L_lFnGroups_11)]
theorem s_lFnGroups_11 : StepOk X_lFnGroups H_lFnGroups (c_lFnGroups.finish X_lFnGroups Try.f3.results.toList) T_lFnGroups (loopAt Try.f3 0) := ⟨L_lFnGroups_11, by kernel_rfl, fun O y x r => by kernel_rfl, fun O k y x r => by kernel_rfl⟩
theorem r_lFnGroups (a) : fnRun X_lFnGroups H_lFnGroups c_lFnGroups Try.f3 T_lFnGroups a = lFnGroups a := by kernel_rfl
theorem h_lFnGroups : CtrHolds Try.prog 3 c_lFnGroups := fn_ok (.cons h_lbig Try.call17 (.cons h_sDrawGroup Try.call18 (.cons h_iWhole Try.call19 (.cons h_sWhole Try.call21 (.cons h_lsameDots Try.call20 (.cons h_iGroup Try.call22 (.cons h_lplace Try.call23 (.cons h_iDotLess Try.call24 (.cons h_iGraphOk Try.call25 .nil))))))))) .nil (H := H_lFnGroups) (tbl := T_lFnGroups) Try.func3 (by kernel_rfl) (loops1 (by kernel_rfl) s_lFnGroups_11) r_lFnGroups
end Go.Rx
