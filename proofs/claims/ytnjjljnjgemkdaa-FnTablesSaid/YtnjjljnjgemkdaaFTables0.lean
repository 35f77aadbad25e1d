import Derived.Test.YtnjjljnjgemkdaaTab
set_option linter.all false
set_option maxRecDepth 1000000
namespace Go.Rx
open Go.Proofs
/-! 17 lbig -/
noncomputable def lbig : (List Int) → Option Bool
  | code0 => (some (decide (((code0.length : Nat) : Int) > (1048576 : Int))))
noncomputable def c_lbig : Ctr := { args := [.val false (.sl (.int .u8))], rets := [(false, [(none, .bool)])], F := lbig }
noncomputable def X_lbig : Ctx := XT.withΓ (lk []) (lk [])
noncomputable def H_lbig : Hints := ⟨lk [], lk [], lk []⟩
noncomputable def T_lbig : Nat → Option (LoopF c_lbig.Res) := lk []
theorem r_lbig (a) : fnRun X_lbig H_lbig c_lbig Try.f17 T_lbig a = lbig a := by kernel_rfl
theorem h_lbig : CtrHolds Try.prog 17 c_lbig := fn_ok .nil .nil (H := H_lbig) (tbl := T_lbig) Try.func17 (by kernel_rfl) (loops0 (by kernel_rfl)) r_lbig
/-! 77 sl1New -/
noncomputable def sl1New_L3 (O : Type) : Nat → (List Int × Int × Int) → ((List Int × Int) → Option O) → ((List Int × Int × Int) → Option O) → Option O
  | 0, _, _, _ => none
  | q + 1, (code1, h2, i3), x, r => (cond (decide (i3 < ((code1.length : Nat) : Int))) (cond (decide (i3 < (4000 : Int))) (cond (decide ((0 : Int) ≤ i3) && decide (i3 < ((code1.length : Nat) : Int))) (sl1New_L3 O q (code1, (bits .and .i64 (IntKind.wrap .i64 ((IntKind.wrap .i64 ((IntKind.wrap .i64 (h2 * (137 : Int))) + (IntKind.wrap .i64 (nth code1 i3)))) + (11 : Int))) (1073741823 : Int)), (IntKind.wrap .i64 (i3 + (1 : Int)))) x r) none) (x (code1, h2))) (x (code1, h2)))
noncomputable def sl1New : (List Int) → Option (List Int × Int × Int)
  | code0 => (sl1New_L3 (List Int × Int × Int) fuel (code0, (IntKind.wrap .i64 ((281281 : Int) + ((code0.length : Nat) : Int))), (0 : Int)) (fun (code4, h5) => (some (code4, (0 : Int), h5))) some)
noncomputable def c_sl1New : NCtr := { args := [.val false (.sl (.int .u8))], t := 208, cs := [(.sl (.int .u8)), (.int .i64), (.int .i64)], F := sl1New }
noncomputable def X_sl1New : Ctx := XT.withΓ (lk []) (lk [])
noncomputable def H_sl1New : Hints := ⟨lk [], lk [], lk []⟩
noncomputable def L_sl1New_3 : LoopF (Ty.prod c_sl1New.cs).den := ⟨⟨32, [(0, .one (.val (.sl (.int .u8)))), (3, .one (.val (.int .i64))), (4, .one (.val (.int .i64)))], [], []⟩, [(0, ⟨32, [(0, .one (.val (.sl (.int .u8)))), (3, .one (.val (.int .i64)))], [], []⟩)], sl1New_L3⟩
noncomputable def T_sl1New : Nat → Option (LoopF (Ty.prod c_sl1New.cs).den) := lk [(3, L_sl1New_3)]
theorem s_sl1New_3 : StepOk X_sl1New H_sl1New (c_sl1New.fin X_sl1New Try.f77.results.toList) T_sl1New (loopAt Try.f77 0) := ⟨L_sl1New_3, by kernel_rfl, fun O y x r => by kernel_rfl, fun O k y x r => by kernel_rfl⟩
theorem r_sl1New (a) : nRun X_sl1New H_sl1New c_sl1New Try.f77 T_sl1New a = sl1New a := by kernel_rfl
theorem h_sl1New : NHolds Try.prog 77 c_sl1New := nw_ok .nil .nil (H := H_sl1New) (tbl := T_sl1New) Try.func77 (by kernel_rfl) (loops1 (by kernel_rfl) s_sl1New_3) r_sl1New
/-! 226 sl1Byte -/
noncomputable def sl1Byte : (List Int × Int × Int) → Option (Int × List Int × Int × Int)
  | (c0, c1, c2) => (cond (decide (c1 < ((c0.length : Nat) : Int))) (cond (decide ((0 : Int) ≤ c1) && decide (c1 < ((c0.length : Nat) : Int))) (some ((bits .and .i64 (IntKind.wrap .i64 ((bits .and .i64 (bits .xor .i64 (Int.fdiv (IntKind.wrap .i64 ((IntKind.wrap .i64 (c2 * (6364136223846793005 : Int))) + (1442695040888963407 : Int))) (8589934592 : Int)) (Int.fdiv (IntKind.wrap .i64 ((IntKind.wrap .i64 (c2 * (6364136223846793005 : Int))) + (1442695040888963407 : Int))) (140737488355328 : Int))) (255 : Int)) + (IntKind.wrap .i64 (nth c0 c1)))) (255 : Int)), c0, (IntKind.wrap .i64 (c1 + (1 : Int))), (IntKind.wrap .i64 ((IntKind.wrap .i64 (c2 * (6364136223846793005 : Int))) + (1442695040888963407 : Int))))) none) (some ((bits .and .i64 (bits .xor .i64 (Int.fdiv (IntKind.wrap .i64 ((IntKind.wrap .i64 (c2 * (6364136223846793005 : Int))) + (1442695040888963407 : Int))) (8589934592 : Int)) (Int.fdiv (IntKind.wrap .i64 ((IntKind.wrap .i64 (c2 * (6364136223846793005 : Int))) + (1442695040888963407 : Int))) (140737488355328 : Int))) (255 : Int)), c0, c1, (IntKind.wrap .i64 ((IntKind.wrap .i64 (c2 * (6364136223846793005 : Int))) + (1442695040888963407 : Int))))))
noncomputable def c_sl1Byte : Ctr := { args := [.ref 208 [(none, (.sl (.int .u8))), (none, (.int .i64)), (none, (.int .i64))]], rets := [(false, [(none, (.int .i64))])], F := sl1Byte }
noncomputable def X_sl1Byte : Ctx := XT.withΓ (lk []) (lk [])
noncomputable def H_sl1Byte : Hints := ⟨lk [], lk [], lk []⟩
noncomputable def T_sl1Byte : Nat → Option (LoopF c_sl1Byte.Res) := lk []
theorem r_sl1Byte (a) : fnRun X_sl1Byte H_sl1Byte c_sl1Byte Try.f226 T_sl1Byte a = sl1Byte a := by kernel_rfl
theorem h_sl1Byte : CtrHolds Try.prog 226 c_sl1Byte := fn_ok .nil .nil (H := H_sl1Byte) (tbl := T_sl1Byte) Try.func226 (by kernel_rfl) (loops0 (by kernel_rfl)) r_sl1Byte
/-! 187 sl1Below -/
noncomputable def sl1Below : ((List Int × Int × Int) × Int) → Option (Int × List Int × Int × Int)
  | ((c0, c1, c2), n3) => (cond (decide (n3 ≤ (0 : Int))) (some ((0 : Int), c0, c1, c2)) (cond (decide (n3 ≤ (256 : Int))) ((sl1Byte (c0, c1, c2)).bind fun (r4, r5, r6, r7) => (cond (n3 == (0 : Int)) none (some ((Int.tmod r4 n3), r5, r6, r7)))) ((sl1Byte (c0, c1, c2)).bind fun (r8, r9, r10, r11) => ((sl1Byte (r9, r10, r11)).bind fun (r12, r13, r14, r15) => ((sl1Byte (r13, r14, r15)).bind fun (r16, r17, r18, r19) => (cond (n3 == (0 : Int)) none (some ((Int.tmod (IntKind.wrap .i64 ((IntKind.wrap .i64 ((IntKind.wrap .i64 (r8 * (65536 : Int))) + (IntKind.wrap .i64 (r12 * (256 : Int))))) + r16)) n3), r17, r18, r19))))))))
noncomputable def c_sl1Below : Ctr := { args := [.ref 208 [(none, (.sl (.int .u8))), (none, (.int .i64)), (none, (.int .i64))], .val false (.int .i64)], rets := [(false, [(none, (.int .i64))])], F := sl1Below }
noncomputable def X_sl1Below : Ctx := XT.withΓ (lk [(226, c_sl1Byte)]) (lk [])
noncomputable def H_sl1Below : Hints := ⟨lk [], lk [], lk []⟩
noncomputable def T_sl1Below : Nat → Option (LoopF c_sl1Below.Res) := lk []
theorem r_sl1Below (a) : fnRun X_sl1Below H_sl1Below c_sl1Below Try.f187 T_sl1Below a = sl1Below a := by kernel_rfl
theorem h_sl1Below : CtrHolds Try.prog 187 c_sl1Below := fn_ok (.cons h_sl1Byte Try.call226 .nil) .nil (H := H_sl1Below) (tbl := T_sl1Below) Try.func187 (by kernel_rfl) (loops0 (by kernel_rfl)) r_sl1Below
/-! 241 sl1Str -/
noncomputable def sl1Str : ((List Int × Int × Int) × List (List UInt8)) → Option (List UInt8 × List Int × Int × Int)
  | ((c0, c1, c2), list3) => ((sl1Below ((c0, c1, c2), ((list3.length : Nat) : Int))).bind fun (r4, r5, r6, r7) => (cond (decide ((0 : Int) ≤ r4) && decide (r4 < ((list3.length : Nat) : Int))) (some ((nth list3 r4), r5, r6, r7)) none))
noncomputable def c_sl1Str : Ctr := { args := [.ref 208 [(none, (.sl (.int .u8))), (none, (.int .i64)), (none, (.int .i64))], .val false (.sl .str)], rets := [(false, [(none, .str)])], F := sl1Str }
noncomputable def X_sl1Str : Ctx := XT.withΓ (lk [(187, c_sl1Below)]) (lk [])
noncomputable def H_sl1Str : Hints := ⟨lk [], lk [], lk []⟩
noncomputable def T_sl1Str : Nat → Option (LoopF c_sl1Str.Res) := lk []
theorem r_sl1Str (a) : fnRun X_sl1Str H_sl1Str c_sl1Str Try.f241 T_sl1Str a = sl1Str a := by kernel_rfl
theorem h_sl1Str : CtrHolds Try.prog 241 c_sl1Str := fn_ok (.cons h_sl1Below Try.call187 .nil) .nil (H := H_sl1Str) (tbl := T_sl1Str) Try.func241 (by kernel_rfl) (loops0 (by kernel_rfl)) r_sl1Str
/-! 240 sl4Key -/
noncomputable def sl4Key : (List Int × Int × Int) → Option (List UInt8 × List Int × Int × Int)
  | (c0, c1, c2) => ((sl1Str ((c0, c1, c2), [[97], [97, 98], [97, 98, 99], [98], [98, 97], [99], [100], [107, 101, 121, 49], [107, 101, 121, 49, 48], [107, 101, 121, 50], [122]])).bind fun (r3, r4, r5, r6) => (some (r3, r4, r5, r6)))
noncomputable def c_sl4Key : Ctr := { args := [.ref 208 [(none, (.sl (.int .u8))), (none, (.int .i64)), (none, (.int .i64))]], rets := [(false, [(none, .str)])], F := sl4Key }
noncomputable def X_sl4Key : Ctx := XT.withΓ (lk [(241, c_sl1Str)]) (lk [])
noncomputable def H_sl4Key : Hints := ⟨lk [], lk [], lk []⟩
noncomputable def T_sl4Key : Nat → Option (LoopF c_sl4Key.Res) := lk []
theorem r_sl4Key (a) : fnRun X_sl4Key H_sl4Key c_sl4Key Try.f240 T_sl4Key a = sl4Key a := by kernel_rfl
theorem h_sl4Key : CtrHolds Try.prog 240 c_sl4Key := fn_ok (.cons h_sl1Str Try.call241 .nil) .nil (H := H_sl4Key) (tbl := T_sl4Key) Try.func240 (by kernel_rfl) (loops0 (by kernel_rfl)) r_sl4Key
/-! 185 sl1Once -/
noncomputable def sl1Once : ((List Int × Int × Int) × Int) → Option (Bool × List Int × Int × Int)
  | ((c0, c1, c2), n3) => ((sl1Below ((c0, c1, c2), n3)).bind fun (r4, r5, r6, r7) => (some ((r4 == (0 : Int)), r5, r6, r7)))
noncomputable def c_sl1Once : Ctr := { args := [.ref 208 [(none, (.sl (.int .u8))), (none, (.int .i64)), (none, (.int .i64))], .val false (.int .i64)], rets := [(false, [(none, .bool)])], F := sl1Once }
noncomputable def X_sl1Once : Ctx := XT.withΓ (lk [(187, c_sl1Below)]) (lk [])
noncomputable def H_sl1Once : Hints := ⟨lk [], lk [], lk []⟩
noncomputable def T_sl1Once : Nat → Option (LoopF c_sl1Once.Res) := lk []
theorem r_sl1Once (a) : fnRun X_sl1Once H_sl1Once c_sl1Once Try.f185 T_sl1Once a = sl1Once a := by kernel_rfl
theorem h_sl1Once : CtrHolds Try.prog 185 c_sl1Once := fn_ok (.cons h_sl1Below Try.call187 .nil) .nil (H := H_sl1Once) (tbl := T_sl1Once) Try.func185 (by kernel_rfl) (loops0 (by kernel_rfl)) r_sl1Once
/-! 228 sl4Pair -/
noncomputable def sl4Pair : (List Int × Int × Int) → Option ((List UInt8 × List UInt8 × Bool) × List Int × Int × Int)
  | (c0, c1, c2) => ((sl4Key (c0, c1, c2)).bind fun (r3, r4, r5, r6) => ((sl1Once ((r4, r5, r6), (5 : Int))).bind fun (r7, r8, r9, r10) => (cond (!r7) ((sl1Str ((r8, r9, r10), [[], [49], [50], [120, 121, 122], [0]])).bind fun (r11, r12, r13, r14) => (some ((r3, r11, r7), r12, r13, r14))) (some ((r3, [], r7), r8, r9, r10)))))
noncomputable def c_sl4Pair : Ctr := { args := [.ref 208 [(none, (.sl (.int .u8))), (none, (.int .i64)), (none, (.int .i64))]], rets := [(true, [(none, .str), (none, .str), (none, .bool)])], F := sl4Pair }
noncomputable def X_sl4Pair : Ctx := XT.withΓ (lk [(240, c_sl4Key), (185, c_sl1Once), (241, c_sl1Str)]) (lk [])
noncomputable def H_sl4Pair : Hints := ⟨lk [], lk [], lk []⟩
noncomputable def T_sl4Pair : Nat → Option (LoopF c_sl4Pair.Res) := lk []
theorem r_sl4Pair (a) : fnRun X_sl4Pair H_sl4Pair c_sl4Pair Try.f228 T_sl4Pair a = sl4Pair a := by kernel_rfl
theorem h_sl4Pair : CtrHolds Try.prog 228 c_sl4Pair := fn_ok (.cons h_sl4Key Try.call240 (.cons h_sl1Once Try.call185 (.cons h_sl1Str Try.call241 .nil))) .nil (H := H_sl4Pair) (tbl := T_sl4Pair) Try.func228 (by kernel_rfl) (loops0 (by kernel_rfl)) r_sl4Pair
/-! 122 sl1In -/
noncomputable def sl1In : (Int × Int × Int) → Option Bool
  | (x0, least1, most2) => (cond (decide (x0 ≥ least1)) (some (decide (x0 ≤ most2))) (some false))
noncomputable def c_sl1In : Ctr := { args := [.val false (.int .i64), .val false (.int .i64), .val false (.int .i64)], rets := [(false, [(none, .bool)])], F := sl1In }
noncomputable def X_sl1In : Ctx := XT.withΓ (lk []) (lk [])
noncomputable def H_sl1In : Hints := ⟨lk [], lk [], lk []⟩
noncomputable def T_sl1In : Nat → Option (LoopF c_sl1In.Res) := lk []
theorem r_sl1In (a) : fnRun X_sl1In H_sl1In c_sl1In Try.f122 T_sl1In a = sl1In a := by kernel_rfl
theorem h_sl1In : CtrHolds Try.prog 122 c_sl1In := fn_ok .nil .nil (H := H_sl1In) (tbl := T_sl1In) Try.func122 (by kernel_rfl) (loops0 (by kernel_rfl)) r_sl1In
/-! 209 sPairOk -/
noncomputable def sPairOk : (List UInt8 × List UInt8 × Bool) → Option Bool
  | (p0, p1, p2) => ((sl1In (((p0.length : Nat) : Int), (1 : Int), (20 : Int))).bind fun r3 => (cond r3 (cond (decide (((p1.length : Nat) : Int) ≤ (20 : Int))) (cond (!p2) (some true) (some (p1 == []))) (some false)) (some false)))
noncomputable def c_sPairOk : Ctr := { args := [.val true (.pair .str (.pair .str .bool))], rets := [(false, [(none, .bool)])], F := sPairOk }
noncomputable def X_sPairOk : Ctx := XT.withΓ (lk [(122, c_sl1In)]) (lk [])
noncomputable def H_sPairOk : Hints := ⟨lk [], lk [], lk []⟩
noncomputable def T_sPairOk : Nat → Option (LoopF c_sPairOk.Res) := lk []
theorem r_sPairOk (a) : fnRun X_sPairOk H_sPairOk c_sPairOk Try.f209 T_sPairOk a = sPairOk a := by kernel_rfl
theorem h_sPairOk : CtrHolds Try.prog 209 c_sPairOk := fn_ok (.cons h_sl1In Try.call122 .nil) .nil (H := H_sPairOk) (tbl := T_sPairOk) Try.func209 (by kernel_rfl) (loops0 (by kernel_rfl)) r_sPairOk
/-! 239 sMemOk -/
noncomputable def sMemOk_L2 (O : Type) : Nat → (Int × List ((List UInt8 × List UInt8 × Bool) × Int)) → ((List ((List UInt8 × List UInt8 × Bool) × Int)) → Option O) → (Bool → Option O) → Option O
  | 0, _, _, _ => none
  | q + 1, (i1, m2), x, r => (cond (decide (i1 < ((m2.length : Nat) : Int))) (cond (decide ((0 : Int) ≤ i1) && decide (i1 < ((m2.length : Nat) : Int))) ((sPairOk ((nth m2 i1).1.1, (nth m2 i1).1.2.1, (nth m2 i1).1.2.2)).bind fun r3 => (cond (!r3) (r false) ((sl1In ((nth m2 i1).2, (1 : Int), (4 : Int))).bind fun r4 => (cond (!r4) (r false) (cond (decide (i1 > (0 : Int))) (cond (decide ((0 : Int) ≤ (IntKind.wrap .i64 (i1 - (1 : Int)))) && decide ((IntKind.wrap .i64 (i1 - (1 : Int))) < ((m2.length : Nat) : Int))) (cond (!(Op.bytesLess (nth m2 (IntKind.wrap .i64 (i1 - (1 : Int)))).1.1 (nth m2 i1).1.1)) (r false) (sMemOk_L2 O q ((IntKind.wrap .i64 (i1 + (1 : Int))), m2) x r)) none) (sMemOk_L2 O q ((IntKind.wrap .i64 (i1 + (1 : Int))), m2) x r)))))) none) (x m2))
noncomputable def sMemOk : (List ((List UInt8 × List UInt8 × Bool) × Int)) → Option Bool
  | m0 => (sMemOk_L2 Bool fuel ((0 : Int), m0) (fun m5 => (some (decide (((m5.length : Nat) : Int) ≤ (60 : Int))))) some)
noncomputable def c_sMemOk : Ctr := { args := [.val true (.sl (.pair (.pair .str (.pair .str .bool)) (.int .i64)))], rets := [(false, [(none, .bool)])], F := sMemOk }
noncomputable def X_sMemOk : Ctx := XT.withΓ (lk [(209, c_sPairOk), (122, c_sl1In)]) (lk [])
noncomputable def H_sMemOk : Hints := ⟨lk [], lk [], lk []⟩
noncomputable def L_sMemOk_2 : LoopF c_sMemOk.Res := ⟨⟨49, [(1, .one (.ptr 0 0)), (3, .one (.val (.int .i64)))], [.vars 220 [.val (.sl (.pair (.pair .str (.pair .str .bool)) (.int .i64)))]], []⟩, [(0, ⟨49, [(1, .one (.ptr 0 0))], [.vars 220 [.val (.sl (.pair (.pair .str (.pair .str .bool)) (.int .i64)))]], []⟩)], sMemOk_L2⟩
noncomputable def T_sMemOk : Nat → Option (LoopF c_sMemOk.Res) := lk [(2, L_sMemOk_2)]
theorem s_sMemOk_2 : StepOk X_sMemOk H_sMemOk (c_sMemOk.finish X_sMemOk Try.f239.results.toList) T_sMemOk (loopAt Try.f239 0) := ⟨L_sMemOk_2, by kernel_rfl, fun O y x r => by kernel_rfl, fun O k y x r => by kernel_rfl⟩
theorem r_sMemOk (a) : fnRun X_sMemOk H_sMemOk c_sMemOk Try.f239 T_sMemOk a = sMemOk a := by kernel_rfl
theorem h_sMemOk : CtrHolds Try.prog 239 c_sMemOk := fn_ok (.cons h_sPairOk Try.call209 (.cons h_sl1In Try.call122 .nil)) .nil (H := H_sMemOk) (tbl := T_sMemOk) Try.func239 (by kernel_rfl) (loops1 (by kernel_rfl) s_sMemOk_2) r_sMemOk
/-! 227 sMemPut -/
noncomputable def sMemPut_L5 (O : Type) : Nat → (Int × Int × List UInt8 × List UInt8 × Bool × List ((List UInt8 × List UInt8 × Bool) × Int)) → ((Int × Int × List UInt8 × List UInt8 × Bool × List ((List UInt8 × List UInt8 × Bool) × Int)) → Option O) → ((List ((List UInt8 × List UInt8 × Bool) × Int) × Bool) → Option O) → Option O
  | 0, _, _, _ => none
  | q + 1, (tower8, k9, p10, p11, p12, out13), x, r => (cond (decide (k9 < ((out13.length : Nat) : Int))) (cond (decide ((0 : Int) ≤ k9) && decide (k9 < ((out13.length : Nat) : Int))) (cond (Op.bytesLess (nth out13 k9).1.1 p10) (sMemPut_L5 O q (tower8, (IntKind.wrap .i64 (k9 + (1 : Int))), p10, p11, p12, out13) x r) (x (tower8, k9, p10, p11, p12, out13))) none) (x (tower8, k9, p10, p11, p12, out13)))
noncomputable def sMemPut : (List ((List UInt8 × List UInt8 × Bool) × Int) × (List UInt8 × List UInt8 × Bool) × Int) → Option (List ((List UInt8 × List UInt8 × Bool) × Int) × Bool)
  | (m0, (p1, p2, p3), tower4) => (cond (decide ((0 + m0.length) ≤ lenBound)) ((sMemOk m0).bind fun r5 => (cond (!r5) (some (([] ++ m0), false)) ((sPairOk (p1, p2, p3)).bind fun r6 => (cond (!r6) (some (([] ++ m0), false)) ((sl1In (tower4, (1 : Int), (4 : Int))).bind fun r7 => (cond (!r7) (some (([] ++ m0), false)) (sMemPut_L5 (List ((List UInt8 × List UInt8 × Bool) × Int) × Bool) fuel (tower4, (0 : Int), p1, p2, p3, ([] ++ m0)) (fun (tower14, k15, p16, p17, p18, out19) => ((cond (decide (k15 < ((out19.length : Nat) : Int))) (cond (decide ((0 : Int) ≤ k15) && decide (k15 < ((out19.length : Nat) : Int))) (some (tower14, k15, ((nth out19 k15).1.1 == p16), p16, p17, p18, out19)) none) (some (tower14, k15, false, p16, p17, p18, out19))).bind fun (tower20, k21, v22, p23, p24, p25, out26) => (cond v22 (cond (decide ((0 : Int) ≤ k21) && decide (k21 < ((out26.length : Nat) : Int))) (some ((List.set out26 (Int.toNat k21) ((p23, p24, p25), (nth out26 k21).2)), true)) none) (cond (((out26.length : Nat) : Int) == (60 : Int)) (some (out26, false)) (cond (decide ((0 : Int) ≤ k21) && decide (k21 ≤ ((out26.length : Nat) : Int))) (cond (decide ((0 + (cut out26 (0 : Int) k21).length) ≤ lenBound)) (cond (decide ((([] ++ (cut out26 (0 : Int) k21)).length + [((p23, p24, p25), tower20)].length) ≤ lenBound)) (cond (decide ((0 : Int) ≤ k21) && (decide (k21 ≤ ((out26.length : Nat) : Int)) && decide (((out26.length : Nat) : Int) ≤ ((out26.length : Nat) : Int)))) (cond (decide (((([] ++ (cut out26 (0 : Int) k21)) ++ [((p23, p24, p25), tower20)]).length + (cut out26 k21 ((out26.length : Nat) : Int)).length) ≤ lenBound)) (some (((([] ++ (cut out26 (0 : Int) k21)) ++ [((p23, p24, p25), tower20)]) ++ (cut out26 k21 ((out26.length : Nat) : Int))), true)) none) none) none) none) none))))) some))))))) none)
noncomputable def c_sMemPut : Ctr := { args := [.val true (.sl (.pair (.pair .str (.pair .str .bool)) (.int .i64))), .val true (.pair .str (.pair .str .bool)), .val false (.int .i64)], rets := [(true, [(some 223, (.sl (.pair (.pair .str (.pair .str .bool)) (.int .i64))))]), (false, [(none, .bool)])], F := sMemPut }
noncomputable def X_sMemPut : Ctx := XT.withΓ (lk [(239, c_sMemOk), (209, c_sPairOk), (122, c_sl1In)]) (lk [])
noncomputable def H_sMemPut : Hints := ⟨lk [(8, ⟨97, [(2, .one (.val (.int .i64))), (4, .one (.ptr 0 0)), (6, .one (.ptr 1 0)), (8, .one (.ptr 2 0)), (9, .one (.val (.int .i64))), (65, .one (.val .bool))], [.vars 49 [.val .str, .val .str, .val .bool], .vars 220 [.nils], .vars 220 [.own 3], .arr 223 (.pair (.pair .str (.pair .str .bool)) (.int .i64))], []⟩)], lk [], lk []⟩
noncomputable def L_sMemPut_5 : LoopF c_sMemPut.Res := ⟨⟨97, [(2, .one (.val (.int .i64))), (4, .one (.ptr 0 0)), (6, .one (.ptr 1 0)), (8, .one (.ptr 2 0)), (9, .one (.val (.int .i64)))], [.vars 49 [.val .str, .val .str, .val .bool], .vars 220 [.nils], .vars 220 [.own 3], .arr 223 (.pair (.pair .str (.pair .str .bool)) (.int .i64))], []⟩, [(0, ⟨97, [(2, .one (.val (.int .i64))), (4, .one (.ptr 0 0)), (6, .one (.ptr 1 0)), (8, .one (.ptr 2 0)), (9, .one (.val (.int .i64)))], [.vars 49 [.val .str, .val .str, .val .bool], .vars 220 [.nils], .vars 220 [.own 3], .arr 223 (.pair (.pair .str (.pair .str .bool)) (.int .i64))], []⟩)], sMemPut_L5⟩
noncomputable def T_sMemPut : Nat → Option (LoopF c_sMemPut.Res) := lk [(5, L_sMemPut_5)]
theorem s_sMemPut_5 : StepOk X_sMemPut H_sMemPut (c_sMemPut.finish X_sMemPut Try.f227.results.toList) T_sMemPut (loopAt Try.f227 0) := ⟨L_sMemPut_5, by kernel_rfl, fun O y x r => by kernel_rfl, fun O k y x r => by kernel_rfl⟩
theorem r_sMemPut (a) : fnRun X_sMemPut H_sMemPut c_sMemPut Try.f227 T_sMemPut a = sMemPut a := by kernel_rfl
theorem h_sMemPut : CtrHolds Try.prog 227 c_sMemPut := fn_ok (.cons h_sMemOk Try.call239 (.cons h_sPairOk Try.call209 (.cons h_sl1In Try.call122 .nil))) .nil (H := H_sMemPut) (tbl := T_sMemPut) Try.func227 (by kernel_rfl) (loops1 (by kernel_rfl) s_sMemPut_5) r_sMemPut
/-! 194 sl4Draw -/
noncomputable def sl4Draw_L3 (O : Type) : Nat → (Int × List Int × Int × Int × List ((List UInt8 × List UInt8 × Bool) × Int)) → ((List Int × Int × Int × List ((List UInt8 × List UInt8 × Bool) × Int)) → Option O) → ((List ((List UInt8 × List UInt8 × Bool) × Int) × List Int × Int × Int) → Option O) → Option O
  | 0, _, _, _ => none
  | q + 1, (i8, c9, c10, c11, m12), x, r => (cond (decide (i8 > (0 : Int))) ((sl4Pair (c9, c10, c11)).bind fun ((r13, r14, r15), r16, r17, r18) => ((sl1Below ((r16, r17, r18), (4 : Int))).bind fun (r19, r20, r21, r22) => ((sMemPut (m12, (r13, r14, r15), (IntKind.wrap .i64 ((1 : Int) + r19)))).bind fun (r23, r24) => (sl4Draw_L3 O q ((IntKind.wrap .i64 (i8 - (1 : Int))), r20, r21, r22, r23) x r)))) (x (c9, c10, c11, m12)))
noncomputable def sl4Draw : ((List Int × Int × Int) × Int) → Option (List ((List UInt8 × List UInt8 × Bool) × Int) × List Int × Int × Int)
  | ((c0, c1, c2), most3) => ((sl1Below ((c0, c1, c2), most3)).bind fun (r4, r5, r6, r7) => (sl4Draw_L3 (List ((List UInt8 × List UInt8 × Bool) × Int) × List Int × Int × Int) fuel (r4, r5, r6, r7, []) (fun (b25, b26, b27, m28) => (some (m28, b25, b26, b27))) some))
noncomputable def c_sl4Draw : Ctr := { args := [.ref 208 [(none, (.sl (.int .u8))), (none, (.int .i64)), (none, (.int .i64))], .val false (.int .i64)], rets := [(true, [(some 223, (.sl (.pair (.pair .str (.pair .str .bool)) (.int .i64))))])], F := sl4Draw }
noncomputable def X_sl4Draw : Ctx := XT.withΓ (lk [(187, c_sl1Below), (228, c_sl4Pair), (227, c_sMemPut)]) (lk [])
noncomputable def H_sl4Draw : Hints := ⟨lk [], lk [], lk [(5, [1, 2, 3, 4, 5, 0, 6, 7, 8, 9, 10])]⟩
noncomputable def L_sl4Draw_3 : LoopF c_sl4Draw.Res := ⟨⟨26, [(0, .one (.ptr 0 0)), (4, .one (.ptr 1 0)), (5, .one (.ptr 2 0)), (6, .one (.val (.int .i64)))], [.vars 208 [.val (.sl (.int .u8)), .val (.int .i64), .val (.int .i64)], .vars 220 [.nils], .vars 220 [.own 3], .arr 223 (.pair (.pair .str (.pair .str .bool)) (.int .i64))], [0]⟩, [(0, ⟨26, [(4, .one (.ptr 1 0)), (5, .one (.ptr 2 0))], [.vars 208 [.val (.sl (.int .u8)), .val (.int .i64), .val (.int .i64)], .vars 220 [.nils], .vars 220 [.own 3], .arr 223 (.pair (.pair .str (.pair .str .bool)) (.int .i64))], [0]⟩)], sl4Draw_L3⟩
noncomputable def T_sl4Draw : Nat → Option (LoopF c_sl4Draw.Res) := lk [(3, L_sl4Draw_3)]
theorem s_sl4Draw_3 : StepOk X_sl4Draw H_sl4Draw (c_sl4Draw.finish X_sl4Draw Try.f194.results.toList) T_sl4Draw (loopAt Try.f194 0) := ⟨L_sl4Draw_3, by kernel_rfl, fun O y x r => by kernel_rfl, fun O k y x r => by kernel_rfl⟩
theorem r_sl4Draw (a) : fnRun X_sl4Draw H_sl4Draw c_sl4Draw Try.f194 T_sl4Draw a = sl4Draw a := by kernel_rfl
theorem h_sl4Draw : CtrHolds Try.prog 194 c_sl4Draw := fn_ok (.cons h_sl1Below Try.call187 (.cons h_sl4Pair Try.call228 (.cons h_sMemPut Try.call227 .nil))) .nil (H := H_sl4Draw) (tbl := T_sl4Draw) Try.func194 (by kernel_rfl) (loops1 (by kernel_rfl) s_sl4Draw_3) r_sl4Draw
/-! 90 sl4List -/
noncomputable def sl4List_L4 (O : Type) : Nat → (Int × List Int × Int × Int × List (List UInt8 × List UInt8 × Bool) × List ((List UInt8 × List UInt8 × Bool) × Int)) → ((List Int × Int × Int × List (List UInt8 × List UInt8 × Bool)) → Option O) → ((List (List UInt8 × List UInt8 × Bool) × List Int × Int × Int) → Option O) → Option O
  | 0, _, _, _ => none
  | q + 1, (i8, b9, b10, b11, out12, m13), x, r => (cond (decide (i8 < ((m13.length : Nat) : Int))) (cond (decide ((0 : Int) ≤ i8) && decide (i8 < ((m13.length : Nat) : Int))) (cond (decide ((out12.length + [((nth m13 i8).1.1, (nth m13 i8).1.2.1, (nth m13 i8).1.2.2)].length) ≤ lenBound)) (sl4List_L4 O q ((IntKind.wrap .i64 (i8 + (1 : Int))), b9, b10, b11, (out12 ++ [((nth m13 i8).1.1, (nth m13 i8).1.2.1, (nth m13 i8).1.2.2)]), m13) x r) none) none) (x (b9, b10, b11, out12)))
noncomputable def sl4List : ((List Int × Int × Int) × Int) → Option (List (List UInt8 × List UInt8 × Bool) × List Int × Int × Int)
  | ((c0, c1, c2), most3) => ((sl4Draw ((c0, c1, c2), most3)).bind fun (r4, r5, r6, r7) => (sl4List_L4 (List (List UInt8 × List UInt8 × Bool) × List Int × Int × Int) fuel ((0 : Int), r5, r6, r7, [], r4) (fun (b14, b15, b16, out17) => (some (out17, b14, b15, b16))) some))
noncomputable def c_sl4List : Ctr := { args := [.ref 208 [(none, (.sl (.int .u8))), (none, (.int .i64)), (none, (.int .i64))], .val false (.int .i64)], rets := [(false, [(some 49, (.sl (.pair .str (.pair .str .bool))))])], F := sl4List }
noncomputable def X_sl4List : Ctx := XT.withΓ (lk [(194, c_sl4Draw)]) (lk [])
noncomputable def H_sl4List : Hints := ⟨lk [], lk [], lk []⟩
noncomputable def L_sl4List_4 : LoopF c_sl4List.Res := ⟨⟨29, [(5, .one (.own 1)), (6, .one (.ptr 2 0)), (7, .one (.val (.int .i64)))], [.vars 208 [.val (.sl (.int .u8)), .val (.int .i64), .val (.int .i64)], .arr 49 (.pair .str (.pair .str .bool)), .vars 220 [.own 3], .arr 223 (.pair (.pair .str (.pair .str .bool)) (.int .i64))], [0]⟩, [(0, ⟨29, [(5, .one (.own 1))], [.vars 208 [.val (.sl (.int .u8)), .val (.int .i64), .val (.int .i64)], .arr 49 (.pair .str (.pair .str .bool))], [0]⟩)], sl4List_L4⟩
noncomputable def T_sl4List : Nat → Option (LoopF c_sl4List.Res) := lk [(4, L_sl4List_4)]
theorem s_sl4List_4 : StepOk X_sl4List H_sl4List (c_sl4List.finish X_sl4List Try.f90.results.toList) T_sl4List (loopAt Try.f90 0) := ⟨L_sl4List_4, by kernel_rfl, fun O y x r => by kernel_rfl, fun O k y x r => by kernel_rfl⟩
theorem r_sl4List (a) : fnRun X_sl4List H_sl4List c_sl4List Try.f90 T_sl4List a = sl4List a := by kernel_rfl
theorem h_sl4List : CtrHolds Try.prog 90 c_sl4List := fn_ok (.cons h_sl4Draw Try.call194 .nil) .nil (H := H_sl4List) (tbl := T_sl4List) Try.func90 (by kernel_rfl) (loops1 (by kernel_rfl) s_sl4List_4) r_sl4List
/-! 29 sDrawPairs -/
noncomputable def sDrawPairs : (List Int) → Option (List (List UInt8 × List UInt8 × Bool))
  | code0 => ((sl1New code0).bind fun (r1, r2, r3) => ((sl4List ((r1, r2, r3), (14 : Int))).bind fun (r4, r5, r6, r7) => (cond (((r4.length : Nat) : Int) == (0 : Int)) (some [([107], [118], false)]) (some r4))))
noncomputable def c_sDrawPairs : Ctr := { args := [.val false (.sl (.int .u8))], rets := [(false, [(some 49, (.sl (.pair .str (.pair .str .bool))))])], F := sDrawPairs }
noncomputable def X_sDrawPairs : Ctx := XT.withΓ (lk [(90, c_sl4List)]) (lk [(77, c_sl1New)])
noncomputable def H_sDrawPairs : Hints := ⟨lk [], lk [], lk []⟩
noncomputable def T_sDrawPairs : Nat → Option (LoopF c_sDrawPairs.Res) := lk []
theorem r_sDrawPairs (a) : fnRun X_sDrawPairs H_sDrawPairs c_sDrawPairs Try.f29 T_sDrawPairs a = sDrawPairs a := by kernel_rfl
theorem h_sDrawPairs : CtrHolds Try.prog 29 c_sDrawPairs := fn_ok (.cons h_sl4List Try.call90 .nil) (.cons h_sl1New Try.call77 .nil) (H := H_sDrawPairs) (tbl := T_sDrawPairs) Try.func29 (by kernel_rfl) (loops0 (by kernel_rfl)) r_sDrawPairs
/-! 91 iin -/
noncomputable def iin : (Int × Int × Int) → Option Bool
  | (n0, low1, high2) => (cond (decide (n0 ≥ low1)) (some (decide (n0 ≤ high2))) (some false))
noncomputable def c_iin : Ctr := { args := [.val false (.int .i64), .val false (.int .i64), .val false (.int .i64)], rets := [(false, [(none, .bool)])], F := iin }
noncomputable def X_iin : Ctx := XT.withΓ (lk []) (lk [])
noncomputable def H_iin : Hints := ⟨lk [], lk [], lk []⟩
noncomputable def T_iin : Nat → Option (LoopF c_iin.Res) := lk []
theorem r_iin (a) : fnRun X_iin H_iin c_iin Try.f91 T_iin a = iin a := by kernel_rfl
theorem h_iin : CtrHolds Try.prog 91 c_iin := fn_ok .nil .nil (H := H_iin) (tbl := T_iin) Try.func91 (by kernel_rfl) (loops0 (by kernel_rfl)) r_iin
/-! 214 ikeyOk -/
noncomputable def ikeyOk : (List UInt8) → Option Bool
  | s0 => ((iin (((s0.length : Nat) : Int), (1 : Int), (20 : Int))).bind fun r1 => (some r1))
noncomputable def c_ikeyOk : Ctr := { args := [.val false .str], rets := [(false, [(none, .bool)])], F := ikeyOk }
noncomputable def X_ikeyOk : Ctx := XT.withΓ (lk [(91, c_iin)]) (lk [])
noncomputable def H_ikeyOk : Hints := ⟨lk [], lk [], lk []⟩
noncomputable def T_ikeyOk : Nat → Option (LoopF c_ikeyOk.Res) := lk []
theorem r_ikeyOk (a) : fnRun X_ikeyOk H_ikeyOk c_ikeyOk Try.f214 T_ikeyOk a = ikeyOk a := by kernel_rfl
theorem h_ikeyOk : CtrHolds Try.prog 214 c_ikeyOk := fn_ok (.cons h_iin Try.call91 .nil) .nil (H := H_ikeyOk) (tbl := T_ikeyOk) Try.func214 (by kernel_rfl) (loops0 (by kernel_rfl)) r_ikeyOk
/-! 195 iPairOk -/
noncomputable def iPairOk : (List UInt8 × List UInt8 × Bool) → Option Bool
  | (p0, p1, p2) => ((ikeyOk p0).bind fun r3 => (cond r3 (cond (decide (((p1.length : Nat) : Int) ≤ (20 : Int))) (cond (!p2) (some true) (some (p1 == []))) (some false)) (some false)))
noncomputable def c_iPairOk : Ctr := { args := [.val true (.pair .str (.pair .str .bool))], rets := [(false, [(none, .bool)])], F := iPairOk }
noncomputable def X_iPairOk : Ctx := XT.withΓ (lk [(214, c_ikeyOk)]) (lk [])
noncomputable def H_iPairOk : Hints := ⟨lk [], lk [], lk []⟩
noncomputable def T_iPairOk : Nat → Option (LoopF c_iPairOk.Res) := lk []
theorem r_iPairOk (a) : fnRun X_iPairOk H_iPairOk c_iPairOk Try.f195 T_iPairOk a = iPairOk a := by kernel_rfl
theorem h_iPairOk : CtrHolds Try.prog 195 c_iPairOk := fn_ok (.cons h_ikeyOk Try.call214 .nil) .nil (H := H_iPairOk) (tbl := T_iPairOk) Try.func195 (by kernel_rfl) (loops0 (by kernel_rfl)) r_iPairOk
/-! 92 irising -/
noncomputable def irising_L2 (O : Type) : Nat → (List (List UInt8 × List UInt8 × Bool) × List (List UInt8 × List UInt8 × Bool) × Int × Int) → (Unit → Option O) → (Bool → Option O) → Option O
  | 0, _, _, _ => none
  | q + 1, (l1, v2, v3, v4), x, r => (cond (decide (v4 < v3)) (cond (decide ((0 : Int) ≤ v4) && decide (v4 < ((v2.length : Nat) : Int))) ((iPairOk ((nth v2 v4).1, (nth v2 v4).2.1, (nth v2 v4).2.2)).bind fun r5 => (cond (!r5) (r false) (cond (decide (v4 > (0 : Int))) (cond (decide ((0 : Int) ≤ (IntKind.wrap .i64 (v4 - (1 : Int)))) && decide ((IntKind.wrap .i64 (v4 - (1 : Int))) < ((l1.length : Nat) : Int))) (cond (!(Op.bytesLess (nth l1 (IntKind.wrap .i64 (v4 - (1 : Int)))).1 (nth v2 v4).1)) (r false) (irising_L2 O q (l1, v2, v3, (IntKind.wrap .i64 (v4 + (1 : Int)))) x r)) none) (irising_L2 O q (l1, v2, v3, (IntKind.wrap .i64 (v4 + (1 : Int)))) x r)))) none) (x ()))
noncomputable def irising : (List (List UInt8 × List UInt8 × Bool)) → Option Bool
  | l0 => (irising_L2 Bool fuel (l0, l0, ((l0.length : Nat) : Int), (0 : Int)) (fun _ => (some true)) some)
noncomputable def c_irising : Ctr := { args := [.val false (.sl (.pair .str (.pair .str .bool)))], rets := [(false, [(none, .bool)])], F := irising }
noncomputable def X_irising : Ctx := XT.withΓ (lk [(195, c_iPairOk)]) (lk [])
noncomputable def H_irising : Hints := ⟨lk [], lk [], lk []⟩
noncomputable def L_irising_2 : LoopF c_irising.Res := ⟨⟨31, [(0, .one (.val (.sl (.pair .str (.pair .str .bool))))), (5, .one (.val (.sl (.pair .str (.pair .str .bool))))), (6, .one (.val (.int .i64))), (7, .one (.val (.int .i64)))], [], []⟩, [(0, ⟨31, [], [], []⟩)], irising_L2⟩
noncomputable def T_irising : Nat → Option (LoopF c_irising.Res) := lk [(2, L_irising_2)]
theorem s_irising_2 : StepOk X_irising H_irising (c_irising.finish X_irising Try.f92.results.toList) T_irising (loopAt Try.f92 0) := ⟨L_irising_2, by kernel_rfl, fun O y x r => by kernel_rfl, fun O k y x r => by kernel_rfl⟩
theorem r_irising (a) : fnRun X_irising H_irising c_irising Try.f92 T_irising a = irising a := by kernel_rfl
theorem h_irising : CtrHolds Try.prog 92 c_irising := fn_ok (.cons h_iPairOk Try.call195 .nil) .nil (H := H_irising) (tbl := T_irising) Try.func92 (by kernel_rfl) (loops1 (by kernel_rfl) s_irising_2) r_irising
/-! 93 iaddNum -/
noncomputable def iaddNum_L3 (O : Type) : Nat → (Int × Int × List Int) → ((Int × Int × List Int) → Option O) → ((List Int) → Option O) → Option O
  | 0, _, _, _ => none
  | q + 1, (n2, shift3, out4), x, r => (cond (decide (shift3 < (0 : Int))) none (cond (decide ((Int.fdiv n2 ((2 : Int) ^ (min (Int.toNat shift3) 64))) > (127 : Int))) (iaddNum_L3 O q (n2, (IntKind.wrap .i64 (shift3 + (7 : Int))), out4) x r) (x (n2, shift3, out4))))
noncomputable def iaddNum_L5 (O : Type) : Nat → (Int × Int × List Int) → ((Int × List Int) → Option O) → ((List Int) → Option O) → Option O
  | 0, _, _, _ => none
  | q + 1, (n8, shift9, out10), x, r => (cond (decide (shift9 > (0 : Int))) (cond (decide (shift9 < (0 : Int))) none (cond (decide ((out10.length + [(IntKind.wrap .u8 (IntKind.wrap .i64 ((bits .and .i64 (Int.fdiv n8 ((2 : Int) ^ (min (Int.toNat shift9) 64))) (127 : Int)) + (128 : Int))))].length) ≤ lenBound)) (iaddNum_L5 O q (n8, (IntKind.wrap .i64 (shift9 - (7 : Int))), (out10 ++ [(IntKind.wrap .u8 (IntKind.wrap .i64 ((bits .and .i64 (Int.fdiv n8 ((2 : Int) ^ (min (Int.toNat shift9) 64))) (127 : Int)) + (128 : Int))))])) x r) none)) (x (n8, out10)))
noncomputable def iaddNum : (List Int × Int) → Option (List Int)
  | (out0, n1) => (iaddNum_L3 (List Int) fuel ((if ((if ((1000000000 : Int) < n1) then (1000000000 : Int) else n1) > (0 : Int)) then (if ((1000000000 : Int) < n1) then (1000000000 : Int) else n1) else (0 : Int)), (0 : Int), out0) (fun (n5, shift6, out7) => (iaddNum_L5 (List Int) fuel (n5, shift6, out7) (fun (n11, out12) => (cond (decide ((out12.length + [(IntKind.wrap .u8 (bits .and .i64 n11 (127 : Int)))].length) ≤ lenBound)) (some (out12 ++ [(IntKind.wrap .u8 (bits .and .i64 n11 (127 : Int)))])) none)) some)) some)
noncomputable def c_iaddNum : Ctr := { args := [.given 5 (.int .u8), .val false (.int .i64)], rets := [(false, [(some 5, (.sl (.int .u8)))])], F := iaddNum }
noncomputable def X_iaddNum : Ctx := XT.withΓ (lk []) (lk [])
noncomputable def H_iaddNum : Hints := ⟨lk [], lk [], lk []⟩
noncomputable def L_iaddNum_3 : LoopF c_iaddNum.Res := ⟨⟨34, [(0, .one (.own 0)), (1, .one (.val (.int .i64))), (5, .one (.val (.int .i64)))], [.arr 5 (.int .u8)], []⟩, [(0, ⟨34, [(0, .one (.own 0)), (1, .one (.val (.int .i64))), (5, .one (.val (.int .i64)))], [.arr 5 (.int .u8)], []⟩)], iaddNum_L3⟩
noncomputable def L_iaddNum_5 : LoopF c_iaddNum.Res := ⟨⟨34, [(0, .one (.own 0)), (1, .one (.val (.int .i64))), (5, .one (.val (.int .i64)))], [.arr 5 (.int .u8)], []⟩, [(2, ⟨34, [(0, .one (.own 0)), (1, .one (.val (.int .i64)))], [.arr 5 (.int .u8)], []⟩)], iaddNum_L5⟩
noncomputable def T_iaddNum : Nat → Option (LoopF c_iaddNum.Res) := lk [(3, L_iaddNum_3), (5, L_iaddNum_5)]
theorem s_iaddNum_3 : StepOk X_iaddNum H_iaddNum (c_iaddNum.finish X_iaddNum Try.f93.results.toList) T_iaddNum (loopAt Try.f93 0) := ⟨L_iaddNum_3, by kernel_rfl, fun O y x r => by kernel_rfl, fun O k y x r => by kernel_rfl⟩
theorem s_iaddNum_5 : StepOk X_iaddNum H_iaddNum (c_iaddNum.finish X_iaddNum Try.f93.results.toList) T_iaddNum (loopAt Try.f93 1) := ⟨L_iaddNum_5, by kernel_rfl, fun O y x r => by kernel_rfl, fun O k y x r => by kernel_rfl⟩
theorem r_iaddNum (a) : fnRun X_iaddNum H_iaddNum c_iaddNum Try.f93 T_iaddNum a = iaddNum a := by kernel_rfl
theorem h_iaddNum : CtrHolds Try.prog 93 c_iaddNum := fn_ok .nil .nil (H := H_iaddNum) (tbl := T_iaddNum) Try.func93 (by kernel_rfl) (loops2 (by kernel_rfl) s_iaddNum_3 s_iaddNum_5) r_iaddNum
/-! 94 iaddText -/
noncomputable def iaddText : (List Int × List UInt8) → Option (List Int)
  | (out0, s1) => ((iaddNum (out0, ((s1.length : Nat) : Int))).bind fun r2 => (cond (decide ((r2.length + (bytesOf s1).length) ≤ lenBound)) (some (r2 ++ (bytesOf s1))) none))
noncomputable def c_iaddText : Ctr := { args := [.given 5 (.int .u8), .val false .str], rets := [(false, [(some 5, (.sl (.int .u8)))])], F := iaddText }
noncomputable def X_iaddText : Ctx := XT.withΓ (lk [(93, c_iaddNum)]) (lk [])
noncomputable def H_iaddText : Hints := ⟨lk [], lk [], lk []⟩
noncomputable def T_iaddText : Nat → Option (LoopF c_iaddText.Res) := lk []
theorem r_iaddText (a) : fnRun X_iaddText H_iaddText c_iaddText Try.f94 T_iaddText a = iaddText a := by kernel_rfl
theorem h_iaddText : CtrHolds Try.prog 94 c_iaddText := fn_ok (.cons h_iaddNum Try.call93 .nil) .nil (H := H_iaddText) (tbl := T_iaddText) Try.func94 (by kernel_rfl) (loops0 (by kernel_rfl)) r_iaddText
/-! 196 icommon -/
noncomputable def icommon_L2 (O : Type) : Nat → (List UInt8 × List UInt8 × Int) → (Int → Option O) → (Int → Option O) → Option O
  | 0, _, _, _ => none
  | q + 1, (a2, b3, n4), x, r => (cond (decide (n4 < ((a2.length : Nat) : Int))) (cond (decide (n4 < ((b3.length : Nat) : Int))) (cond (decide ((0 : Int) ≤ n4) && decide (n4 < ((a2.length : Nat) : Int))) (cond (decide ((0 : Int) ≤ n4) && decide (n4 < ((b3.length : Nat) : Int))) (cond ((((UInt8.toNat (nth a2 n4)) : Nat) : Int) == (((UInt8.toNat (nth b3 n4)) : Nat) : Int)) (icommon_L2 O q (a2, b3, (IntKind.wrap .i64 (n4 + (1 : Int)))) x r) (x n4)) none) none) (x n4)) (x n4))
noncomputable def icommon : (List UInt8 × List UInt8) → Option Int
  | (a0, b1) => (icommon_L2 Int fuel (a0, b1, (0 : Int)) (fun n5 => (some n5)) some)
noncomputable def c_icommon : Ctr := { args := [.val false .str, .val false .str], rets := [(false, [(none, (.int .i64))])], F := icommon }
noncomputable def X_icommon : Ctx := XT.withΓ (lk []) (lk [])
noncomputable def H_icommon : Hints := ⟨lk [], lk [], lk []⟩
noncomputable def L_icommon_2 : LoopF c_icommon.Res := ⟨⟨28, [(0, .one (.val .str)), (1, .one (.val .str)), (5, .one (.val (.int .i64)))], [], []⟩, [(0, ⟨28, [(5, .one (.val (.int .i64)))], [], []⟩)], icommon_L2⟩
noncomputable def T_icommon : Nat → Option (LoopF c_icommon.Res) := lk [(2, L_icommon_2)]
theorem s_icommon_2 : StepOk X_icommon H_icommon (c_icommon.finish X_icommon Try.f196.results.toList) T_icommon (loopAt Try.f196 0) := ⟨L_icommon_2, by kernel_rfl, fun O y x r => by kernel_rfl, fun O k y x r => by kernel_rfl⟩
theorem r_icommon (a) : fnRun X_icommon H_icommon c_icommon Try.f196 T_icommon a = icommon a := by kernel_rfl
theorem h_icommon : CtrHolds Try.prog 196 c_icommon := fn_ok .nil .nil (H := H_icommon) (tbl := T_icommon) Try.func196 (by kernel_rfl) (loops1 (by kernel_rfl) s_icommon_2) r_icommon
/-! 197 ibit -/
noncomputable def ibit : Bool → Option Int
  | is0 => (cond is0 (some (1 : Int)) (some (0 : Int)))
noncomputable def c_ibit : Ctr := { args := [.val false .bool], rets := [(false, [(none, (.int .u8))])], F := ibit }
noncomputable def X_ibit : Ctx := XT.withΓ (lk []) (lk [])
noncomputable def H_ibit : Hints := ⟨lk [], lk [], lk []⟩
noncomputable def T_ibit : Nat → Option (LoopF c_ibit.Res) := lk []
theorem r_ibit (a) : fnRun X_ibit H_ibit c_ibit Try.f197 T_ibit a = ibit a := by kernel_rfl
theorem h_ibit : CtrHolds Try.prog 197 c_ibit := fn_ok .nil .nil (H := H_ibit) (tbl := T_ibit) Try.func197 (by kernel_rfl) (loops0 (by kernel_rfl)) r_ibit
/-! 100 iSum -/
noncomputable def iSum_L7 (O : Type) : Nat → (Int × List Int × Int × Int × Int) → ((Int × List Int × Int × Int) → Option O) → (Int → Option O) → Option O
  | 0, _, _, _ => none
  | q + 1, (r5, v6, v7, v8, v9), x, r => (cond (decide (v9 < (8 : Int))) (cond ((bits .and .u32 r5 (1 : Int)) == (1 : Int)) (iSum_L7 O q ((bits .xor .u32 (Int.fdiv r5 (2 : Int)) (2197175160 : Int)), v6, v7, v8, (IntKind.wrap .i64 (v9 + (1 : Int)))) x r) (iSum_L7 O q ((Int.fdiv r5 (2 : Int)), v6, v7, v8, (IntKind.wrap .i64 (v9 + (1 : Int)))) x r)) (x (r5, v6, v7, v8)))
noncomputable def iSum_L3 (O : Type) : Nat → (Int × List Int × Int × Int) → (Int → Option O) → (Int → Option O) → Option O
  | 0, _, _, _ => none
  | q + 1, (r1, v2, v3, v4), x, r => (cond (decide (v4 < v3)) (cond (decide ((0 : Int) ≤ v4) && decide (v4 < ((v2.length : Nat) : Int))) (iSum_L7 O fuel ((bits .xor .u32 r1 (IntKind.wrap .u32 (nth v2 v4))), v2, v3, v4, (0 : Int)) (fun (r10, v11, v12, v13) => (iSum_L3 O q (r10, v11, v12, (IntKind.wrap .i64 (v13 + (1 : Int)))) x r)) r) none) (x r1))
noncomputable def iSum : (List Int) → Option Int
  | b0 => (iSum_L3 Int fuel ((4294967295 : Int), b0, ((b0.length : Nat) : Int), (0 : Int)) (fun r14 => (some (IntKind.wrap .i64 (bits .xor .u32 (if false then (-1 : Int) else (if false then (2147483647 : Int) else (4294967295 : Int))) r14)))) some)
noncomputable def c_iSum : Ctr := { args := [.val false (.sl (.int .u8))], rets := [(false, [(none, (.int .i64))])], F := iSum }
noncomputable def X_iSum : Ctx := XT.withΓ (lk []) (lk [])
noncomputable def H_iSum : Hints := ⟨lk [], lk [], lk []⟩
noncomputable def L_iSum_3 : LoopF c_iSum.Res := ⟨⟨32, [(3, .one (.val (.int .u32))), (7, .one (.val (.sl (.int .u8)))), (8, .one (.val (.int .i64))), (9, .one (.val (.int .i64)))], [], []⟩, [(0, ⟨32, [(3, .one (.val (.int .u32)))], [], []⟩)], iSum_L3⟩
noncomputable def L_iSum_7 : LoopF c_iSum.Res := ⟨⟨32, [(3, .one (.val (.int .u32))), (7, .one (.val (.sl (.int .u8)))), (8, .one (.val (.int .i64))), (9, .one (.val (.int .i64))), (17, .one (.val (.int .i64)))], [], []⟩, [(2, ⟨32, [(3, .one (.val (.int .u32))), (7, .one (.val (.sl (.int .u8)))), (8, .one (.val (.int .i64))), (9, .one (.val (.int .i64)))], [], []⟩)], iSum_L7⟩
noncomputable def T_iSum : Nat → Option (LoopF c_iSum.Res) := lk [(3, L_iSum_3), (7, L_iSum_7)]
theorem s_iSum_3 : StepOk X_iSum H_iSum (c_iSum.finish X_iSum Try.f100.results.toList) T_iSum (loopAt Try.f100 0) := ⟨L_iSum_3, by kernel_rfl, fun O y x r => by kernel_rfl, fun O k y x r => by kernel_rfl⟩
theorem s_iSum_7 : StepOk X_iSum H_iSum (c_iSum.finish X_iSum Try.f100.results.toList) T_iSum (loopAt Try.f100 1) := ⟨L_iSum_7, by kernel_rfl, fun O y x r => by kernel_rfl, fun O k y x r => by kernel_rfl⟩
theorem r_iSum (a) : fnRun X_iSum H_iSum c_iSum Try.f100 T_iSum a = iSum a := by kernel_rfl
theorem h_iSum : CtrHolds Try.prog 100 c_iSum := fn_ok .nil .nil (H := H_iSum) (tbl := T_iSum) Try.func100 (by kernel_rfl) (loops2 (by kernel_rfl) s_iSum_3 s_iSum_7) r_iSum
/-! 97 iword -/
noncomputable def iword : Int → Option (List Int)
  | n0 => (some [(IntKind.wrap .u8 (Int.fdiv n0 (16777216 : Int))), (IntKind.wrap .u8 (Int.fdiv n0 (65536 : Int))), (IntKind.wrap .u8 (Int.fdiv n0 (256 : Int))), (IntKind.wrap .u8 n0)])
noncomputable def c_iword : Ctr := { args := [.val false (.int .i64)], rets := [(false, [(some 5, (.sl (.int .u8)))])], F := iword }
noncomputable def X_iword : Ctx := XT.withΓ (lk []) (lk [])
noncomputable def H_iword : Hints := ⟨lk [], lk [], lk []⟩
noncomputable def T_iword : Nat → Option (LoopF c_iword.Res) := lk []
theorem r_iword (a) : fnRun X_iword H_iword c_iword Try.f97 T_iword a = iword a := by kernel_rfl
theorem h_iword : CtrHolds Try.prog 97 c_iword := fn_ok .nil .nil (H := H_iword) (tbl := T_iword) Try.func97 (by kernel_rfl) (loops0 (by kernel_rfl)) r_iword
/-! 96 iFrame -/
noncomputable def iFrame : (List Int) → Option (List Int)
  | body0 => ((iSum body0).bind fun r1 => ((iword r1).bind fun r2 => ((iaddNum (r2, ((body0.length : Nat) : Int))).bind fun r3 => (cond (decide ((r3.length + body0.length) ≤ lenBound)) (some (r3 ++ body0)) none))))
noncomputable def c_iFrame : Ctr := { args := [.val false (.sl (.int .u8))], rets := [(false, [(some 5, (.sl (.int .u8)))])], F := iFrame }
noncomputable def X_iFrame : Ctx := XT.withΓ (lk [(100, c_iSum), (97, c_iword), (93, c_iaddNum)]) (lk [])
noncomputable def H_iFrame : Hints := ⟨lk [], lk [], lk []⟩
noncomputable def T_iFrame : Nat → Option (LoopF c_iFrame.Res) := lk []
theorem r_iFrame (a) : fnRun X_iFrame H_iFrame c_iFrame Try.f96 T_iFrame a = iFrame a := by kernel_rfl
theorem h_iFrame : CtrHolds Try.prog 96 c_iFrame := fn_ok (.cons h_iSum Try.call100 (.cons h_iword Try.call97 (.cons h_iaddNum Try.call93 .nil))) .nil (H := H_iFrame) (tbl := T_iFrame) Try.func96 (by kernel_rfl) (loops0 (by kernel_rfl)) r_iFrame
/-! 95 iputBlock -/
noncomputable def iputBlock_L4 (O : Type) : Nat → (List UInt8 × List (List UInt8 × List UInt8 × Bool) × Int × Int × List Int) → ((List Int) → Option O) → ((List Int) → Option O) → Option O
  | 0, _, _, _ => none
  | q + 1, (last1, v2, v3, v4, out5), x, r => (cond (decide (v4 < v3)) (cond (decide ((0 : Int) ≤ v4) && decide (v4 < ((v2.length : Nat) : Int))) ((icommon (last1, (nth v2 v4).1)).bind fun r6 => ((iaddNum (out5, r6)).bind fun r7 => (cond (decide ((0 : Int) ≤ r6) && (decide (r6 ≤ (((nth v2 v4).1.length : Nat) : Int)) && decide ((((nth v2 v4).1.length : Nat) : Int) ≤ (((nth v2 v4).1.length : Nat) : Int)))) ((iaddText (r7, (cut (nth v2 v4).1 r6 (((nth v2 v4).1.length : Nat) : Int)))).bind fun r8 => ((ibit (nth v2 v4).2.2).bind fun r9 => (cond (decide ((r8.length + [r9].length) ≤ lenBound)) ((iaddText ((r8 ++ [r9]), (nth v2 v4).2.1)).bind fun r10 => (iputBlock_L4 O q ((nth v2 v4).1, v2, v3, (IntKind.wrap .i64 (v4 + (1 : Int))), r10) x r)) none))) none))) none) (x out5))
noncomputable def iputBlock : (List (List UInt8 × List UInt8 × Bool)) → Option (List Int)
  | l0 => (iputBlock_L4 (List Int) fuel ([], l0, ((l0.length : Nat) : Int), (0 : Int), []) (fun out11 => ((iFrame out11).bind fun r12 => (some r12))) some)
noncomputable def c_iputBlock : Ctr := { args := [.val false (.sl (.pair .str (.pair .str .bool)))], rets := [(false, [(some 5, (.sl (.int .u8)))])], F := iputBlock }
noncomputable def X_iputBlock : Ctx := XT.withΓ (lk [(196, c_icommon), (93, c_iaddNum), (94, c_iaddText), (197, c_ibit), (96, c_iFrame)]) (lk [])
noncomputable def H_iputBlock : Hints := ⟨lk [], lk [], lk []⟩
noncomputable def L_iputBlock_4 : LoopF c_iputBlock.Res := ⟨⟨40, [(3, .one (.own 0)), (4, .one (.val .str)), (8, .one (.val (.sl (.pair .str (.pair .str .bool))))), (9, .one (.val (.int .i64))), (10, .one (.val (.int .i64)))], [.arr 5 (.int .u8)], []⟩, [(0, ⟨40, [(3, .one (.own 0))], [.arr 5 (.int .u8)], []⟩)], iputBlock_L4⟩
noncomputable def T_iputBlock : Nat → Option (LoopF c_iputBlock.Res) := lk [(4, L_iputBlock_4)]
theorem s_iputBlock_4 : StepOk X_iputBlock H_iputBlock (c_iputBlock.finish X_iputBlock Try.f95.results.toList) T_iputBlock (loopAt Try.f95 0) := ⟨L_iputBlock_4, by kernel_rfl, fun O y x r => by kernel_rfl, fun O k y x r => by kernel_rfl⟩
theorem r_iputBlock (a) : fnRun X_iputBlock H_iputBlock c_iputBlock Try.f95 T_iputBlock a = iputBlock a := by kernel_rfl
theorem h_iputBlock : CtrHolds Try.prog 95 c_iputBlock := fn_ok (.cons h_icommon Try.call196 (.cons h_iaddNum Try.call93 (.cons h_iaddText Try.call94 (.cons h_ibit Try.call197 (.cons h_iFrame Try.call96 .nil))))) .nil (H := H_iputBlock) (tbl := T_iputBlock) Try.func95 (by kernel_rfl) (loops1 (by kernel_rfl) s_iputBlock_4) r_iputBlock
/-! 35 iMark -/
noncomputable def iMark : (List UInt8) → Option (Int × Int)
  | key0 => ((iSum (bytesOf key0)).bind fun r1 => (some ((Int.tmod r1 (64 : Int)), (Int.tmod (IntKind.wrap .i64 (Int.tdiv r1 (64 : Int))) (64 : Int)))))
noncomputable def c_iMark : Ctr := { args := [.val false .str], rets := [(false, [(none, (.int .i64))]), (false, [(none, (.int .i64))])], F := iMark }
noncomputable def X_iMark : Ctx := XT.withΓ (lk [(100, c_iSum)]) (lk [])
noncomputable def H_iMark : Hints := ⟨lk [], lk [], lk []⟩
noncomputable def T_iMark : Nat → Option (LoopF c_iMark.Res) := lk []
theorem r_iMark (a) : fnRun X_iMark H_iMark c_iMark Try.f35 T_iMark a = iMark a := by kernel_rfl
theorem h_iMark : CtrHolds Try.prog 35 c_iMark := fn_ok (.cons h_iSum Try.call100 .nil) .nil (H := H_iMark) (tbl := T_iMark) Try.func35 (by kernel_rfl) (loops0 (by kernel_rfl)) r_iMark
/-! 34 iFilter -/
noncomputable def iFilter_L3 (O : Type) : Nat → (List (List UInt8) × Int × Int × List Int) → ((List Int) → Option O) → ((List Int) → Option O) → Option O
  | 0, _, _, _ => none
  | q + 1, (v1, v2, v3, out4), x, r => (cond (decide (v3 < v2)) (cond (decide ((0 : Int) ≤ v3) && decide (v3 < ((v1.length : Nat) : Int))) ((iMark (nth v1 v3)).bind fun (r5, r6) => (cond (decide ((0 : Int) ≤ (IntKind.wrap .i64 (Int.tdiv r5 (8 : Int)))) && decide ((IntKind.wrap .i64 (Int.tdiv r5 (8 : Int))) < ((out4.length : Nat) : Int))) (cond (decide ((Int.tmod r5 (8 : Int)) < (0 : Int))) none (cond (decide ((0 : Int) ≤ (IntKind.wrap .i64 (Int.tdiv r5 (8 : Int)))) && decide ((IntKind.wrap .i64 (Int.tdiv r5 (8 : Int))) < ((out4.length : Nat) : Int))) (cond (decide ((0 : Int) ≤ (IntKind.wrap .i64 (Int.tdiv r6 (8 : Int)))) && decide ((IntKind.wrap .i64 (Int.tdiv r6 (8 : Int))) < (((List.set out4 (Int.toNat (IntKind.wrap .i64 (Int.tdiv r5 (8 : Int)))) (bits .or .u8 (nth out4 (IntKind.wrap .i64 (Int.tdiv r5 (8 : Int)))) (IntKind.wrap .u8 ((1 : Int) * ((2 : Int) ^ (min (Int.toNat (Int.tmod r5 (8 : Int))) 8)))))).length : Nat) : Int))) (cond (decide ((Int.tmod r6 (8 : Int)) < (0 : Int))) none (cond (decide ((0 : Int) ≤ (IntKind.wrap .i64 (Int.tdiv r6 (8 : Int)))) && decide ((IntKind.wrap .i64 (Int.tdiv r6 (8 : Int))) < (((List.set out4 (Int.toNat (IntKind.wrap .i64 (Int.tdiv r5 (8 : Int)))) (bits .or .u8 (nth out4 (IntKind.wrap .i64 (Int.tdiv r5 (8 : Int)))) (IntKind.wrap .u8 ((1 : Int) * ((2 : Int) ^ (min (Int.toNat (Int.tmod r5 (8 : Int))) 8)))))).length : Nat) : Int))) (iFilter_L3 O q (v1, v2, (IntKind.wrap .i64 (v3 + (1 : Int))), (List.set (List.set out4 (Int.toNat (IntKind.wrap .i64 (Int.tdiv r5 (8 : Int)))) (bits .or .u8 (nth out4 (IntKind.wrap .i64 (Int.tdiv r5 (8 : Int)))) (IntKind.wrap .u8 ((1 : Int) * ((2 : Int) ^ (min (Int.toNat (Int.tmod r5 (8 : Int))) 8)))))) (Int.toNat (IntKind.wrap .i64 (Int.tdiv r6 (8 : Int)))) (bits .or .u8 (nth (List.set out4 (Int.toNat (IntKind.wrap .i64 (Int.tdiv r5 (8 : Int)))) (bits .or .u8 (nth out4 (IntKind.wrap .i64 (Int.tdiv r5 (8 : Int)))) (IntKind.wrap .u8 ((1 : Int) * ((2 : Int) ^ (min (Int.toNat (Int.tmod r5 (8 : Int))) 8)))))) (IntKind.wrap .i64 (Int.tdiv r6 (8 : Int)))) (IntKind.wrap .u8 ((1 : Int) * ((2 : Int) ^ (min (Int.toNat (Int.tmod r6 (8 : Int))) 8))))))) x r) none)) none) none)) none)) none) (x out4))
noncomputable def iFilter : (List (List UInt8)) → Option (List Int)
  | keys0 => (iFilter_L3 (List Int) fuel (keys0, ((keys0.length : Nat) : Int), (0 : Int), [(0 : Int), (0 : Int), (0 : Int), (0 : Int), (0 : Int), (0 : Int), (0 : Int), (0 : Int)]) (fun out7 => (some out7)) some)
noncomputable def c_iFilter : Ctr := { args := [.val false (.sl .str)], rets := [(false, [(some 5, (.sl (.int .u8)))])], F := iFilter }
noncomputable def X_iFilter : Ctx := XT.withΓ (lk [(35, c_iMark)]) (lk [])
noncomputable def H_iFilter : Hints := ⟨lk [], lk [], lk []⟩
noncomputable def L_iFilter_3 : LoopF c_iFilter.Res := ⟨⟨42, [(3, .one (.own 0)), (9, .one (.val (.sl .str))), (10, .one (.val (.int .i64))), (11, .one (.val (.int .i64)))], [.arr 5 (.int .u8)], []⟩, [(0, ⟨42, [(3, .one (.own 0))], [.arr 5 (.int .u8)], []⟩)], iFilter_L3⟩
noncomputable def T_iFilter : Nat → Option (LoopF c_iFilter.Res) := lk [(3, L_iFilter_3)]
theorem s_iFilter_3 : StepOk X_iFilter H_iFilter (c_iFilter.finish X_iFilter Try.f34.results.toList) T_iFilter (loopAt Try.f34 0) := ⟨L_iFilter_3, by kernel_rfl, fun O y x r => by kernel_rfl, fun O k y x r => by kernel_rfl⟩
theorem r_iFilter (a) : fnRun X_iFilter H_iFilter c_iFilter Try.f34 T_iFilter a = iFilter a := by kernel_rfl
theorem h_iFilter : CtrHolds Try.prog 34 c_iFilter := fn_ok (.cons h_iMark Try.call35 .nil) .nil (H := H_iFilter) (tbl := T_iFilter) Try.func34 (by kernel_rfl) (loops1 (by kernel_rfl) s_iFilter_3) r_iFilter
/-! 30 iPutTable -/
noncomputable def iPutTable_L7 (O : Type) : Nat → (List (List UInt8 × List UInt8 × Bool) × Int × Int × List Int × List Int) → ((List (List UInt8 × List UInt8 × Bool) × Int × List Int × List Int) → Option O) → ((List Int) → Option O) → Option O
  | 0, _, _, _ => none
  | q + 1, (l3, count4, from5, out6, index7), x, r => (cond (decide (from5 < ((l3.length : Nat) : Int))) (cond (decide ((0 : Int) ≤ from5) && (decide (from5 ≤ (if (((l3.length : Nat) : Int) < (IntKind.wrap .i64 (from5 + (4 : Int)))) then ((l3.length : Nat) : Int) else (IntKind.wrap .i64 (from5 + (4 : Int))))) && decide ((if (((l3.length : Nat) : Int) < (IntKind.wrap .i64 (from5 + (4 : Int)))) then ((l3.length : Nat) : Int) else (IntKind.wrap .i64 (from5 + (4 : Int)))) ≤ ((l3.length : Nat) : Int)))) (cond (decide ((0 : Int) ≤ (IntKind.wrap .i64 ((((cut l3 from5 (if (((l3.length : Nat) : Int) < (IntKind.wrap .i64 (from5 + (4 : Int)))) then ((l3.length : Nat) : Int) else (IntKind.wrap .i64 (from5 + (4 : Int))))).length : Nat) : Int) - (1 : Int)))) && decide ((IntKind.wrap .i64 ((((cut l3 from5 (if (((l3.length : Nat) : Int) < (IntKind.wrap .i64 (from5 + (4 : Int)))) then ((l3.length : Nat) : Int) else (IntKind.wrap .i64 (from5 + (4 : Int))))).length : Nat) : Int) - (1 : Int))) < (((cut l3 from5 (if (((l3.length : Nat) : Int) < (IntKind.wrap .i64 (from5 + (4 : Int)))) then ((l3.length : Nat) : Int) else (IntKind.wrap .i64 (from5 + (4 : Int))))).length : Nat) : Int))) ((iaddText (index7, (nth (cut l3 from5 (if (((l3.length : Nat) : Int) < (IntKind.wrap .i64 (from5 + (4 : Int)))) then ((l3.length : Nat) : Int) else (IntKind.wrap .i64 (from5 + (4 : Int))))) (IntKind.wrap .i64 ((((cut l3 from5 (if (((l3.length : Nat) : Int) < (IntKind.wrap .i64 (from5 + (4 : Int)))) then ((l3.length : Nat) : Int) else (IntKind.wrap .i64 (from5 + (4 : Int))))).length : Nat) : Int) - (1 : Int)))).1)).bind fun r8 => ((iaddNum (r8, ((out6.length : Nat) : Int))).bind fun r9 => ((iputBlock (cut l3 from5 (if (((l3.length : Nat) : Int) < (IntKind.wrap .i64 (from5 + (4 : Int)))) then ((l3.length : Nat) : Int) else (IntKind.wrap .i64 (from5 + (4 : Int)))))).bind fun r10 => (cond (decide ((out6.length + r10.length) ≤ lenBound)) (iPutTable_L7 O q (l3, (IntKind.wrap .i64 (count4 + (1 : Int))), (IntKind.wrap .i64 (from5 + (4 : Int))), (out6 ++ r10), r9) x r) none)))) none) none) (x (l3, count4, out6, index7)))
noncomputable def iPutTable_L14 (O : Type) : Nat → (Int × List (List UInt8 × List UInt8 × Bool) × Int × Int × List Int × List Int × List (List UInt8)) → ((Int × List Int × List Int × List (List UInt8)) → Option O) → ((List Int) → Option O) → Option O
  | 0, _, _, _ => none
  | q + 1, (count15, v16, v17, v18, out19, index20, keys21), x, r => (cond (decide (v18 < v17)) (cond (decide ((0 : Int) ≤ v18) && decide (v18 < ((v16.length : Nat) : Int))) (cond (decide ((keys21.length + [(nth v16 v18).1].length) ≤ lenBound)) (iPutTable_L14 O q (count15, v16, v17, (IntKind.wrap .i64 (v18 + (1 : Int))), out19, index20, (keys21 ++ [(nth v16 v18).1])) x r) none) none) (x (count15, out19, index20, keys21)))
noncomputable def iPutTable : (List (List UInt8 × List UInt8 × Bool)) → Option (List Int)
  | l0 => ((iin (((l0.length : Nat) : Int), (1 : Int), (200 : Int))).bind fun r1 => (cond (!r1) (some []) ((irising l0).bind fun r2 => (cond (!r2) (some []) (iPutTable_L7 (List Int) fuel (l0, (0 : Int), (0 : Int), [], []) (fun (l11, count12, out13, index14) => (iPutTable_L14 (List Int) fuel (count12, l11, ((l11.length : Nat) : Int), (0 : Int), out13, index14, []) (fun (count22, out23, index24, keys25) => ((iaddNum ([], count22)).bind fun r26 => (cond (decide ((r26.length + index24.length) ≤ lenBound)) ((iFilter keys25).bind fun r27 => (cond (decide (((r26 ++ index24).length + r27.length) ≤ lenBound)) ((iFrame ((r26 ++ index24) ++ r27)).bind fun r28 => (cond (decide ((out23.length + r28.length) ≤ lenBound)) ((iword ((out23.length : Nat) : Int)).bind fun r29 => (cond (decide (((out23 ++ r28).length + r29.length) ≤ lenBound)) (some ((out23 ++ r28) ++ r29)) none)) none)) none)) none))) some)) some)))))
noncomputable def c_iPutTable : Ctr := { args := [.val false (.sl (.pair .str (.pair .str .bool)))], rets := [(false, [(some 5, (.sl (.int .u8)))])], F := iPutTable }
noncomputable def X_iPutTable : Ctx := XT.withΓ (lk [(91, c_iin), (92, c_irising), (94, c_iaddText), (93, c_iaddNum), (95, c_iputBlock), (34, c_iFilter), (96, c_iFrame), (97, c_iword)]) (lk [])
noncomputable def H_iPutTable : Hints := ⟨lk [], lk [], lk []⟩
noncomputable def L_iPutTable_7 : LoopF c_iPutTable.Res := ⟨⟨82, [(0, .one (.val (.sl (.pair .str (.pair .str .bool))))), (3, .one (.own 0)), (4, .one (.own 1)), (5, .one (.nils)), (6, .one (.val (.int .i64))), (7, .one (.val (.int .i64)))], [.arr 5 (.int .u8), .arr 5 (.int .u8)], []⟩, [(0, ⟨82, [(0, .one (.val (.sl (.pair .str (.pair .str .bool))))), (3, .one (.own 0)), (4, .one (.own 1)), (5, .one (.nils)), (6, .one (.val (.int .i64)))], [.arr 5 (.int .u8), .arr 5 (.int .u8)], []⟩)], iPutTable_L7⟩
noncomputable def L_iPutTable_14 : LoopF c_iPutTable.Res := ⟨⟨82, [(3, .one (.own 0)), (4, .one (.own 1)), (5, .one (.own 2)), (6, .one (.val (.int .i64))), (54, .one (.val (.sl (.pair .str (.pair .str .bool))))), (55, .one (.val (.int .i64))), (56, .one (.val (.int .i64)))], [.arr 5 (.int .u8), .arr 5 (.int .u8), .arr 9 .str], []⟩, [(2, ⟨82, [(3, .one (.own 0)), (4, .one (.own 1)), (5, .one (.own 2)), (6, .one (.val (.int .i64)))], [.arr 5 (.int .u8), .arr 5 (.int .u8), .arr 9 .str], []⟩)], iPutTable_L14⟩
noncomputable def T_iPutTable : Nat → Option (LoopF c_iPutTable.Res) := lk [(7, L_iPutTable_7), (14, L_iPutTable_14)]
theorem s_iPutTable_7 : StepOk X_iPutTable H_iPutTable (c_iPutTable.finish X_iPutTable Try.f30.results.toList) T_iPutTable (loopAt Try.f30 0) := ⟨L_iPutTable_7, by kernel_rfl, fun O y x r => by kernel_rfl, fun O k y x r => by kernel_rfl⟩
theorem s_iPutTable_14 : StepOk X_iPutTable H_iPutTable (c_iPutTable.finish X_iPutTable Try.f30.results.toList) T_iPutTable (loopAt Try.f30 1) := ⟨L_iPutTable_14, by kernel_rfl, fun O y x r => by kernel_rfl, fun O k y x r => by kernel_rfl⟩
theorem r_iPutTable (a) : fnRun X_iPutTable H_iPutTable c_iPutTable Try.f30 T_iPutTable a = iPutTable a := by kernel_rfl
theorem h_iPutTable : CtrHolds Try.prog 30 c_iPutTable := fn_ok (.cons h_iin Try.call91 (.cons h_irising Try.call92 (.cons h_iaddText Try.call94 (.cons h_iaddNum Try.call93 (.cons h_iputBlock Try.call95 (.cons h_iFilter Try.call34 (.cons h_iFrame Try.call96 (.cons h_iword Try.call97 .nil)))))))) .nil (H := H_iPutTable) (tbl := T_iPutTable) Try.func30 (by kernel_rfl) (loops2 (by kernel_rfl) s_iPutTable_7 s_iPutTable_14) r_iPutTable
/-! 102 iwordAt -/
noncomputable def iwordAt : (List Int × Int) → Option Int
  | (b0, at1) => (cond (decide ((0 : Int) ≤ at1) && decide (at1 < ((b0.length : Nat) : Int))) (cond (decide ((0 : Int) ≤ (IntKind.wrap .i64 (at1 + (1 : Int)))) && decide ((IntKind.wrap .i64 (at1 + (1 : Int))) < ((b0.length : Nat) : Int))) (cond (decide ((0 : Int) ≤ (IntKind.wrap .i64 (at1 + (2 : Int)))) && decide ((IntKind.wrap .i64 (at1 + (2 : Int))) < ((b0.length : Nat) : Int))) (cond (decide ((0 : Int) ≤ (IntKind.wrap .i64 (at1 + (3 : Int)))) && decide ((IntKind.wrap .i64 (at1 + (3 : Int))) < ((b0.length : Nat) : Int))) (some (bits .or .i64 (bits .or .i64 (bits .or .i64 (IntKind.wrap .i64 ((IntKind.wrap .i64 (nth b0 at1)) * (16777216 : Int))) (IntKind.wrap .i64 ((IntKind.wrap .i64 (nth b0 (IntKind.wrap .i64 (at1 + (1 : Int))))) * (65536 : Int)))) (IntKind.wrap .i64 ((IntKind.wrap .i64 (nth b0 (IntKind.wrap .i64 (at1 + (2 : Int))))) * (256 : Int)))) (IntKind.wrap .i64 (nth b0 (IntKind.wrap .i64 (at1 + (3 : Int))))))) none) none) none) none)
noncomputable def c_iwordAt : Ctr := { args := [.val false (.sl (.int .u8)), .val false (.int .i64)], rets := [(false, [(none, (.int .i64))])], F := iwordAt }
noncomputable def X_iwordAt : Ctx := XT.withΓ (lk []) (lk [])
noncomputable def H_iwordAt : Hints := ⟨lk [], lk [], lk []⟩
noncomputable def T_iwordAt : Nat → Option (LoopF c_iwordAt.Res) := lk []
theorem r_iwordAt (a) : fnRun X_iwordAt H_iwordAt c_iwordAt Try.f102 T_iwordAt a = iwordAt a := by kernel_rfl
theorem h_iwordAt : CtrHolds Try.prog 102 c_iwordAt := fn_ok .nil .nil (H := H_iwordAt) (tbl := T_iwordAt) Try.func102 (by kernel_rfl) (loops0 (by kernel_rfl)) r_iwordAt
/-! 201 iGetNum -/
noncomputable def iGetNum_L3 (O : Type) : Nat → (List Int × Int × Int × Int) → (Unit → Option O) → ((Int × Int × Bool) → Option O) → Option O
  | 0, _, _, _ => none
  | q + 1, (b2, at3, n4, k5), x, r => (cond (decide (k5 < (5 : Int))) (cond (decide (at3 ≥ (0 : Int))) (cond (decide (at3 < (IntKind.wrap .i64 (((b2.length : Nat) : Int) - k5)))) (cond (decide ((0 : Int) ≤ (IntKind.wrap .i64 (at3 + k5))) && decide ((IntKind.wrap .i64 (at3 + k5)) < ((b2.length : Nat) : Int))) (((cond (k5 == (0 : Int)) (cond ((IntKind.wrap .i64 (nth b2 (IntKind.wrap .i64 (at3 + k5)))) == (128 : Int)) ((x ()).map Sum.inr) (some (Sum.inl (b2, at3, n4, k5, (IntKind.wrap .i64 (nth b2 (IntKind.wrap .i64 (at3 + k5)))), at3, decide (at3 ≥ (0 : Int)), at3, b2, ((b2.length : Nat) : Int), k5, (IntKind.wrap .i64 (((b2.length : Nat) : Int) - k5)), decide (at3 < (IntKind.wrap .i64 (((b2.length : Nat) : Int) - k5))))))) (some (Sum.inl (b2, at3, n4, k5, (IntKind.wrap .i64 (nth b2 (IntKind.wrap .i64 (at3 + k5)))), at3, decide (at3 ≥ (0 : Int)), at3, b2, ((b2.length : Nat) : Int), k5, (IntKind.wrap .i64 (((b2.length : Nat) : Int) - k5)), decide (at3 < (IntKind.wrap .i64 (((b2.length : Nat) : Int) - k5))))))) : Option ((List Int × Int × Int × Int × Int × Int × Bool × Int × List Int × Int × Int × Int × Bool) ⊕ O)).bind fun z => match z with | .inl (b6, at7, n8, k9, x10, v11, v12, v13, v14, v15, v16, v17, v18) => (cond (decide (x10 ≥ (128 : Int))) (iGetNum_L3 O q (b6, at7, (IntKind.wrap .i64 ((IntKind.wrap .i64 (n8 * (128 : Int))) + (Int.tmod x10 (128 : Int)))), (IntKind.wrap .i64 (k9 + (1 : Int)))) x r) (cond (decide ((IntKind.wrap .i64 ((IntKind.wrap .i64 (n8 * (128 : Int))) + (Int.tmod x10 (128 : Int)))) > (1000000000 : Int))) (x ()) (r ((IntKind.wrap .i64 ((IntKind.wrap .i64 (n8 * (128 : Int))) + (Int.tmod x10 (128 : Int)))), (IntKind.wrap .i64 ((IntKind.wrap .i64 (at7 + k9)) + (1 : Int))), true)))) | .inr o => some o) none) (x ())) (x ())) (x ()))
noncomputable def iGetNum : (List Int × Int) → Option (Int × Int × Bool)
  | (b0, at1) => (iGetNum_L3 (Int × Int × Bool) fuel (b0, at1, (0 : Int), (0 : Int)) (fun _ => (some ((0 : Int), (0 : Int), false))) some)
noncomputable def c_iGetNum : Ctr := { args := [.val false (.sl (.int .u8)), .val false (.int .i64)], rets := [(false, [(none, (.int .i64))]), (false, [(none, (.int .i64))]), (false, [(none, .bool)])], F := iGetNum }
noncomputable def X_iGetNum : Ctx := XT.withΓ (lk []) (lk [])
noncomputable def H_iGetNum : Hints := ⟨lk [], lk [(7, ⟨53, [(0, .one (.val (.sl (.int .u8)))), (1, .one (.val (.int .i64))), (7, .one (.val (.int .i64))), (8, .one (.val (.int .i64))), (9, .one (.val (.int .i64))), (13, .one (.val (.int .i64))), (14, .one (.val .bool)), (17, .one (.val (.int .i64))), (18, .one (.val (.sl (.int .u8)))), (19, .one (.val (.int .i64))), (20, .one (.val (.int .i64))), (21, .one (.val (.int .i64))), (22, .one (.val .bool))], [], []⟩)], lk []⟩
noncomputable def L_iGetNum_3 : LoopF c_iGetNum.Res := ⟨⟨53, [(0, .one (.val (.sl (.int .u8)))), (1, .one (.val (.int .i64))), (7, .one (.val (.int .i64))), (8, .one (.val (.int .i64)))], [], []⟩, [(0, ⟨53, [], [], []⟩)], iGetNum_L3⟩
noncomputable def T_iGetNum : Nat → Option (LoopF c_iGetNum.Res) := lk [(3, L_iGetNum_3)]
theorem s_iGetNum_3 : StepOk X_iGetNum H_iGetNum (c_iGetNum.finish X_iGetNum Try.f201.results.toList) T_iGetNum (loopAt Try.f201 0) := ⟨L_iGetNum_3, by kernel_rfl, fun O y x r => by kernel_rfl, fun O k y x r => by kernel_rfl⟩
theorem r_iGetNum (a) : fnRun X_iGetNum H_iGetNum c_iGetNum Try.f201 T_iGetNum a = iGetNum a := by kernel_rfl
theorem h_iGetNum : CtrHolds Try.prog 201 c_iGetNum := fn_ok .nil .nil (H := H_iGetNum) (tbl := T_iGetNum) Try.func201 (by kernel_rfl) (loops1 (by kernel_rfl) s_iGetNum_3) r_iGetNum
/-! 101 iGetText -/
noncomputable def iGetText : (List Int × Int) → Option (List UInt8 × Int × Bool)
  | (b0, at1) => ((iGetNum (b0, at1)).bind fun (r2, r3, r4) => (cond (!r4) (some ([], (0 : Int), false)) (cond (decide (r2 > (IntKind.wrap .i64 (((b0.length : Nat) : Int) - r3)))) (some ([], (0 : Int), false)) (cond (decide ((0 : Int) ≤ r3) && (decide (r3 ≤ (IntKind.wrap .i64 (r3 + r2))) && decide ((IntKind.wrap .i64 (r3 + r2)) ≤ ((b0.length : Nat) : Int)))) (some ((strOf (cut b0 r3 (IntKind.wrap .i64 (r3 + r2)))), (IntKind.wrap .i64 (r3 + r2)), true)) none))))
noncomputable def c_iGetText : Ctr := { args := [.val false (.sl (.int .u8)), .val false (.int .i64)], rets := [(false, [(none, .str)]), (false, [(none, (.int .i64))]), (false, [(none, .bool)])], F := iGetText }
noncomputable def X_iGetText : Ctx := XT.withΓ (lk [(201, c_iGetNum)]) (lk [])
noncomputable def H_iGetText : Hints := ⟨lk [], lk [], lk []⟩
noncomputable def T_iGetText : Nat → Option (LoopF c_iGetText.Res) := lk []
theorem r_iGetText (a) : fnRun X_iGetText H_iGetText c_iGetText Try.f101 T_iGetText a = iGetText a := by kernel_rfl
theorem h_iGetText : CtrHolds Try.prog 101 c_iGetText := fn_ok (.cons h_iGetNum Try.call201 .nil) .nil (H := H_iGetText) (tbl := T_iGetText) Try.func101 (by kernel_rfl) (loops0 (by kernel_rfl)) r_iGetText
/-! 38 iUnframe -/
noncomputable def iUnframe : (List Int × Int) → Option (List Int × Int × Bool)
  | (b0, at1) => ((iin (at1, (0 : Int), (IntKind.wrap .i64 (((b0.length : Nat) : Int) - (4 : Int))))).bind fun r2 => (cond (!r2) (some ([], at1, false)) ((iGetText (b0, (IntKind.wrap .i64 (at1 + (4 : Int))))).bind fun (r3, r4, r5) => (cond (!r5) (some ([], at1, false)) ((iSum (bytesOf r3)).bind fun r6 => ((iwordAt (b0, at1)).bind fun r7 => (cond (r6 != r7) (some ([], at1, false)) (some ((bytesOf r3), r4, true)))))))))
noncomputable def c_iUnframe : Ctr := { args := [.val false (.sl (.int .u8)), .val false (.int .i64)], rets := [(false, [(none, (.sl (.int .u8)))]), (false, [(none, (.int .i64))]), (false, [(none, .bool)])], F := iUnframe }
noncomputable def X_iUnframe : Ctx := XT.withΓ (lk [(91, c_iin), (101, c_iGetText), (100, c_iSum), (102, c_iwordAt)]) (lk [])
noncomputable def H_iUnframe : Hints := ⟨lk [], lk [], lk []⟩
noncomputable def T_iUnframe : Nat → Option (LoopF c_iUnframe.Res) := lk []
theorem r_iUnframe (a) : fnRun X_iUnframe H_iUnframe c_iUnframe Try.f38 T_iUnframe a = iUnframe a := by kernel_rfl
theorem h_iUnframe : CtrHolds Try.prog 38 c_iUnframe := fn_ok (.cons h_iin Try.call91 (.cons h_iGetText Try.call101 (.cons h_iSum Try.call100 (.cons h_iwordAt Try.call102 .nil)))) .nil (H := H_iUnframe) (tbl := T_iUnframe) Try.func38 (by kernel_rfl) (loops0 (by kernel_rfl)) r_iUnframe
/-! 198 ireader_num -/
noncomputable def ireader_num : (List Int × Int × Bool) → Option (Int × List Int × Int × Bool)
  | (r0, r1, r2) => ((iGetNum (r0, r1)).bind fun (r3, r4, r5) => ((cond r2 (some (r3, r4, true, r0, r1, r2)) (some (r3, r4, (!r5), r0, r1, r2))).bind fun (n6, next7, v8, r9, r10, r11) => (cond v8 (some ((0 : Int), r9, r10, true)) (some (n6, r9, next7, r11)))))
noncomputable def c_ireader_num : Ctr := { args := [.ref 229 [(none, (.sl (.int .u8))), (none, (.int .i64)), (none, .bool)]], rets := [(false, [(none, (.int .i64))])], F := ireader_num }
noncomputable def X_ireader_num : Ctx := XT.withΓ (lk [(201, c_iGetNum)]) (lk [])
noncomputable def H_ireader_num : Hints := ⟨lk [(3, ⟨35, [(0, .one (.ptr 0 0)), (3, .one (.val (.int .i64))), (4, .one (.val (.int .i64))), (26, .one (.val .bool))], [.vars 229 [.val (.sl (.int .u8)), .val (.int .i64), .val .bool]], [0]⟩)], lk [], lk []⟩
noncomputable def T_ireader_num : Nat → Option (LoopF c_ireader_num.Res) := lk []
theorem r_ireader_num (a) : fnRun X_ireader_num H_ireader_num c_ireader_num Try.f198 T_ireader_num a = ireader_num a := by kernel_rfl
theorem h_ireader_num : CtrHolds Try.prog 198 c_ireader_num := fn_ok (.cons h_iGetNum Try.call201 .nil) .nil (H := H_ireader_num) (tbl := T_ireader_num) Try.func198 (by kernel_rfl) (loops0 (by kernel_rfl)) r_ireader_num
/-! 199 ireader_text -/
noncomputable def ireader_text : (List Int × Int × Bool) → Option (List UInt8 × List Int × Int × Bool)
  | (r0, r1, r2) => ((iGetText (r0, r1)).bind fun (r3, r4, r5) => ((cond r2 (some (r3, r4, true, r0, r1, r2)) (some (r3, r4, (!r5), r0, r1, r2))).bind fun (s6, next7, v8, r9, r10, r11) => (cond v8 (some ([], r9, r10, true)) (some (s6, r9, next7, r11)))))
noncomputable def c_ireader_text : Ctr := { args := [.ref 229 [(none, (.sl (.int .u8))), (none, (.int .i64)), (none, .bool)]], rets := [(false, [(none, .str)])], F := ireader_text }
noncomputable def X_ireader_text : Ctx := XT.withΓ (lk [(101, c_iGetText)]) (lk [])
noncomputable def H_ireader_text : Hints := ⟨lk [(3, ⟨35, [(0, .one (.ptr 0 0)), (3, .one (.val .str)), (4, .one (.val (.int .i64))), (26, .one (.val .bool))], [.vars 229 [.val (.sl (.int .u8)), .val (.int .i64), .val .bool]], [0]⟩)], lk [], lk []⟩
noncomputable def T_ireader_text : Nat → Option (LoopF c_ireader_text.Res) := lk []
theorem r_ireader_text (a) : fnRun X_ireader_text H_ireader_text c_ireader_text Try.f199 T_ireader_text a = ireader_text a := by kernel_rfl
theorem h_ireader_text : CtrHolds Try.prog 199 c_ireader_text := fn_ok (.cons h_iGetText Try.call101 .nil) .nil (H := H_ireader_text) (tbl := T_ireader_text) Try.func199 (by kernel_rfl) (loops0 (by kernel_rfl)) r_ireader_text
/-! 98 iindexOf -/
noncomputable def iindexOf_L10 (O : Type) : Nat → (List Int × Int × Int × List Int × Int × Bool × List (List UInt8 × Int)) → ((List Int × List Int × Int × Bool × List (List UInt8 × Int)) → Option O) → ((List (List UInt8 × Int) × List Int × Bool) → Option O) → Option O
  | 0, _, _, _ => none
  | q + 1, (body9, n10, k11, r12, r13, r14, out15), x, r => (cond (decide (k11 < n10)) (cond (!r14) ((ireader_text (r12, r13, r14)).bind fun (r16, r17, r18, r19) => ((ireader_num (r17, r18, r19)).bind fun (r20, r21, r22, r23) => (cond (decide ((out15.length + [(r16, r20)].length) ≤ lenBound)) (iindexOf_L10 O q (body9, n10, (IntKind.wrap .i64 (k11 + (1 : Int))), r21, r22, r23, (out15 ++ [(r16, r20)])) x r) none))) (x (body9, r12, r13, r14, out15))) (x (body9, r12, r13, r14, out15)))
noncomputable def iindexOf : (List Int) → Option (List (List UInt8 × Int) × List Int × Bool)
  | b0 => (cond (decide (((b0.length : Nat) : Int) < (4 : Int))) (some ([], [], false)) ((iwordAt (b0, (IntKind.wrap .i64 (((b0.length : Nat) : Int) - (4 : Int))))).bind fun r1 => ((iUnframe (b0, r1)).bind fun (r2, r3, r4) => (cond (!r4) (some ([], [], false)) (cond (r3 != (IntKind.wrap .i64 (((b0.length : Nat) : Int) - (4 : Int)))) (some ([], [], false)) ((ireader_num (r2, (0 : Int), false)).bind fun (r5, r6, r7, r8) => (iindexOf_L10 (List (List UInt8 × Int) × List Int × Bool) fuel (r2, r5, (0 : Int), r6, r7, r8, []) (fun (body24, r25, r26, r27, out28) => (cond r27 (some ([], [], false)) (cond (r26 != (IntKind.wrap .i64 (((body24.length : Nat) : Int) - (8 : Int)))) (some ([], [], false)) (cond (decide ((0 : Int) ≤ r26) && (decide (r26 ≤ ((body24.length : Nat) : Int)) && decide (((body24.length : Nat) : Int) ≤ ((body24.length : Nat) : Int)))) (some (out28, (cut body24 r26 ((body24.length : Nat) : Int)), true)) none)))) some)))))))
noncomputable def c_iindexOf : Ctr := { args := [.val false (.sl (.int .u8))], rets := [(false, [(some 144, (.sl (.pair .str (.int .i64))))]), (false, [(none, (.sl (.int .u8)))]), (false, [(none, .bool)])], F := iindexOf }
noncomputable def X_iindexOf : Ctx := XT.withΓ (lk [(102, c_iwordAt), (38, c_iUnframe), (198, c_ireader_num), (199, c_ireader_text)]) (lk [])
noncomputable def H_iindexOf : Hints := ⟨lk [], lk [], lk []⟩
noncomputable def L_iindexOf_10 : LoopF c_iindexOf.Res := ⟨⟨83, [(5, .one (.val (.sl (.int .u8)))), (8, .one (.ptr 0 0)), (9, .one (.val (.int .i64))), (10, .one (.own 1)), (11, .one (.val (.int .i64)))], [.vars 229 [.val (.sl (.int .u8)), .val (.int .i64), .val .bool], .arr 144 (.pair .str (.int .i64))], []⟩, [(0, ⟨83, [(5, .one (.val (.sl (.int .u8)))), (8, .one (.ptr 0 0)), (10, .one (.own 1))], [.vars 229 [.val (.sl (.int .u8)), .val (.int .i64), .val .bool], .arr 144 (.pair .str (.int .i64))], []⟩)], iindexOf_L10⟩
noncomputable def T_iindexOf : Nat → Option (LoopF c_iindexOf.Res) := lk [(10, L_iindexOf_10)]
theorem s_iindexOf_10 : StepOk X_iindexOf H_iindexOf (c_iindexOf.finish X_iindexOf Try.f98.results.toList) T_iindexOf (loopAt Try.f98 0) := ⟨L_iindexOf_10, by kernel_rfl, fun O y x r => by kernel_rfl, fun O k y x r => by kernel_rfl⟩
theorem r_iindexOf (a) : fnRun X_iindexOf H_iindexOf c_iindexOf Try.f98 T_iindexOf a = iindexOf a := by kernel_rfl
theorem h_iindexOf : CtrHolds Try.prog 98 c_iindexOf := fn_ok (.cons h_iwordAt Try.call102 (.cons h_iUnframe Try.call38 (.cons h_ireader_num Try.call198 (.cons h_ireader_text Try.call199 .nil)))) .nil (H := H_iindexOf) (tbl := T_iindexOf) Try.func98 (by kernel_rfl) (loops1 (by kernel_rfl) s_iindexOf_10) r_iindexOf
/-! 229 ireader_one -/
noncomputable def ireader_one : (List Int × Int × Bool) → Option (Int × List Int × Int × Bool)
  | (r0, r1, r2) => ((cond r2 (some (true, r0, r1, r2)) (some (decide (r1 ≥ ((r0.length : Nat) : Int)), r0, r1, r2))).bind fun (v3, r4, r5, r6) => (cond v3 (some ((0 : Int), r4, r5, true)) (cond (decide ((0 : Int) ≤ (IntKind.wrap .i64 ((IntKind.wrap .i64 (r5 + (1 : Int))) - (1 : Int)))) && decide ((IntKind.wrap .i64 ((IntKind.wrap .i64 (r5 + (1 : Int))) - (1 : Int))) < ((r4.length : Nat) : Int))) (some ((IntKind.wrap .i64 (nth r4 (IntKind.wrap .i64 ((IntKind.wrap .i64 (r5 + (1 : Int))) - (1 : Int))))), r4, (IntKind.wrap .i64 (r5 + (1 : Int))), r6)) none)))
noncomputable def c_ireader_one : Ctr := { args := [.ref 229 [(none, (.sl (.int .u8))), (none, (.int .i64)), (none, .bool)]], rets := [(false, [(none, (.int .i64))])], F := ireader_one }
noncomputable def X_ireader_one : Ctx := XT.withΓ (lk []) (lk [])
noncomputable def H_ireader_one : Hints := ⟨lk [(2, ⟨41, [(0, .one (.ptr 0 0)), (18, .one (.val .bool))], [.vars 229 [.val (.sl (.int .u8)), .val (.int .i64), .val .bool]], [0]⟩)], lk [], lk []⟩
noncomputable def T_ireader_one : Nat → Option (LoopF c_ireader_one.Res) := lk []
theorem r_ireader_one (a) : fnRun X_ireader_one H_ireader_one c_ireader_one Try.f229 T_ireader_one a = ireader_one a := by kernel_rfl
theorem h_ireader_one : CtrHolds Try.prog 229 c_ireader_one := fn_ok .nil .nil (H := H_ireader_one) (tbl := T_ireader_one) Try.func229 (by kernel_rfl) (loops0 (by kernel_rfl)) r_ireader_one
/-! 200 ireader_flag -/
noncomputable def ireader_flag : (List Int × Int × Bool) → Option (Bool × List Int × Int × Bool)
  | (r0, r1, r2) => ((ireader_one (r0, r1, r2)).bind fun (r3, r4, r5, r6) => (cond r6 (some ((r3 == (1 : Int)), r4, r5, true)) (some ((r3 == (1 : Int)), r4, r5, decide (r3 > (1 : Int))))))
noncomputable def c_ireader_flag : Ctr := { args := [.ref 229 [(none, (.sl (.int .u8))), (none, (.int .i64)), (none, .bool)]], rets := [(false, [(none, .bool)])], F := ireader_flag }
noncomputable def X_ireader_flag : Ctx := XT.withΓ (lk [(229, c_ireader_one)]) (lk [])
noncomputable def H_ireader_flag : Hints := ⟨lk [], lk [], lk []⟩
noncomputable def T_ireader_flag : Nat → Option (LoopF c_ireader_flag.Res) := lk []
theorem r_ireader_flag (a) : fnRun X_ireader_flag H_ireader_flag c_ireader_flag Try.f200 T_ireader_flag a = ireader_flag a := by kernel_rfl
theorem h_ireader_flag : CtrHolds Try.prog 200 c_ireader_flag := fn_ok (.cons h_ireader_one Try.call229 .nil) .nil (H := H_ireader_flag) (tbl := T_ireader_flag) Try.func200 (by kernel_rfl) (loops0 (by kernel_rfl)) r_ireader_flag
/-! 99 ipairsAt -/
noncomputable def ipairsAt_L7 (O : Type) : Nat → (List Int × List UInt8 × List Int × Int × Bool × List (List UInt8 × List UInt8 × Bool)) → ((List Int × Int × Bool × List (List UInt8 × List UInt8 × Bool)) → Option O) → ((List (List UInt8 × List UInt8 × Bool) × Bool) → Option O) → Option O
  | 0, _, _, _ => none
  | q + 1, (body5, last6, r7, r8, r9, out10), x, r => (cond (decide (r8 < ((body5.length : Nat) : Int))) (cond (!r9) ((ireader_num (r7, r8, r9)).bind fun (r11, r12, r13, r14) => ((ireader_text (r12, r13, r14)).bind fun (r15, r16, r17, r18) => ((ireader_flag (r16, r17, r18)).bind fun (r19, r20, r21, r22) => ((ireader_text (r20, r21, r22)).bind fun (r23, r24, r25, r26) => (cond (decide ((0 : Int) ≤ (if (((last6.length : Nat) : Int) < r11) then ((last6.length : Nat) : Int) else r11)) && decide ((if (((last6.length : Nat) : Int) < r11) then ((last6.length : Nat) : Int) else r11) ≤ ((last6.length : Nat) : Int))) (cond (decide (((cut last6 (0 : Int) (if (((last6.length : Nat) : Int) < r11) then ((last6.length : Nat) : Int) else r11)).length + r15.length) ≤ lenBound)) (cond (decide (r11 > ((last6.length : Nat) : Int))) (r ([], false)) (cond (decide ((out10.length + [(((cut last6 (0 : Int) (if (((last6.length : Nat) : Int) < r11) then ((last6.length : Nat) : Int) else r11)) ++ r15), r23, r19)].length) ≤ lenBound)) (ipairsAt_L7 O q (body5, ((cut last6 (0 : Int) (if (((last6.length : Nat) : Int) < r11) then ((last6.length : Nat) : Int) else r11)) ++ r15), r24, r25, r26, (out10 ++ [(((cut last6 (0 : Int) (if (((last6.length : Nat) : Int) < r11) then ((last6.length : Nat) : Int) else r11)) ++ r15), r23, r19)])) x r) none)) none) none))))) (x (r7, r8, r9, out10))) (x (r7, r8, r9, out10)))
noncomputable def ipairsAt : (List Int × Int) → Option (List (List UInt8 × List UInt8 × Bool) × Bool)
  | (b0, at1) => ((iUnframe (b0, at1)).bind fun (r2, r3, r4) => (cond (!r4) (some ([], false)) (ipairsAt_L7 (List (List UInt8 × List UInt8 × Bool) × Bool) fuel (r2, [], r2, (0 : Int), false, []) (fun (r27, r28, r29, out30) => (some (out30, (!r29)))) some)))
noncomputable def c_ipairsAt : Ctr := { args := [.val false (.sl (.int .u8)), .val false (.int .i64)], rets := [(false, [(some 49, (.sl (.pair .str (.pair .str .bool))))]), (false, [(none, .bool)])], F := ipairsAt }
noncomputable def X_ipairsAt : Ctx := XT.withΓ (lk [(38, c_iUnframe), (198, c_ireader_num), (199, c_ireader_text), (200, c_ireader_flag)]) (lk [])
noncomputable def H_ipairsAt : Hints := ⟨lk [], lk [], lk [(11, [8, 9, 0, 1, 2, 3, 4, 5, 6, 7, 10, 11, 12, 13])]⟩
noncomputable def L_ipairsAt_7 : LoopF c_ipairsAt.Res := ⟨⟨76, [(6, .one (.val (.sl (.int .u8)))), (9, .one (.ptr 0 0)), (10, .one (.own 1)), (11, .one (.val .str))], [.vars 229 [.val (.sl (.int .u8)), .val (.int .i64), .val .bool], .arr 49 (.pair .str (.pair .str .bool))], []⟩, [(0, ⟨76, [(9, .one (.ptr 0 0)), (10, .one (.own 1))], [.vars 229 [.val (.sl (.int .u8)), .val (.int .i64), .val .bool], .arr 49 (.pair .str (.pair .str .bool))], []⟩)], ipairsAt_L7⟩
noncomputable def T_ipairsAt : Nat → Option (LoopF c_ipairsAt.Res) := lk [(7, L_ipairsAt_7)]
theorem s_ipairsAt_7 : StepOk X_ipairsAt H_ipairsAt (c_ipairsAt.finish X_ipairsAt Try.f99.results.toList) T_ipairsAt (loopAt Try.f99 0) := ⟨L_ipairsAt_7, by kernel_rfl, fun O y x r => by kernel_rfl, fun O k y x r => by kernel_rfl⟩
theorem r_ipairsAt (a) : fnRun X_ipairsAt H_ipairsAt c_ipairsAt Try.f99 T_ipairsAt a = ipairsAt a := by kernel_rfl
theorem h_ipairsAt : CtrHolds Try.prog 99 c_ipairsAt := fn_ok (.cons h_iUnframe Try.call38 (.cons h_ireader_num Try.call198 (.cons h_ireader_text Try.call199 (.cons h_ireader_flag Try.call200 .nil)))) .nil (H := H_ipairsAt) (tbl := T_ipairsAt) Try.func99 (by kernel_rfl) (loops1 (by kernel_rfl) s_ipairsAt_7) r_ipairsAt
/-! 31 iTablePairs -/
noncomputable def iTablePairs_L4 (O : Type) : Nat → (List Int × Bool × Int × Int × List (List UInt8 × List UInt8 × Bool) × List (List UInt8 × Int)) → ((List Int × Bool × List (List UInt8 × List UInt8 × Bool)) → Option O) → ((List (List UInt8 × List UInt8 × Bool) × Bool) → Option O) → Option O
  | 0, _, _, _ => none
  | q + 1, (b4, ok5, v6, v7, out8, v9), x, r => (cond (decide (v7 < v6)) (cond (decide ((0 : Int) ≤ v7) && decide (v7 < ((v9.length : Nat) : Int))) ((ipairsAt (b4, (nth v9 v7).2)).bind fun (r10, r11) => (cond (!ok5) (r ([], false)) (cond (!r11) (r ([], false)) (cond (decide (((out8.length : Nat) : Int) > (200 : Int))) (r ([], false)) (cond (decide ((out8.length + r10.length) ≤ lenBound)) (iTablePairs_L4 O q (b4, ok5, v6, (IntKind.wrap .i64 (v7 + (1 : Int))), (out8 ++ r10), v9) x r) none))))) none) (x (b4, ok5, out8)))
noncomputable def iTablePairs : (List Int) → Option (List (List UInt8 × List UInt8 × Bool) × Bool)
  | b0 => ((iindexOf b0).bind fun (r1, r2, r3) => (iTablePairs_L4 (List (List UInt8 × List UInt8 × Bool) × Bool) fuel (b0, r3, ((r1.length : Nat) : Int), (0 : Int), [], r1) (fun (b12, ok13, out14) => ((iPutTable out14).bind fun r15 => (cond (!ok13) (some ([], false)) (cond (((r15.length : Nat) : Int) == (0 : Int)) (some ([], false)) (cond (!((strOf r15) == (strOf b12))) (some ([], false)) (some (out14, true))))))) some))
noncomputable def c_iTablePairs : Ctr := { args := [.val false (.sl (.int .u8))], rets := [(false, [(some 49, (.sl (.pair .str (.pair .str .bool))))]), (false, [(none, .bool)])], F := iTablePairs }
noncomputable def X_iTablePairs : Ctx := XT.withΓ (lk [(98, c_iindexOf), (99, c_ipairsAt), (30, c_iPutTable)]) (lk [])
noncomputable def H_iTablePairs : Hints := ⟨lk [], lk [], lk []⟩
noncomputable def L_iTablePairs_4 : LoopF c_iTablePairs.Res := ⟨⟨64, [(0, .one (.val (.sl (.int .u8)))), (6, .one (.val .bool)), (7, .one (.own 0)), (19, .one (.own 1)), (20, .one (.val (.int .i64))), (21, .one (.val (.int .i64)))], [.arr 49 (.pair .str (.pair .str .bool)), .arr 144 (.pair .str (.int .i64))], []⟩, [(0, ⟨64, [(0, .one (.val (.sl (.int .u8)))), (6, .one (.val .bool)), (7, .one (.own 0))], [.arr 49 (.pair .str (.pair .str .bool))], []⟩)], iTablePairs_L4⟩
noncomputable def T_iTablePairs : Nat → Option (LoopF c_iTablePairs.Res) := lk [(4, L_iTablePairs_4)]
theorem s_iTablePairs_4 : StepOk X_iTablePairs H_iTablePairs (c_iTablePairs.finish X_iTablePairs Try.f31.results.toList) T_iTablePairs (loopAt Try.f31 0) := ⟨L_iTablePairs_4, by kernel_rfl, fun O y x r => by kernel_rfl, fun O k y x r => by kernel_rfl⟩
theorem r_iTablePairs (a) : fnRun X_iTablePairs H_iTablePairs c_iTablePairs Try.f31 T_iTablePairs a = iTablePairs a := by kernel_rfl
theorem h_iTablePairs : CtrHolds Try.prog 31 c_iTablePairs := fn_ok (.cons h_iindexOf Try.call98 (.cons h_ipairsAt Try.call99 (.cons h_iPutTable Try.call30 .nil))) .nil (H := H_iTablePairs) (tbl := T_iTablePairs) Try.func31 (by kernel_rfl) (loops1 (by kernel_rfl) s_iTablePairs_4) r_iTablePairs
/-! 32 lsamePairs -/
noncomputable def lsamePairs_L4 (O : Type) : Nat → (List (List UInt8 × List UInt8 × Bool) × List (List UInt8 × List UInt8 × Bool) × Int) → (Unit → Option O) → (Bool → Option O) → Option O
  | 0, _, _, _ => none
  | q + 1, (a2, b3, i4), x, r => (cond (decide (i4 < ((a2.length : Nat) : Int))) (cond (decide ((0 : Int) ≤ i4) && decide (i4 < ((a2.length : Nat) : Int))) (cond (decide ((0 : Int) ≤ i4) && decide (i4 < ((b3.length : Nat) : Int))) (cond (!(((nth a2 i4).1 == (nth b3 i4).1) && (((nth a2 i4).2.1 == (nth b3 i4).2.1) && ((nth a2 i4).2.2 == (nth b3 i4).2.2)))) (r false) (lsamePairs_L4 O q (a2, b3, (IntKind.wrap .i64 (i4 + (1 : Int)))) x r)) none) none) (x ()))
noncomputable def lsamePairs : (List (List UInt8 × List UInt8 × Bool) × List (List UInt8 × List UInt8 × Bool)) → Option Bool
  | (a0, b1) => (cond (((a0.length : Nat) : Int) != ((b1.length : Nat) : Int)) (some false) (lsamePairs_L4 Bool fuel (a0, b1, (0 : Int)) (fun _ => (some true)) some))
noncomputable def c_lsamePairs : Ctr := { args := [.val false (.sl (.pair .str (.pair .str .bool))), .val false (.sl (.pair .str (.pair .str .bool)))], rets := [(false, [(none, .bool)])], F := lsamePairs }
noncomputable def X_lsamePairs : Ctx := XT.withΓ (lk []) (lk [])
noncomputable def H_lsamePairs : Hints := ⟨lk [], lk [], lk []⟩
noncomputable def L_lsamePairs_4 : LoopF c_lsamePairs.Res := ⟨⟨26, [(0, .one (.val (.sl (.pair .str (.pair .str .bool))))), (1, .one (.val (.sl (.pair .str (.pair .str .bool))))), (5, .one (.val (.int .i64)))], [], []⟩, [(0, ⟨26, [], [], []⟩)], lsamePairs_L4⟩
noncomputable def T_lsamePairs : Nat → Option (LoopF c_lsamePairs.Res) := lk [(4, L_lsamePairs_4)]
theorem s_lsamePairs_4 : StepOk X_lsamePairs H_lsamePairs (c_lsamePairs.finish X_lsamePairs Try.f32.results.toList) T_lsamePairs (loopAt Try.f32 0) := ⟨L_lsamePairs_4, by kernel_rfl, fun O y x r => by kernel_rfl, fun O k y x r => by kernel_rfl⟩
theorem r_lsamePairs (a) : fnRun X_lsamePairs H_lsamePairs c_lsamePairs Try.f32 T_lsamePairs a = lsamePairs a := by kernel_rfl
theorem h_lsamePairs : CtrHolds Try.prog 32 c_lsamePairs := fn_ok .nil .nil (H := H_lsamePairs) (tbl := T_lsamePairs) Try.func32 (by kernel_rfl) (loops1 (by kernel_rfl) s_lsamePairs_4) r_lsamePairs
/-! 36 iMayHave -/
noncomputable def iMayHave : (List Int × List UInt8) → Option Bool
  | (filter0, key1) => (cond (((filter0.length : Nat) : Int) != (8 : Int)) (some true) ((iMark key1).bind fun (r2, r3) => (cond (decide ((0 : Int) ≤ (IntKind.wrap .i64 (Int.tdiv r2 (8 : Int)))) && decide ((IntKind.wrap .i64 (Int.tdiv r2 (8 : Int))) < ((filter0.length : Nat) : Int))) (cond (decide ((Int.tmod r2 (8 : Int)) < (0 : Int))) none (cond ((bits .and .u8 (Int.fdiv (nth filter0 (IntKind.wrap .i64 (Int.tdiv r2 (8 : Int)))) ((2 : Int) ^ (min (Int.toNat (Int.tmod r2 (8 : Int))) 8))) (1 : Int)) == (1 : Int)) (cond (decide ((0 : Int) ≤ (IntKind.wrap .i64 (Int.tdiv r3 (8 : Int)))) && decide ((IntKind.wrap .i64 (Int.tdiv r3 (8 : Int))) < ((filter0.length : Nat) : Int))) (cond (decide ((Int.tmod r3 (8 : Int)) < (0 : Int))) none (some ((bits .and .u8 (Int.fdiv (nth filter0 (IntKind.wrap .i64 (Int.tdiv r3 (8 : Int)))) ((2 : Int) ^ (min (Int.toNat (Int.tmod r3 (8 : Int))) 8))) (1 : Int)) == (1 : Int)))) none) (some false))) none)))
noncomputable def c_iMayHave : Ctr := { args := [.val false (.sl (.int .u8)), .val false .str], rets := [(false, [(none, .bool)])], F := iMayHave }
noncomputable def X_iMayHave : Ctx := XT.withΓ (lk [(35, c_iMark)]) (lk [])
noncomputable def H_iMayHave : Hints := ⟨lk [], lk [], lk []⟩
noncomputable def T_iMayHave : Nat → Option (LoopF c_iMayHave.Res) := lk []
theorem r_iMayHave (a) : fnRun X_iMayHave H_iMayHave c_iMayHave Try.f36 T_iMayHave a = iMayHave a := by kernel_rfl
theorem h_iMayHave : CtrHolds Try.prog 36 c_iMayHave := fn_ok (.cons h_iMark Try.call35 .nil) .nil (H := H_iMayHave) (tbl := T_iMayHave) Try.func36 (by kernel_rfl) (loops0 (by kernel_rfl)) r_iMayHave
/-! 33 iTableGet -/
noncomputable def iTableGet_L14 (O : Type) : Nat → (List UInt8 × Int × Int × List UInt8 × List UInt8 × Bool × List (List UInt8 × List UInt8 × Bool)) → ((List UInt8 × List UInt8 × Bool) → Option O) → (((List UInt8 × List UInt8 × Bool) × Int) → Option O) → Option O
  | 0, _, _, _ => none
  | q + 1, (key16, v17, v18, v19, v20, v21, v22), x, r => (cond (decide (v18 < v17)) (cond (decide ((0 : Int) ≤ v18) && decide (v18 < ((v22.length : Nat) : Int))) (cond ((nth v22 v18).1 == key16) (r (((nth v22 v18).1, (nth v22 v18).2.1, (nth v22 v18).2.2), (0 : Int))) (iTableGet_L14 O q (key16, v17, (IntKind.wrap .i64 (v18 + (1 : Int))), v19, v20, v21, v22) x r)) none) (x (v19, v20, v21)))
noncomputable def iTableGet_L7 (O : Type) : Nat → (List Int × List UInt8 × Int × Int × List UInt8 × List UInt8 × Bool × List (List UInt8 × Int)) → ((List UInt8 × List UInt8 × Bool) → Option O) → (((List UInt8 × List UInt8 × Bool) × Int) → Option O) → Option O
  | 0, _, _, _ => none
  | q + 1, (b6, key7, v8, v9, v10, v11, v12, v13), x, r => (cond (decide (v9 < v8)) (cond (decide ((0 : Int) ≤ v9) && decide (v9 < ((v13.length : Nat) : Int))) (cond (Op.bytesLess (nth v13 v9).1 key7) (iTableGet_L7 O q (b6, key7, v8, (IntKind.wrap .i64 (v9 + (1 : Int))), v10, v11, v12, v13) x r) ((ipairsAt (b6, (nth v13 v9).2)).bind fun (r14, r15) => (cond (!r15) (r (([], [], false), (2 : Int))) (iTableGet_L14 O fuel (key7, ((r14.length : Nat) : Int), (0 : Int), v10, v11, v12, r14) (fun (v23, v24, v25) => (x (v23, v24, v25))) r)))) none) (x (v10, v11, v12)))
noncomputable def iTableGet : (List Int × List UInt8) → Option ((List UInt8 × List UInt8 × Bool) × Int)
  | (b0, key1) => ((iindexOf b0).bind fun (r2, r3, r4) => (cond (!r4) (some (([], [], false), (2 : Int))) ((iMayHave (r3, key1)).bind fun r5 => (cond (!r5) (some (([], [], false), (1 : Int))) (iTableGet_L7 ((List UInt8 × List UInt8 × Bool) × Int) fuel (b0, key1, ((r2.length : Nat) : Int), (0 : Int), [], [], false, r2) (fun (v26, v27, v28) => (some (([], [], false), (1 : Int)))) some)))))
noncomputable def c_iTableGet : Ctr := { args := [.val false (.sl (.int .u8)), .val false .str], rets := [(true, [(none, .str), (none, .str), (none, .bool)]), (false, [(none, (.int .i64))])], F := iTableGet }
noncomputable def X_iTableGet : Ctx := XT.withΓ (lk [(98, c_iindexOf), (36, c_iMayHave), (99, c_ipairsAt)]) (lk [])
noncomputable def H_iTableGet : Hints := ⟨lk [], lk [], lk []⟩
noncomputable def L_iTableGet_7 : LoopF c_iTableGet.Res := ⟨⟨63, [(0, .one (.val (.sl (.int .u8)))), (1, .one (.val .str)), (4, .one (.ptr 0 0)), (29, .one (.own 1)), (30, .one (.val (.int .i64))), (31, .one (.val (.int .i64)))], [.vars 49 [.val .str, .val .str, .val .bool], .arr 144 (.pair .str (.int .i64))], []⟩, [(0, ⟨63, [(4, .one (.ptr 0 0))], [.vars 49 [.val .str, .val .str, .val .bool]], []⟩)], iTableGet_L7⟩
noncomputable def L_iTableGet_14 : LoopF c_iTableGet.Res := ⟨⟨63, [(1, .one (.val .str)), (4, .one (.ptr 0 0)), (49, .one (.own 1)), (50, .one (.val (.int .i64))), (51, .one (.val (.int .i64)))], [.vars 49 [.val .str, .val .str, .val .bool], .arr 49 (.pair .str (.pair .str .bool))], []⟩, [(2, ⟨63, [(4, .one (.ptr 0 0))], [.vars 49 [.val .str, .val .str, .val .bool]], []⟩)], iTableGet_L14⟩
noncomputable def T_iTableGet : Nat → Option (LoopF c_iTableGet.Res) := lk [(7, L_iTableGet_7), (14, L_iTableGet_14)]
theorem s_iTableGet_7 : StepOk X_iTableGet H_iTableGet (c_iTableGet.finish X_iTableGet Try.f33.results.toList) T_iTableGet (loopAt Try.f33 0) := ⟨L_iTableGet_7, by kernel_rfl, fun O y x r => by kernel_rfl, fun O k y x r => by kernel_rfl⟩
theorem s_iTableGet_14 : StepOk X_iTableGet H_iTableGet (c_iTableGet.finish X_iTableGet Try.f33.results.toList) T_iTableGet (loopAt Try.f33 1) := ⟨L_iTableGet_14, by kernel_rfl, fun O y x r => by kernel_rfl, fun O k y x r => by kernel_rfl⟩
theorem r_iTableGet (a) : fnRun X_iTableGet H_iTableGet c_iTableGet Try.f33 T_iTableGet a = iTableGet a := by kernel_rfl
theorem h_iTableGet : CtrHolds Try.prog 33 c_iTableGet := fn_ok (.cons h_iindexOf Try.call98 (.cons h_iMayHave Try.call36 (.cons h_ipairsAt Try.call99 .nil))) .nil (H := H_iTableGet) (tbl := T_iTableGet) Try.func33 (by kernel_rfl) (loops2 (by kernel_rfl) s_iTableGet_7 s_iTableGet_14) r_iTableGet
/-! 37 lat -/
noncomputable def lat : (List Int × Int) → Option Int
  | (code0, i1) => (cond (decide (i1 < ((code0.length : Nat) : Int))) (cond (decide ((0 : Int) ≤ i1) && decide (i1 < ((code0.length : Nat) : Int))) (some (IntKind.wrap .i64 (nth code0 i1))) none) (some (Int.tmod (IntKind.wrap .i64 ((IntKind.wrap .i64 (i1 * (31 : Int))) + (IntKind.wrap .i64 (((code0.length : Nat) : Int) * (7 : Int))))) (256 : Int))))
noncomputable def c_lat : Ctr := { args := [.val false (.sl (.int .u8)), .val false (.int .i64)], rets := [(false, [(none, (.int .i64))])], F := lat }
noncomputable def X_lat : Ctx := XT.withΓ (lk []) (lk [])
noncomputable def H_lat : Hints := ⟨lk [], lk [], lk []⟩
noncomputable def T_lat : Nat → Option (LoopF c_lat.Res) := lk []
theorem r_lat (a) : fnRun X_lat H_lat c_lat Try.f37 T_lat a = lat a := by kernel_rfl
theorem h_lat : CtrHolds Try.prog 37 c_lat := fn_ok .nil .nil (H := H_lat) (tbl := T_lat) Try.func37 (by kernel_rfl) (loops0 (by kernel_rfl)) r_lat
/-! 5 lFnTables -/
noncomputable def lFnTables_L10 (O : Type) : Nat → (List Int × Int × List (List UInt8 × List UInt8 × Bool) × List Int × List (List UInt8)) → ((List Int × List Int × List (List UInt8)) → Option O) → (Bool → Option O) → Option O
  | 0, _, _, _ => none
  | q + 1, (code7, i8, l9, b10, keys11), x, r => (cond (decide (i8 < ((l9.length : Nat) : Int))) (cond (decide ((0 : Int) ≤ i8) && decide (i8 < ((l9.length : Nat) : Int))) ((iTableGet (b10, (nth l9 i8).1)).bind fun ((r12, r13, r14), r15) => (cond (r15 != (0 : Int)) (r false) (cond (decide ((0 : Int) ≤ i8) && decide (i8 < ((l9.length : Nat) : Int))) (cond (!((r12 == (nth l9 i8).1) && ((r13 == (nth l9 i8).2.1) && (r14 == (nth l9 i8).2.2)))) (r false) (cond (decide ((0 : Int) ≤ i8) && decide (i8 < ((l9.length : Nat) : Int))) (cond (decide (((nth l9 i8).1.length + 1) ≤ lenBound)) ((iTableGet (b10, ((nth l9 i8).1 ++ [126]))).bind fun ((r16, r17, r18), r19) => (cond (r19 != (1 : Int)) (r false) (cond (decide ((0 : Int) ≤ i8) && decide (i8 < ((l9.length : Nat) : Int))) (cond (decide ((keys11.length + [(nth l9 i8).1].length) ≤ lenBound)) (lFnTables_L10 O q (code7, (IntKind.wrap .i64 (i8 + (1 : Int))), l9, b10, (keys11 ++ [(nth l9 i8).1])) x r) none) none))) none) none)) none))) none) (x (code7, b10, keys11)))
noncomputable def lFnTables_L21 (O : Type) : Nat → (List Int × Int × List Int × List (List UInt8) × List Int) → ((List Int × List Int) → Option O) → (Bool → Option O) → Option O
  | 0, _, _, _ => none
  | q + 1, (code24, i25, b26, keys27, f28), x, r => (cond (decide (i25 < ((keys27.length : Nat) : Int))) (cond (decide ((0 : Int) ≤ i25) && decide (i25 < ((keys27.length : Nat) : Int))) ((iMark (nth keys27 i25)).bind fun (r29, r30) => (cond (decide ((0 : Int) ≤ i25) && decide (i25 < ((keys27.length : Nat) : Int))) ((iMayHave (f28, (nth keys27 i25))).bind fun r31 => (cond (!r31) (r false) (cond (decide (r29 < (0 : Int))) (r false) (cond (decide (r29 > (63 : Int))) (r false) (cond (decide (r30 < (0 : Int))) (r false) (cond (decide (r30 > (63 : Int))) (r false) (lFnTables_L21 O q (code24, (IntKind.wrap .i64 (i25 + (1 : Int))), b26, keys27, f28) x r))))))) none)) none) (x (code24, b26)))
noncomputable def lFnTables_L28 (O : Type) : Nat → (List Int × Int × Int) → ((List Int × Int) → Option O) → (Bool → Option O) → Option O
  | 0, _, _, _ => none
  | q + 1, (b36, k37, from38), x, r => (cond (decide (from38 < (IntKind.wrap .i64 (((b36.length : Nat) : Int) - (4 : Int))))) ((iUnframe (b36, from38)).bind fun (r39, r40, r41) => (cond (!r41) (r false) (cond (decide ((IntKind.wrap .i64 (Int.tdiv k37 (8 : Int))) ≥ (IntKind.wrap .i64 (from38 + (4 : Int))))) (cond (decide ((IntKind.wrap .i64 (Int.tdiv k37 (8 : Int))) < (IntKind.wrap .i64 (r40 - ((r39.length : Nat) : Int))))) (r true) (lFnTables_L28 O q (b36, k37, r40) x r)) (lFnTables_L28 O q (b36, k37, r40) x r)))) (x (b36, k37)))
noncomputable def lFnTables : (List Int) → Option Bool
  | code0 => ((lbig code0).bind fun r1 => (cond r1 (some true) ((sDrawPairs code0).bind fun r2 => ((iPutTable r2).bind fun r3 => ((iTablePairs r3).bind fun (r4, r5) => (cond (!r5) (some false) ((lsamePairs (r4, r2)).bind fun r6 => (cond (!r6) (some false) (cond (((r3.length : Nat) : Int) == (0 : Int)) (some false) (lFnTables_L10 Bool fuel (code0, (0 : Int), r2, r3, []) (fun (code20, b21, keys22) => ((iFilter keys22).bind fun r23 => (lFnTables_L21 Bool fuel (code20, (0 : Int), b21, keys22, r23) (fun (code32, b33) => ((lat (code32, (2 : Int))).bind fun r34 => ((lat (code32, (3 : Int))).bind fun r35 => (cond ((IntKind.wrap .i64 ((8 : Int) * ((b33.length : Nat) : Int))) == (0 : Int)) none (lFnTables_L28 Bool fuel (b33, (Int.tmod (IntKind.wrap .i64 ((IntKind.wrap .i64 (r34 * (256 : Int))) + r35)) (IntKind.wrap .i64 ((8 : Int) * ((b33.length : Nat) : Int)))), (0 : Int)) (fun (b42, k43) => (cond (decide ((0 + b42.length) ≤ lenBound)) (cond (decide ((0 : Int) ≤ (IntKind.wrap .i64 (Int.tdiv k43 (8 : Int)))) && decide ((IntKind.wrap .i64 (Int.tdiv k43 (8 : Int))) < ((([] ++ b42).length : Nat) : Int))) (cond (decide ((IntKind.wrap .u64 (Int.tmod k43 (8 : Int))) < (0 : Int))) none (cond (decide ((0 : Int) ≤ (IntKind.wrap .i64 (Int.tdiv k43 (8 : Int)))) && decide ((IntKind.wrap .i64 (Int.tdiv k43 (8 : Int))) < ((([] ++ b42).length : Nat) : Int))) ((iTablePairs (List.set ([] ++ b42) (Int.toNat (IntKind.wrap .i64 (Int.tdiv k43 (8 : Int)))) (bits .xor .u8 (nth ([] ++ b42) (IntKind.wrap .i64 (Int.tdiv k43 (8 : Int)))) (IntKind.wrap .u8 ((1 : Int) * ((2 : Int) ^ (min (Int.toNat (IntKind.wrap .u64 (Int.tmod k43 (8 : Int)))) 8))))))).bind fun (r44, r45) => (cond (!r45) (some true) (some (decide ((IntKind.wrap .i64 (Int.tdiv k43 (8 : Int))) ≥ (IntKind.wrap .i64 (((b42.length : Nat) : Int) - (4 : Int)))))))) none)) none) none)) some))))) some))) some))))))))))
noncomputable def c_lFnTables : Ctr := { args := [.val false (.sl (.int .u8))], rets := [(false, [(none, .bool)])], F := lFnTables }
noncomputable def X_lFnTables : Ctx := XT.withΓ (lk [(17, c_lbig), (29, c_sDrawPairs), (30, c_iPutTable), (31, c_iTablePairs), (32, c_lsamePairs), (33, c_iTableGet), (34, c_iFilter), (35, c_iMark), (36, c_iMayHave), (37, c_lat), (38, c_iUnframe)]) (lk [])
noncomputable def H_lFnTables : Hints := ⟨lk [], lk [], lk []⟩
noncomputable def L_lFnTables_10 : LoopF c_lFnTables.Res := ⟨⟨204, [(0, .one (.val (.sl (.int .u8)))), (3, .one (.own 0)), (4, .one (.own 1)), (7, .one (.own 2)), (8, .one (.val (.int .i64)))], [.arr 49 (.pair .str (.pair .str .bool)), .arr 5 (.int .u8), .arr 9 .str], []⟩, [(0, ⟨204, [(0, .one (.val (.sl (.int .u8)))), (4, .one (.own 0)), (7, .one (.own 1))], [.arr 5 (.int .u8), .arr 9 .str], []⟩)], lFnTables_L10⟩
noncomputable def L_lFnTables_21 : LoopF c_lFnTables.Res := ⟨⟨204, [(0, .one (.val (.sl (.int .u8)))), (4, .one (.own 0)), (7, .one (.own 1)), (13, .one (.own 2)), (14, .one (.val (.int .i64)))], [.arr 5 (.int .u8), .arr 9 .str, .arr 5 (.int .u8)], []⟩, [(2, ⟨204, [(0, .one (.val (.sl (.int .u8)))), (4, .one (.own 0))], [.arr 5 (.int .u8)], []⟩)], lFnTables_L21⟩
noncomputable def L_lFnTables_28 : LoopF c_lFnTables.Res := ⟨⟨204, [(4, .one (.val (.sl (.int .u8)))), (17, .one (.val (.int .i64))), (18, .one (.val (.int .i64)))], [], []⟩, [(4, ⟨204, [(4, .one (.val (.sl (.int .u8)))), (17, .one (.val (.int .i64)))], [], []⟩)], lFnTables_L28⟩
noncomputable def T_lFnTables : Nat → Option (LoopF c_lFnTables.Res) := lk [(10, L_lFnTables_10), (21, L_lFnTables_21), (28, L_lFnTables_28)]
theorem s_lFnTables_10 : StepOk X_lFnTables H_lFnTables (c_lFnTables.finish X_lFnTables Try.f5.results.toList) T_lFnTables (loopAt Try.f5 0) := ⟨L_lFnTables_10, by kernel_rfl, fun O y x r => by kernel_rfl, fun O k y x r => by kernel_rfl⟩
theorem s_lFnTables_21 : StepOk X_lFnTables H_lFnTables (c_lFnTables.finish X_lFnTables Try.f5.results.toList) T_lFnTables (loopAt Try.f5 1) := ⟨L_lFnTables_21, by kernel_rfl, fun O y x r => by kernel_rfl, fun O k y x r => by kernel_rfl⟩
theorem s_lFnTables_28 : StepOk X_lFnTables H_lFnTables (c_lFnTables.finish X_lFnTables Try.f5.results.toList) T_lFnTables (loopAt Try.f5 2) := ⟨L_lFnTables_28, by kernel_rfl, fun O y x r => by kernel_rfl, fun O k y x r => by kernel_rfl⟩
theorem r_lFnTables (a) : fnRun X_lFnTables H_lFnTables c_lFnTables Try.f5 T_lFnTables a = lFnTables a := by kernel_rfl
theorem h_lFnTables : CtrHolds Try.prog 5 c_lFnTables := fn_ok (.cons h_lbig Try.call17 (.cons h_sDrawPairs Try.call29 (.cons h_iPutTable Try.call30 (.cons h_iTablePairs Try.call31 (.cons h_lsamePairs Try.call32 (.cons h_iTableGet Try.call33 (.cons h_iFilter Try.call34 (.cons h_iMark Try.call35 (.cons h_iMayHave Try.call36 (.cons h_lat Try.call37 (.cons h_iUnframe Try.call38 .nil))))))))))) .nil (H := H_lFnTables) (tbl := T_lFnTables) Try.func5 (by kernel_rfl) (loops3 (by kernel_rfl) s_lFnTables_10 s_lFnTables_21 s_lFnTables_28) r_lFnTables
end Go.Rx
