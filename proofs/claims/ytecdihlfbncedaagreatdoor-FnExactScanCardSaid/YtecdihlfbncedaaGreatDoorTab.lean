import Derived.Test.YtecdihlfbncedaaGreatDoorRxD
import Derived.Test.YtecdihlfbncedaaGreatDoorShelf
import Derived.Test.YtecdihlfbncedaaGreatDoorProg
import Derived.KernelRfl
import Derived.Lib.ItoaNum
import Derived.Lib.LaidTab
import Derived.Lib.Split
import Derived.Lib.SplitLaws
import Derived.Lib.AtoiAll
import Derived.Lib.ItoaLen
set_option linter.all false
namespace Go.Rx
open Go.Proofs
/-- What stands in memory from the begin: strconv's table of powers, its errors, a number of bytealg's. -/
def tabName : String := "internal/strconv.uint64pow10"
def IfaceV (v : Value) : Prop := v = .nilIface ∨ ∃ te pe, v = .iface te pe
theorem g_pow : ∃ g, Tryz.prog.globalNamed tabName = some g ∧ g < 8 := Option.isSome_iff_exists.1 (show (Tryz.prog.globalNamed tabName).isSome = true by kernel_rfl) |>.elim fun g h => ⟨g, h, by
  have h2 : (Tryz.prog.globalNamed tabName).all (fun g => decide (g < 8)) = true := by kernel_rfl
  rw [h] at h2
  simpa using h2⟩
def DoorT (w : World) : Prop := Lib.TabIs Tryz.prog w tabName .u64 Lib.pow10Tab ∧ (∃ m, w.cell? ⟨2, 0, none⟩ = some (.int .i64 m)) ∧ (∃ v, w.cell? ⟨0, 0, none⟩ = some v ∧ IfaceV v) ∧ (∃ v, w.cell? ⟨1, 0, none⟩ = some v ∧ IfaceV v) ∧ 8 ≤ w.heap.size
theorem door_kept (w w' : World) (h : ∀ b, b < 8 → w'.heap[b]? = w.heap[b]?) (t : DoorT w) : DoorT w' := by
  obtain ⟨t1, t2, t3, t4, t5⟩ := t
  have hc : ∀ b o, b < 8 → w'.cell? ⟨b, o, none⟩ = w.cell? ⟨b, o, none⟩ := fun b o hb => by simp only [World.cell?, h b hb]
  refine ⟨?_, by rw [hc _ _ (by decide)]; exact t2, by rw [hc _ _ (by decide)]; exact t3, by rw [hc _ _ (by decide)]; exact t4, ?_⟩
  · unfold Lib.TabIs World.var? at *
    obtain ⟨g, hg, hlt⟩ := g_pow
    rw [hg] at t1 ⊢
    simp only [Option.bind_some] at t1 ⊢
    rw [h g hlt]
    exact t1
  · apply Nat.le_of_not_lt
    intro hlt
    have h1 := h w'.heap.size hlt
    have h2 : w'.heap.size < w.heap.size := Nat.lt_of_lt_of_le hlt t5
    rw [Array.getElem?_eq_none (Nat.le_refl _), Array.getElem?_eq_getElem h2] at h1
    cases h1
class TabsD extends Tabs where
  imp : ∀ w, T w → DoorT w
/-- In the world that a law is asked in. -/
@[reducible] def doorTabs (W : World) : TabsD where
  T := DoorT
  B b := b < 8
  kept := door_kept
  sep := true
  N := W.heap.size
  S := fun _ _ => False
  noS := fun _ _ _ h => h
  imp := fun _ h => h
def tysT : List (Option Ty) := 
[
  none,
  none,
  some (.int .i64),
  some (.int .i64),
  some (.bool),
  some (.int .u8),
  some (.int .u8),
  some (.pair (.int .i64) (.pair (.int .i64) (.pair (.bool) (.int .u8)))),
  some (.pair (.int .i64) (.pair (.int .i64) (.pair (.bool) (.int .u8)))),
  some (.str),
  some (.str),
  some (.str),
  some (.int .u64),
  some (.pair (.str) (.int .u64)),
  some (.pair (.str) (.int .u64)),
  none,
  none,
  none,
  none,
  none,
  none,
  some (.int .i32),
  some (.old (.pair (.int .i64) (.pair (.old (.int .u8)) (.int .i64)))),
  some (.old (.pair (.str) (.int .i64))),
  some (.pair (.old (.pair (.int .i64) (.pair (.old (.int .u8)) (.int .i64)))) (.pair (.old (.pair (.str) (.int .i64))) (.pair (.old (.pair (.str) (.int .i64))) (.int .i64)))),
  some (.pair (.old (.pair (.int .i64) (.pair (.old (.int .u8)) (.int .i64)))) (.pair (.old (.pair (.str) (.int .i64))) (.pair (.old (.pair (.str) (.int .i64))) (.int .i64)))),
  none,
  some (.sl (.pair (.int .i64) (.pair (.int .i64) (.pair (.str) (.str))))),
  some (.pair (.int .i64) (.pair (.int .i64) (.sl (.pair (.int .i64) (.pair (.int .i64) (.pair (.str) (.str))))))),
  some (.pair (.int .i64) (.pair (.int .i64) (.sl (.pair (.int .i64) (.pair (.int .i64) (.pair (.str) (.str))))))),
  none,
  none,
  some (.sl (.pair (.int .i64) (.pair (.sl (.int .u8)) (.int .i64)))),
  some (.sl (.pair (.str) (.int .i64))),
  some (.pair (.sl (.pair (.int .i64) (.pair (.sl (.int .u8)) (.int .i64)))) (.pair (.sl (.pair (.str) (.int .i64))) (.pair (.sl (.pair (.str) (.int .i64))) (.int .i64)))),
  some (.pair (.sl (.pair (.int .i64) (.pair (.sl (.int .u8)) (.int .i64)))) (.pair (.sl (.pair (.str) (.int .i64))) (.pair (.sl (.pair (.str) (.int .i64))) (.int .i64)))),
  none,
  none,
  none,
  none,
  none,
  none,
  some (.old (.pair (.pair (.str) (.pair (.str) (.bool))) (.int .i64))),
  some (.old (.pair (.pair (.str) (.pair (.str) (.bool))) (.int .i64))),
  some (.old (.pair (.pair (.str) (.pair (.str) (.bool))) (.int .i64))),
  some (.old (.pair (.int .i64) (.pair (.int .i64) (.pair (.str) (.str))))),
  some (.pair (.int .i64) (.pair (.int .i64) (.old (.pair (.int .i64) (.pair (.int .i64) (.pair (.str) (.str))))))),
  some (.pair (.int .i64) (.pair (.int .i64) (.old (.pair (.int .i64) (.pair (.int .i64) (.pair (.str) (.str))))))),
  some (.pair (.pair (.old (.pair (.int .i64) (.pair (.old (.int .u8)) (.int .i64)))) (.pair (.old (.pair (.str) (.int .i64))) (.pair (.old (.pair (.str) (.int .i64))) (.int .i64)))) (.pair (.old (.pair (.pair (.str) (.pair (.str) (.bool))) (.int .i64))) (.pair (.int .i64) (.pair (.int .i64) (.old (.pair (.int .i64) (.pair (.int .i64) (.pair (.str) (.str))))))))),
  some (.pair (.pair (.old (.pair (.int .i64) (.pair (.old (.int .u8)) (.int .i64)))) (.pair (.old (.pair (.str) (.int .i64))) (.pair (.old (.pair (.str) (.int .i64))) (.int .i64)))) (.pair (.old (.pair (.pair (.str) (.pair (.str) (.bool))) (.int .i64))) (.pair (.int .i64) (.pair (.int .i64) (.old (.pair (.int .i64) (.pair (.int .i64) (.pair (.str) (.str))))))))),
  none,
  some (.sl (.pair (.str) (.pair (.str) (.bool)))),
  none,
  some (.sl (.pair (.pair (.str) (.pair (.str) (.bool))) (.int .i64))),
  some (.sl (.pair (.pair (.str) (.pair (.str) (.bool))) (.int .i64))),
  some (.sl (.pair (.pair (.str) (.pair (.str) (.bool))) (.int .i64))),
  some (.pair (.pair (.sl (.pair (.int .i64) (.pair (.sl (.int .u8)) (.int .i64)))) (.pair (.sl (.pair (.str) (.int .i64))) (.pair (.sl (.pair (.str) (.int .i64))) (.int .i64)))) (.pair (.sl (.pair (.pair (.str) (.pair (.str) (.bool))) (.int .i64))) (.pair (.int .i64) (.pair (.int .i64) (.sl (.pair (.int .i64) (.pair (.int .i64) (.pair (.str) (.str))))))))),
  some (.pair (.pair (.sl (.pair (.int .i64) (.pair (.sl (.int .u8)) (.int .i64)))) (.pair (.sl (.pair (.str) (.int .i64))) (.pair (.sl (.pair (.str) (.int .i64))) (.int .i64)))) (.pair (.sl (.pair (.pair (.str) (.pair (.str) (.bool))) (.int .i64))) (.pair (.int .i64) (.pair (.int .i64) (.sl (.pair (.int .i64) (.pair (.int .i64) (.pair (.str) (.str))))))))),
  none,
  none,
  none,
  none,
  none,
  none,
  none,
  none,
  some (.sl (.int .u8)),
  none,
  none,
  none,
  none,
  none,
  none,
  none,
  none,
  none,
  none,
  none,
  none,
  none,
  none,
  none,
  none,
  none,
  none,
  some (.sl (.sl (.pair (.str) (.pair (.str) (.bool))))),
  none,
  some (.pair (.int .i64) (.pair (.int .i64) (.pair (.str) (.str)))),
  some (.pair (.int .i64) (.pair (.int .i64) (.pair (.str) (.str)))),
  none,
  none,
  none,
  some (.pair (.str) (.pair (.str) (.bool))),
  some (.pair (.str) (.pair (.str) (.bool))),
  none,
  none,
  none,
  none,
  some (.pair (.int .i64) (.pair (.sl (.int .u8)) (.int .i64))),
  some (.pair (.int .i64) (.pair (.old (.int .u8)) (.int .i64))),
  none,
  some (.pair (.str) (.int .i64)),
  some (.pair (.str) (.int .i64)),
  none,
  some (.pair (.str) (.int .i64)),
  none,
  some (.pair (.int .i64) (.pair (.sl (.int .u8)) (.int .i64))),
  some (.sl (.str)),
  none,
  none,
  none,
  none,
  none,
  none,
  none,
  none,
  none,
  none,
  none,
  none,
  none,
  none,
  none,
  none,
  none,
  none,
  none,
  none,
  none,
  some (.sl (.sl (.int .u8))),
  none,
  none,
  none,
  none,
  none,
  none,
  none,
  none,
  none,
  none,
  some (.pair (.pair (.str) (.pair (.str) (.bool))) (.int .i64)),
  some (.pair (.pair (.str) (.pair (.str) (.bool))) (.int .i64)),
  some (.sl (.int .i64)),
  none,
  none,
  none,
  none,
  none,
  none,
  none,
  none,
  none,
  none,
  none,
  some (.int .u64),
  none,
  none,
  some (.pair (.str) (.pair (.str) (.bool))),
  some (.pair (.pair (.str) (.pair (.str) (.bool))) (.int .i64)),
  some (.pair (.pair (.str) (.pair (.str) (.bool))) (.int .i64)),
  none,
  some (.pair (.int .i64) (.pair (.int .i64) (.pair (.str) (.str)))),
  none,
  none,
  none,
  none,
  none,
  none,
  none,
  none,
  none,
  none,
  none,
  none,
  none,
  none,
  some (.pair (.sl (.int .u8)) (.pair (.int .i64) (.bool))),
  some (.pair (.sl (.int .u8)) (.pair (.int .i64) (.bool))),
  none,
  none,
  none,
  some (.sl (.pair (.str) (.int .i64))),
  none,
  none,
  some (.pair (.str) (.int .i64)),
  some (.pair (.str) (.int .i64)),
  none,
  none,
  none,
  some (.int .i64),
  none,
  none,
  none,
  none,
  none,
  none,
  none,
  none,
  none,
  none,
  none,
  none,
  none,
  none,
  none,
  none,
  none,
  none,
  none,
  none,
  none,
  none,
  some (.int .u64),
  none,
  none,
  none,
  none,
  none,
  none,
  none,
  none,
  some (.int .u32),
  none,
  none,
  none,
  none,
  none,
  some (.str),
  some (.str),
  none,
  none,
  none,
  none,
  none,
  none,
  some (.pair (.int .u8) (.int .u8)),
  some (.pair (.int .u8) (.int .u8)),
  none,
  none,
  none,
  none,
  none,
  none,
  none,
  none,
  none,
  none,
  none,
  none,
  none,
  none,
  none,
  none,
  some (.int .u8),
  some (.int .u8),
  none,
  some (.int .i32),
  some (.int .i32),
  none,
  none,
  none]
noncomputable def XT : Ctx := { P := Tryz.prog, tys := tysT, eqs := [88, 141, 93, 104], Γ := fun _ => none }
theorem chkT : chkAll XT = true := by kernel_rfl
theorem chkE : (XT.eqs.all fun t => (chkEq XT 10 t && XT.agg t) && !XT.P.eqGuardType XT.P.depth t) = true := by kernel_rfl
theorem okT [Tabs] : CtxOk XT := ctxOk_of chkT chkE
theorem mixT : XT.P.follows .mixedOrders = true := by kernel_rfl
end Go.Rx
namespace Go.Rx
open Go.Proofs
variable [Tabs]
theorem fn_ok {l : List (Nat × Ctr)} {n : List (Nat × NCtr)} {H : Hints} {f : FuncId} {fn : Func} {k : Ctr} {tbl : Nat → Option (LoopF k.Res)} (g : GamL Tryz.prog l) (gn : NewL Tryz.prog n) (hf : XT.P.funcs[f]? = some fn) (hb : fn.body = some (bodyOf fn))
    (hs : ∀ b ∈ allLoops (bodyOf fn), StepOk (XT.withΓ (lk l) (lk n)) H (k.finish (XT.withΓ (lk l) (lk n)) fn.results.toList) tbl b) (hF : ∀ a, fnRun (XT.withΓ (lk l) (lk n)) H k fn tbl a = k.F a) : CtrHolds XT.P f k :=
  ctr_ok (okT.withΓ _ _) (gamma_lk g gn) (fun w => .none (fun _ => rfl) w) mixT hf hb hs fun x r e => by rw [hF]; exact e
/-- A law that marks what it made. -/
theorem law_fn_ok {W : World} {l : List (Nat × Ctr)} {n : List (Nat × NCtr)} {m : List (Nat × MCtr)} {H : Hints} {f : FuncId} {fn : Func} {k : Ctr} {tbl : Nat → Option (LoopF k.Res)} (g : GamL Tryz.prog l) (gn : NewL Tryz.prog n) (gm : MarkL Tryz.prog m) (hs : Tabs.sep = true) (hN : W.heap.size ≤ Tabs.N) (hS : ∀ b p, ¬ Tabs.S b p)
    (hf : XT.P.funcs[f]? = some fn) (hb : fn.body = some (bodyOf fn))
    (hst : ∀ b ∈ allLoops (bodyOf fn), StepOk ((XT.withΓ (lk l) (lk n)).withM (lk m)) H (k.finish ((XT.withΓ (lk l) (lk n)).withM (lk m)) fn.results.toList) tbl b) (hF : ∀ a, fnRun ((XT.withΓ (lk l) (lk n)).withM (lk m)) H k fn tbl a = k.F a) : CtrAt W XT.P f k :=
  law_ok ((okT.withΓ _ _).withM _) ((gamma_lk g gn).withM _) (law_lk gm hs hN hS) mixT hf hb hst fun x r e => by rw [hF]; exact e
end Go.Rx
/- The contracts of the library's functions. -/
namespace Go.Rx
open Go.Proofs Go.RowKit Go.Sort Go.Lib
variable [TabsD]

theorem ext_grown (w : World) (q : Nat) (os : Array Obj) : Ext w (Sort.grow (w.drewN q) os) :=
  ⟨rfl, rfl, rfl, by simp [Sort.grow, World.drewN], fun k hk => by simp only [Sort.grow, World.drewN]; rw [Array.getElem?_append_left hk]⟩
theorem ext_below {w w' : World} (h : Below w.heap.size w w') : Ext w w' := ⟨h.os, h.tape, h.output, h.size, h.block⟩
theorem grown_of {w w' : World} {Ex Rd : Nat → Prop} {ρ : Nat → Value} (M : Mem w Ex Rd [] ρ w) (hE : Ext w w') : Mem w Ex Rd [] ρ w' :=
  (mem_step M hE.chg (fun _ _ h => h.elim) (fun id x hx => by simp at hx) (fun id b ⟨⟨x, hx, _⟩, _⟩ => by simp at hx) (fun i j b ⟨⟨x, hx, _⟩, _⟩ => by simp at hx) (fun _ id x' hx => by simp at hx)).mem
theorem int_arg {w : World} {ok : Nat → Prop} {h : Heap} {ρ : Nat → Value} {k : IntKind} {a : Int} {u : Value} (r : VRep w ok h ρ (.one (.val (.int k) a)) u) : u = .int k a := by
  have r : Rep w ok (.int k) a [u] := r
  simpa [Rep] using r
theorem str_arg {w : World} {ok : Nat → Prop} {h : Heap} {ρ : Nat → Value} {a : List UInt8} {u : Value} (r : VRep w ok h ρ (.one (.val .str a)) u) : u = .string ⟨a.toArray⟩ := by
  have r : Rep w ok .str a [u] := r
  simpa [Rep] using r

/-! ### strconv.Itoa -/
def xItoa (n : Int) : Option (List UInt8) := if -9223372036854775808 ≤ n ∧ n ≤ 9223372036854775807 then some (Lib.itoa n) else none
noncomputable def c_xItoa : Ctr := { args := [.val false (.int .i64)], rets := [(false, [(none, .str)])], F := xItoa }
theorem h_xItoa : CtrHolds Tryz.prog 121 c_xItoa := by
  intro w Ex Rd ρ us a r M ra hF
  have ha : All2 (VRep w (okOf Rd [] ρ w) [] ρ) [V.one (.val (.int .i64) a)] us := ra
  have M : Mem w Ex Rd [] ρ w := M
  cases ha with
  | cons h1 h2 =>
    cases h2
    obtain rfl := int_arg h1
    have hF : xItoa a = some r := hF
    unfold xItoa at hF
    split at hF
    · rename_i hr
      cases hF
      refine (Tryz.strconv_Itoa a hr.1 hr.2 w (TabsD.imp _ M.tabs_now).1).mono fun e w' ⟨he, q, os, hw⟩ => ?_
      subst hw
      exact ⟨_, [], ρ, .one (.val .str (Lib.itoa a)), [], he, grown_of M (ext_grown w q os), rfl, .nil, rfl⟩
    · cases hF

/-! ### strings.IndexByte -/
def xIndexByte (p : List UInt8 × Int) : Option Int := some (Lib.indexByte p.1 p.2.toNat.toUInt8)
noncomputable def c_xIndexByte : Ctr := { args := [.val false .str, .val false (.int .u8)], rets := [(false, [(none, .int .i64)])], F := xIndexByte }
theorem h_xIndexByte : CtrHolds Tryz.prog 120 c_xIndexByte := by
  intro w Ex Rd ρ us a r M ra hF
  obtain ⟨s, c⟩ := a
  have ha : All2 (VRep w (okOf Rd [] ρ w) [] ρ) [V.one (.val .str s), V.one (.val (.int .u8) c)] us := ra
  have M : Mem w Ex Rd [] ρ w := M
  cases ha with
  | cons h1 h2 =>
    cases h2 with
    | cons h2 h3 =>
      cases h3
      obtain rfl := str_arg h1
      obtain rfl := int_arg h2
      have hF : some (Lib.indexByte s c.toNat.toUInt8) = some r := hF
      cases hF
      refine (Tryz.strings_IndexByte ⟨s.toArray⟩ c w).mono fun e w' ⟨he, hw⟩ => ?_
      subst hw
      exact ⟨_, [], ρ, .one (.val (.int .i64) (Lib.indexByte s c.toNat.toUInt8)), [], he, M, rfl, .nil, rfl⟩

/-! ### strconv.Atoi -/
def atoiV (s : List UInt8) : Int := match Lib.atoiAll s with
  | .ok v => v
  | Lib.NumEnd.syntax => 0
  | .range => Lib.atoiSat s
def xAtoi (s : List UInt8) : Option (Int × Unit) := if s.length ≤ 281474976710656 then some (atoiV s, ()) else none
noncomputable def c_xAtoi : Ctr := { args := [.val false .str], rets := [(false, [(none, .int .i64)]), (false, [(some 0, .unit)])], F := xAtoi }
theorem atoi_back {w w' : World} {Ex Rd : Nat → Prop} {ρ : Nat → Value} (M : Mem w Ex Rd [] ρ w) (hE : Ext w w') {v : Int} {x : Value} (hx : x.oneCell' = true) :
    ∃ u h' ρ' rv refs', Ending.returned (.tuple #[.int .i64 v, x]) = .returned u ∧ Mem w Ex Rd h' ρ' w' ∧ VRep w' (okOf Rd h' ρ' w') h' ρ' rv u ∧
      All2 (fun r v => ∃ x, h'[r]? = some x ∧ x ≠ .free ∧ (x ≠ .dead → ρ' r = v)) refs' ([].map ρ) ∧ c_xAtoi.exit0 refs' h' rv = some (v, ()) :=
  ⟨_, [], ρ, .tup [(false, [.val (.int .i64) v]), (false, [.dead])], [], rfl, grown_of M hE, ⟨[.int .i64 v, x], rfl, .cons (.inr ⟨rfl, _, rfl, rfl⟩) (.cons (.inr ⟨rfl, _, rfl, hx⟩) .nil)⟩, .nil, rfl⟩
theorem h_xAtoi : CtrHolds Tryz.prog 71 c_xAtoi := by
  intro w Ex Rd ρ us a r M ra hF
  have ha : All2 (VRep w (okOf Rd [] ρ w) [] ρ) [V.one (.val .str a)] us := ra
  have M : Mem w Ex Rd [] ρ w := M
  cases ha with
  | cons h1 h2 =>
    cases h2
    obtain rfl := str_arg h1
    have hF : xAtoi a = some r := hF
    unfold xAtoi at hF
    split at hF
    · rename_i hr
      cases hF
      obtain ⟨_, _, ⟨v1, hv1, hi1⟩, ⟨v2, hv2, hi2⟩, _⟩ := TabsD.imp _ M.tabs_now
      have hsz : (⟨a.toArray⟩ : ByteArray).size ≤ 281474976710656 := hr
      match he : Lib.atoiAll a with
      | Lib.NumEnd.ok v =>
        have hv : atoiV a = v := by unfold atoiV; rw [he]
        refine (Tryz.strconv_Atoi_ok ⟨a.toArray⟩ (by omega) v (by simpa using he) w).mono fun e w' ⟨h1, h2⟩ => ?_
        have hE : Ext w w' := by
          rcases h2 with rfl | ⟨t, rfl⟩
          · exact Ext.refl _
          · exact ⟨rfl, rfl, rfl, by rw [Lib.bytesWorld_size]; omega, fun k hk => Lib.bytesWorld_at_old w _ t k hk⟩
        rw [h1, hv]
        exact atoi_back M hE rfl
      | Lib.NumEnd.syntax =>
        have hv : atoiV a = 0 := by unfold atoiV; rw [he]
        refine (Tryz.strconv_Atoi_syntax ⟨a.toArray⟩ hsz (by simpa using he) v1 w hv1 hi1).mono fun e w' ⟨N, h1, _, _, h2⟩ => ?_
        rw [h1, hv]
        exact atoi_back M (ext_below h2) rfl
      | Lib.NumEnd.range =>
        have hv : atoiV a = Lib.atoiSat a := by unfold atoiV; rw [he]
        refine (Tryz.strconv_Atoi_range ⟨a.toArray⟩ hsz (by simpa using he) v2 w hv2 hi2).mono fun e w' ⟨N, h1, _, _, h2⟩ => ?_
        rw [h1, hv]
        exact atoi_back M (ext_below h2) rfl
    · cases hF

/-! ### strings.Split -/
def xSplit (p : List UInt8 × List UInt8) : Option (List (List UInt8)) := if p.1.length < 4294967281 ∧ 1 ≤ p.2.length then some (Lib.split p.1 p.2) else none
noncomputable def c_xSplit : Ctr := { args := [.val false .str, .val false .str], rets := [(false, [(some 9, .sl .str)])], F := xSplit }
theorem h_xSplit : CtrHolds Tryz.prog 70 c_xSplit := by
  intro w Ex Rd ρ us a r M ra hF
  obtain ⟨s, c⟩ := a
  have ha : All2 (VRep w (okOf Rd [] ρ w) [] ρ) [V.one (.val .str s), V.one (.val .str c)] us := ra
  have M : Mem w Ex Rd [] ρ w := M
  cases ha with
  | cons h1 h2 =>
    cases h2 with
    | cons h2 h3 =>
      cases h3
      obtain rfl := str_arg h1
      obtain rfl := str_arg h2
      have hF : xSplit (s, c) = some r := hF
      unfold xSplit at hF
      split at hF
      · rename_i hr
        cases hF
        obtain ⟨_, ⟨m, hm⟩, _⟩ := TabsD.imp _ M.tabs_now
        have hc1 : 1 ≤ (⟨c.toArray⟩ : ByteArray).size := hr.2
        have hs1 : (⟨s.toArray⟩ : ByteArray).size < 4294967281 := hr.1
        have hlen := Lib.splitB_all ⟨c.toArray⟩ hc1 0 _ ⟨s.toArray⟩ rfl
        refine (Tryz.strings_Split ⟨s.toArray⟩ ⟨c.toArray⟩ m w hs1 hm hc1).mono fun e w' ⟨he, hw⟩ => ?_
        have hdat := Lib.splitB_data ⟨c.toArray⟩ 0 (Lib.countB ⟨s.toArray⟩ ⟨c.toArray⟩) ⟨s.toArray⟩
        have hsp : Lib.split s c = (Lib.splitB ⟨c.toArray⟩ 0 (Lib.countB ⟨s.toArray⟩ ⟨c.toArray⟩) ⟨s.toArray⟩).map (·.data.toList) := by
          rw [hdat]; unfold Lib.split Lib.countB; simp
        generalize Lib.splitB ⟨c.toArray⟩ 0 (Lib.countB ⟨s.toArray⟩ ⟨c.toArray⟩) ⟨s.toArray⟩ = ps at *
        subst hw
        rw [hlen.symm] at he
        have G0 := grown_pad (w0 := w) M 1
        have hcells : ∀ i (hi : i < ps.length), ∃ cs, Rep (w.alloc (.cells (ps.map Value.string).toArray 9)) (okOf Rd [.arr 9 .str (Lib.split s c)] (setρ 0 [Value.slice (some ⟨w.heap.size, 0, none⟩) ps.length ps.length] ρ) (w.alloc (.cells (ps.map Value.string).toArray 9))) .str (ps[i].data.toList) cs ∧ ∀ j (hj : j < cs.length), (ps.map Value.string).toArray[0 + (i * Ty.str.size + j)]? = some cs[j] := fun i hi =>
          ⟨[.string ps[i]], by show _ = _; simp, fun j hj => by
            have : j = 0 := by simp at hj; omega
            subst this
            simp [Ty.size, hi]⟩
        have hext : Ext w (w.alloc (.cells (ps.map Value.string).toArray 9)) := Ext.push w _
        have G := grow_one (slot := 0) (x := .arr 9 .str (Lib.split s c)) (v := .slice (some ⟨w.heap.size, 0, none⟩) ps.length ps.length) G0.mem (by rfl) hext
          (fun b hb => by simp only [blockOf, Option.some.injEq] at hb; omega)
          (fun _ => by
            have hl : (Lib.split s c).length = ps.length := by rw [hsp, List.length_map]
            refine ⟨some ⟨w.heap.size, 0, none⟩, ps.length, by rw [hl], by rw [hl]; exact Nat.le_refl _, .inr ⟨w.heap.size, 0, (ps.map Value.string).toArray, (0, 0), rfl, World.push_new w _, by simp [Ty.size], fun k _ hk => by omega, fun i hi => ?_⟩⟩
            have hi' : i < ps.length := by omega
            obtain ⟨cs, h1, h2⟩ := hcells i hi'
            refine ⟨cs, ?_, h2⟩
            have : (Lib.split s c)[i] = ps[i].data.toList := by simp [hsp]
            rw [this]
            exact h1)
        have hρ : setρ 0 [Value.slice (some ⟨w.heap.size, 0, none⟩) ps.length ps.length] ρ 0 = Value.slice (some ⟨w.heap.size, 0, none⟩) ps.length ps.length := by
          have := setρ_in (slot := 0) (vals := [Value.slice (some ⟨w.heap.size, 0, none⟩) ps.length ps.length]) (ρ := ρ) (i := 0) (by simp)
          simpa using this
        refine ⟨_, [.arr 9 .str (Lib.split s c)], setρ 0 [Value.slice (some ⟨w.heap.size, 0, none⟩) ps.length ps.length] ρ, .one (.own 0), [], he, G.mem, ⟨_, rfl, rfl, rfl, fun _ => hρ.symm⟩, .nil, ?_⟩
        rfl
      · cases hF
end Go.Rx
