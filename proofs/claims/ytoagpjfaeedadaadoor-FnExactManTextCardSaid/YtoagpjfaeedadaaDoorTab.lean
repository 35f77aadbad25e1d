import Derived.Test.YtoagpjfaeedadaaDoorRxD
import Derived.Test.YtoagpjfaeedadaaDoorShelf
import Derived.Test.YtoagpjfaeedadaaDoorProg
import Derived.KernelRfl
import Derived.Lib.ItoaNum
import Derived.Lib.LaidTab
set_option linter.all false
namespace Go.Rx
open Go.Proofs
/-- strconv's table of powers stands in memory. -/
def tabName : String := "internal/strconv.uint64pow10"
instance tabsT : Tabs where
  T w := Lib.TabIs Tryd.prog w tabName .u64 Lib.pow10Tab
  B b := Tryd.prog.globalNamed tabName = some b
  kept w w' h t := by
    unfold Lib.TabIs World.var? at *
    cases hg : Tryd.prog.globalNamed tabName with
    | none => rw [hg] at t; simp at t
    | some g =>
      rw [hg] at t
      simp only [Option.bind_some] at t ⊢
      rw [h g hg]
      exact t
theorem tab_in {w : World} (t : Lib.TabIs Tryd.prog w tabName .u64 Lib.pow10Tab) : ∀ b, Tabs.B b → b < w.heap.size := fun b hb => by
  have hb : Tryd.prog.globalNamed tabName = some b := hb
  unfold Lib.TabIs World.var? at t
  rw [hb] at t
  simp only [Option.bind_some] at t
  cases hc : w.heap[b]? with
  | none => rw [hc] at t; cases t
  | some o => exact (Array.getElem?_eq_some_iff.1 hc).1
def tysT : List (Option Ty) := 
[
  none,
  none,
  some (.int .i64),
  some (.int .i64),
  some (.bool),
  some (.int .u8),
  some (.int .u8),
  some (.pair (.int .i64) (.pair (.int .i64) (.pair (.bool) (.int .u8)))),
  some (.pair (.int .i64) (.pair (.int .i64) (.pair (.bool) (.int .u8)))),
  some (.str),
  some (.str),
  some (.str),
  some (.int .u64),
  some (.pair (.str) (.int .u64)),
  some (.pair (.str) (.int .u64)),
  none,
  none,
  none,
  none,
  none,
  none,
  some (.int .i32),
  some (.sl (.pair (.int .i64) (.pair (.int .i64) (.pair (.str) (.str))))),
  some (.pair (.int .i64) (.pair (.int .i64) (.sl (.pair (.int .i64) (.pair (.int .i64) (.pair (.str) (.str))))))),
  some (.pair (.int .i64) (.pair (.int .i64) (.sl (.pair (.int .i64) (.pair (.int .i64) (.pair (.str) (.str))))))),
  none,
  none,
  some (.sl (.pair (.int .i64) (.pair (.int .i64) (.pair (.str) (.str))))),
  some (.pair (.int .i64) (.pair (.int .i64) (.sl (.pair (.int .i64) (.pair (.int .i64) (.pair (.str) (.str))))))),
  some (.pair (.int .i64) (.pair (.int .i64) (.sl (.pair (.int .i64) (.pair (.int .i64) (.pair (.str) (.str))))))),
  none,
  none,
  none,
  none,
  none,
  none,
  some (.pair (.int .i64) (.pair (.int .i64) (.pair (.str) (.str)))),
  some (.pair (.int .i64) (.pair (.int .i64) (.pair (.str) (.str)))),
  none,
  none,
  none,
  none,
  some (.pair (.int .i64) (.pair (.int .i64) (.pair (.str) (.str)))),
  none,
  none,
  some (.sl (.int .u8)),
  some (.int .u64),
  none,
  none,
  none,
  none,
  none,
  none,
  some (.int .u64),
  none,
  none,
  none,
  none,
  none,
  none,
  none,
  some (.int .u32),
  none,
  none,
  none,
  none,
  none,
  none,
  none,
  none,
  none,
  none,
  none,
  none,
  none,
  some (.int .u8),
  some (.int .u8),
  none,
  none,
  some (.int .i32),
  some (.int .i32),
  none,
  none,
  none]
noncomputable def XT : Ctx := { P := Tryd.prog, tys := tysT, eqs := [], Γ := fun _ => none }
theorem chkT : chkAll XT = true := by kernel_rfl
theorem chkE : (XT.eqs.all fun t => (chkEq XT 10 t && XT.agg t) && !XT.P.eqGuardType XT.P.depth t) = true := by kernel_rfl
theorem okT : CtxOk XT := ctxOk_of chkT chkE
theorem mixT : XT.P.follows .mixedOrders = true := by kernel_rfl
end Go.Rx
namespace Go.Rx
open Go.Proofs
theorem fn_ok {l : List (Nat × Ctr)} {n : List (Nat × NCtr)} {H : Hints} {f : FuncId} {fn : Func} {k : Ctr} {tbl : Nat → Option (LoopF k.Res)} (g : GamL Tryd.prog l) (gn : NewL Tryd.prog n) (hf : XT.P.funcs[f]? = some fn) (hb : fn.body = some (bodyOf fn))
    (hs : ∀ b ∈ allLoops (bodyOf fn), StepOk (XT.withΓ (lk l) (lk n)) H (k.finish (XT.withΓ (lk l) (lk n)) fn.results.toList) tbl b) (hF : ∀ a, fnRun (XT.withΓ (lk l) (lk n)) H k fn tbl a = k.F a) : CtrHolds XT.P f k :=
  ctr_ok (okT.withΓ _ _) (gamma_lk g gn) mixT hf hb hs fun x r e => by rw [hF]; exact e
theorem nw_ok {l : List (Nat × Ctr)} {n : List (Nat × NCtr)} {H : Hints} {f : FuncId} {fn : Func} {k : NCtr} {tbl : Nat → Option (LoopF (Ty.prod k.cs).den)} (g : GamL Tryd.prog l) (gn : NewL Tryd.prog n) (hf : XT.P.funcs[f]? = some fn) (hb : fn.body = some (bodyOf fn))
    (hs : ∀ b ∈ allLoops (bodyOf fn), StepOk (XT.withΓ (lk l) (lk n)) H (k.fin (XT.withΓ (lk l) (lk n)) fn.results.toList) tbl b) (hF : ∀ a, nRun (XT.withΓ (lk l) (lk n)) H k fn tbl a = k.F a) : NHolds XT.P f k :=
  new_ok (okT.withΓ _ _) (gamma_lk g gn) mixT hf hb hs fun x r e => by rw [hF]; exact e
end Go.Rx
/- Itoa's contract, out of the library's. -/
namespace Go.Rx
open Go.Proofs Go.RowKit Go.Sort Go.Lib

def xItoa (n : Int) : Option (List UInt8) := if -9223372036854775808 ≤ n ∧ n ≤ 9223372036854775807 then some (Lib.itoa n) else none
noncomputable def c_xItoa : Ctr := { args := [.val false (.int .i64)], rets := [(false, [(none, .str)])], F := xItoa }

theorem ext_grown (w : World) (q : Nat) (os : Array Obj) : Ext w (Sort.grow (w.drewN q) os) :=
  ⟨rfl, rfl, rfl, by simp [Sort.grow, World.drewN], fun k hk => by simp only [Sort.grow, World.drewN]; rw [Array.getElem?_append_left hk]⟩

theorem h_xItoa : CtrHolds Tryd.prog 15 c_xItoa := by
  intro w Ex Rd ρ us a r M ra hF
  have ha : All2 (VRep w (okOf Rd [] ρ w) [] ρ) [V.one (.val (.int .i64) a)] us := ra
  have M : Mem w Ex Rd [] ρ w := M
  cases ha with
  | cons h1 h2 =>
    rename_i u us
    cases h2
    have hu : u = Value.int .i64 a := by
      have h1 : Rep w (okOf Rd [] ρ w) (.int .i64) a [u] := h1
      simpa [Rep] using h1
    subst hu
    have hF : xItoa a = some r := hF
    unfold xItoa at hF
    split at hF
    · rename_i hr
      cases hF
      have := Tryd.strconv_Itoa a hr.1 hr.2 w M.tabs_now
      refine this.mono fun e w' ⟨he, q, os, hw⟩ => ?_
      subst hw
      have hE := ext_grown w q os
      have G : Grown w Ex Rd [] ρ w [] ρ (Sort.grow (w.drewN q) os) := mem_step M hE.chg (fun _ _ h => h.elim) (fun id x hx => by simp at hx) (fun id b ⟨⟨x, hx, _⟩, _⟩ => by simp at hx) (fun i j b ⟨⟨x, hx, _⟩, _⟩ => by simp at hx) (fun _ id x' hx => by simp at hx)
      refine ⟨_, [], ρ, .one (.val .str (Lib.itoa a)), [], he, G.mem, rfl, .nil, ?_⟩
      rfl
    · cases hF
end Go.Rx
