/- The law FnExactFinal returns true, for all arguments, and leaves them as they were. Conditions: none but those of the given statement. -/
import Derived.Test.YtfmpjodlkoahpaaRows
import Derived.Test.YtfmpjodlkoahpaaPFinal
import Derived.WalkKit
import Derived.ProofKit
import Derived.OpenShut
import Derived.ShutString
import Derived.ChangeOld
import Derived.Below
import Derived.SizedLaws
namespace Go.Proofs.Ytfmpjodlkoahpaa.fnExactFinal
open Go.ChangeShapes Go.WideShapes Go.ChangeAt Go.RowKit Go.Rx
set_option maxRecDepth 1000000
set_option linter.all false
theorem own : ownKnob Try.prog.godebug = none := by kernel_rfl
theorem laidOut : laidOutB Try.prog = true := by kernel_rfl
theorem fits : argsFit XT Try.f3.params.toList c_lFnExactFinal.args = true := by kernel_rfl
set_option maxRecDepth 100000 in
theorem lifted (os : Os) (started : os.Started) (H : Type) (enc : TypeId × Value → H) :
    ReturnsInHanded {} Try.checked os 3 .any (Rows.fnExactFinalSpec.pre6 enc Try.prog Try.f3 Rows.fnExactFinalRow.domain false) (Rows.fnExactFinalSpec.post enc Try.prog Try.f3 false true false false) := by
  refine returnsInHanded_of_change_sized (C := Try.checked) own started (by kernel_rfl) Try.func3
    (ChangeSpec.witness6 (enc := enc) (C := Try.checked) false ⟨#[], #[.agg #[.slice none 0 0, .slice none 0 0, .slice none 0 0]], []⟩ 8 (by kernel_rfl) (by kernel_rfl) (by kernel_rfl) (by kernel_rfl)) ?_
  intro W base args ds gs before hval0 hW hcnd hsz0 _
  have hW' := hW
  obtain ⟨p, q, hA0, hV, rfl, hfz, hnd⟩ := hW
  have hA := hA0
  rw [Try.params3] at hA
  obtain ⟨v0, vs0, d0, ds0, p0, q0, hargs, rfl, rfl, h0, r0⟩ := trodAll_cons hA
  obtain ⟨rfl, rfl, rfl⟩ := trodAll_nil r0
  obtain ⟨rfl, rfl⟩ := trodVars_none hV
  letI T0 : Tabs := ⟨fun _ => True, fun _ => False, fun _ _ _ _ => trivial, true, W.heap.size, fun _ _ => False, fun _ _ h => h.elim⟩
  obtain ⟨a, g, ra⟩ := args_rep (X := XT) (ok := okOf (fun _ => True) [] (fun _ => .bool false) W) (ρ := fun _ => .bool false) (fun k hk _ => hk) (fun _ _ h => h) (fun k hk => ⟨hk, trivial, fun id h => by obtain ⟨⟨x, hx, _⟩, _⟩ := h; simp at hx⟩) fits hA0 (fun j t v h1 h2 => hval0 j t v (by simpa using h1) (by simpa using h2))
  have hF : c_lFnExactFinal.F a = some true := by
    exact law_final_good a g.1
  have hc := law_calls (h_lFnExactFinal (W := W) rfl (Nat.le_refl _) (fun _ _ h => h)) rfl rfl ra hF ⟨trivial, fun _ h => h.elim⟩ (fun _ _ h => h) (fun _ => Nat.le_refl _) rfl
  rw [Array.toArray_toList] at hc
  refine hc.mono fun e W' ⟨he, bel⟩ => ?_
  subst he
  exact ⟨_, rfl, _, _, _, [], _, [], hW', trodAll_mk1 (shut_bool Try.underlying4 _), args_back (X := XT) laidOut bel fits hA0, rfl, bel.frame _, fun h => by cases h⟩
theorem t0 : (Rows.fnExactFinalRow.wf (OpenSpec.ofChange Rows.fnExactFinalSpec)) = true := by kernel_rfl
theorem t1 : (laidOutB Try.pinned.checked.prog) = true := by kernel_rfl
theorem t2 : (mapsRowed Try.pinned.checked.prog) = true := by kernel_rfl
theorem t3 : (Try.f3.params.all (Try.pinned.checked.prog.readableRec ·)) = true := by kernel_rfl
theorem t4 : (namedTie Try.pinned.checked.prog Rows.fnExactFinalRow.named Rows.fnExactFinalSpec.vars) = true := by kernel_rfl
theorem t5 : (Rows.fnExactFinalRow.stops == []) = true := by kernel_rfl
theorem t6 : (Try.pinned.checked.prog.stops == []) = true := by kernel_rfl
theorem t7 : (Rows.fnExactFinalRow.knobs == []) = true := by kernel_rfl
theorem t8 : (Try.pinned.checked.prog.stopKnobs == []) = true := by kernel_rfl
theorem t9 : (Rows.fnExactFinalRow.inPlace == Try.pinned.checked.prog.inPlace 3) = true := by kernel_rfl
theorem t10 : (Rows.fnExactFinalRow.unfollowed == Try.pinned.checked.prog.unfollowed 3) = true := by kernel_rfl
theorem t11 : (Rows.fnExactFinalRow.recurses == Try.pinned.checked.prog.recurses 3) = true := by kernel_rfl
theorem t12 : (Rows.fnExactFinalRow.named == Try.pinned.checked.prog.varsNamed 3) = true := by kernel_rfl
theorem t13 : (Rows.fnExactFinalRow.maps == (Try.f3.params.toList ++ Rows.fnExactFinalSpec.plain.varTypes Try.pinned.checked.prog).any (Try.pinned.checked.prog.mapsRec ·)) = true := by kernel_rfl
theorem t14 : (Rows.fnExactFinalRow.ifaces == (Try.f3.params.toList ++ Rows.fnExactFinalSpec.plain.varTypes Try.pinned.checked.prog).any (Try.pinned.checked.prog.ifacesRec ·)) = true := by kernel_rfl
theorem t15 : (Rows.fnExactFinalRow.mapsOut == Try.pinned.checked.prog.mapsAmong Try.f3.resultTypes.toList) = true := by kernel_rfl
theorem t16 : (Rows.fnExactFinalRow.loops == (Try.f3.params.toList ++ Rows.fnExactFinalSpec.plain.varTypes Try.pinned.checked.prog).any (Try.pinned.checked.prog.loopsFrom ·)) = true := by kernel_rfl
theorem t17 : (Rows.fnExactFinalRow.wideKeys == (Try.f3.params.toList ++ Rows.fnExactFinalSpec.plain.varTypes Try.pinned.checked.prog ++ Try.f3.resultTypes.toList).any (Try.pinned.checked.prog.wideKeysFrom ·)) = true := by kernel_rfl
theorem t18 : (Rows.fnExactFinalSpec.vars.all (Try.pinned.checked.prog.varReadable ·)) = true := by kernel_rfl
theorem t19 : (Try.f3.resultTypes.all (fun t => Try.pinned.checked.prog.readableRec t && decide (t < Try.pinned.checked.prog.types.size))) = true := by kernel_rfl
theorem t20 : (Rows.fnExactFinalRow.ifacesOut == Try.f3.resultTypes.toList.any (Try.pinned.checked.prog.ifacesRec ·)) = true := by kernel_rfl
theorem t21 : (Rows.fnExactFinalRow.loopsOut == Try.f3.resultTypes.toList.any (Try.pinned.checked.prog.loopsFrom ·)) = true := by kernel_rfl
theorem t22 : (Rows.fnExactFinalRow.plainKeys == Try.pinned.checked.prog.plainKeys) = true := by kernel_rfl
theorem t23 : (Rows.fnExactFinalRow.shortTexts.isNone) = true := by kernel_rfl
theorem t24 : (Try.pinned.checked.prog.stopsHeard) = true := by kernel_rfl
theorem t25 : (Try.pinned.checked.prog.mayEnter) = true := by kernel_rfl
theorem t26 : (Rows.fnExactFinalRow.lifted == Try.pinned.checked.prog.liftsFinal) = true := by kernel_rfl
theorem t27 : (Try.pinned.checked.prog.make == some Rows.fnExactFinalRow.make) = true := by kernel_rfl
theorem t28 : (Rows.fnExactFinalRow.kinds == (if Rows.fnExactFinalRow.domain.isEmpty then [] else Try.f3.params.toList.map fun t => match Try.pinned.checked.prog.underlying t with | some (.int k) => some k | _ => none)) = true := by kernel_rfl
theorem t29 : (Rows.fnExactFinalRow.pinned == Rows.fnExactFinalRow.pinnedBy) = true := by kernel_rfl
theorem t30 : (Rows.fnExactFinalRow.veiled == (Try.f3.params.toList ++ Rows.fnExactFinalSpec.plain.varTypes Try.pinned.checked.prog ++ Try.f3.resultTypes.toList).any (Try.pinned.checked.prog.veiledRec ·)) = true := by kernel_rfl
theorem t31 : (Rows.fnExactFinalRow.veiledFits Try.pinned.checked.prog Try.f3.params.toList (Try.f3.params.toList ++ Rows.fnExactFinalSpec.plain.varTypes Try.pinned.checked.prog ++ Try.f3.resultTypes.toList)) = true := by kernel_rfl
theorem closed : joinedFacts Try.pinned.checked.prog 3 Try.f3 Rows.fnExactFinalSpec Rows.fnExactFinalRow = true := by
  simp only [joinedFacts, Bool.and_eq_true]
  exact ⟨⟨⟨⟨⟨⟨⟨⟨⟨⟨⟨⟨⟨⟨⟨⟨⟨⟨⟨⟨⟨⟨⟨⟨⟨⟨⟨⟨⟨⟨⟨t0, t1⟩, t2⟩, t3⟩, t4⟩, t5⟩, t6⟩, t7⟩, t8⟩, t9⟩, t10⟩, t11⟩, t12⟩, t13⟩, t14⟩, t15⟩, t16⟩, t17⟩, t18⟩, t19⟩, t20⟩, t21⟩, t22⟩, t23⟩, t24⟩, t25⟩, t26⟩, t27⟩, t28⟩, t29⟩, t30⟩, t31⟩
theorem over : Rows.fnExactFinalRow.holds Try.pinned (OpenSpec.ofChange Rows.fnExactFinalSpec) :=
  OpenClaim.holds_of_wide 3 Try.f3 rfl rfl rfl rfl rfl rfl rfl ⟨rfl, rfl, rfl, rfl, rfl⟩ rfl rfl rfl rfl rfl (by kernel_rfl) Try.func3 closed
    (of_decide_eq_true (by kernel_rfl)) (by unfold Func.isWrapper; first | (rw [if_pos (by decide +kernel)]; kernel_rfl) | (rw [if_neg (by decide +kernel)]; exact ⟨rfl, rfl⟩))
    (fun os started H enc _ => lifted os started H enc)
end Go.Proofs.Ytfmpjodlkoahpaa.fnExactFinal
namespace Go.Proofs.Ytfmpjodlkoahpaa
theorem fnExactFinal_holds : Rows.FnExactFinalSaid := fnExactFinal.over
#print axioms fnExactFinal_holds
end Go.Proofs.Ytfmpjodlkoahpaa
