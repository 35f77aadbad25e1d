/- For all bytes laws.FnTables returns true and leaves what was handed in as it was: of a table of drawn pairs each key is found as it is and no other one, all come back, and a bit that is turned in a sum or in a body is told. Conditions: those of the given row alone. -/
import Derived.Test.YtnjjljnjgemkdaaRows
import Derived.Test.YtnjjljnjgemkdaaPTables
import Derived.WalkKit
import Derived.ProofKit
import Derived.OpenShut
import Derived.ShutString
import Derived.ChangeOld
import Derived.Below
import Derived.SizedLaws
namespace Go.Proofs.Ytnjjljnjgemkdaa.fnTables
open Go.ChangeShapes Go.WideShapes Go.ChangeAt Go.RowKit Go.Rx
set_option maxRecDepth 1000000
set_option linter.all false
theorem own : ownKnob Try.prog.godebug = none := by kernel_rfl
theorem laidOut : laidOutB Try.prog = true := by kernel_rfl
theorem fits : argsFit XT Try.f5.params.toList c_lFnTables.args = true := by kernel_rfl
set_option maxRecDepth 100000 in
theorem lifted (os : Os) (started : os.Started) (H : Type) (enc : TypeId × Value → H) :
    ReturnsInHanded {} Try.checked os 5 .any (Rows.fnTablesSpec.pre6 enc Try.prog Try.f5 Rows.fnTablesRow.domain false) (Rows.fnTablesSpec.post enc Try.prog Try.f5 false true false false) := by
  refine returnsInHanded_of_change_sized (C := Try.checked) own started (by kernel_rfl) Try.func5
    (ChangeSpec.witness6 (enc := enc) (C := Try.checked) false ⟨#[], #[.slice none 0 0], []⟩ 8 (by kernel_rfl) (by kernel_rfl) (by kernel_rfl) (by kernel_rfl)) ?_
  intro W base args ds gs before hval0 hW hcnd hsz0 _
  have hW' := hW
  obtain ⟨p, q, hA0, hV, rfl, hfz, hnd⟩ := hW
  have hA := hA0
  rw [Try.params5] at hA
  obtain ⟨v0, vs0, d0, ds0, p0, q0, hargs, rfl, rfl, h0, r0⟩ := trodAll_cons hA
  obtain ⟨rfl, rfl, rfl⟩ := trodAll_nil r0
  obtain ⟨rfl, rfl⟩ := trodVars_none hV
  obtain ⟨a, g, ra⟩ := args_rep (X := XT) (ok := okOf (fun _ => True) [] (fun _ => .bool false) W) (ρ := fun _ => .bool false) (fun k hk => ⟨hk, trivial, fun id h => by obtain ⟨⟨x, hx, _⟩, _⟩ := h; simp at hx⟩) fits hA0 (fun j t v h1 h2 => hval0 j t v (by simpa using h1) (by simpa using h2))
  have hF : c_lFnTables.F a = some true := by
    exact law_tables a (good_bytes g.1)
  have hc := law_calls h_lFnTables rfl rfl ra hF rfl
  rw [Array.toArray_toList] at hc
  refine hc.mono fun e W' ⟨he, bel⟩ => ?_
  subst he
  exact ⟨_, rfl, _, _, _, [], _, [], hW', trodAll_mk1 (shut_bool Try.underlying4 _), args_back (X := XT) laidOut bel fits hA0, rfl, bel.frame _, fun h => by cases h⟩
theorem t0 : (Rows.fnTablesRow.wf (OpenSpec.ofChange Rows.fnTablesSpec)) = true := by kernel_rfl
theorem t1 : (laidOutB Try.pinned.checked.prog) = true := by kernel_rfl
theorem t2 : (mapsRowed Try.pinned.checked.prog) = true := by kernel_rfl
theorem t3 : (Try.f5.params.all (Try.pinned.checked.prog.readableRec ·)) = true := by kernel_rfl
theorem t4 : (namedTie Try.pinned.checked.prog Rows.fnTablesRow.named Rows.fnTablesSpec.vars) = true := by kernel_rfl
theorem t5 : (Rows.fnTablesRow.stops == []) = true := by kernel_rfl
theorem t6 : (Try.pinned.checked.prog.stops == []) = true := by kernel_rfl
theorem t7 : (Rows.fnTablesRow.knobs == []) = true := by kernel_rfl
theorem t8 : (Try.pinned.checked.prog.stopKnobs == []) = true := by kernel_rfl
theorem t9 : (Rows.fnTablesRow.inPlace == Try.pinned.checked.prog.inPlace 5) = true := by kernel_rfl
theorem t10 : (Rows.fnTablesRow.unfollowed == Try.pinned.checked.prog.unfollowed 5) = true := by kernel_rfl
theorem t11 : (Rows.fnTablesRow.recurses == Try.pinned.checked.prog.recurses 5) = true := by kernel_rfl
theorem t12 : (Rows.fnTablesRow.named == Try.pinned.checked.prog.varsNamed 5) = true := by kernel_rfl
theorem t13 : (Rows.fnTablesRow.maps == (Try.f5.params.toList ++ Rows.fnTablesSpec.plain.varTypes Try.pinned.checked.prog).any (Try.pinned.checked.prog.mapsRec ·)) = true := by kernel_rfl
theorem t14 : (Rows.fnTablesRow.ifaces == (Try.f5.params.toList ++ Rows.fnTablesSpec.plain.varTypes Try.pinned.checked.prog).any (Try.pinned.checked.prog.ifacesRec ·)) = true := by kernel_rfl
theorem t15 : (Rows.fnTablesRow.mapsOut == Try.pinned.checked.prog.mapsAmong Try.f5.resultTypes.toList) = true := by kernel_rfl
theorem t16 : (Rows.fnTablesRow.loops == (Try.f5.params.toList ++ Rows.fnTablesSpec.plain.varTypes Try.pinned.checked.prog).any (Try.pinned.checked.prog.loopsFrom ·)) = true := by kernel_rfl
theorem t17 : (Rows.fnTablesRow.wideKeys == (Try.f5.params.toList ++ Rows.fnTablesSpec.plain.varTypes Try.pinned.checked.prog ++ Try.f5.resultTypes.toList).any (Try.pinned.checked.prog.wideKeysFrom ·)) = true := by kernel_rfl
theorem t18 : (Rows.fnTablesSpec.vars.all (Try.pinned.checked.prog.varReadable ·)) = true := by kernel_rfl
theorem t19 : (Try.f5.resultTypes.all (fun t => Try.pinned.checked.prog.readableRec t && decide (t < Try.pinned.checked.prog.types.size))) = true := by kernel_rfl
theorem t20 : (Rows.fnTablesRow.ifacesOut == Try.f5.resultTypes.toList.any (Try.pinned.checked.prog.ifacesRec ·)) = true := by kernel_rfl
theorem t21 : (Rows.fnTablesRow.loopsOut == Try.f5.resultTypes.toList.any (Try.pinned.checked.prog.loopsFrom ·)) = true := by kernel_rfl
theorem t22 : (Rows.fnTablesRow.plainKeys == Try.pinned.checked.prog.plainKeys) = true := by kernel_rfl
theorem t23 : (Rows.fnTablesRow.shortTexts.isNone) = true := by kernel_rfl
theorem t24 : (Try.pinned.checked.prog.stopsHeard) = true := by kernel_rfl
theorem t25 : (Try.pinned.checked.prog.mayEnter) = true := by kernel_rfl
theorem t26 : (Rows.fnTablesRow.lifted == Try.pinned.checked.prog.liftsFinal) = true := by kernel_rfl
theorem t27 : (Try.pinned.checked.prog.make == some Rows.fnTablesRow.make) = true := by kernel_rfl
theorem t28 : (Rows.fnTablesRow.kinds == (if Rows.fnTablesRow.domain.isEmpty then [] else Try.f5.params.toList.map fun t => match Try.pinned.checked.prog.underlying t with | some (.int k) => some k | _ => none)) = true := by kernel_rfl
theorem t29 : (Rows.fnTablesRow.pinned == Rows.fnTablesRow.pinnedBy) = true := by kernel_rfl
theorem t30 : (Rows.fnTablesRow.veiled == (Try.f5.params.toList ++ Rows.fnTablesSpec.plain.varTypes Try.pinned.checked.prog ++ Try.f5.resultTypes.toList).any (Try.pinned.checked.prog.veiledRec ·)) = true := by kernel_rfl
theorem t31 : (Rows.fnTablesRow.veiledFits Try.pinned.checked.prog Try.f5.params.toList (Try.f5.params.toList ++ Rows.fnTablesSpec.plain.varTypes Try.pinned.checked.prog ++ Try.f5.resultTypes.toList)) = true := by kernel_rfl
theorem closed : joinedFacts Try.pinned.checked.prog 5 Try.f5 Rows.fnTablesSpec Rows.fnTablesRow = true := by
  simp only [joinedFacts, Bool.and_eq_true]
  exact ⟨⟨⟨⟨⟨⟨⟨⟨⟨⟨⟨⟨⟨⟨⟨⟨⟨⟨⟨⟨⟨⟨⟨⟨⟨⟨⟨⟨⟨⟨⟨t0, t1⟩, t2⟩, t3⟩, t4⟩, t5⟩, t6⟩, t7⟩, t8⟩, t9⟩, t10⟩, t11⟩, t12⟩, t13⟩, t14⟩, t15⟩, t16⟩, t17⟩, t18⟩, t19⟩, t20⟩, t21⟩, t22⟩, t23⟩, t24⟩, t25⟩, t26⟩, t27⟩, t28⟩, t29⟩, t30⟩, t31⟩
theorem over : Rows.fnTablesRow.holds Try.pinned (OpenSpec.ofChange Rows.fnTablesSpec) :=
  OpenClaim.holds_of_wide 5 Try.f5 rfl rfl rfl rfl rfl rfl rfl ⟨rfl, rfl, rfl, rfl, rfl⟩ rfl rfl rfl rfl rfl (by kernel_rfl) Try.func5 closed
    (of_decide_eq_true (by kernel_rfl)) (by unfold Func.isWrapper; first | (rw [if_pos (by decide +kernel)]; kernel_rfl) | (rw [if_neg (by decide +kernel)]; exact ⟨rfl, rfl⟩))
    (fun os started H enc _ => lifted os started H enc)
end Go.Proofs.Ytnjjljnjgemkdaa.fnTables
namespace Go.Proofs.Ytnjjljnjgemkdaa
theorem fnTables_holds : Rows.FnTablesSaid := fnTables.over
#print axioms fnTables_holds
end Go.Proofs.Ytnjjljnjgemkdaa
