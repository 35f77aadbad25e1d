import Derived.Test.YtoagpjfaeedadaaDoorPManText
import Derived.Test.YtoagpjfaeedadaaDoorCards
import Derived.Test.YtoagpjfaeedadaaDoorTie
import Derived.WalkKit
import Derived.ProofKit
import Derived.OpenShut
import Derived.ShutString
import Derived.ChangeOld
import Derived.Below
import Derived.SizedLaws
import Derived.LaidMore
import Derived.LaidSub
import Derived.Lay
import Derived.SevenTiedAt
import Derived.Stop.Joined
namespace Go.Proofs.YtoagpjfaeedadaaDoor.fnExactManText
open Go.ChangeShapes Go.WideShapes Go.ChangeAt Go.RowKit Go.Rx
set_option maxRecDepth 1000000
set_option linter.all false
theorem own : ownKnob Tryd.prog.godebug = none := by kernel_rfl
theorem laidOut : laidOutB Tryd.prog = true := by kernel_rfl
theorem fits : argsFit XT Tryd.f3.params.toList c_lFnExactManText.args = true := by kernel_rfl
theorem g0 : Tryd.prog.globalNamed "internal/strconv.uint64pow10" = some 0 := by kernel_rfl
theorem g0t : (Tryd.prog.globals[0]?).map (·.type) = some 60 := by kernel_rfl
theorem g0c : Tryd.prog.cellsOf 60 = 20 := by kernel_rfl
theorem g1c : Tryd.prog.cellsOf 53 = 1 := by kernel_rfl
theorem tab_of {W : World} (h : laidMetH Tryd.prog Rows.fnExactManTextRow.laid W) : Lib.TabIs Tryd.prog W tabName .u64 Lib.pow10Tab := by
  have h1 := laidMetH.filter (fun x => x.1 == "internal/strconv.uint64pow10") h
  have h2 : laidMetH Tryd.prog [("internal/strconv.uint64pow10", Lib.tabData .u64 Lib.pow10Tab)] W := h1
  rw [MakeChecks.laidMetH_plain _ _ _ (by kernel_rfl)] at h2
  exact Lib.tabIs_of_head g0 g0t Tryd.underlying60 Tryd.underlying53 g1c g0c h2
set_option maxRecDepth 100000 in
theorem lifted (os : Os) (started : os.Started) (H : Type) (enc : TypeId × Value → H) :
    ReturnsInHanded {} Tryd.checked os 3 .any (fun w args => (Rows.fnExactManTextSpec.pre enc Tryd.prog Tryd.f3 Rows.fnExactManTextRow.domain false w args ∧ laidMetH Tryd.prog Rows.fnExactManTextRow.laid w) ∧ sizedMet enc Tryd.prog Tryd.f3 (OpenSpec.ofChange Rows.fnExactManTextSpec) false w args) (Rows.fnExactManTextSpec.post enc Tryd.prog Tryd.f3 false true false false) := by
  refine returnsInHanded_of_change_and (C := Tryd.checked) (X := fun w _ => laidMetH Tryd.prog Rows.fnExactManTextRow.laid w) (fun _ _ _ hh h => h.of_heap hh) own started (by kernel_rfl) Tryd.func3
    (ChangeSpec.witness_shaped (enc := enc) (C := Tryd.checked) (os := os) (X := fun w _ => laidMetH Tryd.prog Rows.fnExactManTextRow.laid w) false (World.laidAll Tryd.prog os Rows.fnExactManTextRow.laid) #[.agg #[.int .i64 0, .int .i64 0, .slice none 0 0]] 8 (World.laidAll_os _ _ _)
      (World.shaped_of_ZipB (by kernel_rfl) (by kernel_rfl)) (by kernel_rfl) (by kernel_rfl) (by kernel_rfl)
      (by rw [MakeChecks.laidMetH_plain _ _ _ (by kernel_rfl)]; exact laidMet_laidAll _ (by kernel_rfl) (by kernel_rfl))) ?_
  intro W base args ds gs before hval0 hW hcnd hsz0 hL _
  have tab := tab_of hL
  have hW' := hW
  obtain ⟨p, q, hA0, hV, rfl, hfz, hnd⟩ := hW
  have hA := hA0
  rw [Tryd.params3] at hA
  obtain ⟨v0, vs0, d0, ds0, p0, q0, hargs, rfl, rfl, h0, r0⟩ := trodAll_cons hA
  obtain ⟨rfl, rfl, rfl⟩ := trodAll_nil r0
  obtain ⟨rfl, rfl⟩ := trodVars_none hV
  obtain ⟨a, g, ra⟩ := args_rep (X := XT) (ok := okOf (fun _ => True) [] (fun _ => .bool false) W) (ρ := fun _ => .bool false) (fun k hk => ⟨hk, trivial, fun id h => by obtain ⟨⟨x, hx, _⟩, _⟩ := h; simp at hx⟩) fits hA0 (fun j t v h1 h2 => hval0 j t v (by simpa using h1) (by simpa using h2))
  have hF : c_lFnExactManText.F a = some true := by
    exact law_manText_good a g.1
  have hc := law_calls h_lFnExactManText rfl rfl ra hF ⟨tab, tab_in tab⟩ rfl
  rw [Array.toArray_toList] at hc
  refine hc.mono fun e W' ⟨he, bel⟩ => ?_
  subst he
  exact ⟨_, rfl, _, _, _, [], _, [], hW', trodAll_mk1 (shut_bool Tryd.underlying4 _), args_back (X := XT) laidOut bel fits hA0, rfl, bel.frame _, fun h => by cases h⟩
theorem t0 : (Rows.fnExactManTextRow.wf (OpenSpec.ofChange Rows.fnExactManTextSpec)) = true := by kernel_rfl
theorem t1 : (laidOutB Tryd.pinned.checked.prog) = true := by kernel_rfl
theorem t2 : (mapsRowed Tryd.pinned.checked.prog) = true := by kernel_rfl
theorem t3 : (Tryd.f3.params.all (Tryd.pinned.checked.prog.readableRec ·)) = true := by kernel_rfl
theorem t4 : (namedTie Tryd.pinned.checked.prog Rows.fnExactManTextRow.named Rows.fnExactManTextSpec.vars) = true := by kernel_rfl
theorem t5 : (Rows.fnExactManTextRow.stops == []) = true := by kernel_rfl
theorem t6 : (Tryd.pinned.checked.prog.stops == []) = true := by kernel_rfl
theorem t7 : (Rows.fnExactManTextRow.knobs == []) = true := by kernel_rfl
theorem t8 : (Tryd.pinned.checked.prog.stopKnobs == []) = true := by kernel_rfl
theorem t9 : (Rows.fnExactManTextRow.inPlace == Tryd.pinned.checked.prog.inPlace 3) = true := by kernel_rfl
theorem t10 : (Rows.fnExactManTextRow.unfollowed == Tryd.pinned.checked.prog.unfollowed 3) = true := by kernel_rfl
theorem t11 : (Rows.fnExactManTextRow.recurses == Tryd.pinned.checked.prog.recurses 3) = true := by kernel_rfl
theorem t12 : (Rows.fnExactManTextRow.named == Tryd.pinned.checked.prog.varsNamed 3) = true := by kernel_rfl
theorem t13 : (Rows.fnExactManTextRow.maps == (Tryd.f3.params.toList ++ Rows.fnExactManTextSpec.plain.varTypes Tryd.pinned.checked.prog).any (Tryd.pinned.checked.prog.mapsRec ·)) = true := by kernel_rfl
theorem t14 : (Rows.fnExactManTextRow.ifaces == (Tryd.f3.params.toList ++ Rows.fnExactManTextSpec.plain.varTypes Tryd.pinned.checked.prog).any (Tryd.pinned.checked.prog.ifacesRec ·)) = true := by kernel_rfl
theorem t15 : (Rows.fnExactManTextRow.mapsOut == Tryd.pinned.checked.prog.mapsAmong Tryd.f3.resultTypes.toList) = true := by kernel_rfl
theorem t16 : (Rows.fnExactManTextRow.loops == (Tryd.f3.params.toList ++ Rows.fnExactManTextSpec.plain.varTypes Tryd.pinned.checked.prog).any (Tryd.pinned.checked.prog.loopsFrom ·)) = true := by kernel_rfl
theorem t17 : (Rows.fnExactManTextRow.wideKeys == (Tryd.f3.params.toList ++ Rows.fnExactManTextSpec.plain.varTypes Tryd.pinned.checked.prog ++ Tryd.f3.resultTypes.toList).any (Tryd.pinned.checked.prog.wideKeysFrom ·)) = true := by kernel_rfl
theorem t18 : (Rows.fnExactManTextSpec.vars.all (Tryd.pinned.checked.prog.varReadable ·)) = true := by kernel_rfl
theorem t19 : (Tryd.f3.resultTypes.all (fun t => Tryd.pinned.checked.prog.readableRec t && decide (t < Tryd.pinned.checked.prog.types.size))) = true := by kernel_rfl
theorem t20 : (Rows.fnExactManTextRow.ifacesOut == Tryd.f3.resultTypes.toList.any (Tryd.pinned.checked.prog.ifacesRec ·)) = true := by kernel_rfl
theorem t21 : (Rows.fnExactManTextRow.loopsOut == Tryd.f3.resultTypes.toList.any (Tryd.pinned.checked.prog.loopsFrom ·)) = true := by kernel_rfl
theorem t22 : (Rows.fnExactManTextRow.plainKeys == Tryd.pinned.checked.prog.plainKeys) = true := by kernel_rfl
theorem t23 : (Rows.fnExactManTextRow.shortTexts.isNone) = true := by kernel_rfl
theorem t24 : (Tryd.pinned.checked.prog.stopsHeard) = true := by kernel_rfl
theorem t25 : (Tryd.pinned.checked.prog.mayEnter) = true := by kernel_rfl
theorem t26 : (Rows.fnExactManTextRow.lifted == Tryd.pinned.checked.prog.liftsFinal) = true := by kernel_rfl
theorem t27 : (Tryd.pinned.checked.prog.make == some Rows.fnExactManTextRow.make) = true := by kernel_rfl
theorem t28 : (Rows.fnExactManTextRow.kinds == (if Rows.fnExactManTextRow.domain.isEmpty then [] else Tryd.f3.params.toList.map fun t => match Tryd.pinned.checked.prog.underlying t with | some (.int k) => some k | _ => none)) = true := by kernel_rfl
theorem t29 : (Rows.fnExactManTextRow.pinned == Rows.fnExactManTextRow.pinnedBy) = true := by kernel_rfl
theorem t30 : (Rows.fnExactManTextRow.veiled == (Tryd.f3.params.toList ++ Rows.fnExactManTextSpec.plain.varTypes Tryd.pinned.checked.prog ++ Tryd.f3.resultTypes.toList).any (Tryd.pinned.checked.prog.veiledRec ·)) = true := by kernel_rfl
theorem t31 : (Rows.fnExactManTextRow.veiledFits Tryd.pinned.checked.prog Tryd.f3.params.toList (Tryd.f3.params.toList ++ Rows.fnExactManTextSpec.plain.varTypes Tryd.pinned.checked.prog ++ Tryd.f3.resultTypes.toList)) = true := by kernel_rfl
theorem closed : joinedFacts Tryd.pinned.checked.prog 3 Tryd.f3 Rows.fnExactManTextSpec Rows.fnExactManTextRow = true := by
  simp only [joinedFacts, Bool.and_eq_true]
  exact ⟨⟨⟨⟨⟨⟨⟨⟨⟨⟨⟨⟨⟨⟨⟨⟨⟨⟨⟨⟨⟨⟨⟨⟨⟨⟨⟨⟨⟨⟨⟨t0, t1⟩, t2⟩, t3⟩, t4⟩, t5⟩, t6⟩, t7⟩, t8⟩, t9⟩, t10⟩, t11⟩, t12⟩, t13⟩, t14⟩, t15⟩, t16⟩, t17⟩, t18⟩, t19⟩, t20⟩, t21⟩, t22⟩, t23⟩, t24⟩, t25⟩, t26⟩, t27⟩, t28⟩, t29⟩, t30⟩, t31⟩
theorem over : Rows.fnExactManTextRow.holds Tryd.pinned (OpenSpec.ofChange Rows.fnExactManTextSpec) :=
  OpenClaim.holds_of_wide 3 Tryd.f3 rfl rfl rfl rfl rfl rfl rfl ⟨rfl, rfl, rfl, rfl, rfl⟩ rfl rfl rfl rfl rfl (by kernel_rfl) Tryd.func3 closed
    (of_decide_eq_true (by kernel_rfl)) (by unfold Func.isWrapper; first | (rw [if_pos (by decide +kernel)]; kernel_rfl) | (rw [if_neg (by decide +kernel)]; exact ⟨rfl, rfl⟩))
    (fun os started H enc _ => lifted os started H enc)
theorem card : Rows.FnExactManTextCardSaid :=
  Claim7.holds_tied_plain_at .later [] [.data, .data, .data] true (true, "cf5432eec03878dd9f3eafa8fbc0fb99b9e8293d4e57d02449e11e6bd60495b1") false over (fun _ h => by cases h) (by kernel_rfl) (fun _ h => by cases h) fnExactManText_row_tie rfl ⟨rfl, rfl⟩ (by kernel_rfl) rfl
    (fun f fn hf hfn => by
      obtain rfl : f = 3 := Option.some.inj ((show Tryd.prog.funcNamed "loop.example/g00184/laws.FnExactManText" = some 3 by kernel_rfl).symm.trans hf) |>.symm
      obtain rfl : fn = Tryd.f3 := (Option.some.inj (Tryd.func3.symm.trans hfn)).symm
      exact ⟨by kernel_rfl, fun j t ht => by
        rw [Tryd.params3] at ht
        have hm : t ∈ [24] := by simpa using Array.mem_of_getElem? ht
        have hall : ([24].all fun u => !Tryd.prog.wantsStandIn u) = true := by kernel_rfl
        exact (show Tryd.prog.wantsStandIn t = false by simpa using List.all_eq_true.1 hall t hm)⟩)
    (by kernel_rfl)
end Go.Proofs.YtoagpjfaeedadaaDoor.fnExactManText
namespace Go.Proofs.YtoagpjfaeedadaaDoor
theorem fnExactManText_holds : Rows.FnExactManTextCardSaid := fnExactManText.card
#print axioms fnExactManText_holds
end Go.Proofs.YtoagpjfaeedadaaDoor
