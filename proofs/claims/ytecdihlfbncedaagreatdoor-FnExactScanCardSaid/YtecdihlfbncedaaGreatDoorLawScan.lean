/- For all stores, in whatever memory they lie, laws.FnExactScan returns true and leaves what was handed in as it was: the program's Scan and the reference's agree. Conditions: those of the given row alone; the row lists variables of Go's library as the program's text lays them, and the card ties them to the pruned copy of the project. -/
import Derived.Test.YtecdihlfbncedaaGreatDoorPScan3
import Derived.Test.YtecdihlfbncedaaGreatDoorCards
import Derived.Test.YtecdihlfbncedaaGreatDoorTie
import Derived.WalkKit
import Derived.ProofKit
import Derived.OpenShut
import Derived.ShutString
import Derived.ChangeOld
import Derived.Below
import Derived.SizedLaws
import Derived.LaidMore
import Derived.Shelf.Vars
import Derived.LaidSub
import Derived.Lay
import Derived.SevenTiedAt
import Derived.Stop.Joined
namespace Go.Proofs.YtecdihlfbncedaaGreatDoor.fnExactScan
open Go.ChangeShapes Go.WideShapes Go.ChangeAt Go.RowKit Go.Rx
set_option maxRecDepth 1000000
set_option linter.all false
theorem own : ownKnob Tryz.prog.godebug = none := by kernel_rfl
theorem laidOut : laidOutB Tryz.prog = true := by kernel_rfl
theorem fits : argsFit XT Tryz.f4.params.toList c_lFnExactScan.args = true := by kernel_rfl
theorem g0 : Tryz.prog.globalNamed "internal/strconv.uint64pow10" = some 5 := by kernel_rfl
theorem g0t : (Tryz.prog.globals[5]?).map (·.type) = some 241 := by kernel_rfl
theorem g0c : Tryz.prog.cellsOf 241 = 20 := by kernel_rfl
theorem g1c : Tryz.prog.cellsOf 212 = 1 := by kernel_rfl
theorem pow_of {W : World} (h : laidMetH Tryz.prog Rows.fnExactScanRow.laid W) : Lib.TabIs Tryz.prog W tabName .u64 Lib.pow10Tab := by
  have h1 := laidMetH.filter (fun x => x.1 == "internal/strconv.uint64pow10") h
  have h2 : laidMetH Tryz.prog [("internal/strconv.uint64pow10", Lib.tabData .u64 Lib.pow10Tab)] W := h1
  rw [MakeChecks.laidMetH_plain _ _ _ (by kernel_rfl)] at h2
  exact Lib.tabIs_of_head g0 g0t Tryz.underlying241 Tryz.underlying212 g1c g0c h2
theorem err_of {W : World} {n nm : String} {g t : Nat} {ms : Array (String × TypeId)} {d : DataW Unit} (hg : Tryz.prog.globalNamed n = some g) (ht : (Tryz.prog.globals[g]?).map (·.type) = some t) (hu : Tryz.prog.underlying t = some (.interface ms))
    (h : laidMet Tryz.prog [(n, .iface nm d)] W) : ∃ v, W.cell? ⟨g, 0, none⟩ = some v ∧ IfaceV v := by
  obtain ⟨ps, ⟨g', t', cs, fuel, p, q, hg', ht', hvar, hd, _, _⟩, _⟩ := h
  obtain rfl := Option.some.inj (hg.symm.trans hg')
  obtain rfl := Option.some.inj (ht.symm.trans ht')
  obtain ⟨f1, u, v, hcs, _, _⟩ := iface_of_trod hu hd
  refine ⟨.iface u v, ?_, .inr ⟨u, v, rfl⟩⟩
  rw [World.var?_cell hg hvar 0, ← Array.getElem?_toList, hcs]
  rfl
theorem syn_of {W : World} (h : laidMetH Tryz.prog Rows.fnExactScanRow.laid W) : ∃ v, W.cell? ⟨0, 0, none⟩ = some v ∧ IfaceV v := by
  have h1 := laidMetH.filter (fun x => x.1 == "strconv.ErrSyntax") h
  have h2 : laidMetH Tryz.prog [("strconv.ErrSyntax", Rows.laid_strconv_ErrSyntax)] W := h1
  rw [MakeChecks.laidMetH_plain _ _ _ (by kernel_rfl)] at h2
  exact err_of (show Tryz.prog.globalNamed "strconv.ErrSyntax" = some 0 by kernel_rfl) (t := 119) (by kernel_rfl) Tryz.underlying119 h2
theorem ran_of {W : World} (h : laidMetH Tryz.prog Rows.fnExactScanRow.laid W) : ∃ v, W.cell? ⟨1, 0, none⟩ = some v ∧ IfaceV v := by
  have h1 := laidMetH.filter (fun x => x.1 == "strconv.ErrRange") h
  have h2 : laidMetH Tryz.prog [("strconv.ErrRange", Rows.laid_strconv_ErrRange)] W := h1
  rw [MakeChecks.laidMetH_plain _ _ _ (by kernel_rfl)] at h2
  exact err_of (show Tryz.prog.globalNamed "strconv.ErrRange" = some 1 by kernel_rfl) (t := 119) (by kernel_rfl) Tryz.underlying119 h2
theorem len_of {W : World} (h : W.ShapedOpen Tryz.prog) : ∃ m, W.cell? ⟨2, 0, none⟩ = some (.int .i64 m) :=
  cell_of_shapedOpen_int (t := 3) (zero := #[.int .i64 0]) h (of_decide_eq_true (by kernel_rfl)) (by kernel_rfl) rfl (by kernel_rfl) (by kernel_rfl) Tryz.underlying3
theorem size_of {W : World} (h : W.ShapedOpen Tryz.prog) : 8 ≤ W.heap.size := by
  obtain ⟨⟨z, t⟩, hz⟩ := Option.isSome_iff_exists.1 (show (((begin Tryz.prog (fun _ _ => 0) default).world.heap[7]?).bind Obj.row?).isSome = true by kernel_rfl)
  obtain ⟨cs, hc, _⟩ := h.1 7 z t (of_decide_eq_true (by kernel_rfl)) hz
  rcases Nat.lt_or_ge 7 W.heap.size with h7 | h7
  · exact h7
  · rw [Array.getElem?_eq_none h7] at hc; cases hc
theorem tab_of {W : World} (h : laidMetH Tryz.prog Rows.fnExactScanRow.laid W) (hs : W.ShapedOpen Tryz.prog) : DoorT W := ⟨pow_of h, len_of hs, syn_of h, ran_of h, size_of hs⟩
theorem tab_in {W : World} (t : DoorT W) : ∀ b, b < 8 → b < W.heap.size := fun _ hb => Nat.lt_of_lt_of_le hb t.2.2.2.2
/-- A row's promise, with what is laid and the world's shape at hand. -/
theorem of_both {H : Type} {enc : TypeId × Value → H} {a : Assume} {C : Checked} {os : Os} {f : FuncId} {fn : Func} {s : ChangeSpec} {conds : List PathCond} {apart fresh handsOn again : Bool} {X : World → Array Value → Prop}
    (hX : ∀ (w w' : World) (args : Array Value), w.heap = w'.heap → X w args → X w' args)
    (own : ownKnob C.prog.godebug = none) (started : os.Started) (noInit : C.prog.inits.idxOf? f = none) (hfn : C.prog.funcs[f]? = some fn)
    (witness : ∃ (w : World) (tape : Tape) (i : Input), w.os = os ∧ (w.forCall tape i).Shaped C.prog ∧ i.vars = [] ∧ Input.okWide C.prog (w.forCall tape i) .any w.heap.size f i ∧
      ((s.pre enc C.prog fn conds apart (w.forCall tape i).memory i.args ∧ X (w.forCall tape i).memory i.args) ∧ sizedMet enc C.prog fn (OpenSpec.ofChange s) apart (w.forCall tape i).memory i.args) ∧ a.holds C.prog (lone (Frame.enter C.prog f i.args .normal) [] (w.forCall tape i)))
    (contract : ∀ (W : World) (base : Nat) (args : Array Value) (ds gs : List (DataW H)) (before : List MemPlace),
      (∀ (j : Nat) t v, fn.params[j]? = some t → args[j]? = some v → Value.okWide C.prog W .any base t v) →
      DataW.Whole enc C.prog fn.params.toList s.vars apart W args.toList ds gs before →
      conds.all (PathCond.test C.prog ⟨fn.params.toList, ds, s.plain.varTypes C.prog, gs⟩) = true →
      (DataW.weightsEach C.prog (fn.params.toList ++ s.plain.varTypes C.prog) (ds ++ gs)).all (· ≤ reachBytes) = true → X W args → W.ShapedOpen C.prog →
      a.holds C.prog (lone (Frame.enter C.prog f args .normal) [] W) →
      Calls C.prog f args W fun e W' => ∃ v, e = .returned v ∧ s.post enc C.prog fn apart fresh handsOn again W args v W') :
    ReturnsInHanded a C os f .any (fun w args => (s.pre enc C.prog fn conds apart w args ∧ X w args) ∧ sizedMet enc C.prog fn (OpenSpec.ofChange s) apart w args) (s.post enc C.prog fn apart fresh handsOn again) := by
  refine returnsInHanded_of_calls own started noInit witness ?_
  intro w tape i _ hsh _ hok hpre hholds
  obtain ⟨_, _, _, fn', hfn', _, _, _, _, hval⟩ := hok
  have e : fn' = fn := Option.some.inj (hfn'.symm.trans hfn)
  subst e
  obtain ⟨⟨⟨ds, gs, before, hw, hc⟩, hx⟩, hz⟩ := hpre
  refine (contract (w.forCall tape i) w.heap.size i.args ds gs before hval (DataW.Whole.of_heap (w' := w.forCall tape i) (by rfl) hw) hc (hz.weights hw) (hX _ _ _ (by rfl) hx) hsh hholds).mono fun e W' ⟨v, he, hp⟩ => ?_
  subst he
  exact ChangeSpec.post_blind hp
set_option maxRecDepth 100000 in
theorem lifted (os : Os) (started : os.Started) (H : Type) (enc : TypeId × Value → H) :
    ReturnsInHanded {} Tryz.checked os 4 .any (fun w args => (Rows.fnExactScanSpec.pre enc Tryz.prog Tryz.f4 Rows.fnExactScanRow.domain false w args ∧ laidMetH Tryz.prog Rows.fnExactScanRow.laid w) ∧ sizedMet enc Tryz.prog Tryz.f4 (OpenSpec.ofChange Rows.fnExactScanSpec) false w args) (Rows.fnExactScanSpec.post enc Tryz.prog Tryz.f4 false true false false) := by
  refine of_both (C := Tryz.checked) (X := fun w _ => laidMetH Tryz.prog Rows.fnExactScanRow.laid w) (fun _ _ _ hh h => h.of_heap hh) own started (by kernel_rfl) Tryz.func4
    (ChangeSpec.witness_shaped (enc := enc) (C := Tryz.checked) (os := os) (X := fun w _ => laidMetH Tryz.prog Rows.fnExactScanRow.laid w) false (World.laidAll Tryz.prog os Rows.fnExactScanRow.laid) #[.agg #[.slice none 0 0, .slice none 0 0, .slice none 0 0, .int .i64 0, .slice none 0 0, .int .i64 0, .int .i64 0, .slice none 0 0]] 8 (World.laidAll_os _ _ _)
      (World.shaped_of_ZipB (by kernel_rfl) (by kernel_rfl)) (by kernel_rfl) (by kernel_rfl) (by kernel_rfl)
      (by rw [MakeChecks.laidMetH_plain _ _ _ (by kernel_rfl)]; exact laidMet_laidAll _ (by kernel_rfl) (by kernel_rfl))) ?_
  intro W base args ds gs before hval0 hW hcnd hsz0 hL hSh _
  have tab := tab_of hL hSh
  have hW' := hW
  obtain ⟨p, q, hA0, hV, rfl, hfz, hnd⟩ := hW
  have hA := hA0
  rw [Tryz.params4] at hA
  obtain ⟨v0, vs0, d0, ds0, p0, q0, hargs, rfl, rfl, h0, r0⟩ := trodAll_cons hA
  obtain ⟨rfl, rfl, rfl⟩ := trodAll_nil r0
  obtain ⟨rfl, rfl⟩ := trodVars_none hV
  letI T0 : TabsD := doorTabs W
  obtain ⟨a, g, ra⟩ := args_rep (X := XT) (ok := okOf (fun _ => True) [] (fun _ => .bool false) W) (ρ := fun _ => .bool false) (fun k hk _ => hk) (fun _ _ h => h) (fun k hk => ⟨hk, trivial, fun id h => by obtain ⟨⟨x, hx, _⟩, _⟩ := h; simp at hx⟩) fits hA0 (fun j t v h1 h2 => hval0 j t v (by simpa using h1) (by simpa using h2))
  have hF : c_lFnExactScan.F a = some true := by
    exact law_scan_good a g.1
  have hc := law_calls (h_lFnExactScan (W := W) rfl (Nat.le_refl _) (fun _ _ h => h)) rfl rfl ra hF ⟨tab, tab_in tab⟩ (fun _ _ h => h) (fun _ => Nat.le_refl _) rfl
  rw [Array.toArray_toList] at hc
  refine hc.mono fun e W' ⟨he, bel⟩ => ?_
  subst he
  exact ⟨_, rfl, _, _, _, [], _, [], hW', trodAll_mk1 (shut_bool Tryz.underlying4 _), args_back (X := XT) laidOut bel fits hA0, rfl, bel.frame _, fun h => by cases h⟩
theorem t0 : (Rows.fnExactScanRow.wf (OpenSpec.ofChange Rows.fnExactScanSpec)) = true := by kernel_rfl
theorem t1 : (laidOutB Tryz.pinned.checked.prog) = true := by kernel_rfl
theorem t2 : (mapsRowed Tryz.pinned.checked.prog) = true := by kernel_rfl
theorem t3 : (Tryz.f4.params.all (Tryz.pinned.checked.prog.readableRec ·)) = true := by kernel_rfl
theorem t4 : (namedTie Tryz.pinned.checked.prog Rows.fnExactScanRow.named Rows.fnExactScanSpec.vars) = true := by kernel_rfl
theorem t5 : (Rows.fnExactScanRow.stops == []) = true := by kernel_rfl
theorem t6 : (Tryz.pinned.checked.prog.stops == []) = true := by kernel_rfl
theorem t7 : (Rows.fnExactScanRow.knobs == []) = true := by kernel_rfl
theorem t8 : (Tryz.pinned.checked.prog.stopKnobs == []) = true := by kernel_rfl
theorem t9 : (Rows.fnExactScanRow.inPlace == Tryz.pinned.checked.prog.inPlace 4) = true := by kernel_rfl
theorem t10 : (Rows.fnExactScanRow.unfollowed == Tryz.pinned.checked.prog.unfollowed 4) = true := by kernel_rfl
theorem t11 : (Rows.fnExactScanRow.recurses == Tryz.pinned.checked.prog.recurses 4) = true := by kernel_rfl
theorem t12 : (Rows.fnExactScanRow.named == Tryz.pinned.checked.prog.varsNamed 4) = true := by kernel_rfl
theorem t13 : (Rows.fnExactScanRow.maps == (Tryz.f4.params.toList ++ Rows.fnExactScanSpec.plain.varTypes Tryz.pinned.checked.prog).any (Tryz.pinned.checked.prog.mapsRec ·)) = true := by kernel_rfl
theorem t14 : (Rows.fnExactScanRow.ifaces == (Tryz.f4.params.toList ++ Rows.fnExactScanSpec.plain.varTypes Tryz.pinned.checked.prog).any (Tryz.pinned.checked.prog.ifacesRec ·)) = true := by kernel_rfl
theorem t15 : (Rows.fnExactScanRow.mapsOut == Tryz.pinned.checked.prog.mapsAmong Tryz.f4.resultTypes.toList) = true := by kernel_rfl
theorem t16 : (Rows.fnExactScanRow.loops == (Tryz.f4.params.toList ++ Rows.fnExactScanSpec.plain.varTypes Tryz.pinned.checked.prog).any (Tryz.pinned.checked.prog.loopsFrom ·)) = true := by kernel_rfl
theorem t17 : (Rows.fnExactScanRow.wideKeys == (Tryz.f4.params.toList ++ Rows.fnExactScanSpec.plain.varTypes Tryz.pinned.checked.prog ++ Tryz.f4.resultTypes.toList).any (Tryz.pinned.checked.prog.wideKeysFrom ·)) = true := by kernel_rfl
theorem t18 : (Rows.fnExactScanSpec.vars.all (Tryz.pinned.checked.prog.varReadable ·)) = true := by kernel_rfl
theorem t19 : (Tryz.f4.resultTypes.all (fun t => Tryz.pinned.checked.prog.readableRec t && decide (t < Tryz.pinned.checked.prog.types.size))) = true := by kernel_rfl
theorem t20 : (Rows.fnExactScanRow.ifacesOut == Tryz.f4.resultTypes.toList.any (Tryz.pinned.checked.prog.ifacesRec ·)) = true := by kernel_rfl
theorem t21 : (Rows.fnExactScanRow.loopsOut == Tryz.f4.resultTypes.toList.any (Tryz.pinned.checked.prog.loopsFrom ·)) = true := by kernel_rfl
theorem t22 : (Rows.fnExactScanRow.plainKeys == Tryz.pinned.checked.prog.plainKeys) = true := by kernel_rfl
theorem t23 : (Rows.fnExactScanRow.shortTexts.isNone) = true := by kernel_rfl
theorem t24 : (Tryz.pinned.checked.prog.stopsHeard) = true := by kernel_rfl
theorem t25 : (Tryz.pinned.checked.prog.mayEnter) = true := by kernel_rfl
theorem t26 : (Rows.fnExactScanRow.lifted == Tryz.pinned.checked.prog.liftsFinal) = true := by kernel_rfl
theorem t27 : (Tryz.pinned.checked.prog.make == some Rows.fnExactScanRow.make) = true := by kernel_rfl
theorem t28 : (Rows.fnExactScanRow.kinds == (if Rows.fnExactScanRow.domain.isEmpty then [] else Tryz.f4.params.toList.map fun t => match Tryz.pinned.checked.prog.underlying t with | some (.int k) => some k | _ => none)) = true := by kernel_rfl
theorem t29 : (Rows.fnExactScanRow.pinned == Rows.fnExactScanRow.pinnedBy) = true := by kernel_rfl
theorem t30 : (Rows.fnExactScanRow.veiled == (Tryz.f4.params.toList ++ Rows.fnExactScanSpec.plain.varTypes Tryz.pinned.checked.prog ++ Tryz.f4.resultTypes.toList).any (Tryz.pinned.checked.prog.veiledRec ·)) = true := by kernel_rfl
theorem t31 : (Rows.fnExactScanRow.veiledFits Tryz.pinned.checked.prog Tryz.f4.params.toList (Tryz.f4.params.toList ++ Rows.fnExactScanSpec.plain.varTypes Tryz.pinned.checked.prog ++ Tryz.f4.resultTypes.toList)) = true := by kernel_rfl
theorem closed : joinedFacts Tryz.pinned.checked.prog 4 Tryz.f4 Rows.fnExactScanSpec Rows.fnExactScanRow = true := by
  simp only [joinedFacts, Bool.and_eq_true]
  exact ⟨⟨⟨⟨⟨⟨⟨⟨⟨⟨⟨⟨⟨⟨⟨⟨⟨⟨⟨⟨⟨⟨⟨⟨⟨⟨⟨⟨⟨⟨⟨t0, t1⟩, t2⟩, t3⟩, t4⟩, t5⟩, t6⟩, t7⟩, t8⟩, t9⟩, t10⟩, t11⟩, t12⟩, t13⟩, t14⟩, t15⟩, t16⟩, t17⟩, t18⟩, t19⟩, t20⟩, t21⟩, t22⟩, t23⟩, t24⟩, t25⟩, t26⟩, t27⟩, t28⟩, t29⟩, t30⟩, t31⟩
theorem over : Rows.fnExactScanRow.holds Tryz.pinned (OpenSpec.ofChange Rows.fnExactScanSpec) :=
  OpenClaim.holds_of_wide 4 Tryz.f4 rfl rfl rfl rfl rfl rfl rfl ⟨rfl, rfl, rfl, rfl, rfl⟩ rfl rfl rfl rfl rfl (by kernel_rfl) Tryz.func4 closed
    (of_decide_eq_true (by kernel_rfl)) (by unfold Func.isWrapper; first | (rw [if_pos (by decide +kernel)]; kernel_rfl) | (rw [if_neg (by decide +kernel)]; exact ⟨rfl, rfl⟩))
    (fun os started H enc _ => lifted os started H enc)
theorem card : Rows.FnExactScanCardSaid :=
  Claim7.holds_tied_plain_at .later [] [.data, .data, .data, .data, .sentinel, .sentinel, .pinned] true (true, "2861d0cfd8a45d416606685cad9e3d677f6b8674bed1d1a3bcec64dc293e16a2") true over (fun _ h => by cases h) (by kernel_rfl) (fun _ h => by cases h) fnExactScan_row_tie rfl ⟨rfl, rfl⟩ (by kernel_rfl) rfl
    (fun f fn hf hfn => by
      obtain rfl : f = 4 := Option.some.inj ((show Tryz.prog.funcNamed "loop.example/g00184/laws.FnExactScan" = some 4 by kernel_rfl).symm.trans hf) |>.symm
      obtain rfl : fn = Tryz.f4 := (Option.some.inj (Tryz.func4.symm.trans hfn)).symm
      exact ⟨by kernel_rfl, fun j t ht => by
        rw [Tryz.params4] at ht
        have hm : t ∈ [49] := by simpa using Array.mem_of_getElem? ht
        have hall : ([49].all fun u => !Tryz.prog.wantsStandIn u) = true := by kernel_rfl
        exact (show Tryz.prog.wantsStandIn t = false by simpa using List.all_eq_true.1 hall t hm)⟩)
    (by kernel_rfl)
end Go.Proofs.YtecdihlfbncedaaGreatDoor.fnExactScan
namespace Go.Proofs.YtecdihlfbncedaaGreatDoor
theorem fnExactScan_holds : Rows.FnExactScanCardSaid := fnExactScan.card
#print axioms fnExactScan_holds
end Go.Proofs.YtecdihlfbncedaaGreatDoor
