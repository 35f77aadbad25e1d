import Derived.Test.YtecdihlfbncedaaGreatDoorRxB
set_option linter.all false
/- One operation. -/
namespace Go.Rx
variable [Tabs]
section
variable {X : Ctx} {w0 w : World} {Ex Rd : Nat → Prop} {h : Heap} {ρ : Nat → Value} {slot : Nat}
variable {a : Act} {op : Oper}

/-- An operation runs, and comes to r. -/
def Runs (X : Ctx) (w0 : World) (Ex Rd : Nat → Prop) (h : Heap) (ρ : Nat → Value) (w : World) (slot : Nat) (a : Act) (op : Oper) (r : Eff) : Prop :=
  ∀ (K : Act → World → Prop) (Q : Exit → Act → World → Prop), (∀ u w' ρ', Grown w0 Ex Rd h ρ w (setBlks slot r.2.1 (sets r.2.2 h)) ρ' w' →
    VRep w' (okOf Rd (setBlks slot r.2.1 (sets r.2.2 h)) ρ' w') (setBlks slot r.2.1 (sets r.2.2 h)) ρ' r.1 u → K (a.put op.dst u) w') → op.wp X.P a w K Q

theorem runs_of_eff {r : Eff} (e : EffGives X w0 Ex Rd h ρ w slot a.eval op r) : Runs X w0 Ex Rd h ρ w slot a op r := by
  intro K Q hK
  obtain ⟨u, w', ρ', hrun | ⟨hrun, rfl⟩, G, rv⟩ := e
  · unfold Oper.wp
    rw [hrun]
    exact hK u w' ρ' G rv
  · unfold Oper.wp
    rw [hrun]
    exact hK _ w' ρ' G rv

theorem runs_of_heap {r : V × List Blk} (e : HeapGives X w0 Ex Rd h ρ w slot a.eval op r) : Runs X w0 Ex Rd h ρ w slot a op (r.1, r.2, []) := by
  obtain ⟨u, w', ρ', hrun, G, rv⟩ := e
  exact runs_of_eff ⟨u, w', ρ', .inl hrun, G, rv⟩

theorem runs_of_gives (M : Mem w0 Ex Rd h ρ w) {v : V} (e : Gives X w (okOf Rd h ρ w) h ρ a.eval op v) : Runs X w0 Ex Rd h ρ w slot a op (v, [], []) := by
  obtain ⟨u, hrun, rv⟩ := e
  exact runs_of_eff ⟨u, w, ρ, .inl hrun, Grown.refl M, rv⟩

/-- Lists are given up first. -/
theorem runs_frz {us : List (Nat × Blk)} (G : Grown w0 Ex Rd h ρ w (sets us h) ρ w) {r : Eff} (e : Runs X w0 Ex Rd (sets us h) ρ w slot a op r) : Runs X w0 Ex Rd h ρ w slot a op (r.1, r.2.1, us ++ r.2.2) := by
  intro K Q hK
  refine e K Q fun u w' ρ' G' rv => ?_
  rw [← sets_append] at G' rv
  exact hK u w' ρ' (G.trans G') rv

theorem norm_rep (M : Mem w0 Ex Rd h ρ w) {v : V} {u : Value} (r : VRep w (okOf Rd h ρ w) h ρ v u) : VRep w (okOf Rd h ρ w) h ρ (norm h v) u := by
  unfold norm
  split
  · rename_i id
    split
    · rename_i e c xs hg
      have e' : cellTo false h (.sl c) (.own id) = some xs := by simp only [cellTo, hg]; unfold castTy; simp
      exact cellTo_ro M e' r
    · exact r
  · exact r

theorem constV_rep (x : Value) : VRep w (okOf Rd h ρ w) h ρ (constV x) x := by
  unfold constV
  split
  · exact rep_int _ _
  · exact rep_bool _
  · rename_i s
    show [Value.string s] = [Value.string ⟨s.data.toList.toArray⟩]
    rfl
  · rfl
  · rfl
  · trivial

theorem eval_rep {s : St} (r : All2 (VRep w (okOf Rd s.heap ρ w) s.heap ρ) s.tmps a.tmps.toList) (x : Operand) : VRep w (okOf Rd s.heap ρ w) s.heap ρ (s.eval x) (a.eval x) := by
  cases x with
  | tmp t =>
    show VRep _ _ _ _ (s.tmps.getD t .undef) (a.tmps.getD t undef)
    rw [List.getD_eq_getElem?_getD]
    cases hq : s.tmps[t]? with
    | none => trivial
    | some v =>
      obtain ⟨u, hu, rv⟩ := r.get? t v hq
      have : a.tmps.getD t undef = u := by
        rw [Array.getElem?_toList] at hu
        simp [Array.getD_eq_getD_getElem?, hu]
      rw [this]
      exact rv
  | const v => exact constV_rep v
  | global g => trivial
  | func f => exact ⟨#[], rfl, .nil⟩

theorem vals_rep {s : St} (M : Mem w0 Ex Rd s.heap ρ w) (r : All2 (VRep w (okOf Rd s.heap ρ w) s.heap ρ) s.tmps a.tmps.toList) (o : Op) : All2 (VRep w (okOf Rd s.heap ρ w) s.heap ρ) (s.vals o) ((opArgs o).map a.eval) := by
  unfold St.vals
  induction opArgs o with
  | nil => exact .nil
  | cons x xs ih => exact .cons (norm_rep M (eval_rep r x)) ih

theorem pure_sound (hX : CtxOk X) (M : Mem w0 Ex Rd h ρ w) {vs : List V} (ra : All2 (VRep w (okOf Rd h ρ w) h ρ) vs ((opArgs op.op).map a.eval)) {v : V} (e : (pureOp X op.op vs).eval = some v) :
    Gives X w (okOf Rd h ρ w) h ρ a.eval op v := by
  generalize ho : op.op = o at *
  cases o with
  | move x =>
    match vs, ra with
    | [p], .cons r .nil => simp only [pureOp, Tr.eval_ret, Option.some.injEq] at e; subst e; exact gives_move (.inl ho) r
  | assign x =>
    match vs, ra with
    | [p], .cons r .nil => simp only [pureOp, Tr.eval_ret, Option.some.injEq] at e; subst e; exact gives_move (.inr ho) r
  | pick c x y =>
    match vs, ra with
    | [_, _, _], .cons r1 (.cons r2 (.cons r3 .nil)) => exact gives_pick ho r1 r2 r3 e
  | build t parts => exact gives_build hX (slices_of M) ho (by simpa [opArgs, Op.operands] using ra) e
  | nilCheck x =>
    match vs, ra with
    | [p], .cons r .nil => exact gives_nilCheck ho r e
  | binOp bo t x y yt =>
    match vs, ra with
    | [_, _], .cons r1 (.cons r2 .nil) => exact gives_binOp hX ho r1 r2 e
  | unOp uo t x =>
    match vs, ra with
    | [p], .cons r .nil => exact gives_unOp ho r e
  | fieldAddr t x f =>
    match vs, ra with
    | [p], .cons r .nil => exact gives_fieldAddr hX ho r e
  | field t x f =>
    match vs, ra with
    | [p], .cons r .nil => exact gives_field hX ho r e
  | index t x y =>
    match vs, ra with
    | [_, _], .cons r1 (.cons r2 .nil) => exact gives_index ho r1 r2 e
  | indexAddr t x y =>
    match vs, ra with
    | [_, _], .cons r1 (.cons r2 .nil) => exact gives_indexAddr hX ho r1 r2 e
  | extract x i =>
    match vs, ra with
    | [p], .cons r .nil => exact gives_extract ho r e
  | slice t x lo hi mx =>
    cases mx with
    | some m => simp [pureOp] at e
    | none =>
      have ra' : All2 (VRep w (okOf Rd h ρ w) h ρ) vs (a.eval x :: (lo.toList ++ hi.toList).map a.eval) := by
        have := ra
        simp only [opArgs] at this
        rwa [slice_operands] at this
      match vs, ra' with
      | p :: bs, .cons r t => exact gives_slice hX ho r t e
  | _ => simp [pureOp] at e

theorem free0 {n : Nat} (hf : FreeAt h slot n) (hn : 0 < n) : h[slot]? = some .free := by simpa using hf 0 hn

theorem wp_call {c : Call} {f : FuncId} (ho : op.op = .call c) (hc : c.callee = .value (.func f)) (hf : CallOk X.P f) {K : Act → World → Prop} {Q : Exit → Act → World → Prop}
    (h : Calls X.P f (c.args.toList.map a.eval).toArray w fun e w' => ∃ u, e = .returned u ∧ K (a.put op.dst u) w') : op.wp X.P a w K Q := by
  have hargs : c.args.map a.eval = (c.args.toList.map a.eval).toArray := by apply Array.ext'; simp
  have hrun : (execOp a.eval op).run X.P w = .ok (.enter f (c.args.toList.map a.eval).toArray) w := by
    have := hf (c.args.map a.eval) w
    rw [← hargs]
    unfold execOp
    simp [ho, resolve, hc, Act.eval, Deferred.ofValue, invoke, this]
  unfold Oper.wp
  rw [hrun, Oper.upon_enter]
  refine h.mono fun e w' ⟨u, he, hk⟩ => ?_
  subst he
  exact hk

theorem call_runs (hΓ : GammaOk X) (M : Mem w0 Ex Rd h ρ w) {c : Call} {f : FuncId} (ho : op.op = .call c) (hc : c.callee = .value (.func f)) {k : Ctr} (hk : X.Γ f = some k) {vs : List V}
    (ra : All2 (VRep w (okOf Rd h ρ w) h ρ) vs (c.args.toList.map a.eval)) {x} {es : List (Option Nat)} {r} {rs : List (Bool × List C)} {bs bs' : List Blk} {rest : List C} {cs : List (Nat × Blk)}
    (hd : decArgs (!k.shares) h k.args vs = some (x, es)) (hnd : nodupB (es.filterMap id) = true) (hlent : (lendIds k.args vs).any (es.filterMap id).contains = false)
    (hF : k.F x = some r) (hp : placeRets k.rets (toCells _ r) slot = some (rs, bs, rest)) (hq : placeRefs k.args vs rest (slot + bs.length) = some (cs, bs', []))
    (hfree : FreeAt h slot (bs ++ bs').length) (hslot : slot + (bs ++ bs').length ≤ h.length) :
    Runs X w0 Ex Rd h ρ w slot a op (retV rs, bs ++ bs', (es.filterMap id).map (fun i => (i, Blk.dead)) ++ cs) := by
  intro K Q hK
  obtain ⟨h1, h2⟩ := hΓ.holds f k hk
  refine wp_call ho hc h2 ((call_sound M h1 ra hd hnd hlent hF hp hq hfree hslot).mono fun e w' ⟨u, ρ', he, G, rv⟩ => ⟨u, he, hK u w' ρ' G rv⟩)

theorem new_runs (hΓ : GammaOk X) (M : Mem w0 Ex Rd h ρ w) {c : Call} {f : FuncId} (ho : op.op = .call c) (hc : c.callee = .value (.func f)) {k : NCtr} (hk : X.N f = some k) {vs : List V}
    (ra : All2 (VRep w (okOf Rd h ρ w) h ρ) vs (c.args.toList.map a.eval)) {x} {r} (hd : decArgs false h k.args vs = some (x, [])) (hF : k.F x = some r) (hfree : h[slot]? = some .free) (hslot : slot + 1 ≤ h.length) :
    Runs X w0 Ex Rd h ρ w slot a op (.one (.ptr slot 0), [.vars k.t (toCells _ r)], []) := by
  intro K Q hK
  obtain ⟨h1, h2⟩ := hΓ.news f k hk
  let Rd' : Nat → Prop := fun b => okOf Rd h ρ w b ∨ w.heap.size ≤ b
  have hnl : ∀ i b, ¬ Live [] ρ i b := fun i b ⟨⟨x, hx, _⟩, _⟩ => by simp at hx
  have hok : ∀ b, okOf Rd h ρ w b → okOf Rd' [] ρ w b := fun b hb => ⟨hb.1, .inl hb, fun i => hnl i b⟩
  have hval : ValOk w false h (okOf Rd h ρ w) (okOf Rd' [] ρ w) ρ (lendIds k.args vs) := fun e ⟨rc, _⟩ => Rep.mono (fun b hb => ⟨hok b hb, rfl⟩) (cellTo_ro M e rc)
  obtain ⟨g1, _, _, g4⟩ := entry_all M hval k.args 0 hd ra (fun _ h => h)
  have he0 : (entryArgs k.args x 0).2 = [] := List.length_eq_zero_iff.1 (by simpa using g1)
  obtain ⟨g5, _, _⟩ := g4 (fun _ _ m _ x vs r => Rep.mono (fun b hb => ⟨hok b hb, rfl⟩) r) (H := []) (ρ' := ρ) (by rw [he0]; intro j b hb; simp at hb)
  have hM : Mem w (fun _ => False) Rd' [] ρ w := ⟨fun id b hb => by simp at hb, fun i j b hi => (hnl i b hi).elim, fun i b hi => (hnl i b hi).elim, fun k hk => .inr hk, fun k hk => hk.elim, ⟨rfl, rfl, rfl, Nat.le_refl _, fun _ _ _ => .inl rfl⟩, ⟨M.tabs_now, fun b hb => ⟨Nat.lt_of_lt_of_le (M.tab.2 b hb).1 M.frame.size, fun h => h⟩⟩, fun b p hS => ⟨Nat.lt_of_lt_of_le (M.scr b p hS).1 M.frame.size, fun h => h⟩, fun hs => ⟨Nat.le_trans (M.sepN hs).1 M.frame.size, fun _ h => h.elim⟩⟩
  refine wp_call ho hc h2 ((h1 w Rd' ρ _ x r hM g5 he0 hF).mono fun e w' ⟨b, cells, he, hx, hb, hcell, hrep⟩ => ⟨_, he, hK _ w' (setρ slot [.pointer (some ⟨b, 0, none⟩)] ρ) ?_ ?_⟩)
  · refine grow_oneC (x := .vars k.t (toCells _ r)) (v := .pointer (some ⟨b, 0, none⟩)) M hfree hx (fun b' hb' => by simp [blockOf] at hb'; omega) fun _ => ?_
    refine ⟨b, cells, rfl, hcell, rep_cells (Rep.mono (fun i hi => ⟨⟨hi.1, ?_, fun id hl => ?_⟩, rfl⟩) hrep)⟩
    · rcases hi.2.1 with h3 | h3
      · exact h3.2.1
      · exact M.rd i (Nat.le_trans M.frame.size h3)
    · obtain ⟨⟨y, hy, hyl⟩, hbl⟩ := hl
      by_cases hids : id = slot
      · subst hids
        have : setρ id [Value.pointer (some ⟨b, 0, none⟩)] ρ id = .pointer (some ⟨b, 0, none⟩) := by
          have := setρ_in (slot := id) (vals := [Value.pointer (some ⟨b, 0, none⟩)]) (ρ := ρ) (i := 0) (by simp)
          simpa using this
        rw [this] at hbl
        simp [blockOf] at hbl
        exact hi.2.2 hbl.symm
      · rw [List.getElem?_set_ne (Ne.symm hids)] at hy
        rw [setρ_out (by simp; omega)] at hbl
        have hl : Live h ρ id i := ⟨⟨y, hy, hyl⟩, hbl⟩
        have := live_lt M hl
        rcases hi.2.1 with h3 | h3
        · exact h3.2.2 id hl
        · omega
  · refine ⟨⟨k.t, toCells _ r, by simp [setBlks, sets, List.getElem?_set, show slot < h.length by omega]⟩, b, ?_, rfl⟩
    have := setρ_in (slot := slot) (vals := [Value.pointer (some ⟨b, 0, none⟩)]) (ρ := ρ) (i := 0) (by simp)
    simpa using this
end
end Go.Rx
/- One operation: all kinds. -/
namespace Go.Rx
variable [Tabs]
section
variable {X : Ctx} {w0 w : World} {Ex Rd : Nat → Prop} {h : Heap} {ρ : Nat → Value} {slot : Nat}
variable {a : Act} {op : Oper}

theorem eval_of_bind {α β : Type} {x : Option α} {f : α → Tr β} {b : β} (e : (Tr.bind (.of x) f).eval = some b) : ∃ y, x = some y ∧ (f y).eval = some b := by
  rw [Tr.eval_bind, Tr.eval_of] at e
  exact Option.bind_eq_some_iff.1 e

theorem eval_of_bnd {α β : Type} {x : Option α} {f : α → Tr β} {b : β} (e : (Tr.bnd x f).eval = some b) : ∃ y, x = some y ∧ (f y).eval = some b := by
  rw [Tr.eval_bnd] at e
  exact Option.bind_eq_some_iff.1 e

theorem heap_sound (hX : CtxOk X) (hΓ : GammaOk X) (M : Mem w0 Ex Rd h ρ w) {vs : List V} (ra : All2 (VRep w (okOf Rd h ρ w) h ρ) vs ((opArgs op.op).map a.eval)) {r : V × List Blk}
    (e : (heapOp X op.op vs h slot).eval = some r) (hf : FreeAt h slot r.2.length) (hs : slot + r.2.length ≤ h.length) :
    Runs X w0 Ex Rd h ρ w slot a op (r.1, r.2, []) := by
  generalize ho : op.op = o at *
  cases o with
  | alloc t =>
    simp only [heapOp] at e
    split at e
    · rename_i τ ht
      cases e
      exact runs_of_heap (gives_alloc hX M (free0 hf (by simp)) ho ht)
    · cases e
  | box t x =>
    match vs, ra with
    | [p], .cons rp .nil =>
      simp only [heapOp] at e
      split at e
      · rename_i τ ht
        split at e
        · rename_i hl
          cases e
          exact runs_of_heap (gives_box hX M (free0 hf (by simp)) ho ht rp hl.1 hl.2)
        · cases e
      · cases e
  | load t x =>
    match vs, ra with
    | [p], .cons rp .nil =>
      simp only [heapOp] at e
      obtain ⟨v, hv, e⟩ := eval_of_bind e
      cases e
      exact runs_of_heap (gives_load hX M ho rp hv)
  | indexAddr t x y =>
    match vs, ra with
    | [.one (.own id), i], .cons r1 (.cons r2 .nil) => exact runs_of_heap (gives_indexAddr_own hX M ho r1 r2 e)
    | [.undef, _], _ | [.agg _, _], _ | [.tup _, _], _ => simp [heapOp] at e
    | [.one (.val _ _), _], _ | [.one .nils, _], _ | [.one (.ptr _ _), _], _ | [.one (.rptr _ _), _], _ | [.one (.eptr _ _ _), _], _ | [.one .nilp, _], _ | [.one (.fn _ _), _], _ | [.one .dead, _], _ => simp [heapOp] at e
  | convert src dst x =>
    match vs, ra with
    | [p], .cons rp .nil => exact runs_of_heap (gives_convert hX M ho rp (fun h => free0 hf h) e)
  | makeSlice t x y =>
    match vs, ra with
    | [_, _], .cons r1 (.cons r2 .nil) =>
      have hne : 0 < r.2.length := by
        have e' := e
        simp only [heapOp] at e'
        split at e'
        · split at e'
          · cases e'
          · split at e'
            · rw [Tr.eval_ite] at e'
              split at e'
              · cases e'; simp
              · cases e'
            · cases e'
        · cases e'
      exact runs_of_heap (gives_makeSlice hX M (free0 hf hne) ho r1 r2 e)
  | buildSlice t n parts =>
    have hne : 0 < r.2.length := by
      have e' : (buildList X t n (parts.toList.map (·.1)) vs h slot).eval = some r := by
        cases vs with
        | nil => exact e
        | cons v1 vs => cases vs with
          | nil => exact e
          | cons v2 vs => exact e
      unfold buildList at e'
      split at e'
      · split at e'
        · split at e'
          · obtain ⟨cs, _, e'⟩ := eval_of_bind e'
            obtain ⟨xs, _, e'⟩ := eval_of_bind e'
            cases e'; simp
          · cases e'
        · cases e'
      · cases e'
    exact runs_of_heap (gives_buildSlice hX M (free0 hf hne) ho (by simpa [opArgs, Op.operands] using ra) e)
  | call c =>
    have ra' : All2 (VRep w (okOf Rd h ρ w) h ρ) vs (c.args.toList.map a.eval) := ra
    cases hc : c.callee with
    | builtin b =>
      cases b with
      | len => exact runs_of_heap (gives_len M ho hc ra' e)
      | min => exact runs_of_heap (gives_minmax M ho (.inl hc) ra' e)
      | max => exact runs_of_heap (gives_minmax M ho (.inr hc) ra' e)
      | append =>
        have e' := e
        simp only [heapOp, hc] at e'
        split at e'
        · rename_i x tS tX hat
          cases hargs : c.args.toList with
          | nil => rw [hargs] at ra'; cases ra'
          | cons s ss =>
            rw [hargs] at ra'
            cases ra' with
            | cons r1 t =>
              cases ss with
              | nil => cases t
              | cons y ys =>
                cases t with
                | cons r2 t2 =>
                  cases ys with
                  | cons z zs => cases t2
                  | nil =>
                    have hne : 0 < r.2.length := by
                      split at e'
                      · split at e'
                        · split at e'
                          · cases e'
                          · split at e'
                            · cases e'
                            · obtain ⟨ys, _, e'⟩ := eval_of_bind e'
                              rw [Tr.eval_ite] at e'
                              split at e'
                              · cases e'; simp
                              · cases e'
                        · cases e'
                      · cases e'
                    exact runs_of_heap (gives_appendNil hX M (free0 hf hne) ho hc hargs hat r1 r2 e)
        · cases e'
      | _ => simp [heapOp, hc] at e
    | value x =>
      cases x with
      | func f =>
        simp only [heapOp, hc] at e
        split at e
        · rename_i k hk
          split at e
          · cases e
          · rename_i hkr
            obtain ⟨x, hx, e⟩ := eval_of_bind e
            obtain ⟨y, hy, e⟩ := eval_of_bnd e
            split at e
            · rename_i rs bs hp
              cases e
              obtain ⟨x, es⟩ := x
              have hnr : ∀ p ∈ k.args, p.isRef = false := by simpa [Ctr.refs] using hkr
              have hes : es = [] := dec_noRefs hnr hx
              subst hes
              have hpr : placeRefs k.args vs [] (slot + bs.length) = some ([], [], []) := place_noRefs hnr hx
              have := call_runs (slot := slot) (op := op) hΓ M ho hc hk ra' hx rfl (by simp) hy hp hpr (by simpa using hf) (by simpa using hs)
              simpa using this
            · cases e
        · split at e
          · rename_i k hk
            split at e
            · cases e
            · rename_i hkr
              obtain ⟨x, hx, e⟩ := eval_of_bind e
              obtain ⟨y, hy, e⟩ := eval_of_bnd e
              cases e
              obtain ⟨x, es⟩ := x
              have hnr : ∀ p ∈ k.args, p.isRef = false := by simpa using hkr
              have hes : es = [] := dec_noRefs hnr hx
              subst hes
              exact new_runs hΓ M ho hc hk ra' hx hy (free0 hf (by simp)) (by simpa using hs)
          · cases e
      | _ => simp [heapOp, hc] at e
    | invoke r m => simp [heapOp, hc] at e
  | _ => simp [heapOp] at e
where
  dec_noRefs : ∀ {o : Bool} {ps : List PK} {vs : List V} {x : (Ty.prod (ps.map PK.ty)).den} {es : List (Option Nat)}, (∀ p ∈ ps, p.isRef = false) → decArgs o h ps vs = some (x, es) → es = [] := by
    intro o ps
    induction ps with
    | nil =>
      intro vs x es _ e
      cases vs with
      | nil => simp only [decArgs] at e; cases e; rfl
      | cons v vs => simp [decArgs] at e
    | cons p ps ih =>
      intro vs x es hn e
      cases vs with
      | nil => simp [decArgs] at e
      | cons v vs =>
        simp only [decArgs] at e
        split at e
        · rename_i y is hy
          split at e
          · rename_i z js hz
            cases e
            have h2 := ih (fun p hp => hn p (List.mem_cons_of_mem _ hp)) hz
            subst h2
            cases p with
            | val b τ =>
              simp only [decArg] at hy
              split at hy
              · split at hy
                · cases hy; rfl
                · cases hy
              · cases hy
            | ref t ms => have := hn (.ref t ms) (by simp); cases this
            | lent a ms => have := hn (.lent a ms) (by simp); cases this
            | given e0 c0 => have := hn (.given e0 c0) (by simp); cases this
          · cases e
        · cases e
  place_noRefs : ∀ {o : Bool} {ps : List PK} {vs : List V} {x : (Ty.prod (ps.map PK.ty)).den} {es : List (Option Nat)} {n : Nat}, (∀ p ∈ ps, p.isRef = false) → decArgs o h ps vs = some (x, es) → placeRefs ps vs [] n = some ([], [], []) := by
    intro o ps
    induction ps with
    | nil =>
      intro vs x es n _ e
      cases vs with
      | nil => rfl
      | cons v vs => simp [decArgs] at e
    | cons p ps ih =>
      intro vs x es n hn e
      cases vs with
      | nil => simp [decArgs] at e
      | cons v vs =>
        simp only [decArgs] at e
        split at e
        · rename_i y is hy
          split at e
          · rename_i z js hz
            cases p with
            | val b τ => simp only [placeRefs]; exact ih (fun p hp => hn p (List.mem_cons_of_mem _ hp)) hz
            | ref t ms => have := hn (.ref t ms) (by simp); cases this
            | lent a ms => have := hn (.lent a ms) (by simp); cases this
            | given e0 c0 => have := hn (.given e0 c0) (by simp); cases this
          · cases e
        · cases e
end
end Go.Rx
/- One operation: those that write; all together. -/
namespace Go.Rx
variable [Tabs]
section
variable {X : Ctx} {w0 w : World} {Ex Rd : Nat → Prop} {h : Heap} {ρ : Nat → Value} {slot : Nat}
variable {a : Act} {op : Oper}

theorem free_frz {ids : List Nat} {us : List (Nat × Blk)} {n : Nat} (e : frz ids h = some us) (hf : FreeAt h slot n) : FreeAt (sets us h) slot n := fun i hi => (frz_sub ids e).2 _ (hf i hi)

theorem own_value {id : Nat} {x : Blk} {u : Value} {ok : Nat → Prop} (hg : h[id]? = some x) (hne : x ≠ .dead) (r : VRep w ok h ρ (.one (.own id)) u) : u = ρ id := by
  obtain ⟨y, hy, _, _, hv⟩ := r
  rw [hg] at hy; cases hy
  exact hv hne

theorem wr_sound (hX : CtxOk X) (hΓ : GammaOk X) (M : Mem w0 Ex Rd h ρ w) {vs : List V} (ra : All2 (VRep w (okOf Rd h ρ w) h ρ) vs ((opArgs op.op).map a.eval)) {r : Eff}
    (e : (wrOp X op.op vs h slot).eval = some r) (hf : FreeAt h slot r.2.1.length) (hs : slot + r.2.1.length ≤ h.length) :
    Runs X w0 Ex Rd h ρ w slot a op r := by
  generalize ho : op.op = o at *
  cases o with
  | store t x y =>
    match vs, ra with
    | [p, v], .cons rp (.cons rv .nil) =>
      simp only [wrOp] at e
      split at e
      · rename_i τ ht
        split at e
        · rename_i hl
          cases p with
          | one c =>
            cases c with
            | eptr id i o =>
              obtain ⟨us, hus, e⟩ := eval_of_bind e
              obtain ⟨us', hus', e⟩ := eval_of_bind e
              cases e
              have G := frz_sound (ρ := ρ) _ hus M
              exact runs_frz G (runs_of_eff (gives_store_eptr hX G.mem ho ht hl.2 (VRep.keep G.keep rp) (VRep.keep G.keep rv) hl.1 hus'))
            | ptr id o =>
              obtain ⟨us, hus, e⟩ := eval_of_bind e
              cases e
              exact runs_of_eff (gives_store_ptr hX M ho ht hl.2 rp rv hl.1 hus)
            | rptr c0 x0 =>
              obtain ⟨us, hus, e⟩ := eval_of_bind e
              cases e
              exact runs_of_eff (gives_store_rptr hX M ho ht hl.2 rp rv hl.1 hus)
            | _ => obtain ⟨us, hus, e⟩ := eval_of_bind e; simp [storeS] at hus
          | _ => obtain ⟨us, hus, e⟩ := eval_of_bind e; simp [storeS] at hus
        · cases e
      · cases e
  | slice t x lo hi mx =>
    cases mx with
    | some m =>
      cases vs with
      | nil => simp [wrOp] at e
      | cons v vs => cases v with
        | one c => cases c <;> simp [wrOp] at e
        | _ => simp [wrOp] at e
    | none =>
      have ra' : All2 (VRep w (okOf Rd h ρ w) h ρ) vs (a.eval x :: (lo.toList ++ hi.toList).map a.eval) := by
        have := ra
        simp only [opArgs] at this
        rwa [slice_operands] at this
      cases ra' with
      | cons rp rb =>
        rename_i p bs
        have hp : ∃ id, p = .one (.own id) := by
          cases p with
          | one c => cases c with
            | own id => exact ⟨id, rfl⟩
            | _ => simp [wrOp] at e
          | _ => simp [wrOp] at e
        obtain ⟨id, rfl⟩ := hp
        simp only [wrOp] at e
        split at e
        · rename_i e0 c xs hg
          have hg' := getD_some hg (by simp)
          split at e
          · rename_i hec
            have hcut : (Tr.bind (pureOp X (.slice t x lo hi none) (.one (.val (.sl c) xs) :: bs)) fun v => Tr.ret ((v, [], [(id, Blk.ro e0 c xs)]) : Eff)).eval = some r → Runs X w0 Ex Rd h ρ w slot a op r := by
              intro e
              rw [Tr.eval_bind] at e
              obtain ⟨v, hv, e⟩ := Option.bind_eq_some_iff.1 e
              cases e
              have G := mem_freeze M hg' (hX.plain _ _ hec.2)
              have rp' : VRep w (okOf Rd (h.set id (.ro e0 c xs)) ρ w) (h.set id (.ro e0 c xs)) ρ (.one (.val (.sl c) xs)) (a.eval x) := by
                rw [own_value hg' (by simp) rp]
                exact ro_of G.mem (List.getElem?_set_self (List.getElem?_eq_some_iff.1 hg').1)
              have := runs_of_gives (slot := slot) G.mem (gives_slice (op := op) (ev := a.eval) hX ho rp' (rb.mono fun _ _ r => VRep.keep G.keep r) hv)
              have := runs_frz (us := [(id, .ro e0 c xs)]) G this
              simpa using this
            split at e
            · rename_i y b
              split at e
              · rename_i k l hl
                rw [Tr.eval_ite] at e
                split at e
                · rename_i hb
                  cases e
                  simp only [Bool.and_eq_true, decide_eq_true_eq] at hb
                  cases rb with
                  | cons rb1 _ => exact runs_of_eff (gives_slice_own hX M (free0 hf (by simp)) ho hg hec.1 hec.2 rp rb1 hl hb.1 hb.2)
                · cases e
              · cases e
            · exact hcut e
          · cases e
        · cases e
  | buildSlice t n parts =>
    have e' : (Tr.bind (.of (frz (V.ownIds vs) h)) fun us => .bind (heapOp X (.buildSlice t n parts) vs (sets us h) slot) fun r => Tr.ret ((r.1, r.2, us) : Eff)).eval = some r := by
      simpa only [wrOp] using e
    obtain ⟨us, hus, e'⟩ := eval_of_bind e'
    rw [Tr.eval_bind] at e'
    obtain ⟨r', hr', e'⟩ := Option.bind_eq_some_iff.1 e'
    cases e'
    have G := frz_sound (ρ := ρ) _ hus M
    have := heap_sound (op := op) (a := a) (slot := slot) (r := r') hX hΓ G.mem (by rw [ho]; exact ra.mono fun _ _ r => VRep.keep G.keep r) (by rw [ho]; exact hr') (free_frz hus hf) (by rw [(frz_sub _ hus).1]; exact hs)
    have := runs_frz G this
    simpa using this
  | call c =>
    have ra' : All2 (VRep w (okOf Rd h ρ w) h ρ) vs (c.args.toList.map a.eval) := ra
    cases hc : c.callee with
    | builtin b =>
      cases b with
      | append =>
        simp only [wrOp, hc] at e
        split at e
        · rename_i id x tS tX hat
          split at e
          · rename_i e0 τ xs hg
            split at e
            · rename_i hec
              split at e
              · cases e
              · rename_i hok
                split at e
                · cases e
                · rename_i hsm
                  obtain ⟨ys, hys, e⟩ := eval_of_bind e
                  rw [Tr.eval_ite] at e
                  split at e
                  · rename_i hb
                    cases e
                    cases hargs : c.args.toList with
                    | nil => rw [hargs] at ra'; cases ra'
                    | cons s ss =>
                      rw [hargs] at ra'
                      cases ra' with
                      | cons r1 t =>
                        cases ss with
                        | nil => cases t
                        | cons y zs =>
                          cases t with
                          | cons r2 t2 =>
                            cases zs with
                            | cons z zs => cases t2
                            | nil => exact runs_of_eff (gives_append_own hX M (free0 hf (by simp)) ho hc hargs hat hg hec.1 hec.2 (by simpa using hsm) (by simpa using hok) r1 r2 hys (by simpa using hb))
                  · cases e
            · cases e
          · cases e
        · cases e
      | _ => simp [wrOp, hc] at e
    | value x =>
      cases x with
      | func f =>
        simp only [wrOp, hc] at e
        split at e
        · rename_i k hk
          obtain ⟨ns, hns, e⟩ := eval_of_bind e
          obtain ⟨fs, hfs, e⟩ := eval_of_bind e
          obtain ⟨x, hx, e⟩ := eval_of_bind e
          obtain ⟨x, es⟩ := x
          dsimp only at e
          split at e
          · cases e
          · rename_i hck
            obtain ⟨y, hy, e⟩ := eval_of_bnd e
            split at e
            · rename_i rs bs rest hp
              split at e
              · rename_i us bs' hq
                cases e
                have hck : nodupB (es.filterMap id) = true ∧ (lendIds k.args vs).any (es.filterMap id).contains = false := by simpa using hck
                have G := frz_sound (ρ := ρ) _ hfs M
                have := call_runs (slot := slot) (op := op) hΓ G.mem ho hc hk (ra'.mono fun _ _ r => VRep.keep G.keep r) hx hck.1 hck.2 hy hp hq (free_frz hfs hf) (by rw [(frz_sub _ hfs).1]; exact hs)
                exact runs_frz G this
              · cases e
            · cases e
        · cases e
      | _ => simp [wrOp, hc] at e
    | invoke r m => simp [wrOp, hc] at e
  | _ => simp [wrOp] at e

theorem eff_sound (hX : CtxOk X) (hΓ : GammaOk X) (M : Mem w0 Ex Rd h ρ w) {vs : List V} (ra : All2 (VRep w (okOf Rd h ρ w) h ρ) vs ((opArgs op.op).map a.eval)) {r : Eff}
    (e : (effOp X op.op vs h slot).eval = some r) (hf : FreeAt h slot r.2.1.length) (hs : slot + r.2.1.length ≤ h.length) :
    Runs X w0 Ex Rd h ρ w slot a op r := by
  unfold effOp at e
  split at e
  · rw [Tr.eval_bind] at e
    obtain ⟨v, hv, e⟩ := Option.bind_eq_some_iff.1 e
    cases e
    exact runs_of_gives M (pure_sound hX M ra hv)
  · rw [Tr.eval_bind] at e
    obtain ⟨v, hv, e⟩ := Option.bind_eq_some_iff.1 e
    cases e
    exact heap_sound hX hΓ M ra hv hf hs
  · exact wr_sound hX hΓ M ra e hf hs
end
end Go.Rx
/- What is computed from less of the memory is computed from more. -/
namespace Go.Rx
variable [Tabs]

def Le (h h' : Heap) : Prop := ∀ (id : Nat) x, h[id]? = some x → x ≠ .free → x ≠ .dead → h'[id]? = some x

theorem Le.get {h h' : Heap} (L : Le h h') {id : Nat} {x : Blk} (e : h.getD id .free = x) (h1 : x ≠ .free) (h2 : x ≠ .dead) : h'.getD id .free = x := by
  have := L id x (getD_some e h1) h1 h2
  simp [List.getD, this]

theorem Le.pad (h : Heap) (n : Nat) : Le h (h ++ List.replicate n .free) := fun id x e _ _ => by
  rw [List.getElem?_append_left (List.getElem?_eq_some_iff.1 e).1]; exact e

theorem Le.set {h h' : Heap} (L : Le h h') {id : Nat} (hid : id < h'.length) (b : Blk) : Le (h.set id b) (h'.set id b) := by
  intro i x e h1 h2
  by_cases hi : i = id
  · subst hi
    have hlt : i < h.length := by
      rcases Nat.lt_or_ge i h.length with h3 | h3
      · exact h3
      · rw [List.getElem?_eq_none (by simpa using h3)] at e; cases e
    rw [List.getElem?_set_self hlt] at e
    rw [List.getElem?_set_self hid]; exact e
  · rw [List.getElem?_set_ne (fun e => hi e.symm)] at e ⊢
    exact L i x e h1 h2

section
variable {X : Ctx} {h h' : Heap}

theorem cellTo_le (L : Le h h') {o : Bool} {τ : Ty} {c : C} {x : τ.den} (e : cellTo o h τ c = some x) : cellTo o h' τ c = some x := by
  cases c with
  | own id =>
    simp only [cellTo] at e ⊢
    split at e
    · rename_i e0 c xs hg
      rw [L.get hg (by simp) (by simp)]; exact e
    · rename_i e0 c xs hg
      rw [L.get hg (by simp) (by simp)]; exact e
    · cases e
  | _ => exact e

theorem ofCells_le (L : Le h h') {o : Bool} : ∀ {c : Ty} {cs : List C} {r : c.den × List C}, ofCells o h c cs = some r → ofCells o h' c cs = some r
  | .pair a b, cs, r, e => by
    simp only [ofCells] at e ⊢
    split at e
    · rename_i x1 cs1 h1
      split at e
      · rename_i x2 cs2 h2
        rw [ofCells_le L h1]
        simp only [ofCells_le L h2]
        exact e
      · cases e
    · cases e
  | .unit, cs, _, e => e
  | .int k, [], _, e => by simp [ofCells] at e
  | .bool, [], _, e => by simp [ofCells] at e
  | .str, [], _, e => by simp [ofCells] at e
  | .sl _, [], _, e => by simp [ofCells] at e
  | .old _, [], _, e => by simp [ofCells] at e
  | .any, [], _, e => by simp [ofCells] at e
  | .any, c :: cs, _, e => e
  | .int k, c :: cs, _, e => by
    simp only [ofCells] at e ⊢
    split at e
    · rename_i y hy; rw [cellTo_le L hy]; exact e
    · cases e
  | .bool, c :: cs, _, e => by
    simp only [ofCells] at e ⊢
    split at e
    · rename_i y hy; rw [cellTo_le L hy]; exact e
    · cases e
  | .str, c :: cs, _, e => by
    simp only [ofCells] at e ⊢
    split at e
    · rename_i y hy; rw [cellTo_le L hy]; exact e
    · cases e
  | .sl _, c :: cs, _, e => by
    simp only [ofCells] at e ⊢
    split at e
    · rename_i y hy; rw [cellTo_le L hy]; exact e
    · cases e
  | .old _, c :: cs, _, e => by
    simp only [ofCells] at e ⊢
    split at e
    · rename_i y hy; rw [cellTo_le L hy]; exact e
    · cases e

theorem loadV_le (L : Le h h') {t : TypeId} {p v : V} (e : loadV X h t p = some v) : loadV X h' t p = some v := by
  unfold loadV at e ⊢
  split at e
  · cases e
  · rename_i τ ht
    dsimp only at e ⊢
    split at e
    · rename_i id o
      split at e
      · rename_i t' cs hg
        try dsimp only
        rw [L.get hg (by simp) (by simp)]; exact e
      · cases e
    · exact e
    · rename_i id i o
      split at e
      · rename_i e0 c xs hg
        try dsimp only
        rw [L.get hg (by simp) (by simp)]; exact e
      · rename_i e0 c xs hg
        try dsimp only
        rw [L.get hg (by simp) (by simp)]; exact e
      · cases e
    · cases e

theorem listOf_le (L : Le h h') {c : Ty} {x : V} {ys : List c.den} (e : listOf h c x = some ys) : listOf h' c x = some ys := by
  unfold listOf at e ⊢
  split at e
  · exact e
  · rename_i y hy
    have e := cellTo_le L e
    cases y with
    | val τ s => cases τ with
      | str => exact absurd rfl (hy s)
      | _ => exact e
    | _ => exact e
  · cases e

theorem elemsOf_le (L : Le h h') {τ : Ty} : ∀ {n : Nat} {cs : List C} {xs : List τ.den}, elemsOf h τ n cs = some xs → elemsOf h' τ n cs = some xs
  | 0, [], _, e => e
  | 0, _ :: _, _, e => by simp [elemsOf] at e
  | n + 1, cs, xs, e => by
    simp only [elemsOf] at e ⊢
    split at e
    · rename_i x cs' h1
      split at e
      · rename_i xs' h2
        rw [ofCells_le L h1]
        simp only [elemsOf_le L h2]
        exact e
      · cases e
    · cases e

theorem lenV_le (L : Le h h') {t : TypeId} {v : V} {n : Int} (e : lenV X t v h = some n) : lenV X t v h' = some n := by
  unfold lenV at e ⊢
  split at e
  · rename_i hu; exact e
  · rename_i hu; exact e
  · rename_i hu; exact e
  · rename_i hu; exact e
  · rename_i hu
    split at e
    · rename_i hg
      rw [L.get hg (by simp) (by simp)]; exact e
    · cases e
  · cases e

theorem exitCells_le (L : Le h h') : ∀ (ms : Cells) {cs : List C} {r : List C × List (Option Nat) × List C}, exitCells h ms cs = some r → exitCells h' ms cs = some r := by
  intro ms
  induction ms with
  | nil => intro cs r e; exact e
  | cons m ms ih =>
    intro cs r e
    unfold exitCells at e
    split at e
    · rename_i hm; cases hm
    · rename_i τ ms' c cs' hm
      cases hm
      split at e
      · rename_i x hx
        split at e
        · rename_i h2
          simp only [exitCells, cellTo_le L hx, ih h2]; exact e
        · cases e
      · cases e
    · rename_i e0 c ms' i' cs' hm
      cases hm
      split at e
      · rename_i e' c' xs' hg
        split at e
        · rename_i hec
          split at e
          · rename_i h2
            simp only [exitCells, L.get hg (by simp) (by simp), if_pos hec, ih h2]; exact e
          · cases e
        · cases e
      · cases e
    · rename_i e0 c ms' cs' hm
      cases hm
      split at e
      · rename_i h2
        simp only [exitCells, ih h2]; exact e
      · cases e
    · rename_i hm; cases hm; simp only [exitCells]; exact ih e
    · cases e

theorem decArg_le (L : Le h h') {o : Bool} {p : PK} {v : V} {r : p.ty.den × List (Option Nat)} (e : decArg o h p v = some r) : decArg o h' p v = some r := by
  cases p with
  | val a τ =>
    simp only [decArg] at e ⊢
    split at e
    · rename_i ha
      rw [if_pos ha]
      split at e
      · rename_i hx; rw [ofCells_le L hx]; exact e
      · cases e
    · cases e
  | ref t ms =>
    have hv : ∃ id, v = .one (.ptr id 0) := by
      cases v with
      | one c => cases c with
        | ptr id o => cases o with
          | zero => exact ⟨id, rfl⟩
          | succ o => simp [decArg] at e
        | _ => simp [decArg] at e
      | _ => simp [decArg] at e
    obtain ⟨id, rfl⟩ := hv
    simp only [decArg] at e ⊢
    split at e
    · rename_i hg
      rw [L.get hg (by simp) (by simp)]
      dsimp only
      split at e
      · rename_i ht
        rw [if_pos ht]
        split at e
        · rename_i h1; rw [exitCells_le L _ h1]; exact e
        · cases e
      · cases e
    · cases e
  | given e0 c0 =>
    cases v with
    | one y =>
      simp only [decArg] at e ⊢
      split at e
      · rename_i h1; rw [exitCells_le L _ h1]; exact e
      · cases e
    | _ => simp [decArg] at e
  | lent a ms =>
    simp only [decArg] at e ⊢
    split at e
    · rename_i ha
      rw [if_pos ha]
      split at e
      · rename_i h1; rw [exitCells_le L _ h1]; exact e
      · cases e
    · cases e

theorem decArgs_le (L : Le h h') {o : Bool} : ∀ (ps : List PK) {vs : List V} {r : (Ty.prod (ps.map PK.ty)).den × List (Option Nat)}, decArgs o h ps vs = some r → decArgs o h' ps vs = some r := by
  intro ps
  induction ps with
  | nil => intro vs r e; cases vs with
    | nil => exact e
    | cons v vs => simp [decArgs] at e
  | cons p ps ih =>
    intro vs r e
    cases vs with
    | nil => simp [decArgs] at e
    | cons v vs =>
      simp only [decArgs] at e ⊢
      split at e
      · rename_i x is hx
        split at e
        · rename_i y js hy
          rw [decArg_le L hx, ih hy]; exact e
        · cases e
      · cases e

theorem refIds_le (L : Le h h') : ∀ (ps : List PK) {vs : List V} {r : List Nat}, refIds h ps vs = some r → refIds h' ps vs = some r := by
  intro ps
  induction ps with
  | nil => intro vs r e; cases vs with
    | nil => exact e
    | cons v vs => simp [refIds] at e
  | cons p ps ih =>
    intro vs r e
    cases vs with
    | nil => cases p <;> simp [refIds] at e
    | cons v vs =>
      cases p with
      | val a τ => simp only [refIds] at e ⊢; exact ih e
      | given e0 c0 => simp only [refIds] at e ⊢; exact ih e
      | ref t ms =>
        have hv : ∃ id, v = .one (.ptr id 0) := by
          cases v with
          | one c => cases c with
            | ptr id o => cases o with
              | zero => exact ⟨id, rfl⟩
              | succ o => simp [refIds] at e
            | _ => simp [refIds] at e
          | _ => simp [refIds] at e
        obtain ⟨id, rfl⟩ := hv
        simp only [refIds] at e ⊢
        split at e
        · rename_i hg
          rw [L.get hg (by simp) (by simp)]
          dsimp only
          split at e
          · rename_i h2; rw [ih h2]; exact e
          · cases e
        · cases e
      | lent a ms =>
        simp only [refIds] at e ⊢
        split at e
        · rename_i h2; rw [ih h2]; exact e
        · cases e

theorem frz_le : ∀ (ids : List Nat) {h h' : Heap} {us : List (Nat × Blk)}, Le h h' → frz ids h = some us → frz ids h' = some us ∧ Le (sets us h) (sets us h')
  | [], h, h', us, L, e => by simp only [frz, Option.some.injEq] at e; subst e; exact ⟨rfl, L⟩
  | id :: ids, h, h', us, L, e => by
    simp only [frz] at e ⊢
    split at e
    · rename_i e0 c xs hg
      have hg2 := L.get hg (by simp) (by simp)
      split at e
      · rename_i hn
        split at e
        · rename_i us' hus
          cases e
          have hlt : id < h'.length := (List.getElem?_eq_some_iff.1 (getD_some hg2 (by simp))).1
          obtain ⟨h1, h2⟩ := frz_le ids (L.set hlt (.ro e0 c xs)) hus
          rw [hg2]
          refine ⟨?_, h2⟩
          simp only [h1, hn, if_true]
        · cases e
      · cases e
    · rename_i hg
      rw [L.get hg (by simp) (by simp)]
      exact frz_le ids L e
    · cases e

theorem storeS_le (L : Le h h') {p v : V} {us : List (Nat × Blk)} (e : storeS p v h = some us) : storeS p v h' = some us := by
  unfold storeS at e ⊢
  split at e
  · split at e
    · rename_i hg; rw [L.get hg (by simp) (by simp)]; exact e
    · cases e
  · split at e
    · rename_i hg
      rw [L.get hg (by simp) (by simp)]
      try dsimp only
      split at e
      · rename_i hx; rw [ofCells_le L hx]; exact e
      · cases e
    · cases e
  · exact e
  · cases e

theorem bind_of_le {α β : Type} {x y : Option α} {f g : α → Tr β} {b : β} (h1 : ∀ a, x = some a → y = some a) (h2 : ∀ a, (f a).eval = some b → (g a).eval = some b) (e : (Tr.bind (.of x) f).eval = some b) : (Tr.bind (.of y) g).eval = some b := by
  obtain ⟨a, ha, e⟩ := eval_of_bind e
  rw [h1 a ha]
  exact h2 a e

theorem buildList_le (L : Le h h') {t : TypeId} {n : Nat} {is : List Nat} {vs : List V} {slot : Nat} {r : V × List Blk} (e : (buildList X t n is vs h slot).eval = some r) : (buildList X t n is vs h' slot).eval = some r := by
  unfold buildList at e ⊢
  split at e
  · rename_i e0 he
    split at e
    · rename_i τ hτ
      split at e
      · rename_i hb
        rw [if_pos hb]
        refine bind_of_le (fun _ h => h) (fun cs e => ?_) e
        exact bind_of_le (fun _ h => elemsOf_le L h) (fun _ h => h) e
      · cases e
    · cases e
  · cases e
end
end Go.Rx
/- What is computed from less of the memory is computed from more: operations. -/
namespace Go.Rx
variable [Tabs]
section
variable {X : Ctx} {h h' : Heap}

theorem bind_le {α β : Type} {x y : Tr α} {f g : α → Tr β} {b : β} (h1 : ∀ a, x.eval = some a → y.eval = some a) (h2 : ∀ a, (f a).eval = some b → (g a).eval = some b) (e : (Tr.bind x f).eval = some b) : (Tr.bind y g).eval = some b := by
  rw [Tr.eval_bind] at e ⊢
  obtain ⟨a, ha, e⟩ := Option.bind_eq_some_iff.1 e
  rw [h1 a ha]
  exact h2 a e

theorem heapOp_le (L : Le h h') {o : Op} {vs : List V} {slot : Nat} {r : V × List Blk} (e : (heapOp X o vs h slot).eval = some r) : (heapOp X o vs h' slot).eval = some r := by
  cases o with
  | alloc t => cases vs <;> exact e
  | box t x =>
    cases vs with
    | nil => exact e
    | cons p ps => cases ps <;> exact e
  | load t x =>
    cases vs with
    | nil => exact e
    | cons p ps =>
      cases ps with
      | cons q qs => exact e
      | nil =>
        simp only [heapOp] at e ⊢
        exact bind_of_le (fun _ h => loadV_le L h) (fun _ h => h) e
  | indexAddr t x y =>
    have hv : ∃ id i, vs = [.one (.own id), i] := by
      match vs with
      | [.one (.own id), i] => exact ⟨id, i, rfl⟩
      | [] | [_] | _ :: _ :: _ :: _ => simp [heapOp] at e
      | [.undef, _] | [.agg _, _] | [.tup _, _] => simp [heapOp] at e
      | [.one (.val _ _), _] | [.one .nils, _] | [.one (.ptr _ _), _] | [.one (.rptr _ _), _] | [.one (.eptr _ _ _), _] | [.one .nilp, _] | [.one (.fn _ _), _] | [.one .dead, _] => simp [heapOp] at e
    obtain ⟨id, i, rfl⟩ := hv
    simp only [heapOp] at e ⊢
    split at e
    · rename_i hg hi
      rw [L.get hg (by simp) (by simp), hi]; exact e
    · cases e
  | convert src dst x =>
    cases vs with
    | nil => exact e
    | cons p ps =>
      cases ps with
      | cons q qs => exact e
      | nil =>
        simp only [heapOp] at e ⊢
        split at e
        · exact e
        · exact e
        · exact e
        · split at e
          · rename_i hu
            rw [if_pos hu]
            exact bind_of_le (fun _ h => cellTo_le L h) (fun _ h => h) e
          · cases e
        · cases e
  | makeSlice t x y =>
    cases vs with
    | nil => exact e
    | cons p ps => cases ps with
      | nil => exact e
      | cons q qs => cases qs <;> exact e
  | buildSlice t n parts =>
    have e' : (buildList X t n (parts.toList.map (·.1)) vs h slot).eval = some r := by
      cases vs with
      | nil => exact e
      | cons v1 vs => cases vs with
        | nil => exact e
        | cons v2 vs => exact e
    have := buildList_le L e'
    cases vs with
    | nil => exact this
    | cons v1 vs => cases vs with
      | nil => exact this
      | cons v2 vs => exact this
  | call c =>
    cases hc : c.callee with
    | builtin b =>
      cases b with
      | len =>
        simp only [heapOp, hc] at e ⊢
        split at e
        · exact bind_of_le (fun _ h => lenV_le L h) (fun _ h => h) e
        · cases e
      | append =>
        simp only [heapOp, hc] at e ⊢
        split at e
        · split at e
          · split at e
            · split at e
              · cases e
              · rename_i h1
                split at e
                · cases e
                · rename_i h2
                  rw [if_neg h1, if_neg h2]
                  exact bind_of_le (fun _ h => listOf_le L h) (fun _ h => h) e
            · cases e
          · cases e
        · cases e
      | _ => simp only [heapOp, hc] at e ⊢; exact e
    | value x =>
      cases x with
      | func f =>
        simp only [heapOp, hc] at e ⊢
        split at e
        · split at e
          · cases e
          · rename_i h1
            rw [if_neg h1]
            exact bind_of_le (fun _ h => decArgs_le L _ h) (fun _ h => h) e
        · split at e
          · split at e
            · cases e
            · rename_i h1
              rw [if_neg h1]
              exact bind_of_le (fun _ h => decArgs_le L _ h) (fun _ h => h) e
          · cases e
      | _ => simp only [heapOp, hc] at e ⊢; exact e
    | invoke r m => simp only [heapOp, hc] at e ⊢; exact e
  | _ => simp [heapOp] at e

theorem wrOp_le (L : Le h h') {o : Op} {vs : List V} {slot : Nat} {r : Eff} (e : (wrOp X o vs h slot).eval = some r) : (wrOp X o vs h' slot).eval = some r := by
  cases o with
  | store t x y =>
    match vs with
    | [] | [_] | _ :: _ :: _ :: _ => simp [wrOp] at e
    | [p, v] =>
      simp only [wrOp] at e ⊢
      split at e
      · split at e
        · rename_i hl
          rw [if_pos hl]
          cases p with
          | one c =>
            cases c with
            | eptr id i o =>
              obtain ⟨us, hus, e⟩ := eval_of_bind e
              obtain ⟨h1, h2⟩ := frz_le _ L hus
              dsimp only
              rw [h1, Tr.eval_bind, Tr.eval_of, Option.bind_some]
              exact bind_of_le (fun _ h => storeS_le h2 h) (fun _ h => h) e
            | _ => exact bind_of_le (fun _ h => storeS_le L h) (fun _ h => h) e
          | _ => exact bind_of_le (fun _ h => storeS_le L h) (fun _ h => h) e
        · cases e
      · cases e
  | slice t x lo hi mx =>
    cases mx with
    | some m =>
      cases vs with
      | nil => simp [wrOp] at e
      | cons v vs => cases v with
        | one c => cases c <;> simp [wrOp] at e
        | _ => simp [wrOp] at e
    | none =>
      have hp : ∃ id bs, vs = .one (.own id) :: bs := by
        cases vs with
        | nil => simp [wrOp] at e
        | cons p bs =>
          cases p with
          | one c => cases c with
            | own id => exact ⟨id, bs, rfl⟩
            | _ => simp [wrOp] at e
          | _ => simp [wrOp] at e
      obtain ⟨id, bs, rfl⟩ := hp
      simp only [wrOp] at e ⊢
      split at e
      · rename_i hg
        rw [L.get hg (by simp) (by simp)]; exact e
      · cases e
  | buildSlice t n parts =>
    have e' : (Tr.bind (.of (frz (V.ownIds vs) h)) fun us => .bind (heapOp X (.buildSlice t n parts) vs (sets us h) slot) fun r => Tr.ret ((r.1, r.2, us) : Eff)).eval = some r := by
      simpa only [wrOp] using e
    have : (Tr.bind (.of (frz (V.ownIds vs) h')) fun us => .bind (heapOp X (.buildSlice t n parts) vs (sets us h') slot) fun r => Tr.ret ((r.1, r.2, us) : Eff)).eval = some r := by
      obtain ⟨us, hus, e⟩ := eval_of_bind e'
      obtain ⟨h1, h2⟩ := frz_le _ L hus
      rw [h1, Tr.eval_bind, Tr.eval_of, Option.bind_some]
      exact bind_le (fun _ h => heapOp_le h2 h) (fun _ h => h) e
    simpa only [wrOp] using this
  | call c =>
    cases hc : c.callee with
    | builtin b =>
      cases b with
      | append =>
        simp only [wrOp, hc] at e ⊢
        split at e
        · split at e
          · rename_i hg
            rw [L.get hg (by simp) (by simp)]
            dsimp only
            split at e
            · rename_i h0
              rw [if_pos h0]
              split at e
              · cases e
              · rename_i h1
                split at e
                · cases e
                · rename_i h2
                  rw [if_neg h1, if_neg h2]
                  exact bind_of_le (fun _ h => listOf_le L h) (fun _ h => h) e
            · cases e
          · cases e
        · cases e
      | _ => simp only [wrOp, hc] at e ⊢; exact e
    | value x =>
      cases x with
      | func f =>
        simp only [wrOp, hc] at e ⊢
        split at e
        · obtain ⟨ns, hns, e⟩ := eval_of_bind e
          obtain ⟨fs, hfs, e⟩ := eval_of_bind e
          obtain ⟨h1, h2⟩ := frz_le _ L hfs
          obtain ⟨a, ha, e⟩ := eval_of_bind e
          rw [refIds_le L _ hns, Tr.eval_bind, Tr.eval_of, Option.bind_some, Tr.eval_bind, Tr.eval_of, h1, Option.bind_some, Tr.eval_bind, Tr.eval_of, decArgs_le h2 _ ha, Option.bind_some]
          exact e
        · cases e
      | _ => simp only [wrOp, hc] at e ⊢; exact e
    | invoke r m => simp only [wrOp, hc] at e ⊢; exact e
  | _ => simp [wrOp] at e

theorem effOp_le (L : Le h h') {o : Op} {vs : List V} {slot : Nat} {r : Eff} (e : (effOp X o vs h slot).eval = some r) : (effOp X o vs h' slot).eval = some r := by
  unfold effOp at e ⊢
  split at e
  · exact e
  · exact bind_le (fun _ h => heapOp_le L h) (fun _ h => h) e
  · exact wrOp_le L e
end
end Go.Rx
/- Calls that mark what was made. -/
namespace Go.Rx

def notSlice : Value → Prop
  | .slice .. => False
  | _ => True

/-- What is marked: a cell that holds no list. -/
theorem shape_cells [Tabs] {w : World} {ok : Nat → Prop} : ∀ {c : Ty} {x : c.den} {cs : List Value}, c.fit = true → Rep w ok c x cs → ∀ (j : Nat) (v : Value), cs[j]? = some v → (c.shape.isAny j = true ↔ notSlice v)
  | .int _, _, _, _, r, j, v, e => by
    cases r
    match j with
    | 0 => cases e; simp [Ty.shape, Ty.isAny, notSlice]
    | j + 1 => cases e
  | .bool, _, _, _, r, j, v, e => by
    cases r
    match j with
    | 0 => cases e; simp [Ty.shape, Ty.isAny, notSlice]
    | j + 1 => cases e
  | .str, _, _, _, r, j, v, e => by
    cases r
    match j with
    | 0 => cases e; simp [Ty.shape, Ty.isAny, notSlice]
    | j + 1 => cases e
  | .unit, _, _, _, r, j, v, e => by cases r; cases e
  | .old _, _, _, h, _, _, _, _ => by cases h
  | .any, _, _, h, _, _, _, _ => by cases h
  | .sl _, _, _, _, ⟨A, cap, e1, _, _⟩, j, v, e => by
    subst e1
    match j with
    | 0 => cases e; simp [Ty.shape, Ty.isAny, notSlice]
    | j + 1 => cases e
  | .pair a b, p, _, h, ⟨l, r, e1, hl, hr⟩, j, v, e => by
    subst e1
    simp only [Ty.fit, Bool.and_eq_true] at h
    have hla := hl.length
    simp only [Ty.shape]
    unfold Ty.isAny
    rw [shape_size]
    rcases Nat.lt_or_ge j a.size with h1 | h1
    · rw [if_pos h1]
      rw [List.getElem?_append_left (by omega)] at e
      exact shape_cells h.1 hl j v e
    · rw [if_neg (by omega)]
      rw [List.getElem?_append_right (by omega), hla] at e
      exact shape_cells h.2 hr _ v e

theorem shape_rep {T0 T1 : Tabs} {w : World} {ok ok1 : Nat → Prop} (hsep : T0.sep = true) (hN : T1.N = T0.N)
    (h : ∀ b, ok b → T0.N ≤ b → Wr w b → ok1 b ∧ ∀ (p : Nat) (v : Value), w.cell? ⟨b, p, none⟩ = some v → (T1.S b p ↔ notSlice v)) :
    ∀ {c : Ty} {x : c.den} {vs : List Value}, c.fit = true → @Rep T0 w ok c x vs → @Rep T1 w ok1 c.shape (c.shapeVal x) vs
  | .int _, _, _, _, r => ⟨_, r, rfl⟩
  | .bool, _, _, _, r => ⟨_, r, rfl⟩
  | .str, _, _, _, r => ⟨_, r, rfl⟩
  | .unit, _, _, _, r => r
  | .old _, _, _, h, _ => by cases h
  | .any, _, _, h, _ => by cases h
  | .pair a b, p, _, hf, ⟨l, r, e, hl, hr⟩ => by
    simp only [Ty.fit, Bool.and_eq_true] at hf
    exact ⟨l, r, e, shape_rep hsep hN h hf.1 hl, shape_rep hsep hN h hf.2 hr⟩
  | .sl c, xs, _, hf, ⟨A, cap, e, hc, hi⟩ => by
    refine ⟨A, cap, ?_, ?_, fun i hlt => ?_⟩
    · rw [e]; show _ = [Value.slice A (List.map c.shapeVal xs).length cap]; rw [List.length_map]
    · show (List.map c.shapeVal xs).length ≤ cap; rw [List.length_map]; exact hc
    · have hlt' : i < (xs : List c.den).length := by
        have : i < (List.map c.shapeVal xs).length := hlt
        rwa [List.length_map] at this
      obtain ⟨b, o, cs, hA, ⟨hb, hk⟩, hr, hj⟩ := hi i hlt'
      obtain ⟨hNb, hw⟩ := hk hsep
      obtain ⟨h1, h2⟩ := h b hb hNb hw
      refine ⟨b, o, cs, hA, ⟨h1, fun _ => ⟨by rw [hN]; exact hNb, hw⟩⟩, ?_, fun j hj' => ?_⟩
      · have hg : (List.map c.shapeVal xs)[i]'hlt = c.shapeVal ((xs : List c.den)[i]'hlt') := List.getElem_map _
        show @Rep T1 w ok1 c.shape ((List.map c.shapeVal xs)[i]'hlt) cs
        rw [hg]
        exact shape_rep hsep hN h hf hr
      · obtain ⟨hcell, _⟩ := hj j hj'
        rw [shape_size]
        have hs := @shape_cells T0 w ok c _ cs hf hr j cs[j] (List.getElem?_eq_getElem hj')
        have hS := h2 _ _ hcell
        refine ⟨hcell, fun ha => fun hSS => ?_, fun ha => ⟨hS.2 (hs.1 ha), hw⟩⟩
        rw [hs.2 (hS.1 hSS)] at ha
        cases ha

section
variable [Tabs] {w w' w0 : World} {ok ok' Ex Rd : Nat → Prop} {h h' : Heap} {ρ : Nat → Value}

theorem calm_rep (hk : ∀ k, ok k → LO k → ok' k ∧ w'.heap[k]? = w.heap[k]?) : ∀ {c : Ty} {x : c.den} {vs : List Value}, c.calm = true → Rep w ok c x vs → Rep w' ok' c x vs
  | .int _, _, _, _, r => r
  | .bool, _, _, _, r => r
  | .str, _, _, _, r => r
  | .unit, _, _, _, r => r
  | .any, _, _, h, _ => by cases h
  | .sl _, _, _, h, _ => by cases h
  | .pair _ _, _, _, hc, ⟨l, r, e, hl, hr⟩ => by
    simp only [Ty.calm, Bool.and_eq_true] at hc
    exact ⟨l, r, e, calm_rep hk hc.1 hl, calm_rep hk hc.2 hr⟩
  | .old c, _, _, hc, ⟨A, cap, e, hcap, hi⟩ => ⟨A, cap, e, hcap, fun i hlt => by
      obtain ⟨b, o, cs, hA, ⟨hb, hlo⟩, hr, hj⟩ := hi i hlt
      obtain ⟨h1, h2⟩ := hk b hb hlo
      refine ⟨b, o, cs, hA, ⟨h1, hlo⟩, calm_rep hk hc hr, fun j hj' => ⟨?_, SameB.prot (.inl h2) (hj j hj').2⟩⟩
      rw [← (hj j hj').1]
      simp only [World.cell?, h2]⟩

theorem kill_sub (g : Bool) {x : Blk} (hf : x ≠ .free) : Sub x (killB g x) := by
  cases x with
  | free => exact absurd rfl hf
  | dead => exact .dead rfl
  | vars t cs => exact .vars
  | ro e c xs => exact .dead rfl
  | arr e c xs =>
    simp only [killB]
    split
    · exact .arr (Nat.le_refl _)
    · exact .dead rfl

theorem killH_get (ids : List Nat) (h : Heap) (i : Nat) : (killH ids h)[i]? = (h[i]?).map (killB (ids.contains i)) := by
  unfold killH
  rw [List.getElem?_mapIdx]

theorem killC_rep (hk : ∀ k, ok k → LO k → ok' k ∧ w'.heap[k]? = w.heap[k]?)
    (hb : ∀ (id : Nat) x, h[id]? = some x → x ≠ .free → ∃ x', h'[id]? = some x' ∧ Sub x x') {c : C} {v : Value} (r : CRep w ok h ρ c v) : CRep w' ok' h' ρ (killC c) v := by
  have h1c := oneCell_of r trivial
  cases c with
  | val τ x =>
    simp only [killC]
    split
    · rename_i hc; exact calm_rep hk hc r
    · exact h1c
  | nils => exact r
  | nilp => exact r
  | dead => exact r
  | rptr c x => exact h1c
  | own id =>
    obtain ⟨x, hx, hl, h1, hv⟩ := r
    obtain ⟨x', h2, s⟩ := hb id x hx (by rintro rfl; cases hl)
    exact ⟨x', h2, s.isL hl, h1, fun hd => hv (by rintro rfl; cases s; exact hd rfl)⟩
  | ptr id o =>
    obtain ⟨⟨t, cs, e⟩, b, e1, e2⟩ := r
    obtain ⟨x', h2, s⟩ := hb id _ e (by simp)
    cases s with
    | vars => exact ⟨⟨_, _, h2⟩, b, e1, e2⟩
    | dead h => cases h
  | eptr id i o =>
    obtain ⟨x, hx, hl, h1, hv⟩ := r
    obtain ⟨x', h2, s⟩ := hb id x hx (by rintro rfl; cases hl)
    refine ⟨x', h2, s.isL hl, h1, fun c xs' hxs' => ?_⟩
    obtain ⟨hd, _, xs, hxs, hle⟩ := s.list hxs'
    obtain ⟨hi, b, o', len, cap, e1, e2⟩ := hv c xs hxs
    exact ⟨by omega, b, o', len, cap, e1, e2⟩
  | fn f caps =>
    obtain ⟨us, e, hu⟩ := r
    refine ⟨us, e, hu.mono fun p u ⟨⟨t, cs, e⟩, b, e1, e2⟩ => ?_⟩
    obtain ⟨x', h2, s⟩ := hb p.1 _ e (by simp)
    cases s with
    | vars => exact ⟨⟨_, _, h2⟩, b, e1, e2⟩
    | dead h => cases h

theorem killV_rep (hc : ∀ c u, CRep w ok h ρ c u → CRep w' ok' h' ρ (killC c) u) : ∀ {v : V} {u : Value}, VRep w ok h ρ v u → VRep w' ok' h' ρ (killV v) u
  | .undef, _, _ => trivial
  | .one _, _, r => hc _ _ r
  | .agg _, _, ⟨vs, e, r⟩ => ⟨vs, e, r.map _ fun _ _ h => hc _ _ h⟩
  | .tup _, _, ⟨us, e, r⟩ => ⟨us, e, r.map _ fun p u hp => by
      rcases hp with ⟨e1, vs, e2, r2⟩ | ⟨e1, x, e2, r2⟩
      · exact .inl ⟨e1, vs, e2, r2.map _ fun _ _ h => hc _ _ h⟩
      · exact .inr ⟨e1, killC x, by simp [e2], hc _ _ r2⟩⟩

theorem exit_one {τ : Ty} {parts : List (Bool × List C)} {xs : List C} {is : List (Option Nat)} (e : exitRets h [(false, [(none, τ)])] parts = some (xs, is)) : ∃ (c : C) (x : τ.den), parts = [(false, [c])] ∧ cellTo false h τ c = some x ∧ xs = [.val τ x] := by
  cases parts with
  | nil => simp [exitRets] at e
  | cons p ps =>
    obtain ⟨b, cs⟩ := p
    simp only [exitRets] at e
    split at e
    · rename_i hb
      subst hb
      cases cs with
      | nil => simp [exitCells] at e
      | cons c cs =>
        simp only [exitCells] at e
        cases hc : cellTo false h τ c with
        | none => rw [hc] at e; cases e
        | some x =>
          rw [hc] at e
          cases cs with
          | cons d cs => simp [exitCells] at e
          | nil =>
            cases ps with
            | cons q ps => simp [exitCells, exitRets] at e
            | nil =>
              simp [exitCells, exitRets] at e
              exact ⟨c, x, rfl, hc, e.1.symm⟩
    · cases e

theorem exit_noref : ∀ {ps : List PK} {ids : List Nat} {xs : List C} {js : List (Option Nat)}, ps.filterMap PK.refTy? = [] → exitRefs h ps ids = some (xs, js) → xs = []
  | [], [], _, _, _, e => by simp [exitRefs] at e; exact e.1
  | [], _ :: _, _, _, _, e => by simp [exitRefs] at e
  | .given a τ :: ps, ids, _, _, hn, e => exit_noref (ps := ps) (ids := ids) (by simpa [PK.refTy?] using hn) (by simpa [exitRefs] using e)
  | .val a τ :: ps, ids, _, _, hn, e => exit_noref (ps := ps) (ids := ids) (by simpa [PK.refTy?] using hn) (by simpa [exitRefs] using e)
  | .ref t ms :: ps, ids, _, _, hn, e => by simp [PK.refTy?] at hn

theorem int_cell {k : IntKind} {c : C} {x : Int} (e : cellTo false h (.int k) c = some x) : c = .val (.int k) x := by
  unfold cellTo at e
  split at e
  · rename_i τ y
    obtain ⟨hτ, hx⟩ := castTy_eq e
    subst hτ
    have hx : y = x := hx
    rw [hx]
  · cases e
  · split at e
    · simp at e
    · obtain ⟨hτ, _⟩ := castTy_eq e
      cases hτ
    · cases e
  · cases e
  · cases e
end

/-- The same, but what is new and nobody's may be scribbled on, where no lists lie. -/
@[reducible] def markT (T0 : Tabs) (w : World) (h' : Heap) (ρ : Nat → Value) (hB : ∀ b, T0.B b → b < T0.N) : Tabs where
  T := T0.T
  B := T0.B
  kept := T0.kept
  sep := T0.sep
  N := T0.N
  S := fun b p => T0.N ≤ b ∧ b < w.heap.size ∧ Wr w b ∧ (∀ id, ¬ Live h' ρ id b) ∧ ∃ v, w.cell? ⟨b, p, none⟩ = some v ∧ notSlice v
  noS := fun b p hb hs => Nat.lt_irrefl _ (Nat.lt_of_lt_of_le (hB b hb) hs.1)

/-- **A call that marks.** -/
theorem mark_sound [T0 : Tabs] {P : Program} {w0 w : World} {Ex Rd : Nat → Prop} {h : Heap} {ρ : Nat → Value} (M : Mem w0 Ex Rd h ρ w) {m : MCtr} {f : FuncId}
    (hsep : T0.sep = true) (hN : w0.heap.size ≤ T0.N) (hS : ∀ b p, ¬ T0.S b p) (hm : ∀ T : Tabs, @CtrHolds T P f m.ctr) {v : V} {uv : Value} (rv : VRep w (okOf Rd h ρ w) h ρ v uv) (hagg : v.isAggB = m.agg) (hfit : m.τ.fit = true) (hokR : v.okR = true)
    {x : m.τ.den} (hx : ofCells true h m.τ v.cells = some (x, [])) {n r : Int} (hr : m.F (m.τ.shapeVal x, n) = some r) :
    Calls P f #[uv, .int .i64 n] w fun e w' => e = .returned (.int .i64 r) ∧ Mem w0 Ex Rd (killH (C.ownIds v.cells) h) ρ w' ∧
      ∀ c u, CRep w (okOf Rd h ρ w) h ρ c u → CRep w' (okOf Rd (killH (C.ownIds v.cells) h) ρ w') (killH (C.ownIds v.cells) h) ρ (killC c) u := by
  generalize hids : C.ownIds v.cells = ids
  generalize hh' : killH ids h = h'
  have hget : ∀ i, h'[i]? = (h[i]?).map (killB (ids.contains i)) := fun i => by rw [← hh', killH_get]
  have hlive : ∀ i b, Live h' ρ i b → Live h ρ i b ∧ (i ∈ ids → ∃ t cs, h[i]? = some (.vars t cs)) := by
    intro i b ⟨⟨y, hy, hyl⟩, hb⟩
    rw [hget] at hy
    obtain ⟨z, hz, rfl⟩ := Option.map_eq_some_iff.1 hy
    refine ⟨⟨⟨z, hz, ?_⟩, hb⟩, fun hi => ?_⟩
    · cases z with
      | vars t cs => rfl
      | arr e c xs => rfl
      | _ => cases hyl
    · have hc : ids.contains i = true := by simpa using hi
      rw [hc] at hyl
      cases z with
      | vars t cs => exact ⟨t, cs, hz⟩
      | arr e c xs => simp [killB, Blk.lives] at hyl
      | _ => cases hyl
  have hsub : ∀ (id : Nat) y, h[id]? = some y → y ≠ .free → ∃ y', h'[id]? = some y' ∧ Sub y y' := fun id y hy hf => ⟨_, by rw [hget, hy]; rfl, kill_sub _ hf⟩
  -- the value that is marked
  obtain ⟨vs, rvs, hval, hone⟩ : ∃ vs : List Value, CsRep w (okOf Rd h ρ w) h ρ v.cells vs ∧ uv = mkVal m.agg vs ∧ (m.agg = false → vs.length = 1) := by
    cases v with
    | one c => exact ⟨[uv], .cons rv .nil, by rw [← hagg]; rfl, fun _ => rfl⟩
    | agg cs =>
      obtain ⟨vs, e, r⟩ := rv
      exact ⟨vs, r, by rw [← hagg]; exact e, fun h => by rw [← hagg] at h; cases h⟩
    | _ => cases hokR
  let ok1 : Nat → Prop := fun k => k < w.heap.size ∧ ∀ id, ¬ Live h' ρ id k
  have hok1 : ∀ k, okOf Rd h ρ w k → ok1 k := fun k hk => ⟨hk.1, fun id hl => hk.2.2 id (hlive id k hl).1⟩
  have hcell : ∀ {τ : Ty} {c : C} {y : τ.den} {u : Value}, cellTo true h τ c = some y → (CRep w (okOf Rd h ρ w) h ρ c u ∧ ∀ id, c = .own id → id ∈ ids) → Rep w ok1 τ y [u] := by
    intro τ c y u e ⟨rc, hid⟩
    cases c with
    | own id =>
      simp only [cellTo, Bool.true_and] at e
      split at e
      · rename_i e0 c0 xs hg
        split at e
        · rename_i hna
          obtain ⟨rfl, rfl⟩ := castTy_eq e
          have hg' := getD_some hg (by simp)
          obtain ⟨z, hz, _, _, hv⟩ := rc
          rw [hg'] at hz
          cases hz
          rw [hv (by simp)]
          refine BRep.tree (w := w) (w' := w) (ok := okOf Rd h ρ w) (h := h) (ρ := ρ) (e := e0) (fun b hb => ⟨hok1 b hb, .refl _ _⟩) (fun b hb => ⟨⟨live_lt M ⟨⟨_, hg', rfl⟩, hb⟩, fun j hj => ?_⟩, rfl⟩) hna (fun b hb => ⟨M.live_N ⟨⟨_, hg', rfl⟩, hb⟩, M.live_noS ⟨⟨_, hg', rfl⟩, hb⟩⟩) (M.blocks id _ hg')
          obtain ⟨h1, h2⟩ := hlive j b hj
          have : j = id := M.apart j id b h1 ⟨⟨_, hg', rfl⟩, hb⟩
          subst this
          obtain ⟨t, cs, h3⟩ := h2 (hid j rfl)
          rw [hg'] at h3; cases h3
        · cases e
      · rename_i e0 c0 xs hg
        have e' : cellTo false h τ (.own id) = some y := by simp only [cellTo, hg]; exact e
        exact Rep.mono (fun b hb => ⟨hok1 b hb, rfl⟩) (cellTo_ro M e' rc)
      · cases e
    | val τ' x' =>
      have e' : cellTo false h τ (.val τ' x') = some y := e
      exact Rep.mono (fun b hb => ⟨hok1 b hb, rfl⟩) (cellTo_ro M e' rc)
    | nils =>
      have e' : cellTo false h τ .nils = some y := e
      exact Rep.mono (fun b hb => ⟨hok1 b hb, rfl⟩) (cellTo_ro M e' rc)
    | dead =>
      have e' : cellTo false h τ .dead = some y := e
      exact Rep.mono (fun b hb => ⟨hok1 b hb, rfl⟩) (cellTo_ro M e' rc)
    | _ => simp [cellTo] at e
  have hrepX : Rep w ok1 m.τ x vs := by
    have rall : ∀ {cs : List C} {us : List Value}, CsRep w (okOf Rd h ρ w) h ρ cs us → (∀ id, id ∈ C.ownIds cs → id ∈ ids) → All2 (fun c u => CRep w (okOf Rd h ρ w) h ρ c u ∧ ∀ id, c = .own id → id ∈ ids) cs us := by
      intro cs us rr
      induction rr with
      | nil => intro _; exact .nil
      | cons hc t ih =>
        rename_i c u cs us
        intro hi
        refine .cons ⟨hc, fun id e => hi id (by rw [e]; simp [C.ownIds])⟩ (ih fun id hid => hi id ?_)
        cases c <;> simp [C.ownIds, hid]
    obtain ⟨l, rr, e1, e2, e3⟩ := ofCells_all (ok' := ok1) hcell hx (rall rvs (fun id hid => by rw [← hids]; exact hid))
    cases e3
    rw [e1, List.append_nil]
    exact e2
  -- memory, as the callee sees it
  have hBN : ∀ b, T0.B b → b < T0.N := fun b hb => by have := (M.tab.2 b hb).1; omega
  let T1 : PLift Tabs := ⟨markT T0 w h' ρ hBN⟩
  have hrep1 : @Rep T1.down w (fun k => k < w.heap.size) m.τ.shape (m.τ.shapeVal x) vs := by
    refine shape_rep (T0 := T0) (T1 := T1.down) (ok := ok1) hsep rfl (fun b hb hNb hw => ⟨hb.1, fun p v hv => ⟨fun ⟨_, _, _, _, v', hv', hn⟩ => ?_, fun hn => ⟨hNb, hb.1, hw, hb.2, v, hv, hn⟩⟩⟩) hfit hrepX
    rw [hv] at hv'; cases hv'; exact hn
  let ρ0 : Nat → Value := fun _ => .bool false
  have hMf := M.frame.size
  have hMs := M.sepN
  have hMt : T0.T w ∧ ∀ b, T0.B b → b < w.heap.size ∧ ¬ False := ⟨M.tabs_now, fun b hb => ⟨Nat.lt_of_lt_of_le (M.tab.2 b hb).1 M.frame.size, fun h => h⟩⟩
  have hM1 : @Mem T1.down w (fun _ => False) (fun _ => True) [] ρ0 w :=
    @Mem.mk T1.down w (fun _ => False) (fun _ => True) [] ρ0 w (fun id b hb => by simp at hb) (fun i j b hi => by obtain ⟨⟨z, hz, _⟩, _⟩ := hi; simp at hz) (fun i b hi => by obtain ⟨⟨z, hz, _⟩, _⟩ := hi; simp at hz) (fun _ _ => trivial) (fun _ _ => trivial)
      (@Frame0.mk T1.down w w _ rfl rfl rfl (Nat.le_refl _) fun k _ _ => @SameB.refl T1.down w k) hMt (fun b p hs => ⟨hs.2.1, fun h => h⟩) (fun hs => ⟨Nat.le_trans (hMs hs).1 hMf, fun _ h => h.elim⟩)
  have hargs : @All2 V Value (@VRep T1.down w (okOf (fun _ => True) [] ρ0 w) [] ρ0) (entryArgs m.ctr.args (m.τ.shapeVal x, n) 0).1 [uv, .int .i64 n] := by
    have hok2 : ∀ k, k < w.heap.size → okOf (fun _ => True) [] ρ0 w k := fun k hk => ⟨hk, trivial, fun i ⟨⟨z, hz, _⟩, _⟩ => by simp at hz⟩
    have r1 : @Rep T1.down w (okOf (fun _ => True) [] ρ0 w) m.τ.shape (m.τ.shapeVal x) vs := @Rep.mono T1.down _ _ _ _ (fun k hk => ⟨hok2 k hk, rfl⟩) _ _ _ hrep1
    have r2 : @CsRep T1.down w (okOf (fun _ => True) [] ρ0 w) [] ρ0 (toCells m.τ.shape (m.τ.shapeVal x)) vs := @rep_cells T1.down _ _ _ _ _ _ _ r1
    refine .cons ?_ (.cons rfl .nil)
    rw [hval]
    exact @mkV_rep T1.down _ _ _ _ _ _ _ r2 (fun ha => r2.length.trans (hone ha))
  have hent0 : (entryArgs m.ctr.args (m.τ.shapeVal x, n) 0).2 = [] := rfl
  refine (hm T1.down w (fun _ => False) (fun _ => True) ρ0 [uv, .int .i64 n] (m.τ.shapeVal x, n) r hM1 hargs hr).mono fun e w' ⟨u, h1, ρ1, rr, refs', he, M1, rvr, _, hexit⟩ => ?_
  have hres : u = .int .i64 r := by
    unfold Ctr.exit0 at hexit
    split at hexit
    · cases hexit
    · rename_i hro
      split at hexit
      · rename_i xs is ys js h2 h3
        split at hexit
        · split at hexit
          · rename_i r' h4
            cases hexit
            obtain ⟨c, y, hparts, hc, rfl⟩ := exit_one (τ := .int .i64) h2
            obtain rfl := exit_noref (ps := m.ctr.args) rfl h3
            have hall : AllVal ([C.val (.int .i64) y] ++ []) := trivial
            obtain ⟨hcs, _⟩ := ofCells_val hall h4
            have hcs : [C.val (.int .i64) y] = toCells (.int .i64) r ++ [] := hcs
            have hy : y = r := by
              have := List.singleton_inj.1 hcs
              simpa using this
            subst hy
            obtain rfl := int_cell hc
            cases rr with
            | undef => simp [retParts] at hparts
            | one z =>
              simp only [retParts, List.cons.injEq, Prod.mk.injEq, and_true, true_and] at hparts
              subst hparts
              exact List.singleton_inj.1 rvr
            | agg zs => simp [retParts] at hparts
            | tup ps =>
              simp only [retParts] at hparts
              subst hparts
              simp [retOk] at hro
          · cases hexit
        · cases hexit
      · cases hexit
  have F1 := @Mem.frame T1.down _ _ _ _ _ _ M1
  have hF : ∀ k, k < w.heap.size → (∀ p, ¬ T1.down.S k p) → w'.heap[k]? = w.heap[k]? := fun k hk hs => @SameB.eq T1.down _ _ _ (@Frame0.block T1.down _ _ _ F1 k hk id) hs
  have hold : ∀ k, k < T0.N → k < w.heap.size → w'.heap[k]? = w.heap[k]? := fun k hk hlt => hF k hlt fun p hs => by have := hs.1; omega
  have hliv : ∀ id k, Live h' ρ id k → w'.heap[k]? = w.heap[k]? := fun id k hl => hF k (live_lt M (hlive id k hl).1) fun p hs => hs.2.2.2.1 id hl
  have hokn : ∀ k, okOf Rd h ρ w k → LO k → okOf Rd h' ρ w' k ∧ w'.heap[k]? = w.heap[k]? := fun k hk hlo =>
    ⟨⟨Nat.lt_of_lt_of_le hk.1 (@Frame0.size T1.down _ _ _ F1), hk.2.1, fun id hl => hk.2.2 id (hlive id k hl).1⟩, hold k (hlo hsep) hk.1⟩
  have hCR : ∀ c u, CRep w (okOf Rd h ρ w) h ρ c u → CRep w' (okOf Rd h' ρ w') h' ρ (killC c) u := fun c u rc => killC_rep hokn hsub rc
  refine ⟨by rw [he, hres], ⟨fun id b hb => ?_, fun i j b hi hj => M.apart i j b (hlive i b hi).1 (hlive j b hj).1, fun i b hi => M.own i b (hlive i b hi).1, M.rd, M.ex, ?_, M.tab, M.scr, M.sepN⟩, hCR⟩
  · rw [hget] at hb
    obtain ⟨z, hz, rfl⟩ := Option.map_eq_some_iff.1 hb
    have rb := M.blocks id z hz
    cases z with
    | free => trivial
    | dead => trivial
    | ro e c xs => trivial
    | vars t cs =>
      obtain ⟨b, vs', e1, e2, e3⟩ := rb
      have hl : Live h' ρ id b := ⟨⟨_, by rw [hget, hz]; rfl, rfl⟩, by rw [e1]; rfl⟩
      exact ⟨b, vs', e1, (hliv id b hl).trans e2, e3.map _ fun _ _ h => hCR _ _ h⟩
    | arr e c xs =>
      simp only [killB]
      split
      · rename_i hg
        simp only [Bool.and_eq_true] at hg
        obtain ⟨A, cap, e1, hc, r'⟩ := rb
        refine ⟨A, cap, e1, hc, ?_⟩
        rcases r' with r' | ⟨b, o, cells, fr, rfl, e2, k1, k2, k3⟩
        · exact .inl r'
        · have hl : Live h' ρ id b := by
            refine ⟨⟨.arr e c xs, ?_, rfl⟩, by rw [e1]; rfl⟩
            rw [hget, hz]
            simp [killB, hg.2]
            simpa using hg.1
          exact .inr ⟨b, o, cells, fr, rfl, (hliv id b hl).trans e2, k1, k2, fun i hi => let ⟨cs, rr, hj⟩ := k3 i hi; ⟨cs, calm_rep hokn hg.2 rr, hj⟩⟩
      · trivial
  · refine ⟨(@Frame0.os T1.down _ _ _ F1).trans M.frame.os, (@Frame0.tape T1.down _ _ _ F1).trans M.frame.tape, (@Frame0.output T1.down _ _ _ F1).trans M.frame.output, Nat.le_trans M.frame.size (@Frame0.size T1.down _ _ _ F1), fun k hk he' => (M.frame.block k hk he').trans (.inl (hold k (by omega) (Nat.lt_of_lt_of_le hk M.frame.size)))⟩

/-- What is asked where something is marked: only a law does so. -/
structure LawOk [Tabs] (X : Ctx) (w0 : World) : Prop where
  holds : ∀ f m, X.M f = some m → Tabs.sep = true ∧ w0.heap.size ≤ Tabs.N ∧ (∀ b p, ¬ Tabs.S b p) ∧ (∀ T : Tabs, @CtrHolds T X.P f m.ctr) ∧ CallOk X.P f

theorem LawOk.none [Tabs] {X : Ctx} (h : ∀ f, X.M f = none) (w0 : World) : LawOk X w0 := ⟨fun f m e => by rw [h f] at e; cases e⟩
end Go.Rx
/- Operations one behind the other. -/
namespace Go.Rx
variable [Tabs]

/-- A state stands for a frame and a world; 'rvs': where the pointers lead that were handed in. -/
structure RelR (w0 : World) (Ex Rd : Nat → Prop) (rvs : List Value) (ρ : Nat → Value) (s : St) (a : Act) (w : World) : Prop where
  mem : Mem w0 Ex Rd s.heap ρ w
  tmps : All2 (VRep w (okOf Rd s.heap ρ w) s.heap ρ) s.tmps a.tmps.toList
  defers : a.defers = []
  refs : All2 (fun r v => ∃ x, s.heap[r]? = some x ∧ x ≠ .free ∧ (x ≠ .dead → ρ r = v)) s.refs rvs

section
variable {X : Ctx} {w0 w : World} {Ex Rd : Nat → Prop} {rvs : List Value} {h h' : Heap} {ρ ρ' : Nat → Value} {a : Act} {s : St}

theorem grown_pad (M : Mem w0 Ex Rd h ρ w) (n : Nat) : Grown w0 Ex Rd h ρ w (h ++ List.replicate n .free) ρ w := by
  have hget : ∀ (id : Nat) x, (h ++ List.replicate n Blk.free)[id]? = some x → x ≠ .free → h[id]? = some x := by
    intro id x e hf
    rcases Nat.lt_or_ge id h.length with h1 | h1
    · rwa [List.getElem?_append_left h1] at e
    · rw [List.getElem?_append_right h1] at e
      have := List.mem_of_getElem? e
      rw [List.mem_replicate] at this
      exact absurd this.2 hf
  have hl : ∀ i b, Live (h ++ List.replicate n .free) ρ i b → Live h ρ i b := fun i b ⟨⟨x, hx, hxl⟩, hb⟩ => ⟨⟨x, hget i x hx (by rintro rfl; cases hxl), hxl⟩, hb⟩
  refine mem_step M (Ext.refl w).chg (fun _ _ hb => hb.elim) ?_ (fun i b hi => .inl ⟨i, hl i b hi⟩) (fun i j b hi hj => M.apart i j b (hl i b hi) (hl j b hj)) ?_
  · intro id x hx hf
    exact ⟨x, by rw [List.getElem?_append_left (List.getElem?_eq_some_iff.1 hx).1]; exact hx, .refl hf, fun _ => rfl⟩
  · intro _ id x hx
    by_cases hf : x = .free
    · subst hf; exact .inr trivial
    · exact .inl ⟨hget id x hx hf, rfl, fun _ _ _ h => h⟩

theorem RelR.grown (R : RelR w0 Ex Rd rvs ρ s a w) {w' : World} (G : Grown w0 Ex Rd s.heap ρ w h' ρ' w') : RelR w0 Ex Rd rvs ρ' { s with heap := h' } a w' := by
  refine ⟨G.mem, R.tmps.mono fun _ _ r => VRep.keep G.keep r, R.defers, R.refs.mono fun r v ⟨x, e, hf, hd⟩ => ?_⟩
  obtain ⟨x', e', hs, hr⟩ := G.keep.blk r x e hf
  exact ⟨x', e', hs.ne_free, fun hd' => (hr hd').trans (hd (by rintro rfl; cases hs; exact hd' rfl))⟩

theorem RelR.put (R : RelR w0 Ex Rd rvs ρ s a w) (dst : Option Tmp) {v : V} {u : Value} (rv : VRep w (okOf Rd s.heap ρ w) s.heap ρ v u) : RelR w0 Ex Rd rvs ρ (s.put dst v) (a.put dst u) w := by
  cases dst with
  | none => exact R
  | some d =>
    refine ⟨R.mem, ?_, R.defers, R.refs⟩
    show All2 _ (s.tmps.set d v) (a.tmps.setIfInBounds d u).toList
    rw [Array.toList_setIfInBounds]
    exact R.tmps.set d rv

theorem step_sound (hX : CtxOk X) (hΓ : GammaOk X) (R : RelR w0 Ex Rd rvs ρ s a w) {o : Oper} {s' : St} (e : (stepOp X o.op o.dst s).eval = some s') {K : Act → World → Prop} {Q : Exit → Act → World → Prop}
    (hK : ∀ a' w' ρ', RelR w0 Ex Rd rvs ρ' s' a' w' → K a' w') : o.wp X.P a w K Q := by
  unfold stepOp at e
  rw [Tr.eval_bind] at e
  obtain ⟨r, hr, e⟩ := Option.bind_eq_some_iff.1 e
  cases e
  have G0 := grown_pad (w0 := w0) R.mem r.2.1.length
  have hr' := effOp_le (Le.pad s.heap r.2.1.length) hr
  refine eff_sound (op := o) (a := a) hX hΓ G0.mem ((vals_rep R.mem R.tmps o.op).mono fun _ _ r => VRep.keep G0.keep r) hr' (fun i hi => ?_) (by simp) K Q fun u w' ρ' G rv => ?_
  · rw [List.getElem?_append_right (by omega)]
    simp [hi]
  · exact hK _ w' ρ' ((R.grown (G0.trans G)).put o.dst rv)

theorem stepX_sound (hX : CtxOk X) (hΓ : GammaOk X) (hL : LawOk X w0) (R : RelR w0 Ex Rd rvs ρ s a w) {o : Oper} {s' : St} (e : (stepX X o.op o.dst s).eval = some s') {K : Act → World → Prop} {Q : Exit → Act → World → Prop}
    (hK : ∀ a' w' ρ', RelR w0 Ex Rd rvs ρ' s' a' w' → K a' w') : o.wp X.P a w K Q := by
  unfold stepX at e
  split at e
  · rename_i m hm
    obtain ⟨c, f, ho, hc, hM⟩ : ∃ c f, o.op = .call c ∧ c.callee = .value (.func f) ∧ X.M f = some m := by
      unfold markOf at hm
      split at hm
      · rename_i c ho
        split at hm
        · rename_i f hc; exact ⟨c, f, ho, hc, hm⟩
        · cases hm
      · cases hm
    obtain ⟨hsep, hN, hS, hall, hcall⟩ := hL.holds f m hM
    have ra := vals_rep R.mem R.tmps o.op
    unfold stepMark at e
    split at e
    · rename_i v k hv
      rw [hv, ho] at ra
      split at e
      · rename_i n hk
        split at e
        · rename_i hag
          obtain ⟨hag, hfk⟩ := hag
          simp only [Bool.and_eq_true] at hfk
          split at e
          · rename_i x hx
            rw [Tr.eval_bnd] at e
            obtain ⟨r, hr, e⟩ := Option.bind_eq_some_iff.1 e
            cases e
            have ra : All2 (VRep w (okOf Rd s.heap ρ w) s.heap ρ) [v, k] (c.args.toList.map a.eval) := ra
            have hargs : ∃ uv uk, c.args.toList.map a.eval = [uv, uk] ∧ VRep w (okOf Rd s.heap ρ w) s.heap ρ v uv ∧ VRep w (okOf Rd s.heap ρ w) s.heap ρ k uk := by
              generalize c.args.toList.map a.eval = us at ra
              cases ra with
              | cons r1 t1 => cases t1 with
                | cons r2 t2 => cases t2; exact ⟨_, _, rfl, r1, r2⟩
            obtain ⟨uv, uk, he, r1, r2⟩ := hargs
            obtain rfl := asInt_rep hk r2
            refine wp_call ho hc hcall ?_
            rw [he]
            refine (mark_sound R.mem hsep hN hS hall r1 hag hfk.1 hfk.2 hx hr).mono fun ex w' ⟨h1, h2, h3⟩ => ⟨_, h1, hK _ w' ρ ?_⟩
            have R' : RelR w0 Ex Rd rvs ρ { s with tmps := s.tmps.map killV, heap := killH (C.ownIds v.cells) s.heap } a w' := by
              refine ⟨h2, R.tmps.map _ fun v u rv => killV_rep h3 rv, R.defers, R.refs.mono fun r u ⟨y, e1, e2, e3⟩ => ?_⟩
              refine ⟨_, by rw [killH_get, e1]; rfl, (kill_sub _ e2).ne_free, fun hd => e3 ?_⟩
              rintro rfl
              exact hd rfl
            exact R'.put o.dst (rep_int _ _)
          · cases e
        · cases e
      · cases e
    · cases e
  · exact step_sound hX hΓ R e hK

theorem wanted_eq {ops : Array Oper} {o : Oper} {j : Nat} {want : Bool} {d : Tmp} {b : Bool} (hg : o.guard = some (j, want)) (hd : (ops[j]?).bind (·.dst) = some d) (hb : a.tmps[d]? = some (.bool b)) : Region.wanted o (yielded ops a.tmps) = (b == want) := by
  unfold Region.wanted yielded
  rw [hg]
  simp only [hd, Option.bind_some, hb]
  cases b <;> cases want <;> rfl

theorem wanted_no {ops : Array Oper} {o : Oper} {j : Nat} {want : Bool} {d : Tmp} (hg : o.guard = some (j, want)) (hd : (ops[j]?).bind (·.dst) = some d) (hb : a.tmps[d]? = some undef) : Region.wanted o (yielded ops a.tmps) = false := by
  unfold Region.wanted yielded
  rw [hg]
  simp only [hd, Option.bind_some, hb]
  cases want <;> rfl

/-- A guard is looked at: the state is as it was. -/
theorem guard_eval {ops : List Oper} {o : Oper} {k : St → Tr St} {s' : St} (e : (guardOp ops o s k).eval = some s') :
    (o.guard = none ∧ (k s).eval = some s') ∨ ∃ j want d, o.guard = some (j, want) ∧ (ops[j]?).bind (·.dst) = some d ∧
      ((s.tmps.getD d .undef = vBool want ∧ (k s).eval = some s') ∨ ((s.tmps.getD d .undef = vBool (!want) ∨ s.tmps.getD d .undef = .tup []) ∧ s' = s.put o.dst (.tup []))) := by
  unfold guardOp at e
  split at e
  · rename_i hg; exact .inl ⟨hg, e⟩
  · rename_i j want hg
    split at e
    · rename_i d hd
      split at e
      · rename_i b hb
        right
        have hset : ({ s with tmps := s.tmps.set d (vBool b) } : St) = s := by
          cases s with
          | mk tmps heap refs =>
            simp only at hb ⊢
            congr 1
            rw [List.getD_eq_getElem?_getD] at hb
            cases hq : tmps[d]? with
            | none => rw [List.set_eq_of_length_le (List.getElem?_eq_none_iff.1 hq)]
            | some v =>
              rw [hq] at hb
              have : v = vBool b := hb
              subst this
              obtain ⟨hlt, hv⟩ := List.getElem?_eq_some_iff.1 hq
              rw [← hv, List.set_getElem_self]
        refine ⟨j, want, d, hg, hd, ?_⟩
        rw [Tr.eval_ite] at e
        cases b with
        | true =>
          simp only [if_true, hset] at e
          cases want with
          | true => exact .inl ⟨hb, by simpa using e⟩
          | false => right; simp at e; exact ⟨.inl hb, e.symm⟩
        | false =>
          simp only [Bool.false_eq_true, if_false, hset] at e
          cases want with
          | true => right; simp at e; exact ⟨.inl hb, e.symm⟩
          | false => exact .inl ⟨hb, by simpa using e⟩
      · rename_i hb
        cases e
        exact .inr ⟨j, want, d, hg, hd, .inr ⟨.inr hb, rfl⟩⟩
      · cases e
    · cases e

theorem tmp_bool (R : RelR w0 Ex Rd rvs ρ s a w) {d : Tmp} {b : Bool} (h : s.tmps.getD d .undef = vBool b) : a.tmps[d]? = some (.bool b) := by
  rw [List.getD_eq_getElem?_getD] at h
  cases hq : s.tmps[d]? with
  | none => rw [hq] at h; cases h
  | some v =>
    rw [hq] at h
    obtain ⟨u, hu, rv⟩ := R.tmps.get? d v hq
    have : v = vBool b := h
    subst this
    rw [Array.getElem?_toList] at hu
    rw [hu, List.singleton_inj.1 rv]

theorem tmp_none (R : RelR w0 Ex Rd rvs ρ s a w) {d : Tmp} (h : s.tmps.getD d .undef = .tup []) : a.tmps[d]? = some undef := by
  rw [List.getD_eq_getElem?_getD] at h
  cases hq : s.tmps[d]? with
  | none => rw [hq] at h; cases h
  | some v =>
    rw [hq] at h
    obtain ⟨u, hu, rv⟩ := R.tmps.get? d v hq
    have : v = .tup [] := h
    subst this
    rw [Array.getElem?_toList] at hu
    obtain ⟨us, e, ru⟩ := rv
    cases ru
    rw [hu, e]
    rfl

theorem off_wanted (R : RelR w0 Ex Rd rvs ρ s a w) {ops : Array Oper} {o : Oper} {j : Nat} {want : Bool} {d : Tmp} (hg : o.guard = some (j, want)) (hd : (ops[j]?).bind (·.dst) = some d)
    (h : s.tmps.getD d .undef = vBool (!want) ∨ s.tmps.getD d .undef = .tup []) : Region.wanted o (yielded ops a.tmps) = false := by
  rcases h with h | h
  · rw [wanted_eq hg hd (tmp_bool R h)]; cases want <;> rfl
  · exact wanted_no hg hd (tmp_none R h)

theorem rep_none {ok : Nat → Prop} : VRep w ok h ρ (.tup []) undef := ⟨[], rfl, .nil⟩

/-- **A region in its order.** -/
theorem ops_sound (hX : CtxOk X) (hΓ : GammaOk X) (hL : LawOk X w0) {ops : Array Oper} {Q : Exit → Act → World → Prop} : ∀ (l : List Oper) (k : Nat) {s : St} {a : Act} {w : World} {ρ : Nat → Value} {s' : St}, (∀ j, l[j]? = ops[k + j]?) →
    RelR w0 Ex Rd rvs ρ s a w → (regionOps X ops.toList l s).eval = some s' → (∀ a' w' ρ', RelR w0 Ex Rd rvs ρ' s' a' w' → Q .normal a' w') →
    wpOps X.P ops Q ((List.range l.length).map (k + ·)) a w
  | [], k, s, a, w, ρ, s', _, R, e, hQ => by
    simp only [regionOps, Tr.eval_ret, Option.some.injEq] at e
    subst e
    simpa [wpOps] using hQ a w ρ R
  | o :: l, k, s, a, w, ρ, s', hl, R, e, hQ => by
    have h0 : ops[k]? = some o := by simpa using (hl 0).symm
    rw [List.length_cons, List.range_succ_eq_map, List.map_cons, List.map_map, wpOps_cons]
    simp only [regionOps] at e
    rw [Tr.eval_bind] at e
    obtain ⟨s1, h1, e⟩ := Option.bind_eq_some_iff.1 e
    have hrest : ∀ a' w' ρ', RelR w0 Ex Rd rvs ρ' s1 a' w' → wpOps X.P ops Q ((List.range l.length).map ((k + ·) ∘ Nat.succ)) a' w' := by
      intro a' w' ρ' R'
      have := ops_sound hX hΓ hL l (k + 1) (fun j => by have := hl (j + 1); simpa [Nat.add_assoc, Nat.add_comm 1 j] using this) R' e hQ
      have hf : ((k + ·) ∘ Nat.succ) = (k + 1 + ·) := by funext x; simp; omega
      rw [hf]; exact this
    unfold wpOp
    rw [Nat.add_zero, h0]
    dsimp only
    rcases guard_eval h1 with ⟨hg, h2⟩ | ⟨j, want, d, hg, hd, h2⟩
    · rw [if_pos (by simp [Region.wanted, hg])]
      exact .inl (stepX_sound hX hΓ hL R h2 hrest)
    · rcases h2 with ⟨hb, h2⟩ | ⟨hb, rfl⟩
      · rw [if_pos (by rw [wanted_eq (ops := ops) (o := o) hg (by simpa using hd) (tmp_bool R hb)]; simp)]
        exact .inl (stepX_sound hX hΓ hL R h2 hrest)
      · rw [if_neg (by rw [off_wanted R (ops := ops) (o := o) hg (by simpa using hd) hb]; simp)]
        exact hrest _ w ρ (R.put o.dst rep_none)

theorem region_sound (hX : CtxOk X) (hΓ : GammaOk X) (hL : LawOk X w0) {id : Nat} {ops : Array Oper} {Q : Exit → Act → World → Prop} (R : RelR w0 Ex Rd rvs ρ s a w) {s' : St} (e : (regionOps X ops.toList ops.toList s).eval = some s')
    (hQ : ∀ a' w' ρ', RelR w0 Ex Rd rvs ρ' s' a' w' → Q .normal a' w') : (Code.region id ops false).wp X.P Q a w := by
  refine wp_region ?_
  have := ops_sound (Q := Q) hX hΓ hL ops.toList 0 (ops := ops) (by simp) R e hQ
  simpa using this
end
end Go.Rx
/- Regions whose order is open: definitions, and lists of effects. -/
namespace Go.Rx
variable [Tabs]

/-- What has been done: operation i, its new blocks [a, b), the blocks that it changed, what was before it, whether it looked at no memory. -/
structure Done where
  i : Nat
  a : Nat
  b : Nat
  ids : List Nat
  pre : Nat
  q : Bool

def preBits (done : List Done) : List Edge → Option Nat
  | [] => some 0
  | e :: es => match preBits done es with
    | none => none
    | some m => if Region.binds .any e then match done.find? (fun d => d.i == e.on) with
        | some d => some (m ||| 2 ^ e.on ||| d.pre)
        | none => none
      else some m

def deads (ids : List Nat) (h : Heap) : Heap := ids.foldl (fun h i => h.set i .dead) h

/-- What an operation may look at: the blocks of those that are not before it are hidden. -/
def maskH (pre : Nat) : List Done → Heap → Heap
  | [], h => h
  | d :: ds, h => if pre.testBit d.i then maskH pre ds h else deads (d.ids ++ List.range' d.a (d.b - d.a)) (maskH pre ds h)

def noOwn1 : V → Bool
  | .one (.own _) => false
  | _ => true

def raw (s : St) (o : Op) : List V := (opArgs o).map s.eval

def apartD (ops : Array Oper) (pre : Nat) (i : Nat) (o : Oper) (done : List Done) : Bool :=
  done.all fun d => d.i != i && (pre.testBit d.i || match ops[d.i]? with
    | some oj => Oper.apart ops oj o
    | none => false)

/-- One operation of a region whose order is open. -/
def stepD (X : Ctx) (o : Oper) (i pre : Nat) (done : List Done) (s : St) : Tr (Done × St) :=
  if (cls X o.op (raw s o.op) == .pure) && (raw s o.op).all noOwn1 then
    .bind (pureOp X o.op (raw s o.op)) fun v => .ret (⟨i, s.heap.length, s.heap.length, [], pre, true⟩, s.put o.dst v)
  else
    let h := maskH pre done s.heap
    .bind (effOp X o.op ((opArgs o.op).map fun x => norm h (s.eval x)) h s.heap.length) fun r =>
      if (r.2.2.isEmpty || done.all fun d => pre.testBit d.i || d.q) && r.2.2.all fun p => decide (p.1 < s.heap.length) then
        .ret (⟨i, s.heap.length, s.heap.length + r.2.1.length, r.2.2.map (·.1), pre, false⟩, ({ s with heap := grow s.heap r } : St).put o.dst r.1)
      else .fail

def guardD (ops : List Oper) (o : Oper) (i pre : Nat) (s : St) (k : St → Tr (Done × St)) : Tr (Done × St) :=
  match o.guard with
  | none => k s
  | some (j, want) => match (ops[j]?).bind (·.dst) with
    | some d => match s.tmps.getD d .undef with
      | .one (.val .bool b) =>
        .ite b (let s := { s with tmps := s.tmps.set d (vBool true) }; if want then k s else .ret (⟨i, s.heap.length, s.heap.length, [], pre, true⟩, s.put o.dst (.tup [])))
               (let s := { s with tmps := s.tmps.set d (vBool false) }; if want then .ret (⟨i, s.heap.length, s.heap.length, [], pre, true⟩, s.put o.dst (.tup [])) else k s)
      | .tup [] => .ret (⟨i, s.heap.length, s.heap.length, [], pre, true⟩, s.put o.dst (.tup []))
      | _ => .fail
    | none => .fail

def regionDraw (X : Ctx) (ops : Array Oper) : List Nat → List Done → St → Tr St
  | [], done, s => if (List.range ops.size).all fun i => done.any fun d => d.i == i then .ret s else .fail
  | i :: is, done, s => match ops[i]? with
    | none => .fail
    | some o => match preBits done o.after.toList with
      | none => .fail
      | some pre => if apartD ops pre i o done then
          .bind (guardD ops.toList o i pre s (stepD X o i pre done)) fun r => regionDraw X ops is (r.1 :: done) r.2
        else .fail

/-! ### Effects -/
structure Rec where
  i : Nat
  dst : Option Tmp
  v : V
  slot : Nat
  bs : List Blk
  chg : List (Nat × Blk)
  pre : Nat
  q : Bool

def Rec.appH (r : Rec) (h : Heap) : Heap := setBlks r.slot r.bs (sets r.chg h)
def Rec.app (r : Rec) (s : St) : St := ({ s with heap := r.appH s.heap } : St).put r.dst r.v
def apps (l : List Rec) (s : St) : St := l.foldl (fun s r => r.app s) s

def Rec.writes (r : Rec) (id : Nat) : Prop := (r.slot ≤ id ∧ id < r.slot + r.bs.length) ∨ ∃ p ∈ r.chg, p.1 = id

theorem appH_length (r : Rec) (h : Heap) : (r.appH h).length = h.length := by
  unfold Rec.appH; rw [setBlks_length, sets_length]

theorem appH_out {r : Rec} {h : Heap} {id : Nat} (hn : ¬ r.writes id) : (r.appH h)[id]? = h[id]? := by
  unfold Rec.appH
  rw [setBlks_out _ _ _ _ (by unfold Rec.writes at hn; omega), sets_out fun p hp e => hn (.inr ⟨p, hp, e⟩)]

theorem appH_in {r : Rec} {h h' : Heap} {id : Nat} (hw : r.writes id) (hl : h.length = h'.length) (hs : r.slot + r.bs.length ≤ h.length) : (r.appH h)[id]? = (r.appH h')[id]? := by
  unfold Rec.appH
  by_cases hc : r.slot ≤ id ∧ id < r.slot + r.bs.length
  · have h1 := setBlks_in r.bs r.slot (sets r.chg h) (id - r.slot) (by rw [sets_length]; exact hs) (by omega)
    have h2 := setBlks_in r.bs r.slot (sets r.chg h') (id - r.slot) (by rw [sets_length, ← hl]; exact hs) (by omega)
    rw [show r.slot + (id - r.slot) = id from by omega] at h1 h2
    rw [h1, h2]
  · rw [setBlks_out _ _ _ _ (by omega), setBlks_out _ _ _ _ (by omega)]
    rcases hw with hw | hw
    · exact absurd hw hc
    · exact sets_same hw hl
where
  sets_same {us : List (Nat × Blk)} {i : Nat} : ∀ {h h' : Heap}, (∃ p ∈ us, p.1 = i) → h.length = h'.length → (sets us h)[i]? = (sets us h')[i]? := by
    induction us with
    | nil => intro h h' ⟨p, hp, _⟩; simp at hp
    | cons u us ih =>
      intro h h' ⟨p, hp, hpi⟩ hl
      show (sets us (h.set u.1 u.2))[i]? = (sets us (h'.set u.1 u.2))[i]?
      by_cases hin : ∃ p ∈ us, p.1 = i
      · exact ih hin (by simpa using hl)
      · have hout : ∀ p ∈ us, p.1 ≠ i := fun p hp e => hin ⟨p, hp, e⟩
        rw [sets_out hout, sets_out hout]
        have hu : u.1 = i := by
          rcases List.mem_cons.1 hp with e | e
          · rw [← e]; exact hpi
          · exact absurd ⟨p, e, hpi⟩ hin
        subst hu
        rcases Nat.lt_or_ge u.1 h.length with h1 | h1
        · rw [List.getElem?_set_self h1, List.getElem?_set_self (by omega)]
        · rw [List.getElem?_eq_none (by simpa using h1), List.getElem?_eq_none (by simp; omega)]

theorem app_heap (r : Rec) (s : St) : (r.app s).heap = r.appH s.heap := by unfold Rec.app St.put; cases r.dst <;> rfl
theorem app_refs (r : Rec) (s : St) : (r.app s).refs = s.refs := by unfold Rec.app St.put; cases r.dst <;> rfl
theorem app_tmps (r : Rec) (s : St) : (r.app s).tmps = match r.dst with | some d => s.tmps.set d r.v | none => s.tmps := by unfold Rec.app St.put; cases r.dst <;> rfl

theorem apps_length (l : List Rec) : ∀ s : St, (apps l s).heap.length = s.heap.length ∧ (apps l s).tmps.length = s.tmps.length ∧ (apps l s).refs = s.refs := by
  induction l with
  | nil => intro s; exact ⟨rfl, rfl, rfl⟩
  | cons r l ih =>
    intro s
    obtain ⟨h1, h2, h3⟩ := ih (r.app s)
    refine ⟨h1.trans ?_, h2.trans ?_, h3.trans (app_refs r s)⟩
    · rw [app_heap, appH_length]
    · rw [app_tmps]; cases r.dst <;> simp

open Classical in
/-- Only those that write there count. -/
theorem apps_heap_filter (id : Nat) : ∀ (l : List Rec) {s s' : St}, (∀ r ∈ l, r.slot + r.bs.length ≤ s.heap.length) → s.heap.length = s'.heap.length → s.heap[id]? = s'.heap[id]? →
    (apps l s).heap[id]? = (apps (l.filter (fun r => decide (r.writes id))) s').heap[id]? := by
  intro l
  induction l with
  | nil => intro s s' _ _ e; exact e
  | cons r l ih =>
    intro s s' hl hlen e
    have hl' : ∀ q ∈ l, q.slot + q.bs.length ≤ (r.app s).heap.length := fun q hq => by rw [app_heap, appH_length]; exact hl q (List.mem_cons_of_mem _ hq)
    by_cases hw : r.writes id
    · rw [List.filter_cons_of_pos (by simpa using hw)]
      exact ih (s := r.app s) (s' := r.app s') hl' (by rw [app_heap, app_heap, appH_length, appH_length, hlen]) (by rw [app_heap, app_heap]; exact appH_in hw hlen (hl r (by simp)))
    · rw [List.filter_cons_of_neg (by simpa using hw)]
      exact ih (s := r.app s) (s' := s') hl' (by rw [app_heap, appH_length, hlen]) (by rw [app_heap, appH_out hw]; exact e)

theorem apps_tmps_filter (t : Nat) : ∀ (l : List Rec) {s s' : St}, s.tmps.length = s'.tmps.length → s.tmps[t]? = s'.tmps[t]? →
    (apps l s).tmps[t]? = (apps (l.filter (fun r => @decide (r.dst = some t) (Classical.propDecidable _))) s').tmps[t]? := by
  intro l
  induction l with
  | nil => intro s s' _ e; exact e
  | cons r l ih =>
    intro s s' hlen e
    have hl1 : ∀ s : St, (r.app s).tmps.length = s.tmps.length := fun s => by rw [app_tmps]; cases r.dst <;> simp
    by_cases hw : r.dst = some t
    · rw [List.filter_cons_of_pos (by simpa using hw)]
      refine ih (s := r.app s) (s' := r.app s') (by rw [hl1, hl1, hlen]) ?_
      rw [app_tmps, app_tmps, hw]
      dsimp only
      rcases Nat.lt_or_ge t s.tmps.length with h1 | h1
      · rw [List.getElem?_set_self h1, List.getElem?_set_self (by omega)]
      · rw [List.getElem?_eq_none (by simpa using h1), List.getElem?_eq_none (by simp; omega)]
    · rw [List.filter_cons_of_neg (by simpa using hw)]
      refine ih (s := r.app s) (s' := s') (by rw [hl1, hlen]) ?_
      rw [app_tmps]
      cases hd : r.dst with
      | none => exact e
      | some d =>
        dsimp only
        rw [List.getElem?_set_ne (fun h => hw (by rw [hd, h]))]
        exact e
end Go.Rx
/- Regions whose order is open: every order comes to the same. -/
namespace Go.Rx
variable [Tabs]
open Classical

/-- What is known of operation r, behind those of L1. -/
structure Good (X : Ctx) (ops : Array Oper) (S0 : St) (N : Nat) (L1 : List Rec) (r : Rec) (o : Oper) : Prop where
  op : ops[r.i]? = some o
  dst : r.dst = o.dst
  after : ∀ e ∈ o.after, Region.binds .any e = true → r.pre.testBit e.on = true ∧ ∃ q ∈ L1, q.i = e.on
  clos : ∀ k, r.pre.testBit k = true → ∃ e ∈ o.after, Region.binds .any e = true ∧ (e.on = k ∨ ∃ q ∈ L1, q.i = e.on ∧ q.pre.testBit k = true)
  fresh : ∀ q ∈ L1, q.i ≠ r.i
  apart : ∀ q ∈ L1, r.pre.testBit q.i = true ∨ ∃ oj, ops[q.i]? = some oj ∧ Oper.apart ops oj o = true
  chg : r.chg ≠ [] → ∀ q ∈ L1, r.pre.testBit q.i = true ∨ q.q = true
  slot : ∀ q ∈ L1, q.slot + q.bs.length ≤ r.slot
  slot0 : S0.heap.length ≤ r.slot
  room : r.slot + r.bs.length ≤ N
  ids : ∀ p ∈ r.chg, p.1 < r.slot
  quiet : r.q = true → r.bs = [] ∧ r.chg = []

def padTo (N : Nat) (s : St) : St := { s with heap := s.heap ++ List.replicate (N - s.heap.length) .free }

/-- What operation r comes to, behind those of L1. -/
def RunsTo (X : Ctx) (ops : Array Oper) (S : St) (L1 : List Rec) (r : Rec) (o : Oper) : Prop :=
  (∃ j want d, o.guard = some (j, want) ∧ (ops[j]?).bind (·.dst) = some d ∧ (S.tmps.getD d .undef = vBool (!want) ∨ S.tmps.getD d .undef = .tup []) ∧ r.v = .tup [] ∧ r.bs = [] ∧ r.chg = []) ∨
  ((o.guard = none ∨ ∃ j want d, o.guard = some (j, want) ∧ (ops[j]?).bind (·.dst) = some d ∧ S.tmps.getD d .undef = vBool want) ∧
    ((r.q = true ∧ (pureOp X o.op (raw S o.op)).eval = some r.v) ∨
     (r.q = false ∧ ∃ hm : Heap, (effOp X o.op ((opArgs o.op).map fun x => norm hm (S.eval x)) hm r.slot).eval = some (r.v, r.bs, r.chg) ∧
        ∀ (id : Nat) x, hm[id]? = some x → x ≠ .free → x ≠ .dead → id < r.slot ∧ S.heap[id]? = some x ∧ ∀ q ∈ L1, q.writes id → r.pre.testBit q.i = true)))

inductive Canon (X : Ctx) (ops : Array Oper) (S0 : St) (N : Nat) : List Rec → Prop
  | nil : Canon X ops S0 N []
  | snoc {L r o} (c : Canon X ops S0 N L) (g : Good X ops S0 N L r o) (t : RunsTo X ops (apps L (padTo N S0)) L r o) : Canon X ops S0 N (L ++ [r])

theorem Canon.split {X : Ctx} {ops : Array Oper} {S0 : St} {N : Nat} {L : List Rec} (c : Canon X ops S0 N L) : ∀ {L1 L2 r}, L = L1 ++ r :: L2 → Canon X ops S0 N L1 ∧ ∃ o, Good X ops S0 N L1 r o ∧ RunsTo X ops (apps L1 (padTo N S0)) L1 r o := by
  induction c with
  | nil => intro L1 L2 r e; simp at e
  | snoc c g t ih =>
    rename_i L r0 o0
    intro L1 L2 r e
    rcases List.eq_nil_or_concat L2 with h | ⟨L3, q, h⟩
    · subst h
      have := List.append_inj' e rfl
      obtain ⟨rfl, h2⟩ := this
      cases h2
      exact ⟨c, o0, g, t⟩
    · rw [List.concat_eq_append] at h
      subst h
      have e' : L ++ [r0] = (L1 ++ r :: L3) ++ [q] := by rw [e]; simp
      obtain ⟨h1, _⟩ := List.append_inj' e' rfl
      exact ih h1

section
variable {X : Ctx} {ops : Array Oper} {S0 : St} {N : Nat} {L : List Rec}

/-- D is closed: what is before what has been done has been done. -/
def Closed (ops : Array Oper) (D : Nat → Prop) : Prop := ∀ i o, D i → ops[i]? = some o → ∀ e ∈ o.after, Region.binds .any e = true → D e.on

theorem pre_closed {D : Nat → Prop} (hD : Closed ops D) : ∀ {L : List Rec}, Canon X ops S0 N L → ∀ r ∈ L, (∀ o, ops[r.i]? = some o → ∀ e ∈ o.after, Region.binds .any e = true → D e.on) → ∀ k, r.pre.testBit k = true → D k := by
  intro L c
  induction c with
  | nil => intro r hr; simp at hr
  | snoc c g t ih =>
    rename_i L r0 o0
    intro r hr ha k hk
    rcases List.mem_append.1 hr with hr | hr
    · exact ih r hr ha k hk
    · simp only [List.mem_singleton] at hr
      subst hr
      obtain ⟨e, he, hb, h | ⟨q, hq, hqi, hqk⟩⟩ := g.clos k hk
      · rw [← h]; exact ha o0 g.op e he hb
      · refine ih q hq (fun o ho e' he' hb' => hD q.i o (by rw [hqi]; exact ha o0 g.op e he hb) ho e' he' hb') k hqk

theorem filt_eq {D P : Rec → Prop} {L1 L2 : List Rec} {r : Rec} (hr : ¬ D r) (h1 : ∀ q ∈ L1, P q → D q) (h2 : ∀ q ∈ L2, D q → ¬ P q) :
    ((L1 ++ r :: L2).filter (fun q => decide (D q))).filter (fun q => decide (P q)) = L1.filter (fun q => decide (P q)) := by
  rw [List.filter_append, List.filter_cons_of_neg (by simpa using hr), List.filter_append, List.filter_filter, List.filter_filter]
  have e2 : L2.filter (fun q => decide (P q) && decide (D q)) = [] := by
    rw [List.filter_eq_nil_iff]
    intro q hq hpq
    simp only [Bool.and_eq_true, decide_eq_true_eq] at hpq
    exact h2 q hq hpq.2 hpq.1
  rw [e2, List.append_nil]
  refine List.filter_congr fun q hq => ?_
  by_cases hp : P q
  · simp [hp, h1 q hq hp]
  · simp [hp]

/-- The state once those of D have been done. -/
noncomputable def stateD (L : List Rec) (N : Nat) (S0 : St) (D : Nat → Prop) : St := apps (L.filter (fun q => decide (D q.i))) (padTo N S0)

theorem apart_dst {ops : Array Oper} {x y : Oper} (h : Oper.apart ops x y = true) : (∀ d, x.dst = some d → d ∉ y.looksAt ops) ∧ (∀ d, x.dst = some d → y.dst ≠ some d) ∧ (∀ d, y.dst = some d → d ∉ x.looksAt ops) := Oper.apart_spec h

section
variable {D : Nat → Prop} {L1 L2 : List Rec} {r : Rec} {o : Oper}
variable (c : Canon X ops S0 N (L1 ++ r :: L2)) (hD : Closed ops D) (hr : ¬ D r.i) (ha : ∀ o, ops[r.i]? = some o → ∀ e ∈ o.after, Region.binds .any e = true → D e.on)
include c hD hr ha

theorem before_D : ∀ k, r.pre.testBit k = true → D k := pre_closed hD c r (by simp) ha

/-- One that comes later and has been done does not wait for r. -/
theorem later {q : Rec} (hq : q ∈ L2) (hqD : D q.i) : ∃ La oq, Good X ops S0 N La q oq ∧ r ∈ La ∧ q.pre.testBit r.i = false := by
  obtain ⟨A, B, e⟩ := List.append_of_mem hq
  obtain ⟨_, oq, g, _⟩ := c.split (L1 := L1 ++ r :: A) (L2 := B) (r := q) (by rw [e]; simp)
  refine ⟨_, oq, g, by simp, ?_⟩
  cases hb : q.pre.testBit r.i with
  | false => rfl
  | true => exact absurd (pre_closed hD c q (by simp [hq]) (fun o ho => hD q.i o hqD ho) r.i hb) hr

theorem tmps_D (g : Good X ops S0 N L1 r o) {t : Nat} (ht : t ∈ o.looksAt ops) : (stateD (L1 ++ r :: L2) N S0 D).tmps[t]? = (apps L1 (padTo N S0)).tmps[t]? := by
  unfold stateD
  rw [apps_tmps_filter t _ rfl rfl, apps_tmps_filter t L1 rfl rfl]
  rw [filt_eq (D := fun q => D q.i) (P := fun q => q.dst = some t) hr]
  · intro q hq hqt
    rcases g.apart q hq with h | ⟨oj, hoj, h⟩
    · exact before_D c hD hr ha _ h
    · exfalso
      obtain ⟨A, B, e⟩ := List.append_of_mem hq
      obtain ⟨_, oq, gq, _⟩ := c.split (L1 := A) (L2 := B ++ r :: L2) (r := q) (by rw [e]; simp)
      have : oq = oj := by have := gq.op; rw [hoj] at this; exact (Option.some.inj this).symm
      subst this
      exact (apart_dst h).1 t (by rw [← gq.dst]; exact hqt) ht
  · intro q hq hqD hqt
    obtain ⟨La, oq, gq, hra, hpre⟩ := later c hD hr ha hq hqD
    rcases gq.apart r hra with h | ⟨oj, hoj, h⟩
    · rw [hpre] at h; cases h
    · have : oj = o := by rw [g.op] at hoj; exact (Option.some.inj hoj).symm
      subst this
      exact (apart_dst h).2.2 t (by rw [← gq.dst]; exact hqt) ht

theorem rooms : ∀ q ∈ L1 ++ r :: L2, q.slot + q.bs.length ≤ N := by
  intro q hq
  obtain ⟨A, B, e⟩ := List.append_of_mem hq
  obtain ⟨_, oq, g, _⟩ := c.split (L1 := A) (L2 := B) (r := q) e
  exact g.room

/-- What a later one that has been done writes is no place that r may look at. -/
theorem later_writes (g : Good X ops S0 N L1 r o) {q : Rec} (hq : q ∈ L2) (hqD : D q.i) {id : Nat} (hw : q.writes id) : (r.slot + r.bs.length ≤ id) ∨ r.q = true := by
  obtain ⟨La, oq, gq, hra, hpre⟩ := later c hD hr ha hq hqD
  rcases hw with hw | ⟨p, hp, _⟩
  · left; have := gq.slot r hra; omega
  · rcases gq.chg (by intro h; rw [h] at hp; simp at hp) r hra with h | h
    · rw [hpre] at h; cases h
    · exact .inr h

theorem heap_D (hN : S0.heap.length ≤ N) (g : Good X ops S0 N L1 r o) (hq : r.q = false) {id : Nat} (hid : id < r.slot + r.bs.length) (hw : ∀ q ∈ L1, q.writes id → r.pre.testBit q.i = true) : (stateD (L1 ++ r :: L2) N S0 D).heap[id]? = (apps L1 (padTo N S0)).heap[id]? := by
  have hlen : (padTo N S0).heap.length = N := by simp [padTo]; omega
  have hrooms := rooms c hD hr ha
  unfold stateD
  rw [apps_heap_filter id _ (fun q hq => by rw [hlen]; exact hrooms q (List.mem_filter.1 hq).1) rfl rfl, apps_heap_filter id L1 (fun q hq => by rw [hlen]; exact hrooms q (by simp [hq])) rfl rfl]
  rw [filt_eq (D := fun q => D q.i) (P := fun q => q.writes id) hr]
  · intro q hq1 hqw
    exact before_D c hD hr ha _ (hw q hq1 hqw)
  · intro q hq2 hqD hqw
    rcases later_writes c hD hr ha g hq2 hqD hqw with h | h
    · omega
    · rw [hq] at h; cases h

/-- r, now, comes to the state with r. -/
theorem app_D (hN : S0.heap.length ≤ N) (g : Good X ops S0 N L1 r o) : r.app (stateD (L1 ++ r :: L2) N S0 D) = stateD (L1 ++ r :: L2) N S0 (fun k => D k ∨ k = r.i) := by
  have hlen : (padTo N S0).heap.length = N := by simp [padTo]; omega
  have hrooms := rooms c hD hr ha
  have hne1 : ∀ q ∈ L1, q.i ≠ r.i := g.fresh
  have hne2 : ∀ q ∈ L2, q.i ≠ r.i := by
    intro q hq e
    obtain ⟨A, B, e'⟩ := List.append_of_mem hq
    obtain ⟨_, oq, gq, _⟩ := c.split (L1 := L1 ++ r :: A) (L2 := B) (r := q) (by rw [e']; simp)
    exact gq.fresh r (by simp) e.symm
  have hR : (L1 ++ r :: L2).filter (fun q => @decide (D q.i ∨ q.i = r.i) (Classical.propDecidable _)) = L1.filter (fun q => decide (D q.i)) ++ r :: L2.filter (fun q => decide (D q.i)) := by
    rw [List.filter_append, List.filter_cons_of_pos (by simp)]
    congr 1
    · exact List.filter_congr fun q hq => by simp [hne1 q hq]
    · congr 1
      exact List.filter_congr fun q hq => by simp [hne2 q hq]
  have hL : (L1 ++ r :: L2).filter (fun q => decide (D q.i)) = L1.filter (fun q => decide (D q.i)) ++ L2.filter (fun q => decide (D q.i)) := by
    rw [List.filter_append, List.filter_cons_of_neg (by simpa using hr)]
  have hl : r.app (stateD (L1 ++ r :: L2) N S0 D) = apps ((L1.filter (fun q => decide (D q.i)) ++ L2.filter (fun q => decide (D q.i))) ++ [r]) (padTo N S0) := by
    unfold stateD; rw [hL]; simp [apps]
  rw [hl]
  unfold stateD
  show _ = apps ((L1 ++ r :: L2).filter (fun q => @decide (D q.i ∨ q.i = r.i) (Classical.propDecidable _))) (padTo N S0)
  rw [hR]
  generalize hA : L1.filter (fun q => decide (D q.i)) = A
  generalize hB : L2.filter (fun q => decide (D q.i)) = B
  have hAm : ∀ q ∈ A, q ∈ L1 := fun q hq => by rw [← hA] at hq; exact (List.mem_filter.1 hq).1
  have hBm : ∀ q ∈ B, q ∈ L2 ∧ D q.i := fun q hq => by rw [← hB] at hq; have := List.mem_filter.1 hq; exact ⟨this.1, by simpa using this.2⟩
  have hroom1 : ∀ q ∈ (A ++ B) ++ [r], q.slot + q.bs.length ≤ (padTo N S0).heap.length := by
    intro q hq
    rw [hlen]
    simp only [List.mem_append, List.mem_singleton] at hq
    rcases hq with (hq | hq) | hq
    · exact hrooms q (by simp [hAm q hq])
    · exact hrooms q (by simp [(hBm q hq).1])
    · exact hrooms q (by simp [hq])
  have hroom2 : ∀ q ∈ A ++ r :: B, q.slot + q.bs.length ≤ (padTo N S0).heap.length := by
    intro q hq
    refine hroom1 q ?_
    simp only [List.mem_append, List.mem_cons, List.mem_singleton] at hq ⊢
    rcases hq with hq | hq | hq
    · exact .inl (.inl hq)
    · exact .inr (.inl hq)
    · exact .inl (.inr hq)
  obtain ⟨a1, a2, a3⟩ := apps_length ((A ++ B) ++ [r]) (padTo N S0)
  obtain ⟨b1, b2, b3⟩ := apps_length (A ++ r :: B) (padTo N S0)
  have hheap : (apps ((A ++ B) ++ [r]) (padTo N S0)).heap = (apps (A ++ r :: B) (padTo N S0)).heap := by
    apply List.ext_getElem?
    intro id
    rw [apps_heap_filter id _ hroom1 rfl rfl, apps_heap_filter id _ hroom2 rfl rfl]
    congr 3
    rw [List.filter_append, List.filter_append, List.filter_append]
    by_cases hw : r.writes id
    · have : B.filter (fun q => decide (q.writes id)) = [] := by
        rw [List.filter_eq_nil_iff]
        intro q hq hqw
        have hqw : q.writes id := by simpa using hqw
        have hid : id < r.slot + r.bs.length := by
          rcases hw with hw | ⟨p, hp, rfl⟩
          · omega
          · have := g.ids p hp; omega
        rcases later_writes c hD hr ha g (hBm q hq).1 (hBm q hq).2 hqw with h | h
        · omega
        · obtain ⟨h1, h2⟩ := g.quiet h
          rcases hw with hw | ⟨p, hp, _⟩
          · rw [h1] at hw; simp at hw; omega
          · rw [h2] at hp; simp at hp
      rw [List.filter_cons_of_pos (by simpa using hw), this]
      simp [hw]
      exact fun a ha => by simpa using List.filter_eq_nil_iff.1 this a ha
    · rw [List.filter_cons_of_neg (by simpa using hw)]
      simp [hw]
  have htmps : (apps ((A ++ B) ++ [r]) (padTo N S0)).tmps = (apps (A ++ r :: B) (padTo N S0)).tmps := by
    apply List.ext_getElem?
    intro t
    rw [apps_tmps_filter t ((A ++ B) ++ [r]) (s' := padTo N S0) rfl rfl, apps_tmps_filter t (A ++ r :: B) (s' := padTo N S0) rfl rfl]
    congr 3
    rw [List.filter_append, List.filter_append, List.filter_append]
    by_cases hw : r.dst = some t
    · have : B.filter (fun q => @decide (q.dst = some t) (Classical.propDecidable _)) = [] := by
        rw [List.filter_eq_nil_iff]
        intro q hq hqw
        have hqw : q.dst = some t := by simpa using hqw
        obtain ⟨La, oq, gq, hra, hpre⟩ := later c hD hr ha (hBm q hq).1 (hBm q hq).2
        rcases gq.apart r hra with h | ⟨oj, hoj, h⟩
        · rw [hpre] at h; cases h
        · have : oj = o := by rw [g.op] at hoj; exact (Option.some.inj hoj).symm
          subst this
          exact (apart_dst h).2.1 t (by rw [← g.dst]; exact hw) (by rw [← gq.dst]; exact hqw)
      rw [List.filter_cons_of_pos (by simpa using hw), this]
      simp [hw]
      exact fun a ha => by simpa using List.filter_eq_nil_iff.1 this a ha
    · rw [List.filter_cons_of_neg (by simpa using hw)]
      simp [hw]
  have hrefs : (apps ((A ++ B) ++ [r]) (padTo N S0)).refs = (apps (A ++ r :: B) (padTo N S0)).refs := by rw [a3, b3]
  cases hs : apps ((A ++ B) ++ [r]) (padTo N S0) with
  | mk t1 h1 r1 =>
    cases hs2 : apps (A ++ r :: B) (padTo N S0) with
    | mk t2 h2 r2 =>
      rw [hs, hs2] at hheap htmps hrefs
      simp only at hheap htmps hrefs
      rw [hheap, htmps, hrefs]
end
end
end Go.Rx
/- Regions whose order is open: soundness of the canonical run. -/
namespace Go.Rx
variable [Tabs]
open Classical
section
variable {X : Ctx} {w0 w : World} {Ex Rd : Nat → Prop} {rvs : List Value} {ops : Array Oper} {S0 : St} {N : Nat} {L : List Rec} {ρ : Nat → Value} {a : Act}

theorem St.eval_congr {s s' : St} {x : Operand} (h : ∀ t, x = .tmp t → s.tmps[t]? = s'.tmps[t]?) : s.eval x = s'.eval x := by
  cases x with
  | tmp t => show s.tmps.getD t _ = s'.tmps.getD t _; rw [List.getD_eq_getElem?_getD, List.getD_eq_getElem?_getD, h t rfl]
  | _ => rfl

theorem looks_arg {o : Oper} {t : Nat} (h : Operand.tmp t ∈ opArgs o.op) : t ∈ o.looksAt ops := by
  refine List.mem_append_left _ (List.mem_filterMap.2 ⟨.tmp t, ?_, rfl⟩)
  unfold opArgs at h
  split at h
  · rename_i c hc
    rw [hc]
    simp only [Op.operands, Call.operands]
    simp [h]
  · exact h

theorem looks_guard {o : Oper} {j : Nat} {want : Bool} {d : Nat} (hg : o.guard = some (j, want)) (hd : (ops[j]?).bind (·.dst) = some d) : d ∈ o.looksAt ops := by
  refine List.mem_append_right _ ?_
  rw [hg]
  simp [hd]

/-- Operation r, in the state where D has been done. -/
theorem drawn_op (hX : CtxOk X) (hΓ : GammaOk X) (hN : S0.heap.length ≤ N) {D : Nat → Prop} {L1 L2 : List Rec} {r : Rec} {o : Oper} (c : Canon X ops S0 N (L1 ++ r :: L2)) (g : Good X ops S0 N L1 r o) (t : RunsTo X ops (apps L1 (padTo N S0)) L1 r o)
    (hD : Closed ops D) (hr : ¬ D r.i) (ha : ∀ o, ops[r.i]? = some o → ∀ e ∈ o.after, Region.binds .any e = true → D e.on)
    (R : RelR w0 Ex Rd rvs ρ (stateD (L1 ++ r :: L2) N S0 D) a w) {K : Act → World → Prop} {Q : Exit → Act → World → Prop}
    (hK : ∀ a' w' ρ', RelR w0 Ex Rd rvs ρ' (stateD (L1 ++ r :: L2) N S0 (fun k => D k ∨ k = r.i)) a' w' → K a' w') : wpOp X.P ops Q r.i K a w := by
  have hlen : (padTo N S0).heap.length = N := by simp [padTo]; omega
  have hlenD : (stateD (L1 ++ r :: L2) N S0 D).heap.length = N := by unfold stateD; rw [(apps_length _ _).1, hlen]
  have happ := app_D c hD hr ha hN g
  have hev : ∀ x ∈ opArgs o.op, (stateD (L1 ++ r :: L2) N S0 D).eval x = (apps L1 (padTo N S0)).eval x := fun x hx => St.eval_congr fun t ht => by
    subst ht; exact tmps_D c hD hr ha g (looks_arg hx)
  have hgd : ∀ {j want d}, o.guard = some (j, want) → (ops[j]?).bind (·.dst) = some d → (stateD (L1 ++ r :: L2) N S0 D).tmps.getD d .undef = (apps L1 (padTo N S0)).tmps.getD d .undef := by
    intro j want d h1 h2
    rw [List.getD_eq_getElem?_getD, List.getD_eq_getElem?_getD, tmps_D c hD hr ha g (looks_guard h1 h2)]
  unfold wpOp
  rw [g.op]
  dsimp only
  rcases t with ⟨j, want, d, hg, hd, hb, hv, hbs, hchg⟩ | ⟨hguard, hrun⟩
  · rw [if_neg (by rw [off_wanted R (ops := ops) (o := o) hg hd (by rw [hgd hg hd]; exact hb)]; simp)]
    refine hK _ w ρ ?_
    have : r.app (stateD (L1 ++ r :: L2) N S0 D) = (stateD (L1 ++ r :: L2) N S0 D).put o.dst (.tup []) := by
      unfold Rec.app Rec.appH
      rw [hv, hbs, hchg, g.dst]
      rfl
    rw [← happ, this]
    exact R.put o.dst rep_none
  · have hw : Region.wanted o (yielded ops a.tmps) = true := by
      rcases hguard with hg | ⟨j, want, d, hg, hd, hb⟩
      · simp [Region.wanted, hg]
      · rw [wanted_eq (ops := ops) (o := o) hg hd (tmp_bool R (by rw [hgd hg hd]; exact hb))]; simp
    rw [if_pos hw]
    left
    rcases hrun with ⟨hq, hpv⟩ | ⟨hq, hm, hef, hmask⟩
    · -- it looks at no memory
      obtain ⟨hbs, hchg⟩ := g.quiet hq
      have hvals : All2 (VRep w (okOf Rd (stateD (L1 ++ r :: L2) N S0 D).heap ρ w) (stateD (L1 ++ r :: L2) N S0 D).heap ρ) (raw (apps L1 (padTo N S0)) o.op) ((opArgs o.op).map a.eval) := by
        unfold raw
        have : ∀ (l : List Operand), (∀ x ∈ l, (stateD (L1 ++ r :: L2) N S0 D).eval x = (apps L1 (padTo N S0)).eval x) → All2 (VRep w (okOf Rd (stateD (L1 ++ r :: L2) N S0 D).heap ρ w) (stateD (L1 ++ r :: L2) N S0 D).heap ρ) (l.map (apps L1 (padTo N S0)).eval) (l.map a.eval) := by
          intro l
          induction l with
          | nil => intro _; exact .nil
          | cons x xs ih =>
            intro hl
            exact .cons (by rw [← hl x (by simp)]; exact eval_rep R.tmps x) (ih fun y hy => hl y (List.mem_cons_of_mem _ hy))
        exact this _ hev
      refine runs_of_gives (slot := 0) R.mem (pure_sound (op := o) (a := a) hX R.mem hvals hpv) K Q fun u w' ρ' G rv => ?_
      refine hK _ w' ρ' ?_
      have : r.app (stateD (L1 ++ r :: L2) N S0 D) = ({ stateD (L1 ++ r :: L2) N S0 D with heap := setBlks 0 [] (sets [] (stateD (L1 ++ r :: L2) N S0 D).heap) } : St).put o.dst r.v := by
        unfold Rec.app Rec.appH
        rw [hbs, hchg, g.dst]
        rfl
      rw [← happ, this]
      exact (R.grown G).put o.dst rv
    · have hle : Le hm (stateD (L1 ++ r :: L2) N S0 D).heap := by
        intro id x hx h1 h2
        obtain ⟨h3, h4, h5⟩ := hmask id x hx h1 h2
        rw [heap_D c hD hr ha hN g hq (by omega) h5]
        exact h4
      have hvals : All2 (VRep w (okOf Rd (stateD (L1 ++ r :: L2) N S0 D).heap ρ w) (stateD (L1 ++ r :: L2) N S0 D).heap ρ) ((opArgs o.op).map fun x => norm hm ((apps L1 (padTo N S0)).eval x)) ((opArgs o.op).map a.eval) := by
        have nr : ∀ {v : V} {u : Value}, VRep w (okOf Rd (stateD (L1 ++ r :: L2) N S0 D).heap ρ w) (stateD (L1 ++ r :: L2) N S0 D).heap ρ v u → VRep w (okOf Rd (stateD (L1 ++ r :: L2) N S0 D).heap ρ w) (stateD (L1 ++ r :: L2) N S0 D).heap ρ (norm hm v) u := by
          intro v u rv
          by_cases hn : norm hm v = v
          · rw [hn]; exact rv
          · have : norm hm v = norm (stateD (L1 ++ r :: L2) N S0 D).heap v := by
              unfold norm at hn ⊢
              split
              · rename_i id
                split
                · rename_i hg2
                  rw [hle.get hg2 (by simp) (by simp)]
                · rename_i hg2
                  exfalso
                  apply hn
                  dsimp only
                  split
                  · rename_i e c xs hg3; exact absurd hg3 (hg2 e c xs)
                  · rfl
              · rename_i h5
                exfalso
                apply hn
                split
                · rename_i id; exact absurd rfl (h5 id)
                · rfl
            rw [this]
            exact norm_rep R.mem rv
        have : ∀ (l : List Operand), (∀ x ∈ l, (stateD (L1 ++ r :: L2) N S0 D).eval x = (apps L1 (padTo N S0)).eval x) → All2 (VRep w (okOf Rd (stateD (L1 ++ r :: L2) N S0 D).heap ρ w) (stateD (L1 ++ r :: L2) N S0 D).heap ρ) (l.map fun x => norm hm ((apps L1 (padTo N S0)).eval x)) (l.map a.eval) := by
          intro l
          induction l with
          | nil => intro _; exact .nil
          | cons x xs ih =>
            intro hl
            exact .cons (nr (by rw [← hl x (by simp)]; exact eval_rep R.tmps x)) (ih fun y hy => hl y (List.mem_cons_of_mem _ hy))
        exact this _ hev
      have hef' := effOp_le hle hef
      have hfree : FreeAt (stateD (L1 ++ r :: L2) N S0 D).heap r.slot r.bs.length := by
        intro i hi
        rw [heap_D c hD hr ha hN g hq (by omega)]
        · have hout : (apps L1 (padTo N S0)).heap[r.slot + i]? = (padTo N S0).heap[r.slot + i]? := by
            rw [apps_heap_filter (r.slot + i) L1 (s' := padTo N S0) (fun q hq => by rw [hlen]; exact rooms c hD hr ha q (by simp [hq])) rfl rfl]
            have : L1.filter (fun q => decide (q.writes (r.slot + i))) = [] := by
              rw [List.filter_eq_nil_iff]
              intro q hq hqw
              exact nowrite c g hq (by simpa using hqw)
            rw [this]; rfl
          rw [hout]
          show (S0.heap ++ List.replicate (N - S0.heap.length) Blk.free)[r.slot + i]? = _
          have := g.slot0
          have := g.room
          rw [List.getElem?_append_right (by omega), List.getElem?_replicate]
          rw [if_pos (by omega)]
        · intro q hq hqw
          exact (nowrite c g hq hqw).elim
      refine eff_sound (op := o) (a := a) hX hΓ R.mem hvals hef' hfree (by rw [hlenD]; exact g.room) K Q fun u w' ρ' G rv => ?_
      refine hK _ w' ρ' ?_
      have : r.app (stateD (L1 ++ r :: L2) N S0 D) = ({ stateD (L1 ++ r :: L2) N S0 D with heap := setBlks r.slot r.bs (sets r.chg (stateD (L1 ++ r :: L2) N S0 D).heap) } : St).put o.dst r.v := by
        unfold Rec.app Rec.appH
        rw [g.dst]
      rw [← happ, this]
      exact (R.grown G).put o.dst rv
where
  nowrite {L1 L2 : List Rec} {r : Rec} {o : Oper} (c : Canon X ops S0 N (L1 ++ r :: L2)) (g : Good X ops S0 N L1 r o) {q : Rec} (hq : q ∈ L1) {i : Nat} (hw : q.writes (r.slot + i)) : False := by
    obtain ⟨A, B, e⟩ := List.append_of_mem hq
    obtain ⟨_, oq, gq, _⟩ := c.split (L1 := A) (L2 := B ++ r :: L2) (r := q) (by rw [e]; simp)
    have h1 := g.slot q hq
    rcases hw with hw | ⟨p, hp, hpi⟩
    · omega
    · have := gq.ids p hp; omega
end
end Go.Rx
/- Regions whose order is open: any order. -/
namespace Go.Rx
variable [Tabs]
open Classical
section
variable {X : Ctx} {w0 w : World} {Ex Rd : Nat → Prop} {rvs : List Value} {ops : Array Oper} {S0 : St} {N : Nat} {L : List Rec} {ρ : Nat → Value} {a : Act}

def listedD (listed : Array Bool) (k : Nat) : Prop := listed.getD k false = true

theorem listed_set {listed : Array Bool} {i : Nat} (hi : i < listed.size) : listedD (listed.setIfInBounds i true) = fun k => listedD listed k ∨ k = i := by
  funext k
  apply propext
  unfold listedD
  by_cases h : k = i
  · subst h
    simp [hi]
  · rw [getD_set_ne false (fun e => h e.symm)]
    simp [h]

theorem stateD_all {D : Nat → Prop} (h : ∀ r ∈ L, D r.i) : stateD L N S0 D = apps L (padTo N S0) := by
  unfold stateD
  rw [List.filter_eq_self.2 (fun q hq => by simpa using h q hq)]

theorem first_not {D : Nat → Prop} : ∀ {L : List Rec}, (∃ r ∈ L, ¬ D r.i) → ∃ L1 r L2, L = L1 ++ r :: L2 ∧ ¬ D r.i ∧ ∀ q ∈ L1, D q.i
  | [], ⟨r, hr, _⟩ => by simp at hr
  | q :: L, ⟨r, hr, hD⟩ => by
    by_cases hq : D q.i
    · have : ∃ r ∈ L, ¬ D r.i := by
        rcases List.mem_cons.1 hr with rfl | hr
        · exact absurd hq hD
        · exact ⟨r, hr, hD⟩
      obtain ⟨L1, r', L2, e, h1, h2⟩ := first_not this
      refine ⟨q :: L1, r', L2, by rw [e]; rfl, h1, fun x hx => ?_⟩
      rcases List.mem_cons.1 hx with rfl | hx
      · exact hq
      · exact h2 x hx
    · exact ⟨[], q, L, rfl, hq, by simp⟩

theorem any_sound (hX : CtxOk X) (hΓ : GammaOk X) (hN : S0.heap.length ≤ N) (c : Canon X ops S0 N L) (hall : ∀ i, i < ops.size → ∃ r ∈ L, r.i = i) {Q : Exit → Act → World → Prop}
    (hQ : ∀ a w ρ, RelR w0 Ex Rd rvs ρ (apps L (padTo N S0)) a w → Q .normal a w) : ∀ (fuel : Nat) (listed : Array Bool) (a : Act) (w : World) (ρ : Nat → Value), listed.size = ops.size → Closed ops (listedD listed) →
    L.countP (fun r => decide (¬ listedD listed r.i)) ≤ fuel → RelR w0 Ex Rd rvs ρ (stateD L N S0 (listedD listed)) a w → wpAny X.P .any ops Q fuel listed a w := by
  have done : ∀ (listed : Array Bool) (a : Act) (w : World) (ρ : Nat → Value), listed.size = ops.size → Region.ready .any ops listed = [] → RelR w0 Ex Rd rvs ρ (stateD L N S0 (listedD listed)) a w → Q .normal a w := by
    intro listed a w ρ hs hready R
    rw [stateD_all] at R
    · exact hQ a w ρ R
    · intro r hr
      by_cases h : ∀ r ∈ L, listedD listed r.i
      · exact h r hr
      · exfalso
        have h : ∃ r ∈ L, ¬ listedD listed r.i := by
          simpa using h
        obtain ⟨L1, q, L2, rfl, h1, h2⟩ := first_not h
        obtain ⟨_, o, g, _⟩ := c.split rfl
        have hmem : q.i ∈ Region.ready .any ops listed := by
          rw [mem_ready]
          have hlt : q.i < listed.size := by rw [hs]; exact (Array.getElem?_eq_some_iff.1 g.op).1
          refine ⟨?_, o, g.op, fun e he hb => ?_⟩
          · unfold listedD at h1
            simp [hlt] at h1 ⊢
            exact h1
          · obtain ⟨_, x, hx, hxi⟩ := g.after e he hb
            have := h2 x hx
            rw [hxi] at this
            exact this
        rw [hready] at hmem
        simp at hmem
  intro fuel
  induction fuel with
  | zero =>
    intro listed a w ρ hs hD hc R
    have hno : ∀ r ∈ L, listedD listed r.i := by
      intro r hr
      have := List.countP_eq_zero.1 (Nat.le_zero.1 hc) r hr
      simpa using this
    have hready : Region.ready .any ops listed = [] := by
      cases hq : Region.ready .any ops listed with
      | nil => rfl
      | cons i is =>
        exfalso
        have hm : i ∈ Region.ready .any ops listed := by rw [hq]; simp
        obtain ⟨h1, o, ho, _⟩ := mem_ready.1 hm
        obtain ⟨r, hr, rfl⟩ := hall i (Array.getElem?_eq_some_iff.1 ho).1
        have h2 := hno r hr
        unfold listedD at h2
        have hlt : r.i < listed.size := by rw [hs]; exact (Array.getElem?_eq_some_iff.1 ho).1
        simp [hlt] at h1 h2
        rw [h1] at h2; cases h2
    exact ⟨hready, done listed a w ρ hs hready R⟩
  | succ fuel ih =>
    intro listed a w ρ hs hD hc R
    refine ⟨fun h => done listed a w ρ hs h R, fun i hi => ?_⟩
    obtain ⟨h1, o, ho, hafter⟩ := mem_ready.1 hi
    have hlt : i < ops.size := (Array.getElem?_eq_some_iff.1 ho).1
    obtain ⟨r, hr, rfl⟩ := hall i hlt
    have hlt' : r.i < listed.size := by rw [hs]; exact hlt
    have hnD : ¬ listedD listed r.i := by
      unfold listedD
      simp [hlt'] at h1 ⊢
      exact h1
    obtain ⟨L1, L2, rfl⟩ := List.append_of_mem hr
    obtain ⟨_, o', g, t⟩ := c.split rfl
    have ha : ∀ o, ops[r.i]? = some o → ∀ e ∈ o.after, Region.binds .any e = true → listedD listed e.on := by
      intro o2 ho2 e he hb
      rw [ho] at ho2; cases ho2
      exact hafter e he hb
    refine drawn_op hX hΓ hN c g t hD hnD ha R fun a' w' ρ' R' => ?_
    rw [← listed_set hlt'] at R'
    refine ih _ a' w' ρ' (by simpa using hs) ?_ ?_ R'
    · intro k o2 hk ho2 e he hb
      rw [listed_set hlt'] at hk ⊢
      rcases hk with hk | rfl
      · exact .inl (hD k o2 hk ho2 e he hb)
      · exact .inl (ha o2 ho2 e he hb)
    · rw [listed_set hlt']
      rw [List.countP_append, List.countP_cons_of_pos (by simpa using hnD)] at hc
      rw [List.countP_append, List.countP_cons_of_neg (by simp)]
      refine Nat.le_of_succ_le_succ (Nat.le_trans (Nat.succ_le_succ (Nat.add_le_add (List.countP_mono_left ?_) (List.countP_mono_left ?_))) hc)
      all_goals
        intro q _ hq
        simp only [decide_eq_true_eq, not_or] at hq ⊢
        exact hq.1
end
end Go.Rx
/- Regions whose order is open: the run gives what is asked. -/
namespace Go.Rx
variable [Tabs]
section
variable {X : Ctx} {w0 w : World} {Ex Rd : Nat → Prop} {rvs : List Value} {ops : Array Oper} {S0 : St} {N : Nat} {L : List Rec} {ρ : Nat → Value} {a : Act}

theorem preBits_spec {done : List Done} : ∀ {es : List Edge} {m : Nat}, preBits done es = some m →
    (∀ e ∈ es, Region.binds .any e = true → m.testBit e.on = true ∧ ∃ d ∈ done, d.i = e.on) ∧
    (∀ k, m.testBit k = true → ∃ e ∈ es, Region.binds .any e = true ∧ (e.on = k ∨ ∃ d ∈ done, d.i = e.on ∧ d.pre.testBit k = true))
  | [], m, e => by
    simp only [preBits, Option.some.injEq] at e
    subst e
    exact ⟨by simp, fun k hk => by simp at hk⟩
  | e0 :: es, m, e => by
    simp only [preBits] at e
    split at e
    · cases e
    · rename_i m0 h0
      obtain ⟨h1, h2⟩ := preBits_spec h0
      split at e
      · rename_i hb
        split at e
        · rename_i d hd
          cases e
          have hdm := List.mem_of_find?_eq_some hd
          have hdi : d.i = e0.on := by simpa using List.find?_some hd
          refine ⟨fun e he hb' => ?_, fun k hk => ?_⟩
          · rcases List.mem_cons.1 he with rfl | he
            · exact ⟨by simp [Nat.testBit_or, Nat.testBit_two_pow], d, hdm, hdi⟩
            · obtain ⟨h3, h4⟩ := h1 e he hb'
              exact ⟨by simp [Nat.testBit_or, h3], h4⟩
          · simp only [Nat.testBit_or, Nat.testBit_two_pow, Bool.or_eq_true, decide_eq_true_eq] at hk
            rcases hk with (hk | hk) | hk
            · obtain ⟨e, he, hb', h⟩ := h2 k hk
              exact ⟨e, List.mem_cons_of_mem _ he, hb', h⟩
            · exact ⟨e0, by simp, hb, .inl hk⟩
            · exact ⟨e0, by simp, hb, .inr ⟨d, hdm, hdi, hk⟩⟩
        · cases e
      · rename_i hb
        cases e
        refine ⟨fun e he hb' => ?_, fun k hk => ?_⟩
        · rcases List.mem_cons.1 he with rfl | he
          · exact absurd hb' hb
          · exact h1 e he hb'
        · obtain ⟨e, he, hb', h⟩ := h2 k hk
          exact ⟨e, List.mem_cons_of_mem _ he, hb', h⟩

theorem deads_spec {ids : List Nat} : ∀ {h : Heap} {id : Nat} {x : Blk}, (deads ids h)[id]? = some x → x ≠ .dead → id ∉ ids ∧ h[id]? = some x := by
  induction ids with
  | nil => intro h id x e _; exact ⟨by simp, e⟩
  | cons i ids ih =>
    intro h id x e hx
    obtain ⟨h1, h2⟩ := ih (h := h.set i .dead) e hx
    have hne : id ≠ i := by
      rintro rfl
      have hlt : id < h.length := by
        have := (List.getElem?_eq_some_iff.1 h2).1
        simpa using this
      rw [List.getElem?_set_self hlt] at h2
      cases h2; exact hx rfl
    rw [List.getElem?_set_ne (fun e => hne e.symm)] at h2
    exact ⟨by simp [hne, h1], h2⟩

theorem maskH_spec {pre : Nat} : ∀ {done : List Done} {h : Heap} {id : Nat} {x : Blk}, (maskH pre done h)[id]? = some x → x ≠ .dead →
    h[id]? = some x ∧ ∀ d ∈ done, pre.testBit d.i = false → id ∉ d.ids ∧ ¬ (d.a ≤ id ∧ id < d.b)
  | [], h, id, x, e, _ => ⟨e, by simp⟩
  | d :: ds, h, id, x, e, hx => by
    simp only [maskH] at e
    split at e
    · rename_i hb
      obtain ⟨h1, h2⟩ := maskH_spec e hx
      refine ⟨h1, fun d' hd' hb' => ?_⟩
      rcases List.mem_cons.1 hd' with rfl | hd'
      · rw [hb] at hb'; cases hb'
      · exact h2 d' hd' hb'
    · obtain ⟨h3, e⟩ := deads_spec e hx
      obtain ⟨h1, h2⟩ := maskH_spec e hx
      refine ⟨h1, fun d' hd' hb' => ?_⟩
      rcases List.mem_cons.1 hd' with rfl | hd'
      · simp only [List.mem_append, List.mem_range', not_or] at h3
        refine ⟨h3.1, fun hc => h3.2 ⟨id - d'.a, by omega, by omega⟩⟩
      · exact h2 d' hd' hb'

structure Sync (X : Ctx) (ops : Array Oper) (S0 : St) (N : Nat) (L : List Rec) (done : List Done) (S : St) : Prop where
  canon : Canon X ops S0 N L
  eq : apps L (padTo N S0) = padTo N S
  len0 : S0.heap.length ≤ S.heap.length
  len : S.heap.length ≤ N
  slots : ∀ q ∈ L, q.slot + q.bs.length ≤ S.heap.length
  to : ∀ q ∈ L, ∃ d ∈ done, d.i = q.i ∧ d.a = q.slot ∧ d.b = q.slot + q.bs.length ∧ d.ids = q.chg.map (·.1) ∧ d.pre = q.pre ∧ d.q = q.q
  back : ∀ d ∈ done, ∃ q ∈ L, d.i = q.i ∧ d.pre = q.pre

theorem sets_app {us : List (Nat × Blk)} : ∀ {A B : Heap}, (∀ p ∈ us, p.1 < A.length) → sets us (A ++ B) = sets us A ++ B := by
  induction us with
  | nil => intro A B _; rfl
  | cons u us ih =>
    intro A B h
    show sets us ((A ++ B).set u.1 u.2) = sets us (A.set u.1 u.2) ++ B
    rw [List.set_append_left _ _ (h u (by simp)), ih (fun p hp => by simpa using h p (List.mem_cons_of_mem _ hp))]

theorem setBlks_app : ∀ {bs : List Blk} {n : Nat} {A B : Heap}, n + bs.length ≤ A.length → setBlks n bs (A ++ B) = setBlks n bs A ++ B
  | [], _, _, _, _ => rfl
  | b :: bs, n, A, B, h => by
    simp only [List.length_cons] at h
    rw [setBlks, setBlks, List.set_append_left _ _ (by omega), setBlks_app (by simp; omega)]

theorem grow_length (h : Heap) (r : Eff) : (grow h r).length = h.length + r.2.1.length := by
  unfold grow; rw [setBlks_length, sets_length]; simp

theorem grow_pad {h : Heap} {r : Eff} {N : Nat} (hN : h.length + r.2.1.length ≤ N) (hids : ∀ p ∈ r.2.2, p.1 < h.length) :
    setBlks h.length r.2.1 (sets r.2.2 (h ++ List.replicate (N - h.length) .free)) = grow h r ++ List.replicate (N - (grow h r).length) .free := by
  rw [grow_length]
  have : List.replicate (N - h.length) Blk.free = List.replicate r.2.1.length .free ++ List.replicate (N - (h.length + r.2.1.length)) .free := by
    rw [List.replicate_append_replicate]; congr 1; omega
  rw [this, ← List.append_assoc, sets_app (fun p hp => by have := hids p hp; simp; omega), setBlks_app (by rw [sets_length]; simp)]
  rfl

theorem set_same {s : St} {d : Nat} {b : Bool} (hb : s.tmps.getD d .undef = vBool b) : ({ s with tmps := s.tmps.set d (vBool b) } : St) = s := by
  cases s with
  | mk tmps heap refs =>
    simp only at hb ⊢
    congr 1
    rw [List.getD_eq_getElem?_getD] at hb
    cases hq : tmps[d]? with
    | none => rw [List.set_eq_of_length_le (List.getElem?_eq_none_iff.1 hq)]
    | some v =>
      rw [hq] at hb
      have : v = vBool b := hb
      subst this
      obtain ⟨hlt, hv⟩ := List.getElem?_eq_some_iff.1 hq
      rw [← hv, List.set_getElem_self]

theorem guardD_eval {l : List Oper} {o : Oper} {i pre : Nat} {s : St} {k : St → Tr (Done × St)} {r : Done × St} (e : (guardD l o i pre s k).eval = some r) :
    (o.guard = none ∧ (k s).eval = some r) ∨ ∃ j want d, o.guard = some (j, want) ∧ (l[j]?).bind (·.dst) = some d ∧
      ((s.tmps.getD d .undef = vBool want ∧ (k s).eval = some r) ∨ ((s.tmps.getD d .undef = vBool (!want) ∨ s.tmps.getD d .undef = .tup []) ∧ r = (⟨i, s.heap.length, s.heap.length, [], pre, true⟩, s.put o.dst (.tup [])))) := by
  unfold guardD at e
  split at e
  · rename_i hg; exact .inl ⟨hg, e⟩
  · rename_i j want hg
    split at e
    · rename_i d hd
      split at e
      · rename_i b hb
        right
        have hset := set_same (s := s) (d := d) (b := b) hb
        refine ⟨j, want, d, hg, hd, ?_⟩
        rw [Tr.eval_ite] at e
        cases b with
        | true =>
          simp only [if_true, hset] at e
          cases want with
          | true => exact .inl ⟨hb, by simpa using e⟩
          | false => right; simp at e; exact ⟨.inl hb, e.symm⟩
        | false =>
          simp only [Bool.false_eq_true, if_false, hset] at e
          cases want with
          | true => right; simp at e; exact ⟨.inl hb, e.symm⟩
          | false => exact .inl ⟨hb, by simpa using e⟩
      · rename_i hb
        cases e
        exact .inr ⟨j, want, d, hg, hd, .inr ⟨.inr hb, rfl⟩⟩
      · cases e
    · cases e

/-- One more. -/
theorem Sync.snoc {done : List Done} {S S1 : St} (y : Sync X ops S0 N L done S) {o : Oper} {r : Rec} {d : Done} (ho : ops[r.i]? = some o) (hp : preBits done o.after.toList = some r.pre) (ha : apartD ops r.pre r.i o done = true)
    (hdst : r.dst = o.dst) (hslot : r.slot = S.heap.length) (hroom : S.heap.length + r.bs.length ≤ N) (hids : ∀ p ∈ r.chg, p.1 < S.heap.length) (hq : r.q = true → r.bs = [] ∧ r.chg = [])
    (hchg : r.chg ≠ [] → ∀ d ∈ done, r.pre.testBit d.i = true ∨ d.q = true) (ht : RunsTo X ops (padTo N S) L r o) (h1 : r.app (padTo N S) = padTo N S1) (hl1 : S1.heap.length = S.heap.length + r.bs.length)
    (hd : d = ⟨r.i, r.slot, r.slot + r.bs.length, r.chg.map (·.1), r.pre, r.q⟩) : Sync X ops S0 N (L ++ [r]) (d :: done) S1 := by
  obtain ⟨p1, p2⟩ := preBits_spec hp
  have hall : ∀ q ∈ L, ∃ d ∈ done, d.i = q.i ∧ d.a = q.slot ∧ d.b = q.slot + q.bs.length ∧ d.ids = q.chg.map (·.1) ∧ d.pre = q.pre ∧ d.q = q.q := y.to
  have hap : ∀ d ∈ done, d.i ≠ r.i ∧ (r.pre.testBit d.i = true ∨ ∃ oj, ops[d.i]? = some oj ∧ Oper.apart ops oj o = true) := by
    intro d hd
    unfold apartD at ha
    rw [List.all_eq_true] at ha
    have := ha d hd
    simp only [Bool.and_eq_true, bne_iff_ne, ne_eq, Bool.or_eq_true] at this
    refine ⟨this.1, this.2.imp id fun h => ?_⟩
    split at h
    · rename_i oj hoj; exact ⟨oj, hoj, h⟩
    · cases h
  have g : Good X ops S0 N L r o := by
    refine ⟨ho, hdst, ?_, ?_, ?_, ?_, ?_, ?_, by rw [hslot]; exact y.len0, by rw [hslot]; exact hroom, by rw [hslot]; exact hids, hq⟩
    · intro e he hb
      obtain ⟨k1, d, hd, hdi⟩ := p1 e (by simpa using he) hb
      obtain ⟨q, hq, hqi, _⟩ := y.back d hd
      exact ⟨k1, q, hq, by rw [← hqi, hdi]⟩
    · intro k hk
      obtain ⟨e, he, hb, h | ⟨d, hd, hdi, hdk⟩⟩ := p2 k hk
      · exact ⟨e, by simpa using he, hb, .inl h⟩
      · obtain ⟨q, hq, hqi, hqp⟩ := y.back d hd
        exact ⟨e, by simpa using he, hb, .inr ⟨q, hq, by rw [← hqi, hdi], by rw [← hqp]; exact hdk⟩⟩
    · intro q hq
      obtain ⟨d, hd, hdi, _⟩ := hall q hq
      rw [← hdi]; exact (hap d hd).1
    · intro q hq
      obtain ⟨d, hd, hdi, _⟩ := hall q hq
      rw [← hdi]; exact (hap d hd).2
    · intro hne q hq
      obtain ⟨d, hd, hdi, _, _, _, _, hdq⟩ := hall q hq
      rw [← hdi, ← hdq]; exact hchg hne d hd
    · intro q hq
      rw [hslot]; exact y.slots q hq
  refine ⟨.snoc y.canon g (by rw [y.eq]; exact ht), ?_, by rw [hl1]; have := y.len0; omega, by rw [hl1]; exact hroom, ?_, ?_, ?_⟩
  · rw [← h1, ← y.eq]; simp [apps]
  · intro q hq
    rcases List.mem_append.1 hq with hq | hq
    · have := y.slots q hq; omega
    · simp only [List.mem_singleton] at hq; subst hq; rw [hslot, hl1]; omega
  · intro q hq
    rcases List.mem_append.1 hq with hq | hq
    · obtain ⟨d', hd', h⟩ := hall q hq
      exact ⟨d', List.mem_cons_of_mem _ hd', h⟩
    · simp only [List.mem_singleton] at hq; subst hq; subst hd
      exact ⟨_, List.mem_cons_self, rfl, rfl, rfl, rfl, rfl, rfl⟩
  · intro d' hd'
    rcases List.mem_cons.1 hd' with rfl | hd'
    · subst hd; exact ⟨r, by simp, rfl, rfl⟩
    · obtain ⟨q, hq, h⟩ := y.back d' hd'
      exact ⟨q, List.mem_append_left _ hq, h⟩
end
end Go.Rx
/- Regions whose order is open: soundness. -/
namespace Go.Rx
variable [Tabs]
section
variable {X : Ctx} {w0 w : World} {Ex Rd : Nat → Prop} {rvs : List Value} {ops : Array Oper} {S0 : St} {N : Nat} {L : List Rec} {ρ : Nat → Value} {a : Act}

theorem pad_put (N : Nat) (s : St) (dst : Option Tmp) (v : V) : padTo N (s.put dst v) = (padTo N s).put dst v := by cases dst <;> rfl

theorem draw_step {done : List Done} {S S1 : St} (y : Sync X ops S0 N L done S) {i pre : Nat} {o : Oper} {d : Done} (ho : ops[i]? = some o) (hp : preBits done o.after.toList = some pre) (ha : apartD ops pre i o done = true)
    (e : (guardD ops.toList o i pre S (stepD X o i pre done)).eval = some (d, S1)) (hN : S1.heap.length ≤ N) : S.heap.length ≤ S1.heap.length ∧ ∃ L', Sync X ops S0 N L' (d :: done) S1 := by
  have skip : ∀ {v : V} {q : Bool}, q = true → d = ⟨i, S.heap.length, S.heap.length, [], pre, q⟩ → S1 = S.put o.dst v → RunsTo X ops (padTo N S) L ⟨i, o.dst, v, S.heap.length, [], [], pre, q⟩ o → S.heap.length ≤ S1.heap.length ∧ ∃ L', Sync X ops S0 N L' (d :: done) S1 := by
    intro v q hqt hd hs ht
    have hl : S1.heap.length = S.heap.length := by rw [hs]; cases o.dst <;> rfl
    refine ⟨by omega, L ++ [⟨i, o.dst, v, S.heap.length, [], [], pre, q⟩], y.snoc (r := ⟨i, o.dst, v, S.heap.length, [], [], pre, q⟩) ho hp ha rfl rfl (by simpa using y.len) (by simp) (fun _ => ⟨rfl, rfl⟩) (fun h => absurd rfl h) ht ?_ (by simp [hl]) (by simp [hd])⟩
    rw [hs, pad_put]
    rfl
  have work : ∀ {g : Prop}, (o.guard = none ∨ ∃ j want d, o.guard = some (j, want) ∧ (ops[j]?).bind (·.dst) = some d ∧ (padTo N S).tmps.getD d .undef = vBool want) → (stepD X o i pre done S).eval = some (d, S1) → S.heap.length ≤ S1.heap.length ∧ ∃ L', Sync X ops S0 N L' (d :: done) S1 := by
    intro _ hg e
    unfold stepD at e
    split at e
    · rename_i hc
      rw [Tr.eval_bind] at e
      obtain ⟨v, hv, e⟩ := Option.bind_eq_some_iff.1 e
      cases e
      exact skip rfl rfl rfl (.inr ⟨hg, .inl ⟨rfl, hv⟩⟩)
    · rw [Tr.eval_bind] at e
      obtain ⟨r, hr, e⟩ := Option.bind_eq_some_iff.1 e
      split at e
      · rename_i hck
        cases e
        simp only [Bool.and_eq_true, Bool.or_eq_true, List.isEmpty_iff, List.all_eq_true, decide_eq_true_eq] at hck
        obtain ⟨hck, hids⟩ := hck
        have hl : (({ S with heap := grow S.heap r } : St).put o.dst r.1).heap.length = S.heap.length + r.2.1.length := by
          have : (({ S with heap := grow S.heap r } : St).put o.dst r.1).heap = grow S.heap r := by cases o.dst <;> rfl
          rw [this, grow_length]
        rw [hl] at hN
        refine ⟨by omega, L ++ [⟨i, o.dst, r.1, S.heap.length, r.2.1, r.2.2, pre, false⟩], y.snoc (r := ⟨i, o.dst, r.1, S.heap.length, r.2.1, r.2.2, pre, false⟩) ho hp ha rfl rfl hN hids (fun h => by cases h) (fun h => ?_) ?_ ?_ hl (by simp)⟩
        · rcases hck with hck | hck
          · exact absurd hck h
          · exact hck
        · refine .inr ⟨hg, .inr ⟨rfl, maskH pre done S.heap, hr, fun id x hx _ h2 => ?_⟩⟩
          obtain ⟨h3, h4⟩ := maskH_spec hx h2
          have hlt := (List.getElem?_eq_some_iff.1 h3).1
          refine ⟨hlt, by show (S.heap ++ _)[id]? = _; rw [List.getElem?_append_left hlt]; exact h3, fun q hq hw => ?_⟩
          obtain ⟨d', hd', k1, k2, k3, k4, k5, k6⟩ := y.to q hq
          cases hb : pre.testBit q.i with
          | true => rfl
          | false =>
            obtain ⟨k7, k8⟩ := h4 d' hd' (by rw [k1]; exact hb)
            exfalso
            rcases hw with hw | ⟨p, hp, hpi⟩
            · exact k8 (by rw [k2, k3]; exact hw)
            · exact k7 (by rw [k4, ← hpi]; exact List.mem_map.2 ⟨p, hp, rfl⟩)
        · rw [pad_put]
          unfold Rec.app Rec.appH
          show (({ padTo N S with heap := setBlks S.heap.length r.2.1 (sets r.2.2 (S.heap ++ List.replicate (N - S.heap.length) .free)) } : St).put o.dst r.1) = _
          rw [grow_pad hN hids]
          rfl
      · cases e
  rcases guardD_eval e with ⟨hg, e⟩ | ⟨j, want, t, hg, hd, ⟨hb, e⟩ | ⟨hb, e⟩⟩
  · exact work (g := True) (.inl hg) e
  · exact work (g := True) (.inr ⟨j, want, t, hg, by simpa using hd, hb⟩) e
  · cases e
    exact skip rfl rfl rfl (.inl ⟨j, want, t, hg, by simpa using hd, hb, rfl, rfl, rfl⟩)

theorem draw_run : ∀ {is : List Nat} {done : List Done} {S s' : St} {L : List Rec}, Sync X ops S0 N L done S → (regionDraw X ops is done S).eval = some s' → (s'.heap.length ≤ N → False) ∨
    ∃ L', Canon X ops S0 N L' ∧ apps L' (padTo N S0) = padTo N s' ∧ ∀ i, i < ops.size → ∃ r ∈ L', r.i = i
  | [], done, S, s', L, y, e => by
    right
    simp only [regionDraw] at e
    split at e
    · rename_i hc
      cases e
      refine ⟨L, y.canon, y.eq, fun i hi => ?_⟩
      rw [List.all_eq_true] at hc
      have := hc i (List.mem_range.2 hi)
      obtain ⟨d, hd, hdi⟩ := List.any_eq_true.1 this
      obtain ⟨q, hq, hqi, _⟩ := y.back d hd
      exact ⟨q, hq, by rw [← hqi]; simpa using hdi⟩
    · cases e
  | i :: is, done, S, s', L, y, e => by
    simp only [regionDraw] at e
    split at e
    · cases e
    · rename_i o ho
      split at e
      · cases e
      · rename_i pre hp
        split at e
        · rename_i ha
          rw [Tr.eval_bind] at e
          obtain ⟨r, hr, e⟩ := Option.bind_eq_some_iff.1 e
          by_cases hN : r.2.heap.length ≤ N
          · obtain ⟨_, L', y'⟩ := draw_step y ho hp ha hr hN
            exact draw_run y' e
          · left
            intro h
            exact hN (Nat.le_trans (run_len is e) h)
        · cases e
where
  run_len : ∀ (is : List Nat) {done : List Done} {S s' : St}, (regionDraw X ops is done S).eval = some s' → S.heap.length ≤ s'.heap.length
    | [], done, S, s', e => by
      simp only [regionDraw] at e
      split at e
      · cases e; exact Nat.le_refl _
      · cases e
    | i :: is, done, S, s', e => by
      simp only [regionDraw] at e
      split at e
      · cases e
      · split at e
        · cases e
        · split at e
          · rw [Tr.eval_bind] at e
            obtain ⟨r, hr, e⟩ := Option.bind_eq_some_iff.1 e
            exact Nat.le_trans (step_len hr) (run_len is e)
          · cases e
  step_len {o : Oper} {i pre : Nat} {done : List Done} {S : St} {r : Done × St} (e : (guardD ops.toList o i pre S (stepD X o i pre done)).eval = some r) : S.heap.length ≤ r.2.heap.length := by
    have hput : ∀ (s : St) (v : V), (s.put o.dst v).heap = s.heap := fun s v => by cases o.dst <;> rfl
    have work : (stepD X o i pre done S).eval = some r → S.heap.length ≤ r.2.heap.length := by
      intro e
      unfold stepD at e
      split at e
      · rw [Tr.eval_bind] at e
        obtain ⟨v, hv, e⟩ := Option.bind_eq_some_iff.1 e
        cases e
        simp only [hput]; exact Nat.le_refl _
      · rw [Tr.eval_bind] at e
        obtain ⟨x, hx, e⟩ := Option.bind_eq_some_iff.1 e
        split at e
        · cases e
          simp only [hput, grow_length]; omega
        · cases e
    rcases guardD_eval e with ⟨_, e⟩ | ⟨j, want, t, _, _, ⟨_, e⟩ | ⟨_, e⟩⟩
    · exact work e
    · exact work e
    · cases e; simp only [hput]; exact Nat.le_refl _

/-- The padding is taken off. -/
theorem RelR.unpad {s : St} (R : RelR w0 Ex Rd rvs ρ (padTo N s) a w) : RelR w0 Ex Rd rvs ρ s a w := by
  have hget : ∀ (id : Nat) x, (padTo N s).heap[id]? = some x → x ≠ .free → s.heap[id]? = some x := by
    intro id x e hf
    have e : (s.heap ++ List.replicate (N - s.heap.length) Blk.free)[id]? = some x := e
    rcases Nat.lt_or_ge id s.heap.length with h1 | h1
    · rwa [List.getElem?_append_left h1] at e
    · rw [List.getElem?_append_right h1] at e
      have := List.mem_of_getElem? e
      rw [List.mem_replicate] at this
      exact absurd this.2 hf
  have hup : ∀ (id : Nat) x, s.heap[id]? = some x → (padTo N s).heap[id]? = some x := by
    intro id x e
    show (s.heap ++ _)[id]? = _
    rw [List.getElem?_append_left (List.getElem?_eq_some_iff.1 e).1]; exact e
  have hl : ∀ i b, Live s.heap ρ i b → Live (padTo N s).heap ρ i b := fun i b ⟨⟨x, hx, hxl⟩, hb⟩ => ⟨⟨x, hup i x hx, hxl⟩, hb⟩
  have G : Grown w0 Ex Rd (padTo N s).heap ρ w s.heap ρ w := by
    refine mem_step R.mem (Ext.refl w).chg (fun _ _ hb => hb.elim) (fun id x hx hf => ⟨x, hget id x hx hf, .refl hf, fun _ => rfl⟩) (fun i b hi => .inl ⟨i, hl i b hi⟩) (fun i j b hi hj => R.mem.apart i j b (hl i b hi) (hl j b hj)) ?_
    intro _ id x hx
    exact .inl ⟨hup id x hx, rfl, fun _ _ _ h => h⟩
  have := R.grown G
  cases s; exact this

theorem RelR.pad (R : RelR w0 Ex Rd rvs ρ S0 a w) (N : Nat) : RelR w0 Ex Rd rvs ρ (padTo N S0) a w := R.grown (grown_pad R.mem _)

theorem RelR.drew {s : St} (R : RelR w0 Ex Rd rvs ρ s a w) (n : Nat) : RelR w0 Ex Rd rvs ρ s a { w with drawn := n } := by
  have G : Grown w0 Ex Rd s.heap ρ w s.heap ρ { w with drawn := n } :=
    mem_step R.mem (Ext.drew w n).chg (fun _ _ hb => hb.elim) (fun id x hx hf => ⟨x, hx, .refl hf, fun _ => rfl⟩) (fun i b hi => .inl ⟨i, hi⟩) (fun i j b hi hj => R.mem.apart i j b hi hj) (fun _ id x hx => .inl ⟨hx, rfl, fun _ _ _ h => h⟩)
  have := R.grown G
  cases s; exact this

/-- **A region whose order is open.** -/
theorem draw_sound (hX : CtxOk X) (hΓ : GammaOk X) (hm : X.P.follows .mixedOrders = true) {id : Nat} {is : List Nat} {s' : St} (R : RelR w0 Ex Rd rvs ρ S0 a w) (e : (regionDraw X ops is [] S0).eval = some s') {Q : Exit → Act → World → Prop}
    (hQ : ∀ a' w' ρ', RelR w0 Ex Rd rvs ρ' s' a' w' → Q .normal a' w') : (Code.region id ops true).wp X.P Q a w := by
  have hlen := draw_run.run_len (X := X) (ops := ops) is e
  have y : Sync X ops S0 s'.heap.length [] [] S0 := ⟨.nil, rfl, Nat.le_refl _, hlen, by simp, by simp, by simp⟩
  rcases draw_run y e with h | ⟨L', c, hap, hall⟩
  · exact absurd (Nat.le_refl _) h
  · refine wp_region_any hm (any_sound (w0 := w0) (Ex := Ex) (Rd := Rd) (rvs := rvs) hX hΓ hlen c hall (fun a w ρ R => ?_) ops.size _ a _ ρ (by simp) ?_ ?_ ?_)
    · rw [hap] at R
      exact hQ a w ρ R.unpad
    · intro i o hi
      unfold listedD at hi
      simp [Array.getElem?_replicate] at hi
      split at hi <;> simp at hi
    · exact Nat.le_trans List.countP_le_length (canon_len c)
    · have : stateD L' s'.heap.length S0 (listedD (Array.replicate ops.size false)) = padTo s'.heap.length S0 := by
        unfold stateD
        rw [List.filter_eq_nil_iff.2]
        · rfl
        · intro q _ hq
          have hq : listedD (Array.replicate ops.size false) q.i := by simpa using hq
          unfold listedD at hq
          simp [Array.getElem?_replicate] at hq
          split at hq <;> simp at hq
      rw [this]
      exact (R.pad _).drew _
where
  canon_len {L : List Rec} {N : Nat} (c : Canon X ops S0 N L) : L.length ≤ ops.size := by
    have hnd : ∀ {L : List Rec}, Canon X ops S0 N L → (L.map (·.i)).Nodup ∧ ∀ q ∈ L, q.i < ops.size := by
      intro L c
      induction c with
      | nil => exact ⟨by simp, by simp⟩
      | snoc c g t ih =>
        rename_i L r o
        refine ⟨?_, fun q hq => ?_⟩
        · rw [List.map_append, List.nodup_append]
          refine ⟨ih.1, by simp, fun x hx z hz => ?_⟩
          simp only [List.map_cons, List.map_nil, List.mem_singleton] at hz
          obtain ⟨q, hq, rfl⟩ := List.mem_map.1 hx
          rw [hz]; exact g.fresh q hq
        · rcases List.mem_append.1 hq with hq | hq
          · exact ih.2 q hq
          · simp only [List.mem_singleton] at hq; subst hq
            exact (Array.getElem?_eq_some_iff.1 g.op).1
    obtain ⟨h1, h2⟩ := hnd c
    have hsub : (L.map (·.i)) ⊆ List.range ops.size := fun x hx => by
      obtain ⟨q, hq, rfl⟩ := List.mem_map.1 hx
      exact List.mem_range.2 (h2 q hq)
    have := h1.length_le_of_subset hsub
    simpa using this
end
end Go.Rx
