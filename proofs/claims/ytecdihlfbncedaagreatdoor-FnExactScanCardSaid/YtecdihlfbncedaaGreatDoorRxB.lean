import Derived.Test.YtecdihlfbncedaaGreatDoorRxA
set_option linter.all false
/- Operations that write. -/
namespace Go.Rx
variable [Tabs]
section
variable {X : Ctx} {w0 w : World} {Ex Rd : Nat → Prop} {h : Heap} {ρ : Nat → Value} {slot : Nat}
variable {ev : Operand → Value} {op : Oper} {v : V}

theorem setCells_other (b : Nat) : ∀ (vs : List Value) (o : Nat) (w : World) (k : Nat), k ≠ b → (w.setCells b o vs).heap[k]? = w.heap[k]?
  | [], _, _, _, _ => rfl
  | v :: vs, o, w, k, hk => by
    rw [World.setCells, setCells_other b vs _ _ k hk]
    exact Go.RowKit.Below.heap_setCell w ⟨b, o, none⟩ v k hk

theorem setCells_same (b : Nat) {t : TypeId} {fr : Nat × Nat} : ∀ (vs : List Value) (o : Nat) (w : World) (cs : List Value), w.heap[b]? = some (.cells cs.toArray t fr) → o + vs.length ≤ cs.length →
    (w.setCells b o vs).heap[b]? = some (.cells (cs.take o ++ vs ++ cs.drop (o + vs.length)).toArray t fr)
  | [], o, w, cs, h, _ => by rw [World.setCells, h]; simp
  | v :: vs, o, w, cs, h, hl => by
    simp only [List.length_cons] at hl
    have h1 : (w.setCell ⟨b, o, none⟩ v).heap[b]? = some (.cells (cs.set o v).toArray t fr) := by
      simp only [World.setCell, Array.getElem?_modify, h, if_true, Option.map_some]
      simp
    rw [World.setCells, setCells_same b vs (o + 1) _ (cs.set o v) h1 (by simp; omega)]
    congr 2
    rw [List.take_succ_eq_append_getElem (by simp; omega), List.getElem_set_self, List.take_set, List.set_eq_of_length_le (by simp; omega)]
    rw [List.drop_set_of_lt (by omega)]
    simp only [List.length_cons, List.append_assoc, List.singleton_append, List.cons_append]
    rw [show o + 1 + vs.length = o + (vs.length + 1) from by omega]
    rfl

theorem setCells_size (b : Nat) : ∀ (vs : List Value) (o : Nat) (w : World), (w.setCells b o vs).heap.size = w.heap.size ∧ (w.setCells b o vs).os = w.os ∧ (w.setCells b o vs).tape = w.tape ∧ (w.setCells b o vs).output = w.output
  | [], _, _ => ⟨rfl, rfl, rfl, rfl⟩
  | v :: vs, o, w => by
    obtain ⟨h1, h2, h3, h4⟩ := setCells_size b vs (o + 1) (w.setCell ⟨b, o, none⟩ v)
    exact ⟨h1.trans (by simp [World.setCell]), h2, h3, h4⟩

theorem Chg.setCells (w : World) (b o : Nat) (vs : List Value) : Chg w (w.setCells b o vs) (fun k => b = k) := by
  obtain ⟨h1, h2, h3, h4⟩ := setCells_size b vs o w
  exact ⟨h2, h3, h4, by omega, fun k _ hk => .inl (setCells_other b vs o w k (fun e => hk e.symm))⟩

theorem set_get {h : Heap} {id : Nat} {x : Blk} (hx : id < h.length) (y : Blk) (i : Nat) : (h.set id y)[i]? = if i = id then some y else h[i]? := by
  by_cases hi : i = id
  · subst hi; simp [hx]
  · rw [List.getElem?_set_ne (fun e => hi e.symm), if_neg hi]

/-- One block of our own is written. -/
theorem mem_modify (M : Mem w0 Ex Rd h ρ w) {w' : World} {id b : Nat} {x x' : Blk} (hx : h[id]? = some x) (hxl : x.lives = true) (hb : blockOf (ρ id) = some b) (hw : Chg w w' (fun k => b = k)) (hk : Sub x x')
    (hrep : Keep w (okOf Rd h ρ w) h ρ w' (okOf Rd (h.set id x') ρ w') (h.set id x') ρ → BRep w' (okOf Rd (h.set id x') ρ w') (h.set id x') ρ x' (ρ id)) :
    Grown w0 Ex Rd h ρ w (h.set id x') ρ w' := by
  have hlt : id < h.length := (List.getElem?_eq_some_iff.1 hx).1
  have hset := set_get (x := x) hlt x'
  have hlive : Live h ρ id b := ⟨⟨x, hx, hxl⟩, hb⟩
  have hl : ∀ i k, Live (h.set id x') ρ i k → Live h ρ i k := by
    intro i k ⟨⟨y, hy, hyl⟩, hk'⟩
    rw [hset] at hy
    by_cases hi : i = id
    · subst hi; exact ⟨⟨x, hx, hxl⟩, hk'⟩
    · rw [if_neg hi] at hy; exact ⟨⟨y, hy, hyl⟩, hk'⟩
  refine mem_step M hw (fun k _ hk => ⟨id, by subst hk; exact hlive⟩) ?_ (fun i k hi => .inl ⟨i, hl i k hi⟩) (fun i j k hi hj => M.apart i j k (hl i k hi) (hl j k hj)) ?_
  · intro i y hy hf
    by_cases hi : i = id
    · subst hi; rw [hx] at hy; cases hy; exact ⟨x', by rw [hset, if_pos rfl], hk, fun _ => rfl⟩
    · exact ⟨y, by rw [hset, if_neg hi]; exact hy, .refl hf, fun _ => rfl⟩
  · intro K i y hy
    rw [hset] at hy
    by_cases hi : i = id
    · subst hi; rw [if_pos rfl] at hy; cases hy; exact .inr (hrep K)
    · rw [if_neg hi] at hy
      exact .inl ⟨hy, rfl, fun hyl k hk' e => hi (M.apart i id b ⟨⟨y, hy, hyl⟩, by rw [e]; exact hk'⟩ hlive)⟩

/-- A list of our own is given up, and another one is there: it may have taken the array over. -/
theorem mem_replace (M : Mem w0 Ex Rd h ρ w) {w' : World} {id : Nat} {x : Blk} (hx : h[id]? = some x) (hxl : x.lives = true) (hxL : x.isL = true) (hd : h[slot]? = some .free) {x' : Blk} {v' : Value}
    (hw : Chg w w' (fun k => blockOf (ρ id) = some k)) (hv' : ∀ b, blockOf v' = some b → blockOf (ρ id) = some b ∨ w.heap.size ≤ b)
    (hrep : Keep w (okOf Rd h ρ w) h ρ w' (okOf Rd ((h.set id .dead).set slot x') (setρ slot [v'] ρ) w') ((h.set id .dead).set slot x') (setρ slot [v'] ρ) →
      BRep w' (okOf Rd ((h.set id .dead).set slot x') (setρ slot [v'] ρ) w') ((h.set id .dead).set slot x') (setρ slot [v'] ρ) x' v') :
    Grown w0 Ex Rd h ρ w ((h.set id .dead).set slot x') (setρ slot [v'] ρ) w' := by
  have hlt : id < h.length := (List.getElem?_eq_some_iff.1 hx).1
  have hls : slot < h.length := (List.getElem?_eq_some_iff.1 hd).1
  have hne : id ≠ slot := by rintro rfl; rw [hx] at hd; cases hd; cases hxl
  have hset : ∀ i, ((h.set id .dead).set slot x')[i]? = if i = slot then some x' else if i = id then some .dead else h[i]? := by
    intro i
    rw [set_get (x := .free) (by simpa using hls), set_get (x := x) hlt]
  have hρs : setρ slot [v'] ρ slot = v' := by
    have := setρ_in (slot := slot) (vals := [v']) (ρ := ρ) (i := 0) (by simp)
    simpa using this
  have hρ : ∀ i, i ≠ slot → setρ slot [v'] ρ i = ρ i := fun i hi => setρ_out (by simp; omega)
  have hlid : ∀ k, blockOf (ρ id) = some k → Live h ρ id k := fun k hk => ⟨⟨x, hx, hxl⟩, hk⟩
  have hcase : ∀ i k, Live ((h.set id .dead).set slot x') (setρ slot [v'] ρ) i k → (i = slot ∧ (blockOf (ρ id) = some k ∨ w.heap.size ≤ k)) ∨ (i ≠ slot ∧ i ≠ id ∧ Live h ρ i k) := by
    intro i k ⟨⟨y, hy, hyl⟩, hk⟩
    rw [hset] at hy
    by_cases h1 : i = slot
    · subst h1; rw [hρs] at hk; exact .inl ⟨rfl, hv' k hk⟩
    · rw [if_neg h1] at hy
      rw [hρ i h1] at hk
      by_cases h2 : i = id
      · rw [if_pos h2] at hy; cases hy; cases hyl
      · rw [if_neg h2] at hy; exact .inr ⟨h1, h2, ⟨y, hy, hyl⟩, hk⟩
  refine mem_step M hw (fun k _ hk => ⟨id, hlid k hk⟩) ?_ ?_ ?_ ?_
  · intro i y hy hf
    by_cases h1 : i = slot
    · subst h1; rw [hd] at hy; cases hy; exact absurd rfl hf
    · by_cases h2 : i = id
      · subst h2; rw [hx] at hy; cases hy
        exact ⟨.dead, by rw [hset, if_neg h1, if_pos rfl], .dead hxL, fun h => absurd rfl h⟩
      · exact ⟨y, by rw [hset, if_neg h1, if_neg h2]; exact hy, .refl hf, fun _ => hρ i h1⟩
  · intro i k hi
    rcases hcase i k hi with ⟨_, h1 | h1⟩ | ⟨_, _, h1⟩
    · exact .inl ⟨id, hlid k h1⟩
    · exact .inr h1
    · exact .inl ⟨i, h1⟩
  · intro i j k hi hj
    rcases hcase i k hi with ⟨e1, h1⟩ | ⟨n1, m1, h1⟩ <;> rcases hcase j k hj with ⟨e2, h2⟩ | ⟨n2, m2, h2⟩
    · rw [e1, e2]
    · rcases h1 with h1 | h1
      · exact absurd (M.apart j id k h2 (hlid k h1)) m2
      · have := live_lt M h2; omega
    · rcases h2 with h2 | h2
      · exact absurd (M.apart i id k h1 (hlid k h2)) m1
      · have := live_lt M h1; omega
    · exact M.apart i j k h1 h2
  · intro K i y hy
    rw [hset] at hy
    by_cases h1 : i = slot
    · subst h1; rw [if_pos rfl] at hy; cases hy; rw [hρs]; exact .inr (hrep K)
    · rw [if_neg h1] at hy
      by_cases h2 : i = id
      · rw [if_pos h2] at hy; cases hy; exact .inr trivial
      · rw [if_neg h2] at hy
        exact .inl ⟨hy, hρ i h1, fun hyl k hk e => h2 (M.apart i id k ⟨⟨y, hy, hyl⟩, hk⟩ (hlid k e))⟩

/-- A list of our own is only read from now on. -/
theorem mem_freeze (M : Mem w0 Ex Rd h ρ w) {id : Nat} {e : TypeId} {c : Ty} {xs : List c.den} (hx : h[id]? = some (.arr e c xs)) (hn : c.noAny = true) : Grown w0 Ex Rd h ρ w (h.set id (.ro e c xs)) ρ w := by
  have hlt : id < h.length := (List.getElem?_eq_some_iff.1 hx).1
  have hset := set_get (x := .free) hlt (.ro e c xs)
  have hl : ∀ i k, Live (h.set id (.ro e c xs)) ρ i k → Live h ρ i k ∧ i ≠ id := by
    intro i k ⟨⟨y, hy, hyl⟩, hk'⟩
    rw [hset] at hy
    by_cases hi : i = id
    · rw [if_pos hi] at hy; cases hy; cases hyl
    · rw [if_neg hi] at hy; exact ⟨⟨⟨y, hy, hyl⟩, hk'⟩, hi⟩
  refine mem_step M (Ext.refl w).chg (fun _ _ hb => hb.elim) ?_ (fun i k hi => .inl ⟨i, (hl i k hi).1⟩) (fun i j k hi hj => M.apart i j k (hl i k hi).1 (hl j k hj).1) ?_
  · intro i y hy hf
    by_cases hi : i = id
    · subst hi; rw [hx] at hy; cases hy; exact ⟨_, by rw [hset, if_pos rfl], .frz (Nat.le_refl _), fun _ => rfl⟩
    · exact ⟨y, by rw [hset, if_neg hi]; exact hy, .refl hf, fun _ => rfl⟩
  · intro K i y hy
    rw [hset] at hy
    by_cases hi : i = id
    · subst hi; rw [if_pos rfl] at hy; cases hy
      refine .inr (BRep.tree (w := w) (w' := w) (ok := okOf Rd h ρ w) (h := h) (ρ := ρ) (e := e) K.mem (fun k hk => ⟨⟨live_lt M ⟨⟨_, hx, rfl⟩, hk⟩, ?_, fun j hj => ?_⟩, rfl⟩) hn (fun k hk => ⟨M.live_N ⟨⟨_, hx, rfl⟩, hk⟩, M.live_noS ⟨⟨_, hx, rfl⟩, hk⟩⟩) (M.blocks i _ hx))
      · rcases M.own i k ⟨⟨_, hx, rfl⟩, hk⟩ with h1 | h1
        · exact M.rd k h1
        · exact M.ex k h1
      · obtain ⟨h1, h2⟩ := hl j k hj
        exact h2 (M.apart j i k h1 ⟨⟨_, hx, rfl⟩, hk⟩)
    · rw [if_neg hi] at hy
      exact .inl ⟨hy, rfl, fun _ _ _ h => h⟩

theorem frz_sound : ∀ (ids : List Nat) {h : Heap} {us : List (Nat × Blk)}, frz ids h = some us → Mem w0 Ex Rd h ρ w → Grown w0 Ex Rd h ρ w (sets us h) ρ w
  | [], h, us, e, M => by simp only [frz, Option.some.injEq] at e; subst e; exact Grown.refl M
  | id :: ids, h, us, e, M => by
    simp only [frz] at e
    split at e
    · rename_i e0 c xs hg
      have hg' := getD_some hg (by simp)
      split at e
      · rename_i hn
        split at e
        · rename_i us' hus
          cases e
          have G := mem_freeze M hg' hn
          exact G.trans (frz_sound ids hus G.mem)
        · cases e
      · cases e
    · exact frz_sound ids e M
    · cases e

theorem frz_sub : ∀ (ids : List Nat) {h : Heap} {us : List (Nat × Blk)}, frz ids h = some us → (sets us h).length = h.length ∧ ∀ (i : Nat), h[i]? = some .free → (sets us h)[i]? = some .free
  | [], h, us, e => by simp only [frz, Option.some.injEq] at e; subst e; exact ⟨rfl, fun i hi => hi⟩
  | id :: ids, h, us, e => by
    simp only [frz] at e
    split at e
    · rename_i e0 c xs hg
      have hg' := getD_some hg (by simp)
      split at e
      · split at e
        · rename_i us' hus
          cases e
          obtain ⟨h1, h2⟩ := frz_sub ids hus
          refine ⟨by simpa [sets] using h1, fun i hi => h2 i ?_⟩
          rw [List.getElem?_set_ne]
          · exact hi
          · rintro rfl; rw [hg'] at hi; cases hi
        · cases e
      · cases e
    · exact frz_sub ids e
    · cases e

/-- What an operation comes to, in the world. -/
def EffGives (X : Ctx) (w0 : World) (Ex Rd : Nat → Prop) (h : Heap) (ρ : Nat → Value) (w : World) (slot : Nat) (ev : Operand → Value) (op : Oper) (r : Eff) : Prop :=
  ∃ u w' ρ', ((execOp ev op).run X.P w = .ok (.value u) w' ∨ ((execOp ev op).run X.P w = .ok .skip w' ∧ u = undef)) ∧
    Grown w0 Ex Rd h ρ w (setBlks slot r.2.1 (sets r.2.2 h)) ρ' w' ∧ VRep w' (okOf Rd (setBlks slot r.2.1 (sets r.2.2 h)) ρ' w') (setBlks slot r.2.1 (sets r.2.2 h)) ρ' r.1 u

theorem heap_range {b : Nat} {cs : Array Value} {t : TypeId} {fr : Nat × Nat} (hb : w.heap[b]? = some (.cells cs t fr)) (k : Nat) (hk : k < cs.size) : (w.cell? ⟨b, k, none⟩).isSome = true := by
  simp only [World.cell?, hb]
  simp [hk]

theorem storeAt_run (hX : CtxOk X) {t : TypeId} {τ : Ty} (ht : X.ty t = some τ) {b o : Nat} {u : Value} {vs : List Value} (hu : u.cells = vs.toArray) (hl : vs.length = τ.size) {cs : Array Value} {t' : TypeId} {fr : Nat × Nat}
    (hb : w.heap[b]? = some (.cells cs t' fr)) (hfr : ∀ k, k < cs.size → ¬ (fr.1 ≤ k ∧ k < fr.2)) (hle : o + vs.length ≤ cs.size) (h1 : ∀ v ∈ vs, v.oneCell' = true) :
    (Instr.storeAt t (.pointer (some ⟨b, o, none⟩)) u).run X.P w = .ok () (w.setCells b o vs) := by
  obtain ⟨i, hi, hs, hz, _, d, hd⟩ := hX.info t τ ht
  have hst := run_storeCells_cells (P := X.P) b o vs 0 w (fun j hj => heap_range hb _ (by omega)) (fun j hj => by
    simp only [World.frozen?, hb]
    have := hfr (o + 0 + j) (by omega)
    simp only [Bool.and_eq_false_iff, decide_eq_false_iff_not]
    by_cases hq : fr.1 ≤ o + 0 + j
    · right; intro hq2; exact this ⟨hq, hq2⟩
    · left; exact hq) h1
  simp only [Nat.add_zero] at hst
  have hne : ¬ (u.cells.size ≠ i.size) := by rw [hu, hs]; simp [hl]
  simp only [Instr.storeAt, Instr.sureAddr, storeVar, Sem.run_bind, Sem.run_pure, Result.andThen_ok, run_sizeOf' hi, if_neg hne]
  rw [hu]
  exact hst

theorem vals_one {ok : Nat → Prop} : ∀ {cs : List C} {vs : List Value}, CsRep w ok h ρ cs vs → ∀ v ∈ vs, v.oneCell' = true
  | _, _, .nil, _, hv => by simp at hv
  | _, _, .cons r t, v, hv => by
    rcases List.mem_cons.1 hv with rfl | hv
    · exact oneCell_of r trivial
    · exact vals_one t v hv

theorem gives_store_ptr (hX : CtxOk X) (M : Mem w0 Ex Rd h ρ w) {t : TypeId} {x y : Operand} (ho : op.op = .store t x y) {id o : Nat} {v : V} {τ : Ty} (ht : X.ty t = some τ) (hn : 0 < τ.size)
    (rp : VRep w (okOf Rd h ρ w) h ρ (.one (.ptr id o)) (ev x)) (rv : VRep w (okOf Rd h ρ w) h ρ v (ev y)) (hl : v.cells.length = τ.size) {us : List (Nat × Blk)} (e : storeS (.one (.ptr id o)) v h = some us) :
    EffGives X w0 Ex Rd h ρ w slot ev op (.undef, [], us) := by
  simp only [storeS] at e
  split at e
  · rename_i t' cs hg
    have hg' := getD_some hg (by simp)
    split at e
    · rename_i hle
      cases e
      obtain ⟨_, b, hb, hx⟩ := rp
      obtain ⟨b', vs0, hv, hw, rcs⟩ := M.blocks id _ hg'
      rw [hb] at hv
      have : b = b' := by simpa using hv
      subst this
      obtain ⟨vs, hcells, rvs⟩ := vcells (slices_of M) rv (by omega)
      have hvl : vs.length = τ.size := by rw [← rvs.len, hl]
      have hcl : cs.length = vs0.size := by have := rcs.len; simpa using this
      have hrun := storeAt_run hX ht hcells hvl hw (fun k _ => by omega) (o := o) (by omega) (vals_one rvs)
      have hsame := setCells_same b vs o w vs0.toList (by simpa using hw) (by simp; omega)
      have G := mem_modify (x' := .vars t' (splice cs o v.cells)) M hg' rfl (by rw [hb]; rfl) (Chg.setCells w b o vs) .vars (fun K =>
        ⟨b, _, hb, hsame, by simpa using (splice_rep rcs rvs).mono fun _ _ r => CRep.keep K r⟩)
      refine ⟨undef, _, ρ, .inr ⟨?_, rfl⟩, G, trivial⟩
      unfold execOp
      simp only [ho, hx, Sem.run_bind, hrun, Result.andThen_ok, Sem.run_pure]
    · cases e
  · cases e

/-- Nobody looks at what is written there. -/
theorem gives_store_rptr (hX : CtxOk X) (M : Mem w0 Ex Rd h ρ w) {t : TypeId} {x y : Operand} (ho : op.op = .store t x y) {c : Ty} {xc : c.den} {v : V} {τ : Ty} (ht : X.ty t = some τ) (hn : 0 < τ.size)
    (rp : VRep w (okOf Rd h ρ w) h ρ (.one (.rptr c xc)) (ev x)) (rv : VRep w (okOf Rd h ρ w) h ρ v (ev y)) (hl : v.cells.length = τ.size) {us : List (Nat × Blk)} (e : storeS (.one (.rptr c xc)) v h = some us) :
    EffGives X w0 Ex Rd h ρ w slot ev op (.undef, [], us) := by
  simp only [storeS] at e
  split at e
  · rename_i hall
    cases e
    rw [List.all_eq_true] at hall
    have hany : ∀ j, j < v.cells.length → c.isAny j = true := fun j hj => hall j (List.mem_range.2 hj)
    obtain ⟨b, o, cs, hx, hok, hr, hj⟩ := rp
    obtain ⟨vs, hcells, rvs⟩ := vcells (slices_of M) rv (by omega)
    have hvl : vs.length = τ.size := by rw [← rvs.len, hl]
    have hall2 : ∀ j, τ.size ≤ j ∨ c.isAny j = true := fun j => by
      rcases Nat.lt_or_ge j τ.size with h1 | h1
      · exact .inr (hany j (by omega))
      · exact .inl h1
    have hsz : τ.size ≤ cs.length := by
      rw [hr.length]
      rcases Nat.lt_or_ge c.size τ.size with h1 | h1
      · have h2 := hany c.size (by omega)
        exact absurd (isAny_lt h2) (by omega)
      · exact h1
    obtain ⟨hc0, hp0⟩ := hj 0 (by omega)
    obtain ⟨hS0, cells, t', fr, hb, hfr⟩ := hp0.2 (hany 0 (by omega))
    have hcell : ∀ j, j < cs.length → cells[o + j]? = cs[j]? := fun j hjl => by
      have := (hj j hjl).1
      simp only [World.cell?, hb] at this
      rw [List.getElem?_eq_getElem hjl, ← this]
      simp
    have hle : o + vs.length ≤ cells.size := by
      have h1 := hcell (τ.size - 1) (by omega)
      rw [List.getElem?_eq_getElem (by omega)] at h1
      have := (Array.getElem?_eq_some_iff.1 h1).1
      omega
    have hrun := storeAt_run hX ht hcells hvl hb hfr (o := o) hle (vals_one rvs)
    have hsame := setCells_same b vs o w cells.toList (by simpa using hb) (by simpa using hle)
    have hsb : SameB w (w.setCells b o vs) b := by
      refine .inr ⟨cells, _, t', fr, hb, hsame, by simp; omega, fun p hp => ?_, fun p v1 v2 e1 e2 h1 => ?_⟩
      · have hout : p < o ∨ o + vs.length ≤ p := by
          rcases Nat.lt_or_ge p o with h1 | h1
          · exact .inl h1
          · rcases Nat.lt_or_ge p (o + vs.length) with h2 | h2
            · have h3 := (hj (p - o) (by omega)).2.2 (hany (p - o) (by omega))
              rw [show o + (p - o) = p from by omega] at h3
              exact absurd h3.1 hp
            · exact .inr h2
        have hl1 : (cells.toList.take o).length = o := by rw [List.length_take, Array.length_toList]; omega
        rw [List.getElem?_toArray]
        rcases hout with h1 | h1
        · rw [List.append_assoc, List.getElem?_append_left (by omega), List.getElem?_take_of_lt h1, Array.getElem?_toList]
        · rw [List.getElem?_append_right (by rw [List.length_append]; omega), List.length_append, hl1, List.getElem?_drop, Array.getElem?_toList]
          congr 1; omega
      · have hl1 : (cells.toList.take o).length = o := by rw [List.length_take, Array.length_toList]; omega
        rw [List.getElem?_toArray] at e2
        rcases Nat.lt_or_ge p o with h2 | h2
        · rw [List.append_assoc, List.getElem?_append_left (by omega), List.getElem?_take_of_lt h2, Array.getElem?_toList, e1] at e2
          cases e2; exact h1
        · rcases Nat.lt_or_ge p (o + vs.length) with h3 | h3
          · rw [List.getElem?_append_left (by rw [List.length_append]; omega), List.getElem?_append_right (by omega)] at e2
            exact vals_one rvs v2 (List.mem_of_getElem? e2)
          · rw [List.getElem?_append_right (by rw [List.length_append]; omega), List.length_append, hl1, List.getElem?_drop, Array.getElem?_toList, show o + vs.length + (p - (o + vs.length)) = p from by omega, e1] at e2
            cases e2; exact h1
    obtain ⟨z1, z2, z3, z4⟩ := setCells_size b vs o w
    have G : Grown w0 Ex Rd h ρ w h ρ (w.setCells b o vs) := by
      refine mem_step M (B := fun _ => False) ⟨z2, z3, z4, by omega, fun k _ _ => ?_⟩ (fun _ _ hb => hb.elim) (fun id x hx hf => ⟨x, hx, .refl hf, fun _ => rfl⟩) (fun id b hl => .inl ⟨id, hl⟩) M.apart (fun _ id x hx => .inl ⟨hx, rfl, fun _ _ _ h => h⟩)
      by_cases hk : k = b
      · subst hk; exact hsb
      · exact .inl (setCells_other b vs o w k hk)
    refine ⟨undef, _, ρ, .inr ⟨?_, rfl⟩, G, trivial⟩
    unfold execOp
    simp only [ho, hx, Sem.run_bind, hrun, Result.andThen_ok, Sem.run_pure]
  · cases e
where
  isAny_lt : ∀ {c : Ty} {j : Nat}, c.isAny j = true → j < c.size
  | .int _, _, h => by cases h
  | .bool, _, h => by cases h
  | .str, _, h => by cases h
  | .unit, _, h => by cases h
  | .sl _, _, h => by cases h
  | .old _, _, h => by cases h
  | .any, j, h => by have : j = 0 := by simpa [Ty.isAny] using h
                     subst this; exact Nat.one_pos
  | .pair a b, j, h => by
    unfold Ty.isAny at h
    simp only [Ty.size]
    split at h
    · omega
    · have := isAny_lt h; omega
end
end Go.Rx
namespace Go.Rx
variable [Tabs]
section
variable {X : Ctx} {w0 w : World} {Ex Rd : Nat → Prop} {h : Heap} {ρ : Nat → Value} {slot : Nat}
variable {ev : Operand → Value} {op : Oper} {v : V}

theorem gives_store_eptr (hX : CtxOk X) (M : Mem w0 Ex Rd h ρ w) {t : TypeId} {x y : Operand} (ho : op.op = .store t x y) {id k o : Nat} {v : V} {τ : Ty} (ht : X.ty t = some τ) (hn : 0 < τ.size)
    (rp : VRep w (okOf Rd h ρ w) h ρ (.one (.eptr id k o)) (ev x)) (rv : VRep w (okOf Rd h ρ w) h ρ v (ev y)) (hl : v.cells.length = τ.size) {us : List (Nat × Blk)} (e : storeS (.one (.eptr id k o)) v h = some us) :
    EffGives X w0 Ex Rd h ρ w slot ev op (.undef, [], us) := by
  simp only [storeS] at e
  split at e
  · rename_i e0 c xs hg
    have hg' := getD_some hg (by simp)
    split at e
    · rename_i x' hof
      split at e
      · rename_i hle
        cases e
        obtain ⟨y0, hh, _, _, hrp⟩ := rp
        rw [hg'] at hh
        cases hh
        obtain ⟨hi, b, o', len, cap, hρ, hx⟩ := hrp c xs rfl
        obtain ⟨A, cap', hv, hcap, hA⟩ := arr_of M hg'
        have hρ' := hρ
        rw [hv] at hρ'
        cases hρ'
        rcases hA with ⟨hA, _⟩ | ⟨b2, o2, cells, fr, hA, hw, hsz, hfr, hel⟩
        · cases hA
        · cases hA
          obtain ⟨vs, hcells, rvs⟩ := vcells (slices_of M) rv (by omega)
          have hvl : vs.length = τ.size := by rw [← rvs.len, hl]
          have hone := vals_one rvs
          have hkc : (k + 1) * c.size ≤ cap * c.size := Nat.mul_le_mul_right _ (by omega)
          rw [Nat.add_mul, Nat.one_mul] at hkc
          have hle2 : o' + (k * c.size + o) + vs.length ≤ cells.size := by omega
          have hrun := storeAt_run hX ht hcells hvl hw hfr (o := o' + (k * c.size + o)) hle2 hone
          have hbut := Chg.setCells w b (o' + (k * c.size + o)) vs
          have hsame := setCells_same b vs (o' + (k * c.size + o)) w cells.toList (by simpa using hw) (by simp; omega)
          -- the element's cells
          obtain ⟨cs, hr, hj⟩ := hel k hi
          have hcl := hr.length
          have hgd : xs.getD k c.dflt = xs[k] := by simp [List.getD, List.getElem?_eq_getElem hi]
          rw [hgd] at hof
          have rr : CsRep w (okOf Rd h ρ w) h ρ (splice (toCells c xs[k]) o v.cells) (cs.take o ++ vs ++ cs.drop (o + vs.length)) := splice_rep (rep_cells hr) rvs
          obtain ⟨l, r, hlr, hrep', hrest⟩ := ofCells_gen (hh := h) (ok' := okOf Rd h ρ w) (fun e r => cellTo_ro M e r) hof rr
          cases hrest
          rw [List.append_nil] at hlr
          have hcell : ∀ q, (cells.toList.take (o' + (k * c.size + o)) ++ vs ++ cells.toList.drop (o' + (k * c.size + o) + vs.length))[q]? = if o' + (k * c.size + o) ≤ q ∧ q < o' + (k * c.size + o) + vs.length then vs[q - (o' + (k * c.size + o))]? else cells[q]? := by
            intro q
            have hl1 : (cells.toList.take (o' + (k * c.size + o))).length = o' + (k * c.size + o) := by simp; omega
            split
            · rename_i hq
              rw [List.getElem?_append_left (by simp; omega), List.getElem?_append_right (by omega), hl1]
            · rename_i hq
              rcases Nat.lt_or_ge q (o' + (k * c.size + o)) with h1 | h1
              · rw [List.getElem?_append_left (by simp; omega), List.getElem?_append_left (by omega), List.getElem?_take_of_lt h1]
                simp
              · rw [List.getElem?_append_right (by simp; omega), List.getElem?_drop]
                simp only [List.length_append, hl1]
                rw [show o' + (k * c.size + o) + vs.length + (q - (o' + (k * c.size + o) + vs.length)) = q from by omega]
                simp
          have G := mem_modify (x' := .arr e0 c (xs.set k x')) M hg' rfl (by rw [hρ]; rfl) hbut (.arr (by simp)) (fun K => by
            refine ⟨some ⟨b, o', none⟩, cap, by rw [hρ]; simp, by simpa using hcap, .inr ⟨b, o', _, fr, rfl, hsame, ?_, ?_, ?_⟩⟩
            · simp only [List.size_toArray, List.length_append, List.length_take, List.length_drop, Array.length_toList]; omega
            · intro q hq
              refine hfr q ?_
              simp only [List.size_toArray, List.length_append, List.length_take, List.length_drop, Array.length_toList] at hq; omega
            · intro i hi'
              have hi'' : i < xs.length := by simpa using hi'
              by_cases hik : i = k
              · subst hik
                refine ⟨l, by rw [List.getElem_set_self]; exact Rep.monoS K.mem hrep', fun j hj' => ?_⟩
                rw [List.getElem?_toArray, hcell]
                have hll : l.length = c.size := hrep'.length
                split
                · rename_i hq
                  rw [show o' + (i * c.size + j) - (o' + (i * c.size + o)) = j - o from by omega]
                  have hjo : o ≤ j := by omega
                  have : l[j]? = vs[j - o]? := by
                    rw [← hlr]
                    rw [List.getElem?_append_left (by simp; omega), List.getElem?_append_right (by simp; omega)]
                    simp; congr 1; omega
                  rw [← this, List.getElem?_eq_getElem hj']
                · rename_i hq
                  have hjc : j < cs.length := by omega
                  have hold := hj j hjc
                  rw [hold]
                  have : l[j]? = cs[j]? := by
                    rw [← hlr]
                    rcases Nat.lt_or_ge j o with h1 | h1
                    · rw [List.getElem?_append_left (by simp; omega), List.getElem?_append_left (by simp; omega), List.getElem?_take_of_lt h1]
                    · rw [List.getElem?_append_right (by simp; omega), List.getElem?_drop]
                      congr 1
                      simp; omega
                  rw [List.getElem?_eq_getElem hj', List.getElem?_eq_getElem hjc] at this
                  exact this.symm
              · obtain ⟨cs2, hr2, hj2⟩ := hel i hi''
                refine ⟨cs2, by rw [List.getElem_set_ne (fun e => hik e.symm)]; exact Rep.monoS K.mem hr2, fun j hj' => ?_⟩
                rw [List.getElem?_toArray, hcell, if_neg]
                · exact hj2 j hj'
                · have hc2 := hr2.length
                  intro hq
                  have hjc : j < c.size := by omega
                  rcases Nat.lt_or_ge i k with h1 | h1
                  · have : (i + 1) * c.size ≤ k * c.size := Nat.mul_le_mul_right _ h1
                    rw [Nat.add_mul, Nat.one_mul] at this
                    omega
                  · have h1' : k + 1 ≤ i := by omega
                    have : (k + 1) * c.size ≤ i * c.size := Nat.mul_le_mul_right _ h1'
                    rw [Nat.add_mul, Nat.one_mul] at this
                    omega)
          refine ⟨undef, _, ρ, .inr ⟨?_, rfl⟩, G, trivial⟩
          unfold execOp
          simp only [ho, hx, Sem.run_bind, hrun, Result.andThen_ok, Sem.run_pure]
      · cases e
    · cases e
  · cases e

/-- A list of our own gets a new head, by itself or by what is put behind it. -/
theorem replace_state (M : Mem w0 Ex Rd h ρ w) (hd : h[slot]? = some .free) {w' : World} {id : Nat} {e : TypeId} {c : Ty} {xs : List c.den} (hx : h[id]? = some (.arr e c xs)) {xs' : List c.den} {v' : Value}
    (hw : Chg w w' (fun k => blockOf (ρ id) = some k)) (hv' : ∀ b, blockOf v' = some b → blockOf (ρ id) = some b ∨ w.heap.size ≤ b)
    (hrep : (∀ k, okOf Rd h ρ w k → okOf Rd ((h.set id .dead).set slot (.arr e c xs')) (setρ slot [v'] ρ) w' k ∧ SameB w w' k) →
      BRep w' (okOf Rd ((h.set id .dead).set slot (.arr e c xs')) (setρ slot [v'] ρ) w') ((h.set id .dead).set slot (.arr e c xs')) (setρ slot [v'] ρ) (.arr e c xs') v')
    (hrun : (execOp ev op).run X.P w = .ok (.value v') w') (h1 : v'.oneCell' = true) :
    EffGives X w0 Ex Rd h ρ w slot ev op (.one (.own slot), [.arr e c xs'], [(id, .dead)]) := by
  have G := mem_replace (x' := .arr e c xs') M hx rfl rfl hd hw hv' (fun K => hrep K.mem)
  have hls : slot < h.length := (List.getElem?_eq_some_iff.1 hd).1
  refine ⟨v', w', setρ slot [v'] ρ, .inl hrun, G, _, List.getElem?_set_self (by simpa [sets] using hls), rfl, h1, fun _ => ?_⟩
  have := setρ_in (slot := slot) (vals := [v']) (ρ := ρ) (i := 0) (by simp)
  simpa using this.symm

theorem gives_slice_own (hX : CtxOk X) (M : Mem w0 Ex Rd h ρ w) (hd : h[slot]? = some .free) {t : TypeId} {x y : Operand} (ho : op.op = .slice t x (some y) none none) {id : Nat} {b : V} {e0 : TypeId} {c : Ty} {xs : List c.den}
    (hg : h.getD id .free = .arr e0 c xs) (he : X.elem t = some e0) (hty : X.ty e0 = some c)
    (ra : VRep w (okOf Rd h ρ w) h ρ (.one (.own id)) (ev x)) (rb : VRep w (okOf Rd h ρ w) h ρ b (ev y)) {k : IntKind} {l : Int} (hl : asInt b = some (k, l)) (h0 : 0 ≤ l) (h1 : l ≤ xs.length) :
    EffGives X w0 Ex Rd h ρ w slot ev op (.one (.own slot), [.arr e0 c (xs.drop l.toNat)], [(id, .dead)]) := by
  have hg' := getD_some hg (by simp)
  obtain ⟨y0, hy0, _, _, hx⟩ := ra
  rw [hg'] at hy0
  cases hy0
  have hx := hx (by simp)
  have hy := asInt_rep hl rb
  obtain ⟨A, cap, hv, hcap, hA⟩ := arr_of M hg'
  obtain ⟨ti, hinfo, hsz, _⟩ := hX.info e0 c hty
  have hrun : (execOp ev op).run X.P w = .ok (.value (.slice (if cap = l.toNat then A else A.map (·.add (l.toNat * ti.size))) (xs.length - l.toNat) (cap - l.toNat))) w := by
    have hr := bounds_run (P := X.P) (w := w) (ok := okOf Rd h ρ w) (h := h) (ρ := ρ) (ev := ev) (isS := true) (lo := some y) (hi := none) (bs := [b]) (len := xs.length) (cap := cap) (l := l) (n := xs.length) (by simp [bounds, hl]) (by simp [inBounds]; omega) hcap (.cons rb .nil)
    unfold execOp
    simp only [Option.map_some, Option.map_none, Int.toNat_natCast] at hr
    simp [ho, hx, hv, Instr.sliceAt, Instr.slice, run_underlying (elem_of he), hr, run_sizeOf' hinfo]
  refine replace_state M hd hg' ⟨rfl, rfl, rfl, Nat.le_refl _, fun _ _ _ => .inl rfl⟩ ?_ ?_ hrun rfl
  · intro b' hb
    left
    rw [hv]
    split at hb
    · cases A with
      | none => simp [blockOf] at hb
      | some a => exact hb
    · cases A with
      | none => simp [blockOf] at hb
      | some a =>
        simp only [Option.map_some, blockOf, Option.some.injEq] at hb ⊢
        rw [← hb]
        unfold Addr.add; split <;> rfl
  · intro hm
    refine ⟨if cap = l.toNat then A else A.map (·.add (l.toNat * ti.size)), cap - l.toNat, by rw [List.length_drop], by simp; omega, ?_⟩
    rcases hA with ⟨rfl, rfl⟩ | ⟨b2, o2, cells, fr, rfl, hw, hs2, hfr, hel⟩
    · left; constructor
      · split <;> rfl
      · omega
    · right
      have hm2 : l.toNat * c.size ≤ cap * c.size := Nat.mul_le_mul_right _ (by omega)
      refine ⟨b2, if cap = l.toNat then o2 else o2 + l.toNat * ti.size, cells, fr, ?_, hw, ?_, hfr, ?_⟩
      · split
        · rfl
        · simp [addr_add]
      · split
        · rename_i hc; rw [← hc]; simp; omega
        · rw [hsz, Nat.sub_mul]; omega
      · intro i hi
        have hi' : l.toNat + i < xs.length := by simp at hi; omega
        have hif : (if cap = l.toNat then o2 else o2 + l.toNat * ti.size) = o2 + l.toNat * c.size := by rw [if_neg (by omega), hsz]
        obtain ⟨cs, r, hj⟩ := hel (l.toNat + i) hi'
        refine ⟨cs, by rw [List.getElem_drop]; exact Rep.monoS hm r, fun j hj' => ?_⟩
        have := hj j hj'
        rw [hif, show o2 + l.toNat * c.size + (i * c.size + j) = o2 + ((l.toNat + i) * c.size + j) from by rw [Nat.add_mul]; omega]
        exact this

theorem gives_append_own (hX : CtxOk X) (M : Mem w0 Ex Rd h ρ w) (hd : h[slot]? = some .free) {cl : Call} {x y : Operand} (ho : op.op = .call cl) (hc : cl.callee = .builtin .append) (hargs : cl.args.toList = [x, y]) {tS tX : TypeId}
    (hat : cl.argTypes.toList = [tS, tX]) {id : Nat} {b : V} {e0 : TypeId} {c : Ty} {xs ys : List c.den} (hg : h.getD id .free = .arr e0 c xs) (he : X.elem tS = some e0) (hty : X.ty e0 = some c) (hsm : X.small e0 = true) (hsx : X.srcOk tX = true)
    (ra : VRep w (okOf Rd h ρ w) h ρ (.one (.own id)) (ev x)) (rb : VRep w (okOf Rd h ρ w) h ρ b (ev y)) (hys : listOf h c b = some ys) (hle : xs.length + ys.length ≤ lenBound) :
    EffGives X w0 Ex Rd h ρ w slot ev op (.one (.own slot), [.arr e0 c (xs ++ ys)], [(id, .dead)]) := by
  have hg' := getD_some hg (by simp)
  obtain ⟨y0, hy0, _, _, hx⟩ := ra
  rw [hg'] at hy0
  cases hy0
  have hx := hx (by simp)
  obtain ⟨d, hdx, hdk⟩ := srcOk_of hsx
  unfold lenBound at hle
  obtain ⟨i, hi, hsz, hz, h1, dd, hdd⟩ := hX.info e0 c hty
  have hby : i.bytes ≤ 16384 := by
    rw [← bytes_eq hi]; simpa [Ctx.small] using hsm
  obtain ⟨new, src, f⟩ := listOf_src (P := X.P) M hys rb
  rw [← hsz] at src
  obtain ⟨A, cap, hv, hcap, hA⟩ := arr_of M hg'
  obtain ⟨A', cap', hv', _, hel⟩ := elems_of_arr M hg'
  rw [hv] at hv'
  cases hv'
  obtain ⟨old, osrc, of⟩ := src_of_elems (P := X.P) (cap := cap) hel
  rw [← hsz] at osrc
  have hargs' : cl.args = #[x, y] := by rw [← hargs]
  have hat' : cl.argTypes = #[tS, tX] := by rw [← hat]
  have hexec : ∀ {u w'}, (Builtin.append_ #[tS, tX] op.type #[.slice A xs.length cap, ev y]).run X.P w = .ok u w' → (execOp ev op).run X.P w = .ok (.value u) w' := by
    intro u w' hr
    refine exec_builtin ho hc ?_
    simp only [builtin, hat', hargs', Sem.run_bind]
    simp [hx, hv, hr]
  have hnl := f.len
  by_cases hroom : xs.length + ys.length ≤ cap
  · -- into the room that is there
    have hA2 : A = none ∨ ∃ b o, A = some ⟨b, o, none⟩ ∧ (∀ j, j < new.length → (w.cell? ⟨b, o + xs.length * i.size + j, none⟩).isSome = true) ∧ (∀ j, j < new.length → w.frozen? ⟨b, o + xs.length * i.size + j, none⟩ = false) := by
      rcases hA with ⟨rfl, _⟩ | ⟨b2, o2, cells, fr, rfl, hw, hs2, hfr, _⟩
      · exact .inl rfl
      · right
        have hm : (xs.length + ys.length) * c.size ≤ cap * c.size := Nat.mul_le_mul_right _ hroom
        rw [Nat.add_mul] at hm
        refine ⟨b2, o2, rfl, fun j hj => heap_range hw _ (by rw [hsz]; omega), fun j hj => ?_⟩
        simp only [World.frozen?, hw]
        have := hfr (o2 + xs.length * i.size + j) (by rw [hsz]; omega)
        simp only [Bool.and_eq_false_iff, decide_eq_false_iff_not]
        by_cases hq : fr.1 ≤ o2 + xs.length * i.size + j
        · right; intro hq2; exact this ⟨hq, hq2⟩
        · left; exact hq
    have hr := append_room (ty := op.type) (elem_of he) hi hdx hdk src hroom hA2 f.one
    have hex := hexec hr
    rcases hA with ⟨rfl, rfl⟩ | ⟨b2, o2, cells, fr, rfl, hw, hs2, hfr, hel2⟩
    · have hx0 : xs = [] := List.eq_nil_of_length_eq_zero (by omega)
      have hy0 : ys = [] := List.eq_nil_of_length_eq_zero (by omega)
      refine replace_state M hd hg' ⟨rfl, rfl, rfl, Nat.le_refl _, fun _ _ _ => .inl rfl⟩ (fun b hb => by simp [blockOf] at hb) (fun _ => ⟨none, 0, by simp [hx0, hy0], by simp [hx0, hy0], .inl ⟨rfl, rfl⟩⟩) hex rfl
    · have hm : (xs.length + ys.length) * c.size ≤ cap * c.size := Nat.mul_le_mul_right _ hroom
      rw [Nat.add_mul] at hm
      have hbut := Chg.setCells w b2 (o2 + xs.length * i.size) new
      have hsame := setCells_same b2 new (o2 + xs.length * i.size) w cells.toList (by simpa using hw) (by rw [hsz]; simp; omega)
      have hcell : ∀ q, (cells.toList.take (o2 + xs.length * i.size) ++ new ++ cells.toList.drop (o2 + xs.length * i.size + new.length))[q]? = if o2 + xs.length * i.size ≤ q ∧ q < o2 + xs.length * i.size + new.length then new[q - (o2 + xs.length * i.size)]? else cells[q]? := by
        intro q
        have hl1 : (cells.toList.take (o2 + xs.length * i.size)).length = o2 + xs.length * i.size := by simp; rw [hsz]; omega
        split
        · rename_i hq
          rw [List.getElem?_append_left (by simp only [List.length_append, hl1]; omega), List.getElem?_append_right (by omega), hl1]
        · rename_i hq
          rcases Nat.lt_or_ge q (o2 + xs.length * i.size) with h1 | h1
          · rw [List.getElem?_append_left (by simp only [List.length_append, hl1]; omega), List.getElem?_append_left (by omega), List.getElem?_take_of_lt h1]
            simp
          · rw [List.getElem?_append_right (by simp only [List.length_append, hl1]; omega), List.getElem?_drop]
            simp only [List.length_append, hl1]
            rw [show o2 + xs.length * i.size + new.length + (q - (o2 + xs.length * i.size + new.length)) = q from by omega]
            simp
      refine replace_state M hd hg' ⟨hbut.os, hbut.tape, hbut.output, hbut.size, fun k hk hn => hbut.block k hk fun e => hn (by rw [hv, ← e]; rfl)⟩ (fun b hb => .inl (by rw [hv]; exact hb)) (fun hm' => ?_) hex rfl
      refine ⟨some ⟨b2, o2, none⟩, cap, by simp, by simpa using hroom, .inr ⟨b2, o2, _, fr, rfl, hsame, ?_, ?_, ?_⟩⟩
      · simp only [List.size_toArray, List.length_append, List.length_take, List.length_drop, Array.length_toList]; rw [hsz]; omega
      · intro q hq
        refine hfr q ?_
        simp only [List.size_toArray, List.length_append, List.length_take, List.length_drop, Array.length_toList] at hq
        rw [hsz] at hq
        omega
      · intro q hq
        rw [List.length_append] at hq
        rcases Nat.lt_or_ge q xs.length with hlt | hge
        · obtain ⟨cs, r, hj⟩ := hel2 q hlt
          have hcl := r.length
          refine ⟨cs, by rw [List.getElem_append_left hlt]; exact Rep.monoS hm' r, fun j hj' => ?_⟩
          have hq1 : (q + 1) * c.size ≤ xs.length * c.size := Nat.mul_le_mul_right _ hlt
          rw [Nat.add_mul, Nat.one_mul] at hq1
          rw [List.getElem?_toArray, hcell, if_neg (by rw [hsz]; omega)]
          exact hj j hj'
        · obtain ⟨cs, r, hcl, hj⟩ := f.rep (q - xs.length) (by omega)
          refine ⟨cs, by rw [List.getElem_append_right hge]; exact Rep.monoS hm' r, fun j hj' => ?_⟩
          have hn := hj j hj'
          have hlt := (List.getElem?_eq_some_iff.1 hn).1
          have hq1 : xs.length * c.size ≤ q * c.size := Nat.mul_le_mul_right _ hge
          have hq2 : (q - xs.length) * c.size = q * c.size - xs.length * c.size := Nat.sub_mul _ _ _
          rw [List.getElem?_toArray, hcell, if_pos (by rw [hsz]; omega)]
          rw [show o2 + (q * c.size + j) - (o2 + xs.length * i.size) = (q - xs.length) * c.size + j from by rw [hsz]; omega]
          exact hn
  · -- into a new array
    have hmul : (xs.length + ys.length) * i.bytes ≤ 4294967296 * 16384 := Nat.mul_le_mul hle hby
    have hr := append_grow (ty := op.type) (elem_of he) hi hz hdx hdk src hroom osrc (by omega) (by omega)
    have hex := hexec hr
    have hge := grownCap_ge w (xs.length + ys.length) cap e0
    have hnew := alloc_new w.drew (Obj.cells (old.toArray ++ new.toArray ++ Builtin.zeroCells (mkVal (X.agg e0) (zeroVals c)).cells (grownCap w (xs.length + ys.length) cap e0 - (xs.length + ys.length))) e0)
    have hext := (Ext.drew1 w).trans (Ext.alloc w.drew (Obj.cells (old.toArray ++ new.toArray ++ Builtin.zeroCells (mkVal (X.agg e0) (zeroVals c)).cells (grownCap w (xs.length + ys.length) cap e0 - (xs.length + ys.length))) e0))
    refine replace_state M hd hg' ⟨hext.os, hext.tape, hext.output, hext.size, fun k hk _ => .inl (hext.block k hk)⟩ (fun b hb => .inr (by simp only [blockOf, Option.some.injEq] at hb; omega)) (fun hm' => ?_) hex rfl
    refine ⟨some ⟨w.heap.size, 0, none⟩, grownCap w (xs.length + ys.length) cap e0, by simp, by simpa using hge, .inr ⟨w.heap.size, 0, _, _, rfl, hnew, ?_, fun k _ => by simp, ?_⟩⟩
    · simp only [Array.size_append, List.size_toArray, size_zeroCells, zeroVal_cells h1]
      have hzl : (zeroVals c).length = c.size := (zero_rep (w := w) (fun _ => True) c).length
      rw [hzl, f.len, of.len, Nat.zero_add, ← Nat.add_mul, ← Nat.add_mul]
      exact Nat.mul_le_mul_right _ (by omega)
    · intro q hq
      have F := (of.append f)
      obtain ⟨cs, r, hcl, hj⟩ := F.rep q hq
      refine ⟨cs, Rep.monoS hm' r, fun j hj' => ?_⟩
      have hn := hj j hj'
      have hlt := (List.getElem?_eq_some_iff.1 hn).1
      rw [Nat.zero_add, Array.getElem?_append_left (by simpa using hlt)]
      simpa using hn
end
end Go.Rx
/- Calls of functions with contracts: cells that are handed over. -/
namespace Go.Rx
variable [Tabs]

def hdr (ρ : Nat → Value) : Option Nat → Value
  | some i => ρ i
  | none => .slice none 0 0

def mTy : Option TypeId × Ty → Ty
  | (some _, .sl c) => c
  | (_, τ) => τ

def Conv (w : World) (ok ok' : Nat → Prop) (c : Ty) : Prop := ∀ x vs, Rep w ok c x vs → Rep w ok' c x vs

theorem rep_flatTy {w : World} {ok ok' : Nat → Prop} : ∀ {c : Ty} {x : c.den} {vs : List Value}, c.hasSl = false → Rep w ok c x vs → Rep w ok' c x vs
  | .int _, _, _, _, r => r
  | .bool, _, _, _, r => r
  | .str, _, _, _, r => r
  | .unit, _, _, _, r => r
  | .pair a b, _, _, hf, ⟨l, r, e, hl, hr⟩ => by
    simp only [Ty.hasSl, Bool.or_eq_false_iff] at hf
    exact ⟨l, r, e, rep_flatTy hf.1 hl, rep_flatTy hf.2 hr⟩
  | .sl _, _, _, hf, _ => by simp [Ty.hasSl] at hf
  | .old _, _, _, hf, _ => by simp [Ty.hasSl] at hf
  | .any, _, _, _, r => r

/-- Cells that are all written out. -/
def AllVal : List C → Prop
  | [] => True
  | .val _ _ :: cs => AllVal cs
  | _ :: _ => False

theorem AllVal.append {a b : List C} (h : AllVal a) (k : AllVal b) : AllVal (a ++ b) := by
  induction a with
  | nil => exact k
  | cons c cs ih => cases c with
    | val τ x => exact ih h
    | _ => exact h.elim

theorem cellTo_val {o : Bool} {hh : Heap} {τ : Ty} {c : C} {x : τ.den} (hv : AllVal [c]) (e : cellTo o hh τ c = some x) : c = .val τ x := by
  cases c with
  | val τ' x' => obtain ⟨rfl, rfl⟩ := castTy_eq e; rfl
  | _ => exact hv.elim

theorem AllVal.head {c : C} {cs : List C} (h : AllVal (c :: cs)) : AllVal [c] ∧ AllVal cs := by
  cases c with
  | val τ x => exact ⟨trivial, h⟩
  | _ => exact h.elim

theorem ofCells_val {o : Bool} {hh : Heap} : ∀ {c : Ty} {cs : List C} {x : c.den} {rest : List C}, AllVal cs → ofCells o hh c cs = some (x, rest) → cs = toCells c x ++ rest ∧ AllVal rest
  | .pair a b, cs, x, rest, hv, e => by
    simp only [ofCells] at e
    split at e
    · rename_i x1 cs1 h1
      split at e
      · rename_i x2 cs2 h2
        cases e
        obtain ⟨rfl, v1⟩ := ofCells_val hv h1
        obtain ⟨rfl, v2⟩ := ofCells_val v1 h2
        exact ⟨by simp [toCells], v2⟩
      · cases e
    · cases e
  | .unit, cs, x, rest, hv, e => by cases e; exact ⟨rfl, hv⟩
  | .int k, [], _, _, _, e => by simp [ofCells] at e
  | .bool, [], _, _, _, e => by simp [ofCells] at e
  | .str, [], _, _, _, e => by simp [ofCells] at e
  | .sl _, [], _, _, _, e => by simp [ofCells] at e
  | .old _, [], _, _, _, e => by simp [ofCells] at e
  | .any, [], _, _, _, e => by simp [ofCells] at e
  | .int k, c :: cs, x, rest, hv, e => by
    simp only [ofCells] at e
    split at e
    · rename_i y hy; cases e; obtain ⟨h1, h2⟩ := hv.head; rw [cellTo_val h1 hy]; exact ⟨rfl, h2⟩
    · cases e
  | .bool, c :: cs, x, rest, hv, e => by
    simp only [ofCells] at e
    split at e
    · rename_i y hy; cases e; obtain ⟨h1, h2⟩ := hv.head; rw [cellTo_val h1 hy]; exact ⟨rfl, h2⟩
    · cases e
  | .str, c :: cs, x, rest, hv, e => by
    simp only [ofCells] at e
    split at e
    · rename_i y hy; cases e; obtain ⟨h1, h2⟩ := hv.head; rw [cellTo_val h1 hy]; exact ⟨rfl, h2⟩
    · cases e
  | .sl _, c :: cs, x, rest, hv, e => by
    simp only [ofCells] at e
    split at e
    · rename_i y hy; cases e; obtain ⟨h1, h2⟩ := hv.head; rw [cellTo_val h1 hy]; exact ⟨rfl, h2⟩
    · cases e
  | .old _, c :: cs, x, rest, hv, e => by
    simp only [ofCells] at e
    split at e
    · rename_i y hy; cases e; obtain ⟨h1, h2⟩ := hv.head; rw [cellTo_val h1 hy]; exact ⟨rfl, h2⟩
    · cases e
  | .any, c :: cs, x, rest, hv, e => by
    simp only [ofCells] at e
    split at e
    · exact hv.elim
    · cases e

section
variable {X : Ctx} {w0 w : World} {Ex Rd : Nat → Prop} {h : Heap} {ρ : Nat → Value} {slot : Nat}

/-- Blocks 'bs' lie in H from n on, with the heads 'os'. -/
def Placed (H : Heap) (ρ' ρ : Nat → Value) (n : Nat) (bs : List Blk) (os : List (Option Nat)) : Prop := ∀ (j : Nat) b, bs[j]? = some b → H[n + j]? = some b ∧ ρ' (n + j) = hdr ρ (os.getD j none)

theorem Placed.tail {H : Heap} {ρ' ρ : Nat → Value} {n : Nat} {b : Blk} {o : Option Nat} {bs : List Blk} {os : List (Option Nat)} (p : Placed H ρ' ρ n (b :: bs) (o :: os)) : Placed H ρ' ρ (n + 1) bs os := fun j b' hb => by
  have := p (j + 1) b' (by simpa using hb)
  rw [show n + 1 + j = n + (j + 1) from by omega]
  simpa using this

theorem Placed.left {H : Heap} {ρ' ρ : Nat → Value} {n : Nat} {bs bs' : List Blk} {os os' : List (Option Nat)} (hl : bs.length = os.length) (p : Placed H ρ' ρ n (bs ++ bs') (os ++ os')) : Placed H ρ' ρ n bs os := fun j b hb => by
  have hj : j < bs.length := (List.getElem?_eq_some_iff.1 hb).1
  have := p j b (by rw [List.getElem?_append_left hj]; exact hb)
  rw [List.getD_eq_getElem?_getD, List.getElem?_append_left (by omega), ← List.getD_eq_getElem?_getD] at this
  exact this

theorem Placed.right {H : Heap} {ρ' ρ : Nat → Value} {n : Nat} {bs bs' : List Blk} {os os' : List (Option Nat)} (hl : bs.length = os.length) (p : Placed H ρ' ρ n (bs ++ bs') (os ++ os')) : Placed H ρ' ρ (n + bs.length) bs' os' := fun j b hb => by
  have := p (bs.length + j) b (by rw [List.getElem?_append_right (by omega)]; simpa using hb)
  rw [List.getD_eq_getElem?_getD, List.getElem?_append_right (by omega), ← List.getD_eq_getElem?_getD, show bs.length + j - os.length = j from by omega] at this
  rw [Nat.add_assoc]
  exact this

/-- The placed blocks are right, as lists. -/
def Lists (w : World) (ok : Nat → Prop) (H : Heap) (ρ' ρ : Nat → Value) (bs : List Blk) (os : List (Option Nat)) : Prop :=
  ∀ (j : Nat) b, bs[j]? = some b → b.isL = true ∧ b.lives = true ∧ BRep w ok H ρ' b (hdr ρ (os.getD j none))

theorem Lists.append {ok : Nat → Prop} {H : Heap} {ρ' ρ : Nat → Value} {bs bs' : List Blk} {os os' : List (Option Nat)} (hl : bs.length = os.length) (a : Lists w ok H ρ' ρ bs os) (b : Lists w ok H ρ' ρ bs' os') : Lists w ok H ρ' ρ (bs ++ bs') (os ++ os') := by
  intro j x hx
  rcases Nat.lt_or_ge j bs.length with hj | hj
  · rw [List.getElem?_append_left hj] at hx
    rw [List.getD_eq_getElem?_getD, List.getElem?_append_left (by omega), ← List.getD_eq_getElem?_getD]
    exact a j x hx
  · rw [List.getElem?_append_right hj] at hx
    rw [List.getD_eq_getElem?_getD, List.getElem?_append_right (by omega), ← List.getD_eq_getElem?_getD, ← hl]
    exact b _ x hx

theorem exitCells_val : ∀ (ms : Cells) {cs xs : List C} {os : List (Option Nat)} {rest : List C}, exitCells h ms cs = some (xs, os, rest) → AllVal xs := by
  intro ms
  induction ms with
  | nil => intro cs xs os rest e; simp only [exitCells, Option.some.injEq, Prod.mk.injEq] at e; obtain ⟨rfl, _⟩ := e; trivial
  | cons m ms ih =>
    intro cs xs os rest e
    unfold exitCells at e
    split at e
    · rename_i hm; cases hm
    · rename_i τ ms' c cs' hm
      cases hm
      split at e
      · split at e
        · rename_i h2; cases e; exact (ih h2 :)
        · cases e
      · cases e
    · rename_i e0 c ms' i cs' hm
      cases hm
      split at e
      · split at e
        · split at e
          · rename_i h2; cases e; exact (ih h2 :)
          · cases e
        · cases e
      · cases e
    · rename_i e0 c ms' cs' hm
      cases hm
      split at e
      · rename_i h2; cases e; exact (ih h2 :)
      · cases e
    · rename_i hm; cases hm; exact (ih e :)
    · cases e

theorem transfer (M : Mem w0 Ex Rd h ρ w) : ∀ (ms : Cells) {cs xs : List C} {os : List (Option Nat)} {rest : List C} {us : List Value}, exitCells h ms cs = some (xs, os, rest) → CsRep w (okOf Rd h ρ w) h ρ cs us →
    ∃ us1 us2, us = us1 ++ us2 ∧ CsRep w (okOf Rd h ρ w) h ρ rest us2 ∧
    ∀ {more : List C} {n : Nat} {ds : List C} {bs : List Blk} {more' : List C}, placeCells ms (xs ++ more) n = some (ds, bs, more') → more' = more ∧ bs.length = os.length ∧
      ∀ {ok' : Nat → Prop}, (∀ m ∈ ms, Conv w (okOf Rd h ρ w) ok' (mTy m)) → ∀ {H : Heap} {ρ' : Nat → Value}, Placed H ρ' ρ n bs os → CsRep w ok' H ρ' ds us1 ∧ Lists w ok' H ρ' ρ bs os := by
  intro ms
  induction ms with
  | nil =>
    intro cs xs os rest us e r
    simp only [exitCells, Option.some.injEq, Prod.mk.injEq] at e
    obtain ⟨rfl, rfl, rfl⟩ := e
    refine ⟨[], us, rfl, r, fun {more n ds bs more'} e => ?_⟩
    simp only [placeCells, List.nil_append, Option.some.injEq, Prod.mk.injEq] at e
    obtain ⟨rfl, rfl, rfl⟩ := e
    exact ⟨rfl, rfl, fun _ _ _ _ => ⟨.nil, fun j b hb => by simp at hb⟩⟩
  | cons m ms ih =>
    intro cs xs os rest us e r
    unfold exitCells at e
    split at e
    · rename_i hm; cases hm
    · rename_i τ ms' c cs' hm
      cases hm
      split at e
      · rename_i x hx
        split at e
        · rename_i vs ids r' h2
          cases e
          cases r with
          | cons rc t =>
            obtain ⟨us1, us2, rfl, hrest, hp⟩ := ih h2 t
            refine ⟨_ :: us1, us2, rfl, hrest, fun {more n ds bs more'} e => ?_⟩
            simp only [List.cons_append, placeCells] at e
            split at e
            · rename_i ds' bs' r'' hpl
              cases e
              obtain ⟨h1, h2, h3⟩ := hp hpl
              refine ⟨h1, h2, fun {ok'} hc {H ρ'} hP => ?_⟩
              obtain ⟨h4, h5⟩ := h3 (fun m hm => hc m (List.mem_cons_of_mem _ hm)) hP
              exact ⟨.cons (hc (none, τ) (by simp) _ _ (cellTo_ro M hx rc)) h4, h5⟩
            · cases e
        · cases e
      · cases e
    · rename_i e0 c ms' i cs' hm
      cases hm
      split at e
      · rename_i e' c' xs' hg
        split at e
        · rename_i hec
          obtain ⟨rfl, rfl⟩ := hec
          split at e
          · rename_i vs ids r' h2
            cases e
            cases r with
            | cons rc t =>
              have hg' := getD_some hg (by simp)
              obtain ⟨us1, us2, rfl, hrest, hp⟩ := ih h2 t
              refine ⟨_ :: us1, us2, rfl, hrest, fun {more n ds bs more'} e => ?_⟩
              simp only [List.cons_append, placeCells, if_true] at e
              split at e
              · rename_i ds' bs' r'' hpl
                cases e
                obtain ⟨h1, h2, h3⟩ := hp hpl
                refine ⟨h1, by simp [h2], fun {ok'} hc {H ρ'} hP => ?_⟩
                obtain ⟨h4, h5⟩ := h3 (fun m hm => hc m (List.mem_cons_of_mem _ hm)) hP.tail
                obtain ⟨hH, hρ⟩ := hP 0 _ rfl
                obtain ⟨y, hy, _, h1c, hv⟩ := rc
                rw [hg'] at hy
                cases hy
                refine ⟨.cons ⟨_, hH, rfl, h1c, fun _ => (hv (by simp)).trans hρ.symm⟩ h4, fun j b hb => ?_⟩
                match j with
                | 0 =>
                  cases hb
                  refine ⟨rfl, rfl, ?_⟩
                  obtain ⟨A, cap, h6, h7, h8⟩ := arr_of M hg'
                  refine ⟨A, cap, h6, h7, h8.imp id fun ⟨b, o, cells, fr, k1, k2, k3, k4, k5⟩ => ⟨b, o, cells, fr, k1, k2, k3, k4, fun i hi => ?_⟩⟩
                  obtain ⟨cs, k6, k7⟩ := k5 i hi
                  exact ⟨cs, hc (some e0, .sl c) (by simp) _ _ k6, k7⟩
                | j + 1 => exact h5 j b (by simpa using hb)
              · cases e
          · cases e
        · cases e
      · cases e
    · rename_i e0 c ms' cs' hm
      cases hm
      split at e
      · rename_i vs ids r' h2
        cases e
        cases r with
        | cons rc t =>
          obtain ⟨us1, us2, rfl, hrest, hp⟩ := ih h2 t
          refine ⟨_ :: us1, us2, rfl, hrest, fun {more n ds bs more'} e => ?_⟩
          simp only [List.cons_append, placeCells, if_true] at e
          split at e
          · rename_i ds' bs' r'' hpl
            cases e
            obtain ⟨h1, h2, h3⟩ := hp hpl
            refine ⟨h1, by simp [h2], fun {ok'} hc {H ρ'} hP => ?_⟩
            obtain ⟨h4, h5⟩ := h3 (fun m hm => hc m (List.mem_cons_of_mem _ hm)) hP.tail
            obtain ⟨hH, hρ⟩ := hP 0 _ rfl
            cases rc
            refine ⟨.cons ⟨_, hH, rfl, rfl, fun _ => hρ.symm⟩ h4, fun j b hb => ?_⟩
            match j with
            | 0 => cases hb; exact ⟨rfl, rfl, none, 0, rfl, Nat.le_refl _, .inl ⟨rfl, rfl⟩⟩
            | j + 1 => exact h5 j b (by simpa using hb)
          · cases e
      · cases e
    · rename_i e0 ms' cs' hm
      cases hm
      cases r with
      | cons rc t =>
        obtain ⟨us1, us2, rfl, hrest, hp⟩ := ih e t
        refine ⟨_ :: us1, us2, rfl, hrest, fun {more n ds bs more'} e => ?_⟩
        simp only [placeCells] at e
        split at e
        · rename_i ds' bs' r'' hpl
          cases e
          obtain ⟨h1, h2, h3⟩ := hp hpl
          refine ⟨h1, h2, fun {ok'} hc {H ρ'} hP => ?_⟩
          obtain ⟨h4, h5⟩ := h3 (fun m hm => hc m (List.mem_cons_of_mem _ hm)) hP
          exact ⟨.cons rc h4, h5⟩
        · cases e
    · cases e

/-- A part of a result. -/
def PRep (w : World) (ok : Nat → Prop) (h : Heap) (ρ : Nat → Value) (p : Bool × List C) (u : Value) : Prop :=
  (p.1 = true ∧ ∃ vs : List Value, u = .agg vs.toArray ∧ CsRep w ok h ρ p.2 vs) ∨ (p.1 = false ∧ ∃ x, p.2 = [x] ∧ CRep w ok h ρ x u)

theorem exitRets_val : ∀ (rs : List (Bool × Cells)) {vs : List (Bool × List C)} {xs : List C} {os : List (Option Nat)}, exitRets h rs vs = some (xs, os) → AllVal xs := by
  intro rs
  induction rs with
  | nil =>
    intro vs xs os e
    cases vs with
    | nil => simp only [exitRets, Option.some.injEq, Prod.mk.injEq] at e; obtain ⟨rfl, _⟩ := e; trivial
    | cons v vs => simp [exitRets] at e
  | cons r rs ih =>
    intro vs xs os e
    obtain ⟨a, ms⟩ := r
    cases vs with
    | nil => simp [exitRets] at e
    | cons v vs =>
      obtain ⟨b, cs⟩ := v
      simp only [exitRets] at e
      split at e
      · split at e
        · rename_i h1
          split at e
          · rename_i h2; cases e; exact (exitCells_val _ h1).append (ih h2)
          · cases e
        · cases e
      · cases e

theorem transferRets (M : Mem w0 Ex Rd h ρ w) : ∀ (rs : List (Bool × Cells)) {vs : List (Bool × List C)} {xs : List C} {os : List (Option Nat)} {us : List Value}, exitRets h rs vs = some (xs, os) → All2 (PRep w (okOf Rd h ρ w) h ρ) vs us →
    ∀ {more : List C} {n : Nat} {ds : List (Bool × List C)} {bs : List Blk} {more' : List C}, placeRets rs (xs ++ more) n = some (ds, bs, more') → more' = more ∧ bs.length = os.length ∧
      ∀ {ok' : Nat → Prop}, (∀ r ∈ rs, ∀ m ∈ r.2, Conv w (okOf Rd h ρ w) ok' (mTy m)) → ∀ {H : Heap} {ρ' : Nat → Value}, Placed H ρ' ρ n bs os → All2 (PRep w ok' H ρ') ds us ∧ Lists w ok' H ρ' ρ bs os := by
  intro rs
  induction rs with
  | nil =>
    intro vs xs os us e r more n ds bs more' e2
    cases vs with
    | cons v vs => simp [exitRets] at e
    | nil =>
      simp only [exitRets, Option.some.injEq, Prod.mk.injEq] at e
      obtain ⟨rfl, rfl⟩ := e
      simp only [placeRets, List.nil_append, Option.some.injEq, Prod.mk.injEq] at e2
      obtain ⟨rfl, rfl, rfl⟩ := e2
      cases r
      exact ⟨rfl, rfl, fun _ _ _ _ => ⟨.nil, fun j b hb => by simp at hb⟩⟩
  | cons q rs ih =>
    intro vs xs os us e r more n ds bs more' e2
    obtain ⟨a, ms⟩ := q
    cases vs with
    | nil => simp [exitRets] at e
    | cons v vs =>
      obtain ⟨b, cs⟩ := v
      cases r with
      | cons rp t =>
        simp only [exitRets] at e
        split at e
        · rename_i hab
          subst hab
          split at e
          · rename_i xs1 os1 h1
            split at e
            · rename_i xs2 os2 h2
              cases e
              simp only [placeRets, List.append_assoc] at e2
              split at e2
              · rename_i ds1 bs1 cs1 h3
                split at e2
                · rename_i ds2 bs2 r2 h4
                  cases e2
                  have key : ∀ {vs1 : List Value}, CsRep w (okOf Rd h ρ w) h ρ cs vs1 → cs1 = xs2 ++ more ∧ bs1.length = os1.length ∧ ∀ {ok' : Nat → Prop}, (∀ m ∈ ms, Conv w (okOf Rd h ρ w) ok' (mTy m)) → ∀ {H : Heap} {ρ' : Nat → Value}, Placed H ρ' ρ n bs1 os1 → CsRep w ok' H ρ' ds1 vs1 ∧ Lists w ok' H ρ' ρ bs1 os1 := by
                    intro vs1 rcs
                    obtain ⟨us1, us2, rfl, hrest, hp⟩ := transfer M ms h1 rcs
                    cases hrest
                    obtain ⟨k1, k2, k3⟩ := hp h3
                    exact ⟨k1, k2, fun hc H ρ' hP => by rw [List.append_nil]; exact k3 hc hP⟩
                  rcases rp with ⟨ha, vs1, rfl, rcs⟩ | ⟨ha, x, hx, rx⟩
                  · obtain ⟨k1, k2, k3⟩ := key rcs
                    rw [k1] at h4
                    obtain ⟨k4, k5, k6⟩ := ih h2 t h4
                    refine ⟨k4, by simp [k2, k5], fun {ok'} hc {H ρ'} hP => ?_⟩
                    obtain ⟨k7, k8⟩ := k3 (fun m hm => hc (a, ms) (by simp) m hm) (hP.left k2)
                    obtain ⟨k9, k10⟩ := k6 (fun r hr => hc r (List.mem_cons_of_mem _ hr)) (hP.right k2)
                    exact ⟨.cons (.inl ⟨ha, vs1, rfl, k7⟩) k9, k8.append k2 k10⟩
                  · dsimp only at hx
                    subst hx
                    obtain ⟨k1, k2, k3⟩ := key (.cons rx .nil)
                    rw [k1] at h4
                    obtain ⟨k4, k5, k6⟩ := ih h2 t h4
                    refine ⟨k4, by simp [k2, k5], fun {ok'} hc {H ρ'} hP => ?_⟩
                    obtain ⟨k7, k8⟩ := k3 (fun m hm => hc (a, ms) (by simp) m hm) (hP.left k2)
                    obtain ⟨k9, k10⟩ := k6 (fun r hr => hc r (List.mem_cons_of_mem _ hr)) (hP.right k2)
                    refine ⟨.cons (.inr ⟨ha, ?_⟩) k9, k8.append k2 k10⟩
                    match ds1, k7 with
                    | [d], .cons rd .nil => exact ⟨d, rfl, rd⟩
                · cases e2
              · cases e2
            · cases e
          · cases e
        · cases e

/-- Results as one value. -/
theorem retV_rep {ok : Nat → Prop} {H : Heap} {ρ' : Nat → Value} {rv : V} {u : Value} (r : VRep w ok h ρ rv u) (hok : retOk rv = true) : ∃ us, All2 (PRep w ok h ρ) (retParts rv) us ∧
    ∀ {ds : List (Bool × List C)} {ok' : Nat → Prop}, All2 (PRep w ok' H ρ') ds us → VRep w ok' H ρ' (retV ds) u := by
  cases rv with
  | undef => cases hok
  | one x =>
    refine ⟨[u], .cons (.inr ⟨rfl, x, rfl, r⟩) .nil, fun {ds ok'} h => ?_⟩
    match ds, h with
    | [(a, cs)], .cons (.inl ⟨ha, vs, e, rc⟩) .nil =>
      dsimp only at ha rc
      subst ha
      exact ⟨vs, e, rc⟩
    | [(a, cs)], .cons (.inr ⟨ha, y, e, rc⟩) .nil =>
      dsimp only at ha e
      subst ha; subst e
      exact rc
  | agg cs =>
    obtain ⟨vs, e, rc⟩ := r
    refine ⟨[u], .cons (.inl ⟨rfl, vs, e, rc⟩) .nil, fun {ds ok'} h => ?_⟩
    match ds, h with
    | [(a, cs)], .cons (.inl ⟨ha, vs, e, rc⟩) .nil =>
      dsimp only at ha rc
      subst ha
      exact ⟨vs, e, rc⟩
    | [(a, cs)], .cons (.inr ⟨ha, y, e, rc⟩) .nil =>
      dsimp only at ha e
      subst ha; subst e
      exact rc
  | tup ps =>
    obtain ⟨us, e, rp⟩ := r
    refine ⟨us, rp, fun {ds ok'} h => ?_⟩
    have hl : ds.length = us.length := h.length
    have hl2 : ps.length = us.length := rp.length
    match ds, hl with
    | [], _ => exact ⟨us, e, h⟩
    | [d], hl =>
      match ps, hl2 with
      | [p], _ => cases hok
      | [], hl2 => simp at hl hl2; omega
      | _ :: _ :: _, hl2 => simp at hl hl2; omega
    | _ :: _ :: _, _ => exact ⟨us, e, h⟩
end
end Go.Rx
/- Calls: what a call begins with, what it ends with. -/
namespace Go.Rx
variable [Tabs]
section
variable {X : Ctx} {w0 w : World} {Ex Rd : Nat → Prop} {h : Heap} {ρ : Nat → Value} {slot : Nat}

theorem exitRefs_val : ∀ (ps : List PK) {ids : List Nat} {xs : List C} {os : List (Option Nat)}, exitRefs h ps ids = some (xs, os) → AllVal xs := by
  intro ps
  induction ps with
  | nil =>
    intro ids xs os e
    cases ids with
    | nil => simp only [exitRefs, Option.some.injEq, Prod.mk.injEq] at e; obtain ⟨rfl, _⟩ := e; trivial
    | cons v vs => simp [exitRefs] at e
  | cons p ps ih =>
    intro ids xs os e
    cases p with
    | val a τ => exact ih (by simpa only [exitRefs] using e)
    | given e0 c0 => exact ih (by simpa only [exitRefs] using e)
    | ref t ms =>
      cases ids with
      | nil => simp [exitRefs] at e
      | cons i ids =>
        simp only [exitRefs] at e
        split at e
        · split at e
          · split at e
            · rename_i h1
              split at e
              · rename_i h2; cases e; exact (exitCells_val _ h1).append (ih h2)
              · cases e
            · cases e
          · cases e
        · cases e
    | lent a ms =>
      cases ids with
      | nil => simp [exitRefs] at e
      | cons i ids =>
        simp only [exitRefs] at e
        split at e
        · split at e
          · split at e
            · rename_i h2; cases e; exact (ih h2 :)
            · cases e
          · cases e
        · cases e

theorem lentAt_of : ∀ {ms : Cells} {cs : List C} {i : Nat} {e : TypeId} {c : Ty}, lentAt ms cs = some (i, e, c) → lentOf ms = some (e, c) := by
  intro ms
  induction ms with
  | nil => intro cs i e c h; simp [lentAt] at h
  | cons m ms ih =>
    intro cs i e c h
    unfold lentAt at h
    split at h
    · rename_i hm; cases hm; cases h; rfl
    · rename_i hm; cases hm; simpa only [lentOf] using ih h
    · cases h

theorem lentOf_mem : ∀ {ms : Cells} {e : TypeId} {c : Ty}, lentOf ms = some (e, c) → (some e, .sl c) ∈ ms := by
  intro ms
  induction ms with
  | nil => intro e c h; simp [lentOf] at h
  | cons m ms ih =>
    intro e c h
    unfold lentOf at h
    split at h
    · rename_i hm; cases hm; cases h; simp
    · rename_i hm; cases hm; exact List.mem_cons_of_mem _ (ih h)
    · cases h

def PK.cells : PK → Cells
  | .val .. => []
  | .ref _ ms => ms
  | .lent _ ms => ms
  | .given e c => [(some e, .sl c)]
def ConvPK (w : World) (ok ok' : Nat → Prop) (ps : List PK) : Prop := ∀ p ∈ ps, ∀ m ∈ p.cells, Conv w ok ok' (mTy m)
theorem ConvPK.tail {w : World} {ok ok' : Nat → Prop} {p : PK} {ps : List PK} (h : ConvPK w ok ok' (p :: ps)) : ConvPK w ok ok' ps := fun q hq => h q (List.mem_cons_of_mem _ hq)
theorem ConvPK.head {w : World} {ok ok' : Nat → Prop} {p : PK} {ps : List PK} (h : ConvPK w ok ok' (p :: ps)) : ∀ m ∈ p.cells, Conv w ok ok' (mTy m) := h p (by simp)

theorem transferRefs (M : Mem w0 Ex Rd h ρ w) : ∀ (ps : List PK) {ids : List Nat} {xs : List C} {os : List (Option Nat)}, exitRefs h ps ids = some (xs, os) →
    ∀ {vs : List V} {more : List C} {n : Nat} {us : List (Nat × Blk)} {bs : List Blk} {more' : List C}, placeRefs ps vs (xs ++ more) n = some (us, bs, more') → more' = more ∧ bs.length = os.length ∧ us.map (·.1) = ptrsOf ps vs ∧
      ∀ {ok' : Nat → Prop}, ConvPK w (okOf Rd h ρ w) ok' ps → ∀ {H : Heap} {ρ' : Nat → Value}, Placed H ρ' ρ n bs os → Lists w ok' H ρ' ρ bs os ∧
        All2 (fun (p : Nat × Blk) r => ((∃ t ds, p.2 = .vars t ds ∧ ∃ cs, h[r]? = some (.vars t cs)) ∨ ∃ e c xs, p.2 = .arr e c xs ∧ h[r]? = some (.arr e c xs)) ∧ BRep w ok' H ρ' p.2 (ρ r)) us ids := by
  intro ps
  induction ps with
  | nil =>
    intro ids xs os e vs more n us bs more' e2
    cases ids with
    | cons i ids => simp [exitRefs] at e
    | nil =>
      simp only [exitRefs, Option.some.injEq, Prod.mk.injEq] at e
      obtain ⟨rfl, rfl⟩ := e
      cases vs with
      | cons v vs => simp [placeRefs] at e2
      | nil =>
        simp only [placeRefs, List.nil_append, Option.some.injEq, Prod.mk.injEq] at e2
        obtain ⟨rfl, rfl, rfl⟩ := e2
        exact ⟨rfl, rfl, rfl, fun _ _ _ _ => ⟨fun j b hb => by simp at hb, .nil⟩⟩
  | cons p ps ih =>
    intro ids xs os e vs more n us bs more' e2
    cases p with
    | val a τ =>
      cases vs with
      | nil => simp [placeRefs] at e2
      | cons v vs =>
        simp only [exitRefs] at e
        simp only [placeRefs] at e2
        obtain ⟨h1, h2, h3, h4⟩ := ih e e2
        exact ⟨h1, h2, by simpa only [ptrsOf] using h3, fun {ok'} hc => h4 hc.tail⟩
    | given e0 c0 =>
      cases vs with
      | nil => simp [placeRefs] at e2
      | cons v vs =>
        simp only [exitRefs] at e
        simp only [placeRefs] at e2
        obtain ⟨h1, h2, h3, h4⟩ := ih e e2
        exact ⟨h1, h2, by simpa only [ptrsOf] using h3, fun {ok'} hc => h4 hc.tail⟩
    | ref t ms =>
      cases ids with
      | nil => simp [exitRefs] at e
      | cons i ids =>
        simp only [exitRefs] at e
        split at e
        · rename_i t' cs hg
          split at e
          · rename_i ht
            subst ht
            split at e
            · rename_i xs1 os1 h1
              split at e
              · rename_i xs2 os2 h2
                cases e
                have hg' := getD_some hg (by simp)
                obtain ⟨b, vs0, hv, hw, rcs⟩ := M.blocks i _ hg'
                obtain ⟨us1, us2, hus, hrest, hp⟩ := transfer M ms h1 rcs
                cases hrest
                rw [List.append_nil] at hus
                subst hus
                unfold placeRefs at e2
                split at e2
                · rename_i hm; cases hm
                · rename_i hm; cases hm
                · rename_i hm; cases hm
                · rename_i t1 ms1 ps1 id vs1 cs1 n1 hm
                  cases hm
                  rw [List.append_assoc] at e2
                  split at e2
                  · rename_i ds1 bs1 cs1 h3
                    split at e2
                    · rename_i us2 bs2 r2 h4
                      cases e2
                      obtain ⟨k1, k2, k3⟩ := hp h3
                      subst k1
                      obtain ⟨k4, k5, k6, k7⟩ := ih h2 h4
                      refine ⟨k4, by simp [k2, k5], by simp [ptrsOf, k6], fun {ok'} hc {H ρ'} hP => ?_⟩
                      obtain ⟨k8, k9⟩ := k3 hc.head (hP.left k2)
                      obtain ⟨k10, k11⟩ := k7 hc.tail (hP.right k2)
                      exact ⟨k9.append k2 k10, .cons ⟨.inl ⟨t, ds1, rfl, cs, hg'⟩, b, vs0, hv, hw, k8⟩ k11⟩
                    · cases e2
                  · cases e2
                · rename_i hm _; cases hm
                · cases e2
              · cases e
            · cases e
          · cases e
        · cases e
    | lent ag ms =>
      cases ids with
      | nil => simp [exitRefs] at e
      | cons i ids =>
        simp only [exitRefs] at e
        split at e
        · rename_i e0 c0 xs0 hg
          split at e
          · rename_i hlo
            split at e
            · rename_i xs2 os2 h2
              cases e
              have hg' := getD_some hg (by simp)
              unfold placeRefs at e2
              split at e2
              · rename_i hm; cases hm
              · rename_i hm; cases hm
              · rename_i hm; cases hm
              · rename_i hm; cases hm
              · rename_i a1 ms1 ps1 v1 vs1 c1 xs1 cs1 n1 hm hm2
                cases hm
                cases hm2
                split at e2
                · rename_i id e3 c3 hla
                  split at e2
                  · rename_i hcc
                    split at e2
                    · rename_i us2 bs2 r2 h4
                      cases e2
                      have := (lentAt_of hla).symm.trans hlo
                      cases this
                      obtain ⟨k4, k5, k6, k7⟩ := ih h2 h4
                      refine ⟨k4, k5, by simp [ptrsOf, hla, k6], fun {ok'} hc {H ρ'} hP => ?_⟩
                      obtain ⟨k10, k11⟩ := k7 hc.tail hP
                      refine ⟨k10, .cons ⟨.inr ⟨_, _, _, rfl, hg'⟩, ?_⟩ k11⟩
                      obtain ⟨A, cap, h6, h7, h8⟩ := arr_of M hg'
                      refine ⟨A, cap, h6, h7, h8.imp _root_.id fun ⟨b, o, cells, fr, k1, k2, k3, k4, k5⟩ => ⟨b, o, cells, fr, k1, k2, k3, k4, fun j hj => ?_⟩⟩
                      obtain ⟨cs, k6, k7⟩ := k5 j hj
                      exact ⟨cs, hc.head _ (lentOf_mem hlo) _ _ k6, k7⟩
                    · cases e2
                  · cases e2
                · cases e2
              · cases e2
            · cases e
          · cases e
        · cases e

theorem place_ok : ∀ (ms : Cells) {cs xs : List C} {os : List (Option Nat)} {rest : List C}, exitCells h ms cs = some (xs, os, rest) → ∀ (more : List C) (n : Nat), ∃ ds bs, placeCells ms (xs ++ more) n = some (ds, bs, more) := by
  intro ms
  induction ms with
  | nil =>
    intro cs xs os rest e more n
    simp only [exitCells, Option.some.injEq, Prod.mk.injEq] at e; obtain ⟨rfl, _⟩ := e
    exact ⟨[], [], by simp [placeCells]⟩
  | cons m ms ih =>
    intro cs xs os rest e more n
    unfold exitCells at e
    split at e
    · rename_i hm; cases hm
    · rename_i τ ms' c cs' hm
      cases hm
      split at e
      · split at e
        · rename_i h2; cases e
          obtain ⟨ds, bs, h3⟩ := ih h2 more n
          simp only [List.cons_append, placeCells, h3]; exact ⟨_, _, rfl⟩
        · cases e
      · cases e
    · rename_i e0 c ms' i cs' hm
      cases hm
      split at e
      · split at e
        · rename_i hec
          obtain ⟨rfl, rfl⟩ := hec
          split at e
          · rename_i h2; cases e
            obtain ⟨ds, bs, h3⟩ := ih h2 more (n + 1)
            simp only [List.cons_append, placeCells, h3, if_true]; exact ⟨_, _, rfl⟩
          · cases e
        · cases e
      · cases e
    · rename_i e0 c ms' cs' hm
      cases hm
      split at e
      · rename_i h2; cases e
        obtain ⟨ds, bs, h3⟩ := ih h2 more (n + 1)
        simp only [List.cons_append, placeCells, h3, if_true]; exact ⟨_, _, rfl⟩
      · cases e
    · rename_i e0 ms' cs' hm
      cases hm
      obtain ⟨ds, bs, h3⟩ := ih e more n
      simp only [placeCells, h3]; exact ⟨_, _, rfl⟩
    · cases e

/-- Entry blocks are right. -/
def Blocks (w : World) (ok : Nat → Prop) (H : Heap) (ρ' ρ : Nat → Value) (bs : List Blk) (os : List (Option Nat)) : Prop :=
  ∀ (j : Nat) b, bs[j]? = some b → b.lives = true ∧ BRep w ok H ρ' b (hdr ρ (os.getD j none))

theorem Blocks.append {ok : Nat → Prop} {H : Heap} {ρ' ρ : Nat → Value} {bs bs' : List Blk} {os os' : List (Option Nat)} (hl : bs.length = os.length) (a : Blocks w ok H ρ' ρ bs os) (b : Blocks w ok H ρ' ρ bs' os') : Blocks w ok H ρ' ρ (bs ++ bs') (os ++ os') := by
  intro j x hx
  rcases Nat.lt_or_ge j bs.length with hj | hj
  · rw [List.getElem?_append_left hj] at hx
    rw [List.getD_eq_getElem?_getD, List.getElem?_append_left (by omega), ← List.getD_eq_getElem?_getD]
    exact a j x hx
  · rw [List.getElem?_append_right hj] at hx
    rw [List.getD_eq_getElem?_getD, List.getElem?_append_right (by omega), ← List.getD_eq_getElem?_getD, ← hl]
    exact b _ x hx

theorem Lists.blocks {ok : Nat → Prop} {H : Heap} {ρ' ρ : Nat → Value} {bs : List Blk} {os : List (Option Nat)} (a : Lists w ok H ρ' ρ bs os) : Blocks w ok H ρ' ρ bs os := fun j b hb => ⟨(a j b hb).2.1, (a j b hb).2.2⟩

/-- Values of arguments may be read. -/
def ValOk (w : World) (o : Bool) (h : Heap) (ok ok' : Nat → Prop) (ρ : Nat → Value) (L : List Nat) : Prop :=
  ∀ {τ : Ty} {c : C} {x : τ.den} {u : Value}, cellTo o h τ c = some x → CRep w ok h ρ c u ∧ (∀ id, c = .own id → id ∈ L) → Rep w ok' τ x [u]

theorem mem_ownIds {id : Nat} : ∀ {cs : List C}, C.own id ∈ cs → id ∈ C.ownIds cs
  | c :: cs, hm => by
    rcases List.mem_cons.1 hm with rfl | hm
    · simp [C.ownIds]
    · have := mem_ownIds hm
      cases c <;> simp [C.ownIds, this]

theorem all2_mem {A B : Type} {R : A → B → Prop} : ∀ {as : List A} {bs : List B}, All2 R as bs → All2 (fun a b => R a b ∧ a ∈ as) as bs
  | _, _, .nil => .nil
  | _, _, .cons h t => .cons ⟨h, by simp⟩ ((all2_mem t).mono fun _ _ ⟨h1, h2⟩ => ⟨h1, List.mem_cons_of_mem _ h2⟩)

theorem entry_one (M : Mem w0 Ex Rd h ρ w) {o : Bool} {ok' : Nat → Prop} {L : List Nat} (hval : ValOk w o h (okOf Rd h ρ w) ok' ρ L) {p : PK} {v : V} {x : p.ty.den} {es : List (Option Nat)} {u : Value}
    (e : decArg o h p v = some (x, es)) (r : VRep w (okOf Rd h ρ w) h ρ v u) (hL0 : ∀ id ∈ lendIds [p] [v], id ∈ L) (n : Nat) :
    (entryArg p x n).2.length = es.length ∧ (∀ id, some id ∈ es → ∃ y, h[id]? = some y ∧ y.lives = true) ∧
      (ConvPK w (okOf Rd h ρ w) ok' [p] → ∀ {H : Heap} {ρ' : Nat → Value}, Placed H ρ' ρ n (entryArg p x n).2 es → VRep w ok' H ρ' (entryArg p x n).1 u ∧ Blocks w ok' H ρ' ρ (entryArg p x n).2 es) := by
  cases p with
  | val agg τ =>
    have hL : ∀ id ∈ C.ownIds v.cells, id ∈ L := fun id hid => hL0 id (by simpa [lendIds] using hid)
    simp only [decArg] at e
    split at e
    · rename_i ha
      split at e
      · rename_i x' hx
        cases e
        refine ⟨rfl, fun id hid => by simp at hid, fun _ H ρ' _ => ⟨?_, fun j b hb => by simp [entryArg] at hb⟩⟩
        show VRep w ok' H ρ' (mkV agg (toCells τ x)) u
        have hnil : ∀ {l : List Value}, [] = l ++ ([] : List Value) ∨ [] = l → Rep w ok' τ x l → toCells τ x = [] := by
          intro l hl hr
          have hl : l = [] := by rcases hl with hl | hl <;> simpa using hl.symm
          subst hl
          have hlen := (rep_cells (h := H) (ρ := ρ') hr).len
          exact List.eq_nil_of_length_eq_zero (by simpa using hlen)
        cases v with
        | undef =>
          obtain ⟨l, r', e1, hr', _⟩ := ofCells_all (us := []) hval hx .nil
          rw [hnil (l := l) (.inr (List.append_eq_nil_iff.1 e1.symm).1.symm) hr']
          subst ha; trivial
        | tup ps =>
          obtain ⟨l, r', e1, hr', _⟩ := ofCells_all (us := []) hval hx .nil
          rw [hnil (l := l) (.inr (List.append_eq_nil_iff.1 e1.symm).1.symm) hr']
          subst ha; trivial
        | one c =>
          obtain ⟨l, r', e1, hr', hrest⟩ := ofCells_all (us := [u]) hval hx (.cons ⟨r, fun id hc => hL id (by subst hc; simp [V.cells, C.ownIds])⟩ .nil)
          cases hrest
          rw [List.append_nil] at e1
          subst e1
          have hcs := rep_cells (h := H) (ρ := ρ') hr'
          subst ha
          match hcells : toCells τ x, hcs with
          | [c'], .cons rc .nil => exact rc
        | agg cs =>
          obtain ⟨vs, rfl, rcs⟩ := r
          obtain ⟨l, r', e1, hr', hrest⟩ := ofCells_all (us := vs) hval hx ((all2_mem rcs).mono fun c u ⟨h1, h2⟩ => ⟨h1, fun id hc => hL id (by subst hc; exact mem_ownIds h2)⟩)
          cases hrest
          rw [List.append_nil] at e1
          subst e1
          subst ha
          exact ⟨vs, rfl, rep_cells hr'⟩
      · cases e
    · cases e
  | ref t ms =>
    have hv : ∃ id, v = .one (.ptr id 0) := by
      cases v with
      | one c => cases c with
        | ptr id o => cases o with
          | zero => exact ⟨id, rfl⟩
          | succ o => simp [decArg] at e
        | _ => simp [decArg] at e
      | _ => simp [decArg] at e
    obtain ⟨id, rfl⟩ := hv
    simp only [decArg] at e
    · split at e
      · rename_i t' cs hg
        split at e
        · rename_i ht
          subst ht
          split at e
          · rename_i xs is h1
            split at e
            · rename_i x' hx
              cases e
              have hg' := getD_some hg (by simp)
              obtain ⟨b, vs0, hv, hw, rcs⟩ := M.blocks id _ hg'
              obtain ⟨us1, us2, hus, hrest, hp⟩ := transfer M ms h1 rcs
              cases hrest
              rw [List.append_nil] at hus
              subst hus
              obtain ⟨hxs, _⟩ := ofCells_val (exitCells_val _ h1) hx
              rw [List.append_nil] at hxs
              obtain ⟨ds, bs, hpl⟩ := place_ok ms h1 [] (n + 1)
              obtain ⟨k1, k2, k3⟩ := hp hpl
              rw [List.append_nil, hxs] at hpl
              have hent : entryArg (.ref t ms) x n = (.one (.ptr n 0), .vars t ds :: bs) := by
                simp only [entryArg]
                rw [show placeCells ms (toCells (PK.ref t ms).ty x) (n + 1) = some (ds, bs, []) from hpl]
              rw [hent]
              refine ⟨by simp [k2], ?_, fun hc H ρ' hP => ?_⟩
              · intro i hi
                rcases List.mem_cons.1 hi with hi | hi
                · cases hi; exact ⟨_, hg', rfl⟩
                · exact exit_live ms h1 i hi
              · obtain ⟨k4, k5⟩ := k3 hc.head hP.tail
                obtain ⟨hH, hρ⟩ := hP 0 _ rfl
                obtain ⟨_, b', hb', hu⟩ := r
                rw [hv] at hb'
                have : b = b' := by simpa using hb'
                subst this
                refine ⟨⟨⟨t, ds, hH⟩, b, by rw [show n = n + 0 from rfl, hρ]; exact hv, hu⟩, fun j y hy => ?_⟩
                match j with
                | 0 => cases hy; exact ⟨rfl, b, vs0, hv, hw, k4⟩
                | j + 1 => exact k5.blocks j y (by simpa using hy)
            · cases e
          · cases e
        · cases e
      · cases e
  | given e0 c0 =>
    cases v with
    | one y =>
      simp only [decArg] at e
      split at e
      · rename_i xs is h1
        split at e
        · rename_i x' hx
          cases e
          have rcs : CsRep w (okOf Rd h ρ w) h ρ [y] [u] := .cons r .nil
          obtain ⟨us1, us2, hus, hrest, hp⟩ := transfer M [(some e0, .sl c0)] h1 rcs
          cases hrest
          rw [List.append_nil] at hus
          subst hus
          obtain ⟨hxs, _⟩ := ofCells_val (exitCells_val _ h1) hx
          rw [List.append_nil] at hxs
          obtain ⟨ds, bs, hpl⟩ := place_ok [(some e0, .sl c0)] h1 [] n
          obtain ⟨k1, k2, k3⟩ := hp hpl
          rw [List.append_nil, hxs] at hpl
          have hpl' : placeCells [(some e0, .sl c0)] (toCells (.sl c0) x) n = some ([.own n], [.arr e0 c0 x], []) := by simp [placeCells, toCells]
          have hpp := hpl'.symm.trans hpl
          cases hpp
          refine ⟨k2, fun i hi => exit_live _ h1 i hi, fun hc H ρ' hP => ?_⟩
          obtain ⟨k4, k5⟩ := k3 hc.head hP
          refine ⟨?_, k5.blocks⟩
          cases k4 with
          | cons q t => cases t; exact q
        · cases e
      · cases e
    | _ => simp [decArg] at e
  | lent agg ms =>
    simp only [decArg] at e
    split at e
    · rename_i ha
      split at e
      · rename_i xs id h1
        split at e
        · rename_i x' hx
          split at e
          · rename_i hla
            cases e
            have hcs : ∃ us0, CsRep w (okOf Rd h ρ w) h ρ v.cells us0 ∧ (v.isAggB = true → u = .agg us0.toArray) ∧ (v.isAggB = false → us0 = [u]) := by
              cases v with
              | undef => cases ms with
                | nil => simp [lentAt] at hla
                | cons m ms => obtain ⟨a, b⟩ := m; cases a <;> (try cases b) <;> simp [V.cells, lentAt] at hla
              | tup ps => cases ms with
                | nil => simp [lentAt] at hla
                | cons m ms => obtain ⟨a, b⟩ := m; cases a <;> (try cases b) <;> simp [V.cells, lentAt] at hla
              | one c => exact ⟨[u], .cons r .nil, fun hh => by simp [V.isAggB] at hh, fun _ => rfl⟩
              | agg cs =>
                obtain ⟨vs, rfl, rcs⟩ := r
                exact ⟨vs, rcs, fun _ => rfl, fun hh => by simp [V.isAggB] at hh⟩
            obtain ⟨us0, rcs, hu1, hu2⟩ := hcs
            obtain ⟨us1, us2, hus, hrest, hp⟩ := transfer M ms h1 rcs
            cases hrest
            rw [List.append_nil] at hus
            subst hus
            obtain ⟨hxs, _⟩ := ofCells_val (exitCells_val _ h1) hx
            rw [List.append_nil] at hxs
            obtain ⟨ds, bs, hpl⟩ := place_ok ms h1 [] n
            obtain ⟨k1, k2, k3⟩ := hp hpl
            rw [List.append_nil, hxs] at hpl
            have hent : entryArg (.lent agg ms) x n = (mkV agg ds, bs) := by
              simp only [entryArg]
              rw [show placeCells ms (toCells (PK.lent agg ms).ty x) n = some (ds, bs, []) from hpl]
            rw [hent]
            refine ⟨k2, fun i hi => exit_live ms h1 i hi, fun hc H ρ' hP => ?_⟩
            obtain ⟨k4, k5⟩ := k3 hc.head hP
            refine ⟨?_, k5.blocks⟩
            cases hag : agg with
            | true => exact ⟨us0, hu1 (ha.trans hag), k4⟩
            | false =>
              have := hu2 (ha.trans hag)
              subst this
              cases k4 with
              | cons q t => cases t; exact q
          · cases e
        · cases e
      · cases e
    · cases e
where
  exit_live : ∀ (ms : Cells) {cs xs : List C} {os : List (Option Nat)} {rest : List C}, exitCells h ms cs = some (xs, os, rest) → ∀ i, some i ∈ os → ∃ y, h[i]? = some y ∧ y.lives = true := by
    intro ms
    induction ms with
    | nil =>
      intro cs xs os rest e i hi
      simp only [exitCells, Option.some.injEq, Prod.mk.injEq] at e; obtain ⟨_, rfl, _⟩ := e
      simp at hi
    | cons m ms ih =>
      intro cs xs os rest e i hi
      unfold exitCells at e
      split at e
      · rename_i hm; cases hm
      · rename_i τ ms' c cs' hm
        cases hm
        split at e
        · split at e
          · rename_i h2; cases e; exact ih h2 i hi
          · cases e
        · cases e
      · rename_i e0 c ms' i' cs' hm
        cases hm
        split at e
        · rename_i e' c' xs' hg
          split at e
          · split at e
            · rename_i h2; cases e
              rcases List.mem_cons.1 hi with hi | hi
              · cases hi; exact ⟨_, getD_some hg (by simp), rfl⟩
              · exact ih h2 i hi
            · cases e
          · cases e
        · cases e
      · rename_i e0 c ms' cs' hm
        cases hm
        split at e
        · rename_i h2; cases e
          rcases List.mem_cons.1 hi with hi | hi
          · cases hi
          · exact ih h2 i hi
        · cases e
      · rename_i hm; cases hm; exact ih e i hi
      · cases e
end
end Go.Rx
/- Calls: the whole. -/
namespace Go.Rx
variable [Tabs]

/-- What a contract says of the function numbered f. -/
def CtrAt (w : World) (P : Program) (f : FuncId) (k : Ctr) : Prop :=
  ∀ (Ex Rd : Nat → Prop) (ρ : Nat → Value) (us : List Value) (a) (r),
    Mem w Ex Rd (entryArgs k.args a 0).2 ρ w → All2 (VRep w (okOf Rd (entryArgs k.args a 0).2 ρ w) (entryArgs k.args a 0).2 ρ) (entryArgs k.args a 0).1 us → k.F a = some r →
    Calls P f us.toArray w fun e w' => ∃ u h' ρ' rv refs', e = .returned u ∧ Mem w Ex Rd h' ρ' w' ∧ VRep w' (okOf Rd h' ρ' w') h' ρ' rv u ∧
      All2 (fun r v => ∃ x, h'[r]? = some x ∧ x ≠ .free ∧ (x ≠ .dead → ρ' r = v)) refs' ((ptrsOf k.args (entryArgs k.args a 0).1).map ρ) ∧ k.exit0 refs' h' rv = some r

def CtrHolds (P : Program) (f : FuncId) (k : Ctr) : Prop := ∀ w, CtrAt w P f k

def CallOk (P : Program) (f : FuncId) : Prop := ∀ args w, (callFunc f args).run P w = .ok (.enter f args) w

/-- A new variable, and its address. -/
def NHolds (P : Program) (f : FuncId) (k : NCtr) : Prop :=
  ∀ (w : World) (Rd : Nat → Prop) (ρ : Nat → Value) (us : List Value) (a) (r), Mem w (fun _ => False) Rd [] ρ w → All2 (VRep w (okOf Rd [] ρ w) [] ρ) (entryArgs k.args a 0).1 us → (entryArgs k.args a 0).2 = [] → k.F a = some r →
    Calls P f us.toArray w fun e w' => ∃ b vs, e = .returned (.pointer (some ⟨b, 0, none⟩)) ∧ Chg w w' (fun _ => False) ∧ w.heap.size ≤ b ∧ w'.heap[b]? = some (.cells vs k.t (0, 0)) ∧ Rep w' (fun i => i < w'.heap.size ∧ Rd i ∧ i ≠ b) (.prod k.cs) r vs.toList

structure GammaOk (X : Ctx) : Prop where
  holds : ∀ f k, X.Γ f = some k → CtrHolds X.P f k ∧ CallOk X.P f
  news : ∀ f k, X.N f = some k → NHolds X.P f k ∧ CallOk X.P f

section
variable {X : Ctx} {w0 w : World} {Ex Rd : Nat → Prop} {h : Heap} {ρ : Nat → Value} {slot : Nat}

theorem exit_len : ∀ {ms : Cells} {cs xs : List C} {os : List (Option Nat)} {rest : List C}, exitCells h ms cs = some (xs, os, rest) → cs.length = ms.length + rest.length := by
  intro ms
  induction ms with
  | nil =>
    intro cs xs os rest e
    simp only [exitCells, Option.some.injEq, Prod.mk.injEq] at e; obtain ⟨_, _, rfl⟩ := e
    simp
  | cons m ms ih =>
    intro cs xs os rest e
    unfold exitCells at e
    split at e
    · rename_i hm; cases hm
    · rename_i hm; cases hm
      split at e
      · split at e
        · rename_i h2; cases e; have := ih h2; simp only [List.length_cons]; omega
        · cases e
      · cases e
    · rename_i hm; cases hm
      split at e
      · split at e
        · split at e
          · rename_i h2; cases e; have := ih h2; simp only [List.length_cons]; omega
          · cases e
        · cases e
      · cases e
    · rename_i hm; cases hm
      split at e
      · rename_i h2; cases e; have := ih h2; simp only [List.length_cons]; omega
      · cases e
    · rename_i hm; cases hm; have := ih e; simp only [List.length_cons]; omega
    · cases e

theorem place_ids : ∀ (ms : Cells) {cs : List C} {n : Nat} {ds : List C} {bs : List Blk} {r : List C}, AllVal cs → placeCells ms cs n = some (ds, bs, r) →
    C.ownIds ds = List.range' n bs.length ∧ ds.length = ms.length ∧ ∀ id o, C.ptr id o ∉ ds := by
  intro ms
  induction ms with
  | nil =>
    intro cs n ds bs r hv e
    simp only [placeCells, Option.some.injEq, Prod.mk.injEq] at e
    obtain ⟨rfl, rfl, _⟩ := e
    exact ⟨rfl, rfl, by simp⟩
  | cons m ms ih =>
    intro cs n ds bs r hv e
    unfold placeCells at e
    split at e
    · rename_i hm; cases hm
    · rename_i hm; cases hm
      split at e
      · split at e
        · rename_i h2; cases e
          obtain ⟨h3, h4, h5⟩ := ih hv.head.2 h2
          refine ⟨by simp [C.ownIds, h3, List.range'_succ], by simp [h4], fun id o hm => ?_⟩
          rcases List.mem_cons.1 hm with hm | hm
          · cases hm
          · exact h5 id o hm
        · cases e
      · cases e
    · rename_i hm; cases hm
      split at e
      · rename_i h2; cases e
        obtain ⟨h3, h4, h5⟩ := ih hv.head.2 h2
        obtain ⟨τ, q, rfl⟩ : ∃ τ q, _ = C.val τ q := valC hv.head.1
        refine ⟨by simp [C.ownIds, h3], by simp [h4], fun id o hm => ?_⟩
        rcases List.mem_cons.1 hm with hm | hm
        · cases hm
        · exact h5 id o hm
      · cases e
    · rename_i hm; cases hm
      split at e
      · rename_i h2; cases e
        obtain ⟨h3, h4, h5⟩ := ih hv h2
        refine ⟨by simp [C.ownIds, h3], by simp [h4], fun id o hm => ?_⟩
        rcases List.mem_cons.1 hm with hm | hm
        · cases hm
        · exact h5 id o hm
      · cases e
    · cases e
where
  valC : ∀ {c : C}, AllVal [c] → ∃ τ q, c = C.val τ q := by
    intro c hc
    cases c <;> first | exact ⟨_, _, rfl⟩ | exact hc.elim

theorem place_lent : ∀ (ms : Cells) {cs : List C} {n : Nat} {ds : List C} {bs : List Blk} {r : List C} {e : TypeId} {c : Ty}, AllVal cs → placeCells ms cs n = some (ds, bs, r) → lentOf ms = some (e, c) → lentAt ms ds = some (n, e, c) := by
  intro ms
  induction ms with
  | nil => intro cs n ds bs r e c hv hp hl; simp [lentOf] at hl
  | cons m ms ih =>
    intro cs n ds bs r e c hv hp hl
    unfold placeCells at hp
    split at hp
    · rename_i hm; cases hm
    · rename_i hm; cases hm
      split at hp
      · split at hp
        · rename_i h2; cases hp
          simp only [lentOf] at hl
          cases hl
          rfl
        · cases hp
      · cases hp
    · rename_i hm; cases hm
      split at hp
      · rename_i h2; cases hp
        simp only [lentOf] at hl
        simpa only [lentAt] using ih hv.head.2 h2 hl
      · cases hp
    · rename_i hm; cases hm
      simp [lentOf] at hl
    · cases hp

theorem entry_all (M : Mem w0 Ex Rd h ρ w) {o : Bool} {ok' : Nat → Prop} {L : List Nat} (hval : ValOk w o h (okOf Rd h ρ w) ok' ρ L) : ∀ (ps : List PK) {vs : List V} {a : (Ty.prod (ps.map PK.ty)).den} {es : List (Option Nat)} {us : List Value} (n : Nat),
    decArgs o h ps vs = some (a, es) → All2 (VRep w (okOf Rd h ρ w) h ρ) vs us → (∀ id ∈ lendIds ps vs, id ∈ L) →
    (entryArgs ps a n).2.length = es.length ∧ (∀ id, some id ∈ es → ∃ y, h[id]? = some y ∧ y.lives = true) ∧ (∀ id ∈ ptrsOf ps vs, some id ∈ es) ∧
      (ConvPK w (okOf Rd h ρ w) ok' ps → ∀ {H : Heap} {ρ' : Nat → Value}, Placed H ρ' ρ n (entryArgs ps a n).2 es →
        All2 (VRep w ok' H ρ') (entryArgs ps a n).1 us ∧ Blocks w ok' H ρ' ρ (entryArgs ps a n).2 es ∧ (ptrsOf ps (entryArgs ps a n).1).map ρ' = (ptrsOf ps vs).map ρ) := by
  have one : ∀ (p : PK) {v : V} {x : p.ty.den} {es : List (Option Nat)} (n : Nat), decArg o h p v = some (x, es) → (∀ id ∈ ptrsOf [p] [v], some id ∈ es) ∧
      ∀ {H : Heap} {ρ' : Nat → Value}, Placed H ρ' ρ n (entryArg p x n).2 es → (entryArg p x n).2.length = es.length → ∀ {ps : List PK} {rest : List V}, (ptrsOf (p :: ps) ((entryArg p x n).1 :: rest)).map ρ' = (ptrsOf [p] [v]).map ρ ++ (ptrsOf ps rest).map ρ' := by
    intro p v x es n e
    cases p with
    | val agg τ =>
      exact ⟨by simp [ptrsOf], fun {H ρ'} _ _ ps rest => by simp [ptrsOf]⟩
    | ref t ms =>
      have hv : ∃ id, v = .one (.ptr id 0) := by
        cases v with
        | one c => cases c with
          | ptr id o => cases o with
            | zero => exact ⟨id, rfl⟩
            | succ o => simp [decArg] at e
          | _ => simp [decArg] at e
        | _ => simp [decArg] at e
      obtain ⟨id, rfl⟩ := hv
      have hes : ∃ is, es = some id :: is := by
        simp only [decArg] at e
        split at e
        · split at e
          · split at e
            · split at e
              · cases e; exact ⟨_, rfl⟩
              · cases e
            · cases e
          · cases e
        · cases e
      obtain ⟨is, rfl⟩ := hes
      refine ⟨by simp [ptrsOf], fun {H ρ'} hP hlen ps rest => ?_⟩
      simp only [entryArg] at hP hlen ⊢
      split at hlen
      · rename_i ds bs hpl
        rw [hpl] at hP
        have := (hP 0 _ rfl).2
        simp only [ptrsOf, List.map_cons, List.map_nil, List.cons_append, List.nil_append]
        rw [show n = n + 0 from rfl, this]
        rfl
      · simp at hlen
    | given e0 c0 => exact ⟨by simp [ptrsOf], fun {H ρ'} _ _ ps rest => by simp [entryArg, ptrsOf]⟩
    | lent agg ms =>
      simp only [decArg] at e
      split at e
      · rename_i ha
        split at e
        · rename_i xs id h1
          split at e
          · rename_i x' hx
            split at e
            · rename_i hla
              cases e
              obtain ⟨q, hq, hqi⟩ := Option.map_eq_some_iff.1 hla
              have hpo : ptrsOf [.lent agg ms] [v] = [id] := by simp [ptrsOf, hq, hqi]
              rw [hpo]
              refine ⟨by simp, fun {H ρ'} hP hlen ps rest => ?_⟩
              simp only [entryArg] at hP hlen ⊢
              split at hlen
              · rename_i ds bs hpl
                rw [hpl] at hP
                have hval : AllVal (toCells (PK.lent agg ms).ty x) := by
                  obtain ⟨hxs, _⟩ := ofCells_val (exitCells_val _ h1) hx
                  rw [List.append_nil] at hxs
                  exact hxs ▸ exitCells_val _ h1
                obtain ⟨p1, p2, p3⟩ := place_ids ms hval hpl
                have hb1 : bs.length = 1 := hlen
                have hl := exit_len h1
                have hlo := lentAt_of (i := q.1) (e := q.2.1) (c := q.2.2) hq
                have hat := place_lent ms hval hpl hlo
                have hcs : (mkV agg ds).cells = ds := by
                  cases agg with
                  | true => rfl
                  | false =>
                    cases v with
                    | one c =>
                      have h1 : ds.length = 1 := by rw [p2]; simpa [V.cells] using hl.symm
                      match ds, h1 with
                      | [d], _ => rfl
                    | agg cs => simp [V.isAggB] at ha
                    | _ => cases ms with
                      | nil => simp [lentAt] at hq
                      | cons m ms => obtain ⟨a, b⟩ := m; cases a <;> (try cases b) <;> simp [V.cells, lentAt] at hq
                have hids : ptrsOf (.lent agg ms :: ps) (mkV agg ds :: rest) = n :: ptrsOf ps rest := by
                  simp only [ptrsOf, hcs, hat]
                rw [hids, List.map_cons]
                have hb0 : ∃ b, bs[0]? = some b := ⟨bs[0], List.getElem?_eq_getElem (by omega)⟩
                obtain ⟨b, hb⟩ := hb0
                have := (hP 0 b hb).2
                rw [Nat.add_zero] at this
                rw [this]
                rfl
              · simp at hlen
            · cases e
          · cases e
        · cases e
      · cases e
  intro ps
  induction ps with
  | nil =>
    intro vs a es us n e r hL
    cases vs with
    | cons v vs => simp [decArgs] at e
    | nil =>
      simp only [decArgs, Option.some.injEq, Prod.mk.injEq] at e
      obtain ⟨_, rfl⟩ := e
      cases r
      exact ⟨rfl, fun _ h => by simp at h, fun _ h => by simp [ptrsOf] at h, fun _ {H ρ'} _ => ⟨.nil, fun j b hb => by simp [entryArgs] at hb, rfl⟩⟩
  | cons p ps ih =>
    intro vs a es us n e r hL
    cases r with
    | nil => simp [decArgs] at e
    | cons rv t =>
      rename_i v u vs us
      simp only [decArgs] at e
      split at e
      · rename_i x is hx
        split at e
        · rename_i y js hy
          cases e
          have hL' : ∀ id ∈ lendIds [p] [v], id ∈ L := fun id hid => hL id (by
            cases p with
            | val a τ => exact List.mem_append_left _ (by simpa [lendIds] using hid)
            | _ => simp [lendIds] at hid)
          have hL2 : ∀ id ∈ lendIds ps vs, id ∈ L := fun id hid => hL id (by
            cases p with
            | val a τ => exact List.mem_append_right _ hid
            | _ => exact hid)
          have hh : hdArg p ps (consArg p ps x y) = x := by cases ps <;> rfl
          have ht : tlArg p ps (consArg p ps x y) = y := by cases ps <;> rfl
          obtain ⟨h1, h2, h3⟩ := entry_one M hval hx rv hL' n
          obtain ⟨h4, h5⟩ := one p n hx
          obtain ⟨k1, k2, k3, k4⟩ := ih (n + (entryArg p x n).2.length) hy t hL2
          have hent : entryArgs (p :: ps) (consArg p ps x y) n = ((entryArg p x n).1 :: (entryArgs ps y (n + (entryArg p x n).2.length)).1, (entryArg p x n).2 ++ (entryArgs ps y (n + (entryArg p x n).2.length)).2) := by
            simp only [entryArgs, hh, ht]
          rw [hent]
          refine ⟨by rw [List.length_append, List.length_append, k1, h1], fun id hid => ?_, fun id hid => ?_, fun hc {H ρ'} hP => ?_⟩
          · rcases List.mem_append.1 hid with hid | hid
            · exact h2 id hid
            · exact k2 id hid
          · rcases ptrs_split hid with hid | hid
            · exact List.mem_append_left _ (h4 id hid)
            · exact List.mem_append_right _ (k3 id hid)
          · obtain ⟨h6, h7⟩ := h3 (fun q hq => hc q (by simp at hq; subst hq; simp)) (hP.left h1)
            obtain ⟨k5, k6, k7⟩ := k4 hc.tail (hP.right h1)
            refine ⟨.cons h6 k5, h7.append h1 k6, ?_⟩
            have := h5 (hP.left h1) h1 (ps := ps) (rest := (entryArgs ps y (n + (entryArg p x n).2.length)).1)
            rw [this, k7, ← List.map_append, ptrs_app hx]
        · cases e
      · cases e
where
  ptrs_split : ∀ {p : PK} {ps : List PK} {v : V} {vs : List V} {id : Nat}, id ∈ ptrsOf (p :: ps) (v :: vs) → id ∈ ptrsOf [p] [v] ∨ id ∈ ptrsOf ps vs := by
    intro p ps v vs id hid
    cases p with
    | val a τ => right; simpa [ptrsOf] using hid
    | given e0 c0 => right; simpa [ptrsOf] using hid
    | ref t ms => cases v with
      | one c => cases c with
        | ptr i o =>
          simp only [ptrsOf, List.mem_cons] at hid ⊢
          rcases hid with hid | hid
          · left; left; exact hid
          · right; exact hid
        | _ => right; simpa [ptrsOf] using hid
      | _ => right; simpa [ptrsOf] using hid
    | lent a ms =>
      simp only [ptrsOf] at hid ⊢
      split at hid
      · rcases List.mem_cons.1 hid with hid | hid
        · left; simp [hid]
        · right; exact hid
      · right; exact hid
  ptrs_app : ∀ {o : Bool} {p : PK} {ps : List PK} {v : V} {vs : List V} {x : p.ty.den} {es : List (Option Nat)}, decArg o h p v = some (x, es) → ptrsOf [p] [v] ++ ptrsOf ps vs = ptrsOf (p :: ps) (v :: vs) := by
    intro o p ps v vs x es e
    cases p with
    | val a τ => simp [ptrsOf]
    | given e0 c0 => simp [ptrsOf]
    | ref t ms => cases v with
      | one c => cases c <;> simp [ptrsOf]
      | _ => simp [ptrsOf]
    | lent a ms => simp only [ptrsOf]; split <;> simp
end
end Go.Rx
/- Calls: soundness. -/
namespace Go.Rx
variable [Tabs]
section
variable {X : Ctx} {w0 w : World} {Ex Rd : Nat → Prop} {h : Heap} {ρ : Nat → Value} {slot : Nat}

theorem nodupB_mem {x : Nat} {l : List Nat} (h : nodupB (x :: l) = true) : x ∉ l ∧ nodupB l = true := by
  simp only [nodupB, Bool.and_eq_true, Bool.not_eq_true', List.contains_eq_mem, decide_eq_false_iff_not] at h
  exact h

theorem nodup_idx : ∀ {l : List (Option Nat)}, nodupB (l.filterMap id) = true → ∀ {i j x : Nat}, l[i]? = some (some x) → l[j]? = some (some x) → i = j
  | [], _, i, _, _, hi, _ => by simp at hi
  | none :: l, hn, i, j, x, hi, hj => by
    have hn' : nodupB (l.filterMap id) = true := by simpa using hn
    match i, j with
    | 0, _ => simp at hi
    | _ + 1, 0 => simp at hj
    | i + 1, j + 1 => exact congrArg (· + 1) (nodup_idx hn' (i := i) (j := j) (x := x) (by simpa using hi) (by simpa using hj))
  | some y :: l, hn, i, j, x, hi, hj => by
    have hn' : nodupB (y :: l.filterMap id) = true := by simpa using hn
    obtain ⟨h1, h2⟩ := nodupB_mem hn'
    have hmem : ∀ k, l[k]? = some (some y) → False := fun k hk => h1 (List.mem_filterMap.2 ⟨some y, List.mem_of_getElem? hk, rfl⟩)
    match i, j with
    | 0, 0 => rfl
    | 0, j + 1 => simp at hi hj; subst hi; exact (hmem j hj).elim
    | i + 1, 0 => simp at hi hj; subst hj; exact (hmem i hi).elim
    | i + 1, j + 1 => exact congrArg (· + 1) (nodup_idx h2 (i := i) (j := j) (x := x) (by simpa using hi) (by simpa using hj))

theorem sets_length (us : List (Nat × Blk)) : ∀ (h : Heap), (sets us h).length = h.length := by
  induction us with
  | nil => intro h; rfl
  | cons u us ih => intro h; exact (ih _).trans (by simp)

theorem sets_append (us vs : List (Nat × Blk)) (h : Heap) : sets (us ++ vs) h = sets vs (sets us h) := by simp [sets]

theorem sets_out {us : List (Nat × Blk)} {i : Nat} : ∀ {h : Heap}, (∀ p ∈ us, p.1 ≠ i) → (sets us h)[i]? = h[i]? := by
  induction us with
  | nil => intro h _; rfl
  | cons u us ih =>
    intro h hi
    show (sets us (h.set u.1 u.2))[i]? = _
    rw [ih (fun p hp => hi p (List.mem_cons_of_mem _ hp)), List.getElem?_set_ne (hi u (by simp))]

theorem sets_in {us : List (Nat × Blk)} {i : Nat} : ∀ {h : Heap}, (∃ p ∈ us, p.1 = i) → i < h.length → ∃ b, (i, b) ∈ us ∧ (sets us h)[i]? = some b := by
  induction us with
  | nil => intro h ⟨p, hp, _⟩; simp at hp
  | cons u us ih =>
    intro h ⟨p, hp, hpi⟩ hlt
    show ∃ b, (i, b) ∈ u :: us ∧ (sets us (h.set u.1 u.2))[i]? = some b
    by_cases hin : ∃ p ∈ us, p.1 = i
    · obtain ⟨b, hb, e⟩ := ih (h := h.set u.1 u.2) hin (by simpa using hlt)
      exact ⟨b, List.mem_cons_of_mem _ hb, e⟩
    · have hout : ∀ p ∈ us, p.1 ≠ i := fun p hp e => hin ⟨p, hp, e⟩
      rw [sets_out hout]
      have hu : u.1 = i := by
        rcases List.mem_cons.1 hp with e | e
        · rw [← e]; exact hpi
        · exact absurd ⟨p, e, hpi⟩ hin
      exact ⟨u.2, by rw [← hu]; exact List.mem_cons_self, by rw [← hu, List.getElem?_set_self (by rw [hu]; exact hlt)]⟩

theorem exit_lent : ∀ (ms : Cells) {cs xs : List C} {os : List (Option Nat)} {rest : List C} {i : Nat} {e : TypeId} {c : Ty}, exitCells h ms cs = some (xs, os, rest) → lentAt ms cs = some (i, e, c) → ∃ ys, h[i]? = some (.arr e c ys) := by
  intro ms
  induction ms with
  | nil => intro cs xs os rest i e c _ h; simp [lentAt] at h
  | cons m ms ih =>
    intro cs xs os rest i e c h1 h2
    unfold lentAt at h2
    split at h2
    · rename_i hm; cases hm; cases h2
      unfold exitCells at h1
      split at h1
      · rename_i hg
        split at h1
        · rename_i hec; obtain ⟨rfl, rfl⟩ := hec; exact ⟨_, getD_some hg (by simp)⟩
        · cases h1
      · cases h1
    · rename_i hm; cases hm
      unfold exitCells at h1
      split at h1
      · split at h1
        · rename_i h3; exact ih h3 h2
        · cases h1
      · cases h1
    · cases h2

/-- The variables that come back are of the types that went in. -/
theorem refs_types {o : Bool} : ∀ (ps : List PK) {vs : List V} {a : (Ty.prod (ps.map PK.ty)).den} {es : List (Option Nat)}, decArgs o h ps vs = some (a, es) →
    ∀ {cs : List C} {n : Nat} {us : List (Nat × Blk)} {bs : List Blk} {more : List C}, placeRefs ps vs cs n = some (us, bs, more) → ∀ p ∈ us, (∃ t ds cs, p.2 = .vars t ds ∧ h[p.1]? = some (.vars t cs)) ∨ ∃ e c xs ys, p.2 = .arr e c xs ∧ h[p.1]? = some (.arr e c ys) := by
  intro ps
  induction ps with
  | nil =>
    intro vs a es e cs n us bs more e2 p hp
    cases vs with
    | cons v vs => simp [placeRefs] at e2
    | nil =>
      simp only [placeRefs, Option.some.injEq, Prod.mk.injEq] at e2
      obtain ⟨rfl, _⟩ := e2
      simp at hp
  | cons q ps ih =>
    intro vs a es e cs n us bs more e2 p hp
    cases vs with
    | nil => simp [decArgs] at e
    | cons v vs =>
      simp only [decArgs] at e
      split at e
      · rename_i x is hx
        split at e
        · rename_i y js hy
          cases q with
          | val b τ => exact ih hy (by simpa only [placeRefs] using e2) p hp
          | given e0 c0 => exact ih hy (by simpa only [placeRefs] using e2) p hp
          | ref t ms =>
            have hv : ∃ id, v = .one (.ptr id 0) := by
              cases v with
              | one c => cases c with
                | ptr id o => cases o with
                  | zero => exact ⟨id, rfl⟩
                  | succ o => simp [decArg] at hx
                | _ => simp [decArg] at hx
              | _ => simp [decArg] at hx
            obtain ⟨id, rfl⟩ := hv
            simp only [placeRefs] at e2
            split at e2
            · rename_i ds1 bs1 cs1 h3
              split at e2
              · rename_i us2 bs2 r2 h4
                cases e2
                rcases List.mem_cons.1 hp with rfl | hp
                · simp only [decArg] at hx
                  split at hx
                  · rename_i t' cs' hg
                    split at hx
                    · rename_i ht; subst ht; exact .inl ⟨_, ds1, cs', rfl, getD_some hg (by simp)⟩
                    · cases hx
                  · cases hx
                · exact ih hy h4 p hp
              · cases e2
            · cases e2
          | lent ag ms =>
            unfold placeRefs at e2
            split at e2
            · rename_i hm _ ; cases hm
            · rename_i hm _ ; cases hm
            · rename_i hm _ ; cases hm
            · rename_i hm _ ; cases hm
            · rename_i hm hm1
              cases hm
              cases hm1
              split at e2
              · rename_i hla
                split at e2
                · rename_i hcc
                  split at e2
                  · rename_i h4
                    cases e2
                    rcases List.mem_cons.1 hp with rfl | hp
                    · simp only [decArg] at hx
                      split at hx
                      · split at hx
                        · rename_i h1
                          obtain ⟨ys, hys⟩ := exit_lent _ h1 hla
                          subst hcc
                          exact .inr ⟨_, _, _, ys, rfl, hys⟩
                        · cases hx
                      · cases hx
                    · exact ih hy h4 p hp
                  · cases e2
                · cases e2
              · cases e2
            · cases e2
        · cases e
      · cases e

theorem hasSl_of {ms : Cells} (h : shares ms = false) : ∀ m ∈ ms, (mTy m).hasSl = false := by
  intro m hm
  simp only [shares, List.any_eq_false] at h
  have := h m hm
  obtain ⟨e, τ⟩ := m
  cases e with
  | none => simpa [mTy] using this
  | some e => cases τ <;> simpa [mTy] using this

/-- What comes along are lists of our own. -/
theorem exit_arr : ∀ (ms : Cells) {cs xs : List C} {os : List (Option Nat)} {rest : List C}, exitCells h ms cs = some (xs, os, rest) → ∀ i, some i ∈ os → ∃ e c xs, h[i]? = some (.arr e c xs) := by
  intro ms
  induction ms with
  | nil =>
    intro cs xs os rest e i hi
    simp only [exitCells, Option.some.injEq, Prod.mk.injEq] at e; obtain ⟨_, rfl, _⟩ := e
    simp at hi
  | cons m ms ih =>
    intro cs xs os rest e i hi
    unfold exitCells at e
    split at e
    · rename_i hm; cases hm
    · rename_i τ ms' c cs' hm
      cases hm
      split at e
      · split at e
        · rename_i h2; cases e; exact ih h2 i hi
        · cases e
      · cases e
    · rename_i e0 c ms' i' cs' hm
      cases hm
      split at e
      · rename_i e' c' xs' hg
        split at e
        · split at e
          · rename_i h2; cases e
            rcases List.mem_cons.1 hi with hi | hi
            · cases hi; exact ⟨_, _, _, getD_some hg (by simp)⟩
            · exact ih h2 i hi
          · cases e
        · cases e
      · cases e
    · rename_i e0 c ms' cs' hm
      cases hm
      split at e
      · rename_i h2; cases e
        rcases List.mem_cons.1 hi with hi | hi
        · cases hi
        · exact ih h2 i hi
      · cases e
    · rename_i hm; cases hm; exact ih e i hi
    · cases e

theorem exitRets_arr : ∀ (rs : List (Bool × Cells)) {vs : List (Bool × List C)} {xs : List C} {os : List (Option Nat)}, exitRets h rs vs = some (xs, os) → ∀ i, some i ∈ os → ∃ e c xs, h[i]? = some (.arr e c xs) := by
  intro rs
  induction rs with
  | nil =>
    intro vs xs os e i hi
    cases vs with
    | nil => simp only [exitRets, Option.some.injEq, Prod.mk.injEq] at e; obtain ⟨_, rfl⟩ := e; simp at hi
    | cons v vs => simp [exitRets] at e
  | cons r rs ih =>
    intro vs xs os e i hi
    obtain ⟨a, ms⟩ := r
    cases vs with
    | nil => simp [exitRets] at e
    | cons v vs =>
      obtain ⟨b, cs⟩ := v
      simp only [exitRets] at e
      split at e
      · split at e
        · rename_i h1
          split at e
          · rename_i h2; cases e
            rcases List.mem_append.1 hi with hi | hi
            · exact exit_arr _ h1 i hi
            · exact ih h2 i hi
          · cases e
        · cases e
      · cases e

theorem exitRefs_arr : ∀ (ps : List PK) {ids : List Nat} {xs : List C} {os : List (Option Nat)}, exitRefs h ps ids = some (xs, os) → ∀ i, some i ∈ os → ∃ e c xs, h[i]? = some (.arr e c xs) := by
  intro ps
  induction ps with
  | nil =>
    intro ids xs os e i hi
    cases ids with
    | nil => simp only [exitRefs, Option.some.injEq, Prod.mk.injEq] at e; obtain ⟨_, rfl⟩ := e; simp at hi
    | cons v vs => simp [exitRefs] at e
  | cons p ps ih =>
    intro ids xs os e i hi
    cases p with
    | val a τ => exact ih (by simpa only [exitRefs] using e) i hi
    | given e0 c0 => exact ih (by simpa only [exitRefs] using e) i hi
    | ref t ms =>
      cases ids with
      | nil => simp [exitRefs] at e
      | cons j ids =>
        simp only [exitRefs] at e
        split at e
        · split at e
          · split at e
            · rename_i h1
              split at e
              · rename_i h2; cases e
                rcases List.mem_append.1 hi with hi | hi
                · exact exit_arr _ h1 i hi
                · exact ih h2 i hi
              · cases e
            · cases e
          · cases e
        · cases e
    | lent a ms =>
      cases ids with
      | nil => simp [exitRefs] at e
      | cons j ids =>
        simp only [exitRefs] at e
        split at e
        · split at e
          · split at e
            · rename_i h2; cases e; exact ih h2 i hi
            · cases e
          · cases e
        · cases e

theorem exitRefs_vars : ∀ (ps : List PK) {ids : List Nat} {xs : List C} {os : List (Option Nat)}, exitRefs h ps ids = some (xs, os) → ∀ i ∈ ids, (∃ t cs, h[i]? = some (.vars t cs)) ∨ ∃ e c xs, h[i]? = some (.arr e c xs) := by
  intro ps
  induction ps with
  | nil =>
    intro ids xs os e i hi
    cases ids with
    | nil => simp at hi
    | cons v vs => simp [exitRefs] at e
  | cons p ps ih =>
    intro ids xs os e i hi
    cases p with
    | val a τ => exact ih (by simpa only [exitRefs] using e) i hi
    | given e0 c0 => exact ih (by simpa only [exitRefs] using e) i hi
    | ref t ms =>
      cases ids with
      | nil => simp [exitRefs] at e
      | cons j ids =>
        simp only [exitRefs] at e
        split at e
        · rename_i hg
          split at e
          · split at e
            · split at e
              · rename_i h2; cases e
                rcases List.mem_cons.1 hi with rfl | hi
                · exact .inl ⟨_, _, getD_some hg (by simp)⟩
                · exact ih h2 i hi
              · cases e
            · cases e
          · cases e
        · cases e
    | lent a ms =>
      cases ids with
      | nil => simp [exitRefs] at e
      | cons j ids =>
        simp only [exitRefs] at e
        split at e
        · rename_i hg
          split at e
          · split at e
            · rename_i h2; cases e
              rcases List.mem_cons.1 hi with rfl | hi
              · exact .inr ⟨_, _, _, getD_some hg (by simp)⟩
              · exact ih h2 i hi
            · cases e
          · cases e
        · cases e

/-- What is handed over and no variable is a list. -/
theorem handed_list {o : Bool} : ∀ (ps : List PK) {vs : List V} {a : (Ty.prod (ps.map PK.ty)).den} {es : List (Option Nat)}, decArgs o h ps vs = some (a, es) →
    ∀ {i : Nat} {x : Blk}, (i ∉ ptrsOf ps vs) → some i ∈ es → h[i]? = some x → x.isL = true := by
  intro ps
  induction ps with
  | nil =>
    intro vs a es e i x hn hi hx
    cases vs with
    | cons v vs => simp [decArgs] at e
    | nil =>
      simp only [decArgs, Option.some.injEq, Prod.mk.injEq] at e
      obtain ⟨_, rfl⟩ := e
      simp at hi
  | cons q ps ih =>
    intro vs a es e i x hn hi hx
    cases vs with
    | nil => simp [decArgs] at e
    | cons v vs =>
      simp only [decArgs] at e
      split at e
      · rename_i y is hy
        split at e
        · rename_i z js hz
          cases e
          have hn2 : i ∉ ptrsOf ps vs := fun hm => hn (by
            cases q with
            | val b τ => simpa [ptrsOf] using hm
            | given e0 c0 => simpa [ptrsOf] using hm
            | ref t ms => cases v with
              | one c => cases c <;> simp [ptrsOf, hm]
              | _ => simpa [ptrsOf] using hm
            | lent a ms => simp only [ptrsOf]; split <;> simp [hm])
          rcases List.mem_append.1 hi with hi | hi
          · cases q with
            | val b τ =>
              simp only [decArg] at hy
              split at hy
              · split at hy
                · cases hy; simp at hi
                · cases hy
              · cases hy
            | ref t ms =>
              have hv : ∃ id, v = .one (.ptr id 0) := by
                cases v with
                | one c => cases c with
                  | ptr id o => cases o with
                    | zero => exact ⟨id, rfl⟩
                    | succ o => simp [decArg] at hy
                  | _ => simp [decArg] at hy
                | _ => simp [decArg] at hy
              obtain ⟨id, rfl⟩ := hv
              simp only [decArg] at hy
              split at hy
              · split at hy
                · split at hy
                  · rename_i xs is' h1
                    split at hy
                    · cases hy
                      rcases List.mem_cons.1 hi with hi | hi
                      · cases hi; exact absurd (by simp [ptrsOf]) hn
                      · obtain ⟨e', c', xs', ha⟩ := exit_arr ms h1 i hi
                        rw [hx] at ha; cases ha; rfl
                    · cases hy
                  · cases hy
                · cases hy
              · cases hy
            | given e0 c0 =>
              cases v with
              | one y =>
                simp only [decArg] at hy
                split at hy
                · rename_i xs is' h1
                  split at hy
                  · cases hy
                    obtain ⟨e', c', xs', ha⟩ := exit_arr _ h1 i hi
                    rw [hx] at ha; cases ha; rfl
                  · cases hy
                · cases hy
              | _ => simp [decArg] at hy
            | lent a ms =>
              exfalso
              simp only [decArg] at hy
              split at hy
              · split at hy
                · split at hy
                  · split at hy
                    · rename_i hla
                      cases hy
                      obtain ⟨q, hq, hqi⟩ := Option.map_eq_some_iff.1 hla
                      have hi := List.mem_singleton.1 hi
                      cases hi
                      exact hn (by simp [ptrsOf, hq, hqi])
                    · cases hy
                  · cases hy
                · cases hy
              · cases hy
          · exact ih hz hn2 hi hx
        · cases e
      · cases e

/-- **A call.** -/
theorem call_sound (M : Mem w0 Ex Rd h ρ w) {f : FuncId} {k : Ctr} (hk : CtrHolds X.P f k) {vs : List V} {us : List Value} {a} {es : List (Option Nat)} {r} {rs : List (Bool × List C)} {bs bs' : List Blk} {rest : List C} {cs : List (Nat × Blk)}
    (ra : All2 (VRep w (okOf Rd h ρ w) h ρ) vs us) (hd : decArgs (!k.shares) h k.args vs = some (a, es)) (hnd : nodupB (es.filterMap id) = true) (hlent : (lendIds k.args vs).any (es.filterMap id).contains = false)
    (hF : k.F a = some r) (hp : placeRets k.rets (toCells _ r) slot = some (rs, bs, rest)) (hq : placeRefs k.args vs rest (slot + bs.length) = some (cs, bs', []))
    (hfree : FreeAt h slot (bs ++ bs').length) (hslot : slot + (bs ++ bs').length ≤ h.length) :
    Calls X.P f us.toArray w fun e w' => ∃ u ρ', e = .returned u ∧ Grown w0 Ex Rd h ρ w (setBlks slot (bs ++ bs') (sets ((es.filterMap id).map (fun i => (i, Blk.dead)) ++ cs) h)) ρ' w' ∧
      VRep w' (okOf Rd (setBlks slot (bs ++ bs') (sets ((es.filterMap id).map (fun i => (i, Blk.dead)) ++ cs) h)) ρ' w') (setBlks slot (bs ++ bs') (sets ((es.filterMap id).map (fun i => (i, Blk.dead)) ++ cs) h)) ρ' (retV rs) u := by
  -- what the callee begins with
  generalize hH0 : (entryArgs k.args a 0).2 = H0 at *
  let ρ0 : Nat → Value := fun i => hdr ρ (es.getD i none)
  let Ex' : Nat → Prop := fun b => ∃ id, some id ∈ es ∧ Live h ρ id b
  let Rd' : Nat → Prop := fun b => k.shares = true → okOf Rd h ρ w b ∨ w.heap.size ≤ b ∨ Ex' b
  have hP0 : Placed H0 ρ0 ρ 0 H0 es := fun j b hb => ⟨by rw [Nat.zero_add]; exact hb, by rw [Nat.zero_add]⟩
  have hmem : ∀ i : Nat, some i ∈ es ↔ i ∈ es.filterMap id := fun i => by simp
  have hliveEx : ∀ {i b}, Live H0 ρ0 i b → ∃ x, es[i]? = some (some x) ∧ blockOf (ρ x) = some b := by
    intro i b ⟨_, hb⟩
    have hb : blockOf (hdr ρ (es.getD i none)) = some b := hb
    rw [List.getD_eq_getElem?_getD] at hb
    cases he : es[i]? with
    | none => rw [he] at hb; simp [hdr, blockOf] at hb
    | some y => cases y with
      | none => rw [he] at hb; simp [hdr, blockOf] at hb
      | some x => rw [he] at hb; exact ⟨x, rfl, by simpa [hdr] using hb⟩
  -- values of arguments
  have hnotlive : ∀ b, (∀ id, some id ∈ es → Live h ρ id b → False) → (∀ id, some id ∈ es → ∃ y, h[id]? = some y ∧ y.lives = true) → ∀ i, ¬ Live H0 ρ0 i b := by
    intro b hb hl i hi
    obtain ⟨x, hx, hbx⟩ := hliveEx hi
    have hm := List.mem_of_getElem? hx
    obtain ⟨y, hy, hyl⟩ := hl x hm
    exact hb x hm ⟨⟨y, hy, hyl⟩, hbx⟩
  -- first what is live
  have hlv : ∀ id, some id ∈ es → ∃ y, h[id]? = some y ∧ y.lives = true := by
    have hval0 : ValOk w (!k.shares) h (okOf Rd h ρ w) (okA w) ρ (lendIds k.args vs) := fun e ⟨r, _⟩ => cellTo_rep M e r
    exact (entry_all M hval0 k.args 0 hd ra (fun _ h => h)).2.1
  have hokok : ∀ b, okOf Rd h ρ w b → okOf Rd' H0 ρ0 w b := fun b hb => ⟨hb.1, fun _ => .inl hb, hnotlive b (fun id _ hl => hb.2.2 id hl) hlv⟩
  have hval : ValOk w (!k.shares) h (okOf Rd h ρ w) (okOf Rd' H0 ρ0 w) ρ (lendIds k.args vs) := by
    intro τ c x u e ⟨rc, hid⟩
    cases hsh : k.shares with
    | true =>
      rw [hsh] at e
      exact Rep.mono (fun b hb => ⟨hokok b hb, rfl⟩) (cellTo_ro M e rc)
    | false =>
      rw [hsh] at e
      cases c with
      | own id =>
        simp only [cellTo, Bool.not_false, Bool.true_and] at e
        split at e
        · rename_i e0 c0 xs hg
          have hna : c0.noAny = true := by
            split at e
            · assumption
            · cases e
          simp only [hna, if_true] at e
          obtain ⟨rfl, rfl⟩ := castTy_eq e
          have hg' := getD_some hg (by simp)
          obtain ⟨y, hy, _, _, hv⟩ := rc
          rw [hg'] at hy
          cases hy
          rw [hv (by simp)]
          refine BRep.tree (w := w) (w' := w) (ok := okOf Rd h ρ w) (h := h) (ρ := ρ) (e := e0) (fun b hb => ⟨hokok b hb, .refl _ _⟩) (fun b hb => ⟨⟨live_lt M ⟨⟨_, hg', rfl⟩, hb⟩, fun hs => (by rw [hsh] at hs; cases hs), ?_⟩, rfl⟩) hna (fun b hb => ⟨M.live_N ⟨⟨_, hg', rfl⟩, hb⟩, M.live_noS ⟨⟨_, hg', rfl⟩, hb⟩⟩) (M.blocks id _ hg')
          refine hnotlive b (fun j hj hl => ?_) hlv
          have : j = id := M.apart j id b hl ⟨⟨_, hg', rfl⟩, hb⟩
          subst this
          have h1 := hid j rfl
          rw [List.any_eq_false] at hlent
          have := hlent j h1
          simp only [List.contains_eq_mem, decide_eq_true_eq] at this
          exact this ((hmem j).1 hj)
        · rename_i e0 c0 xs hg
          have e' : cellTo false h τ (.own id) = some x := by simp only [cellTo, hg]; exact e
          exact Rep.mono (fun b hb => ⟨hokok b hb, rfl⟩) (cellTo_ro M e' rc)
        · cases e
      | val τ' x' =>
        have e' : cellTo false h τ (.val τ' x') = some x := e
        exact Rep.mono (fun b hb => ⟨hokok b hb, rfl⟩) (cellTo_ro M e' rc)
      | nils =>
        have e' : cellTo false h τ .nils = some x := e
        exact Rep.mono (fun b hb => ⟨hokok b hb, rfl⟩) (cellTo_ro M e' rc)
      | dead =>
        have e' : cellTo false h τ .dead = some x := e
        exact Rep.mono (fun b hb => ⟨hokok b hb, rfl⟩) (cellTo_ro M e' rc)
      | _ => simp [cellTo] at e
  obtain ⟨g1, _, g3, g4⟩ := entry_all M hval k.args 0 hd ra (fun _ h => h)
  obtain ⟨g5, g6, g7⟩ := g4 (fun _ _ m _ x vs r => Rep.mono (fun b hb => ⟨hokok b hb, rfl⟩) r) (by rw [hH0]; exact hP0)
  rw [hH0] at g1 g6
  have hMc : Mem w Ex' Rd' H0 ρ0 w := by
    refine ⟨fun i b hb => (g6 i b hb).2, ?_, ?_, fun _ hb _ => .inr (.inl hb), fun _ hb _ => .inr (.inr hb), ⟨rfl, rfl, rfl, Nat.le_refl _, fun _ _ _ => .inl rfl⟩, ⟨M.tabs_now, fun b hb => ⟨Nat.lt_of_lt_of_le (M.tab.2 b hb).1 M.frame.size, fun ⟨id, _, hl⟩ => by
      rcases M.own id b hl with h1 | h1
      · have := (M.tab.2 b hb).1; omega
      · exact (M.tab.2 b hb).2 h1⟩⟩, fun b p hS => ⟨Nat.lt_of_lt_of_le (M.scr b p hS).1 M.frame.size, fun ⟨id, _, hl⟩ => M.live_noS hl p hS⟩,
      fun hs => ⟨Nat.le_trans (M.sepN hs).1 M.frame.size, fun b ⟨id, _, hl⟩ => M.live_N hl hs⟩⟩
    · intro i j b hi hj
      obtain ⟨x, hx, hbx⟩ := hliveEx hi
      obtain ⟨y, hy, hby⟩ := hliveEx hj
      obtain ⟨zx, h1, h2⟩ := hlv x (List.mem_of_getElem? hx)
      obtain ⟨zy, h3, h4⟩ := hlv y (List.mem_of_getElem? hy)
      have : x = y := M.apart x y b ⟨⟨zx, h1, h2⟩, hbx⟩ ⟨⟨zy, h3, h4⟩, hby⟩
      subst this
      exact nodup_idx hnd hx hy
    · intro i b hi
      obtain ⟨x, hx, hbx⟩ := hliveEx hi
      obtain ⟨zx, h1, h2⟩ := hlv x (List.mem_of_getElem? hx)
      exact .inr ⟨x, List.mem_of_getElem? hx, ⟨zx, h1, h2⟩, hbx⟩
  subst hH0
  refine (hk w Ex' Rd' ρ0 us a r hMc g5 hF).mono fun e w' ⟨u, h1, ρ1, rv, refs', he, M1, rvr, hrefs, hexit⟩ => ?_
  unfold Ctr.exit0 at hexit
  split at hexit
  · cases hexit
  rename_i hro
  have hro : retOk rv = true := by simpa using hro
  split at hexit
  · rename_i xs is ys js hxr hyr
    split at hexit
    · rename_i hnd2
      obtain ⟨hnd2, hnr⟩ : nodupB ((is ++ js).filterMap id) = true ∧ ∀ c, some c ∈ is ++ js → c ∉ refs' := by
        simp only [Bool.and_eq_true, Bool.not_eq_true', List.any_eq_false] at hnd2
        refine ⟨hnd2.1, fun c hc hr => ?_⟩
        have := hnd2.2 c (List.mem_filterMap.2 ⟨_, hc, rfl⟩)
        simp only [List.contains_eq_mem, decide_eq_true_eq] at this
        exact this hr
      split at hexit
      · rename_i r' hof
        cases hexit
        obtain ⟨hxy, _⟩ := ofCells_val ((exitRets_val _ hxr).append (exitRefs_val _ hyr)) hof
        rw [List.append_nil] at hxy
        rw [← hxy] at hp
        generalize hD : (es.filterMap id).map (fun i => (i, Blk.dead)) = D
        generalize hHH : setBlks slot (bs ++ bs') (sets (D ++ cs) h) = H
        let ρ' : Nat → Value := setρ slot ((is ++ js).map (hdr ρ1)) ρ
        obtain ⟨pus, rp, hret⟩ := retV_rep (H := H) (ρ' := ρ') rvr hro
        obtain ⟨e1, e2, e3⟩ := transferRets M1 k.rets hxr rp hp
        subst e1
        rw [← List.append_nil rest] at hq
        obtain ⟨_, e4, e5, e6⟩ := transferRefs M1 k.args hyr hq
        have hlB : (bs ++ bs').length = (is ++ js).length := by simp [e2, e4]
        have hl2 : (sets (D ++ cs) h).length = h.length := sets_length _ _
        have hPl : Placed H ρ' ρ1 slot (bs ++ bs') (is ++ js) := by
          intro j b hb
          have hj : j < (bs ++ bs').length := (List.getElem?_eq_some_iff.1 hb).1
          refine ⟨by rw [← hHH, setBlks_in _ _ _ _ (by rw [hl2]; exact hslot) hj]; exact hb, ?_⟩
          have hj' : j < ((is ++ js).map (hdr ρ1)).length := by rw [List.length_map, ← hlB]; exact hj
          show setρ slot ((is ++ js).map (hdr ρ1)) ρ (slot + j) = _
          rw [setρ_in hj', List.getElem_map, List.getD_eq_getElem?_getD, List.getElem?_eq_getElem (by simpa using hj')]
          rfl
        have hρo : ∀ i, (i < slot ∨ slot + (bs ++ bs').length ≤ i) → ρ' i = ρ i := fun i hi => setρ_out (by rw [List.length_map, ← hlB]; exact hi)
        have hHo : ∀ i, (i < slot ∨ slot + (bs ++ bs').length ≤ i) → H[i]? = (sets (D ++ cs) h)[i]? := fun i hi => by rw [← hHH, setBlks_out _ _ _ _ hi]
        have hcsk : ∀ p ∈ cs, some p.1 ∈ es := fun p hp => g3 p.1 (by rw [← e5]; exact List.mem_map.2 ⟨p, hp, rfl⟩)
        have hDk : ∀ i, some i ∈ es → (i, Blk.dead) ∈ D := fun i hi => by rw [← hD]; exact List.mem_map.2 ⟨i, (hmem i).1 hi, rfl⟩
        have hDd : ∀ p ∈ D, p.2 = .dead ∧ some p.1 ∈ es := by
          intro p hp
          rw [← hD] at hp
          obtain ⟨i, hi, rfl⟩ := List.mem_map.1 hp
          exact ⟨rfl, (hmem i).2 hi⟩
        -- the blocks, one by one
        have hA : ∀ i, some i ∉ es → (sets (D ++ cs) h)[i]? = h[i]? := fun i hi => sets_out fun p hp => by
          rintro rfl
          rcases List.mem_append.1 hp with hp | hp
          · exact hi (hDd p hp).2
          · exact hi (hcsk p hp)
        have hBC : ∀ i, some i ∈ es → (∃ x, (i, x) ∈ cs ∧ (sets (D ++ cs) h)[i]? = some x) ∨ (sets (D ++ cs) h)[i]? = some .dead := by
          intro i hi
          obtain ⟨y, hy, _⟩ := hlv i hi
          have hlt : i < h.length := (List.getElem?_eq_some_iff.1 hy).1
          rw [sets_append]
          by_cases hin : ∃ p ∈ cs, p.1 = i
          · exact .inl (sets_in hin (by rw [sets_length]; exact hlt))
          · right
            rw [sets_out fun p hp e => hin ⟨p, hp, e⟩]
            obtain ⟨b, hb, e⟩ := sets_in (us := D) ⟨_, hDk i hi, rfl⟩ hlt
            rw [e]; exact congrArg some (hDd _ hb).1
        have hcsr : ∀ i x, (i, x) ∈ cs → ∃ r, r ∈ refs' ∧ ρ1 r = ρ i ∧ (∃ y, h1[r]? = some y ∧ y.lives = true) ∧
            ((∃ t ds c2, x = .vars t ds ∧ h[i]? = some (.vars t c2)) ∨ ∃ e c xs ys, x = .arr e c xs ∧ h[i]? = some (.arr e c ys)) ∧
            (∀ {ok' : Nat → Prop}, ConvPK w' (okOf Rd' h1 ρ1 w') ok' k.args → BRep w' ok' H ρ' x (ρ i)) := by
          intro i x hx
          have hkind := refs_types k.args hd hq (i, x) hx
          obtain ⟨p, hpx⟩ := List.getElem?_of_mem hx
          -- the place in the callee
          have hrefs2 := hrefs
          rw [g7, ← e5] at hrefs2
          have hplt : p < cs.length := (List.getElem?_eq_some_iff.1 hpx).1
          have hlr : refs'.length = cs.length := by have := hrefs2.length; simpa using this
          have hr : refs'[p]? = some refs'[p] := List.getElem?_eq_getElem (by omega)
          obtain ⟨v, hv, y, hy, hyf, hyd⟩ := hrefs2.get? p _ hr
          have hv' : v = ρ i := by
            simp only [List.getElem?_map, hpx, Option.map_some, Option.some.injEq] at hv
            exact hv.symm
          subst hv'
          have hlv1 : ∃ z, h1[refs'[p]]? = some z ∧ z.lives = true := by
            rcases exitRefs_vars k.args hyr _ (List.mem_of_getElem? hr) with ⟨_, _, hz⟩ | ⟨_, _, _, hz⟩ <;> exact ⟨_, hz, rfl⟩
          have hρr : ρ1 refs'[p] = ρ i := by
            obtain ⟨z, hz, hzl⟩ := hlv1
            rw [hy] at hz
            cases hz
            exact hyd (by rintro rfl; cases hzl)
          refine ⟨refs'[p], List.mem_of_getElem? hr, hρr, hlv1, ?_, fun {ok'} hc => ?_⟩
          · rcases hkind with ⟨t, ds, c2, h3, h4⟩ | ⟨e, c, xs, ys, h3, h4⟩
            · exact .inl ⟨t, ds, c2, h3, h4⟩
            · exact .inr ⟨e, c, xs, ys, h3, h4⟩
          · obtain ⟨_, k2⟩ := e6 hc (hPl.right e2)
            obtain ⟨r2, hr2, _, hb⟩ := k2.get? p _ hpx
            rw [hr] at hr2
            cases hr2
            rw [hρr] at hb
            exact hb
        have hcase : ∀ i b, Live H ρ' i b → (∃ j c, i = slot + j ∧ (is ++ js)[j]? = some (some c) ∧ Live h1 ρ1 c b ∧ c ∉ refs') ∨
            ((i < slot ∨ slot + (bs ++ bs').length ≤ i) ∧ Live h ρ i b ∧ (some i ∉ es ∨ ∃ r, Live h1 ρ1 r b ∧ r ∈ refs')) := by
          intro i b ⟨⟨x, hx, hxl⟩, hb⟩
          by_cases hc : i < slot ∨ slot + (bs ++ bs').length ≤ i
          · right
            rw [hρo i hc] at hb
            rw [hHo i hc] at hx
            refine ⟨hc, ?_⟩
            by_cases hi : some i ∈ es
            · rcases hBC i hi with ⟨y, hy, e⟩ | e
              · obtain ⟨r, hrm, hρr, hlr, hkd, _⟩ := hcsr i y hy
                have hlh : ∃ z, h[i]? = some z ∧ z.lives = true := by
                  rcases hkd with ⟨_, _, _, _, hz⟩ | ⟨_, _, _, _, _, hz⟩ <;> exact ⟨_, hz, rfl⟩
                exact ⟨⟨hlh, hb⟩, .inr ⟨r, ⟨hlr, by rw [hρr]; exact hb⟩, hrm⟩⟩
              · rw [e] at hx; cases hx; cases hxl
            · rw [hA i hi] at hx
              exact ⟨⟨⟨x, hx, hxl⟩, hb⟩, .inl hi⟩
          · left
            have hj : i - slot < (bs ++ bs').length := by omega
            obtain ⟨_, hρ⟩ := hPl (i - slot) _ (List.getElem?_eq_getElem hj)
            rw [show slot + (i - slot) = i from by omega] at hρ
            rw [hρ, List.getD_eq_getElem?_getD] at hb
            cases ho : (is ++ js)[i - slot]? with
            | none => rw [ho] at hb; simp [hdr, blockOf] at hb
            | some o => cases o with
              | none => rw [ho] at hb; simp [hdr, blockOf] at hb
              | some c =>
                rw [ho] at hb
                have hb : blockOf (ρ1 c) = some b := by simpa [hdr] using hb
                have harr : ∃ e c' xs, h1[c]? = some (.arr e c' xs) := by
                  rcases List.mem_append.1 (List.mem_of_getElem? ho) with hm | hm
                  · exact exitRets_arr _ hxr c hm
                  · exact exitRefs_arr _ hyr c hm
                obtain ⟨e', c', xs', ha⟩ := harr
                exact ⟨i - slot, c, by omega, ho, ⟨⟨_, ha, rfl⟩, hb⟩, hnr c (List.mem_of_getElem? ho)⟩
        have hfr : ∀ i y, h[i]? = some y → y ≠ .free → (i < slot ∨ slot + (bs ++ bs').length ≤ i) := fun i y hy hf => free_out hfree hy hf
        -- what the callee may have read may be read here
        have hok2 : k.shares = true → ∀ b, okOf Rd' h1 ρ1 w' b → okOf Rd H ρ' w' b := by
          intro hs b hb
          have hin : ∀ id, some id ∈ es → Live h ρ id b → Rd b := fun id _ hl => by
            rcases M.own id b hl with h2 | h2
            · exact M.rd b h2
            · exact M.ex b h2
          refine ⟨hb.1, ?_, fun i hi => ?_⟩
          · rcases hb.2.1 hs with h2 | h2 | ⟨id, h2, h3⟩
            · exact h2.2.1
            · exact M.rd b (Nat.le_trans M.frame.size h2)
            · exact hin id h2 h3
          · rcases hcase i b hi with ⟨j, c, _, _, hl, _⟩ | ⟨_, hl, hl2⟩
            · exact hb.2.2 c hl
            · rcases hl2 with hl2 | ⟨r, hr, _⟩
              · rcases hb.2.1 hs with h2 | h2 | ⟨id, h2, h3⟩
                · exact h2.2.2 i hl
                · have := live_lt M hl; omega
                · have : i = id := M.apart i id b hl h3
                  subst this; exact hl2 h2
              · exact hb.2.2 r hr
        have hconv : ∀ c, (k.shares = false → c.hasSl = false) → Conv w' (okOf Rd' h1 ρ1 w') (okOf Rd H ρ' w') c := by
          intro c hc x vs r
          cases hs : k.shares with
          | true => exact Rep.mono (fun b hb => ⟨hok2 hs b hb, rfl⟩) r
          | false => exact rep_flatTy (hc hs) r
        have hcR : ∀ r ∈ k.rets, ∀ m ∈ r.2, Conv w' (okOf Rd' h1 ρ1 w') (okOf Rd H ρ' w') (mTy m) := fun r hr m hm => hconv _ fun hs => by
          simp only [Ctr.shares, Bool.or_eq_false_iff, List.any_eq_false] at hs
          exact hasSl_of (by simpa using hs.1 r hr) m hm
        have hcP : ConvPK w' (okOf Rd' h1 ρ1 w') (okOf Rd H ρ' w') k.args := fun q hq m hmm => hconv _ fun hs => by
          simp only [Ctr.shares, Bool.or_eq_false_iff, List.any_eq_false] at hs
          have := hs.2 _ hq
          cases q with
          | val a τ => simp [PK.cells] at hmm
          | ref t ms => exact hasSl_of (ms := ms) (by simpa using this) m hmm
          | lent a ms => exact hasSl_of (ms := ms) (by simpa using this) m hmm
          | given e0 c0 => exact hasSl_of (ms := [(some e0, .sl c0)]) (by simpa using this) m hmm
        obtain ⟨f1, f2⟩ := e3 hcR (hPl.left e2)
        obtain ⟨f3, _⟩ := e6 hcP (hPl.right e2)
        have f4 := f2.append e2 f3
        have G : Grown w0 Ex Rd h ρ w H ρ' w' := by
          refine mem_step M (B := Ex') ⟨M1.frame.os, M1.frame.tape, M1.frame.output, M1.frame.size, M1.frame.block⟩ (fun b _ ⟨id, _, hl⟩ => ⟨id, hl⟩) ?_ ?_ ?_ ?_
          · intro i x hx hf
            have hc := hfr i x hx hf
            rw [hHo i hc, hρo i hc]
            by_cases hi : some i ∈ es
            · rcases hBC i hi with ⟨y, hy, e⟩ | e
              · obtain ⟨r, _, _, _, hkd, hbr⟩ := hcsr i y hy
                rcases hkd with ⟨t, ds, c2, rfl, hc2⟩ | ⟨e0, c0, xs0, ys0, rfl, hc2⟩
                · rw [hx] at hc2; cases hc2
                  exact ⟨_, e, .vars, fun _ => rfl⟩
                · rw [hx] at hc2; cases hc2
                  obtain ⟨A, cap, q1, _⟩ := hbr hcP
                  obtain ⟨A2, cap2, q2, _⟩ := M.blocks i _ hx
                  rw [q1] at q2
                  injection q2 with _ q3 _
                  exact ⟨_, e, .arr (by omega), fun _ => rfl⟩
              · -- a list that was handed over
                refine ⟨_, e, .dead ?_, fun h => absurd rfl h⟩
                by_cases hcs : ∃ p ∈ cs, p.1 = i
                · obtain ⟨⟨i', y⟩, hy, rfl⟩ := hcs
                  exfalso
                  have hlt : i' < h.length := (List.getElem?_eq_some_iff.1 hx).1
                  obtain ⟨b, hb, e'⟩ := sets_in (us := cs) (h := sets D h) ⟨_, hy, rfl⟩ (by rw [sets_length]; exact hlt)
                  rw [sets_append, e'] at e
                  cases e
                  obtain ⟨_, _, _, _, hkd, _⟩ := hcsr _ _ hb
                  rcases hkd with ⟨_, _, _, hv, _⟩ | ⟨_, _, _, _, hv, _⟩ <;> cases hv
                · exact handed_list k.args hd (fun hm => hcs (by
                    rw [← e5] at hm
                    obtain ⟨q, hq, rfl⟩ := List.mem_map.1 hm
                    exact ⟨q, hq, rfl⟩)) hi hx
            · exact ⟨x, by rw [hA i hi]; exact hx, .refl hf, fun _ => rfl⟩
          · intro i b hi
            rcases hcase i b hi with ⟨j, c, _, _, hl, _⟩ | ⟨_, hl, _⟩
            · rcases M1.own c b hl with h2 | ⟨id, _, h3⟩
              · exact .inr h2
              · exact .inl ⟨id, h3⟩
            · exact .inl ⟨i, hl⟩
          · have key : ∀ c i b, Live h1 ρ1 c b → c ∉ refs' → Live h ρ i b → (some i ∉ es ∨ ∃ r, Live h1 ρ1 r b ∧ r ∈ refs') → False := by
              intro c i b hc ha hi hor
              rcases hor with hor | ⟨r, hr, hv⟩
              · rcases M1.own c b hc with h2 | ⟨id, h2, h3⟩
                · have := live_lt M hi; omega
                · have : i = id := M.apart i id b hi h3
                  subst this; exact hor h2
              · have : c = r := M1.apart c r b hc hr
                subst this
                exact ha hv
            intro i j b hi hj
            rcases hcase i b hi with ⟨p, c, rfl, hp, hl, ha⟩ | ⟨_, hl, ho⟩ <;> rcases hcase j b hj with ⟨q, c', rfl, hq', hl', ha'⟩ | ⟨_, hl', ho'⟩
            · have : c = c' := M1.apart c c' b hl hl'
              subst this
              rw [nodup_idx hnd2 hp hq']
            · exact (key c j b hl ha hl' ho').elim
            · exact (key c' i b hl' ha' hl ho).elim
            · exact M.apart i j b hl hl'
          · intro K i x hx
            by_cases hc : i < slot ∨ slot + (bs ++ bs').length ≤ i
            · rw [hHo i hc] at hx
              rw [hρo i hc]
              by_cases hi : some i ∈ es
              · right
                rcases hBC i hi with ⟨y, hy, e⟩ | e
                · rw [e] at hx; cases hx
                  obtain ⟨_, _, _, _, _, hb⟩ := hcsr i x hy
                  exact hb hcP
                · rw [e] at hx; cases hx; trivial
              · rw [hA i hi] at hx
                exact .inl ⟨hx, rfl, fun hxl b hb ⟨id, h2, h3⟩ => hi (by rw [M.apart i id b ⟨⟨x, hx, hxl⟩, hb⟩ h3]; exact h2)⟩
            · right
              have hj : i - slot < (bs ++ bs').length := by omega
              obtain ⟨hHj, hρj⟩ := hPl (i - slot) _ (List.getElem?_eq_getElem hj)
              rw [show slot + (i - slot) = i from by omega] at hHj hρj
              rw [hHj] at hx
              cases hx
              rw [hρj]
              exact (f4 (i - slot) _ (List.getElem?_eq_getElem hj)).2.2
        exact ⟨u, ρ', he, G, hret f1⟩
      · cases hexit
    · cases hexit
  · cases hexit
end
end Go.Rx
