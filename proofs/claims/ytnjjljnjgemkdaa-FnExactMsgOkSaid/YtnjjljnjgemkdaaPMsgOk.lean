import Derived.Test.YtnjjljnjgemkdaaFMsgOk0
set_option linter.all false
/- Sizes, copies, likeness. -/
namespace Go.Rx
abbrev DotT := Int × Int
abbrev CmdT := Int × List UInt8 × List UInt8
abbrev RecT := DotT × CmdT × List DotT × Bool
abbrev AckT := DotT × Int
abbrev PairT := List UInt8 × List UInt8 × Bool
abbrev AnsT := DotT × List UInt8 × Bool
abbrev RepT := Int × Int × Int × List RecT × List AckT × List DotT × List PairT × List AnsT
abbrev MsgT := Int × Int × Int × DotT × CmdT × List DotT

/-- lists no longer than a million -/
def lenOk {α : Type} (l : List α) : Prop := l.length ≤ 1048576
/-- what lies in memory -/
def memOk {α : Type} (l : List α) : Prop := l.length ≤ 9223372036854775807

/-- What a size counts: what is left, or below 0. -/
def Szs {α : Type} (f : α × Int → Option Int) (In Ok : α → Prop) : Prop := ∀ a left, In a → 0 ≤ left → left ≤ 1048576 → ∃ r, f (a, left) = some r ∧ (r < 0 ∨ (0 ≤ r ∧ r ≤ left ∧ Ok a))

theorem sz_dots : Szs lszDotS memOk lenOk := by
  intro a left hm h0 h1
  unfold memOk at hm
  simp only [lszDotS]
  rw [wrap64 (by omega) (by omega)]
  by_cases h : left - (a.length : Int) < 0
  · exact ⟨-1, by simp [h], .inl (by omega)⟩
  · exact ⟨left - (a.length : Int), by simp [h], .inr ⟨by omega, by omega, by unfold lenOk; omega⟩⟩

theorem sz_acks : Szs lszAckS memOk lenOk := by
  intro a left hm h0 h1
  unfold memOk at hm
  simp only [lszAckS]
  rw [wrap64 (by omega) (by omega)]
  by_cases h : left - (a.length : Int) < 0
  · exact ⟨-1, by simp [h], .inl (by omega)⟩
  · exact ⟨left - (a.length : Int), by simp [h], .inr ⟨by omega, by omega, by unfold lenOk; omega⟩⟩

theorem sz_cmd : Szs lszCmd (fun c => memOk c.2.1 ∧ memOk c.2.2) (fun _ => True) := by
  intro ⟨k, a, b⟩ left ⟨h2, h3⟩ h0 h1
  unfold memOk at h2 h3
  dsimp only at h2 h3
  simp only [lszCmd]
  rw [wrap64 (by omega) (by omega)]
  by_cases h : left - (a.length : Int) < 0
  · exact ⟨-1, by simp [h], .inl (by omega)⟩
  · rw [wrap64 (by omega) (by omega)]
    by_cases h' : left - (a.length : Int) - (b.length : Int) < 0
    · exact ⟨-1, by simp [h, h'], .inl (by omega)⟩
    · exact ⟨_, by simp [h, h']; rfl, .inr ⟨by omega, by omega, trivial⟩⟩

theorem sz_pair : Szs lszPair (fun c => memOk c.1 ∧ memOk c.2.1) (fun _ => True) := by
  intro ⟨a, b, g⟩ left ⟨h2, h3⟩ h0 h1
  unfold memOk at h2 h3
  dsimp only at h2 h3
  simp only [lszPair]
  rw [wrap64 (by omega) (by omega)]
  by_cases h : left - (a.length : Int) < 0
  · exact ⟨-1, by simp [h], .inl (by omega)⟩
  · rw [wrap64 (by omega) (by omega)]
    by_cases h' : left - (a.length : Int) - (b.length : Int) < 0
    · exact ⟨-1, by simp [h, h'], .inl (by omega)⟩
    · exact ⟨_, by simp [h, h']; rfl, .inr ⟨by omega, by omega, trivial⟩⟩

theorem sz_answer : Szs lszAnswer (fun c => memOk c.2.1) (fun _ => True) := by
  intro ⟨⟨d, e⟩, a, g⟩ left h2 h0 h1
  unfold memOk at h2
  dsimp only at h2
  simp only [lszAnswer]
  rw [wrap64 (by omega) (by omega)]
  by_cases h : left - (a.length : Int) < 0
  · exact ⟨-1, by simp [h], .inl (by omega)⟩
  · exact ⟨_, by simp [h]; rfl, .inr ⟨by omega, by omega, trivial⟩⟩

/-- One behind the other. -/
theorem sz_seq {x : Option Int} {k : Int → Option Int} {P Q : Prop} {left : Int} (h1 : left ≤ 1048576) (hx : ∃ r, x = some r ∧ (r < 0 ∨ (0 ≤ r ∧ r ≤ left ∧ P))) (hk : ∀ r, 0 ≤ r → r ≤ 1048576 → P → ∃ r', k r = some r' ∧ (r' < 0 ∨ (0 ≤ r' ∧ r' ≤ r ∧ Q))) :
    ∃ r, (x.bind fun r => cond (decide (r < 0)) (some (-1)) (k r)) = some r ∧ (r < 0 ∨ (0 ≤ r ∧ r ≤ left ∧ P ∧ Q)) := by
  obtain ⟨r, rfl, h⟩ := hx
  rcases h with h | ⟨h2, h3, h4⟩
  · exact ⟨-1, by simp [h], .inl (by omega)⟩
  · obtain ⟨r', e, h5⟩ := hk r h2 (by omega) h4
    refine ⟨r', by simp [show ¬ r < 0 from by omega, e], ?_⟩
    rcases h5 with h5 | ⟨h5, h6, h7⟩
    · exact .inl h5
    · exact .inr ⟨h5, by omega, h4, h7⟩

theorem sz_end {r left : Int} {P : Prop} (h0 : 0 ≤ r) (h1 : r ≤ left) (h : P) : ∃ r', some r = some r' ∧ (r' < 0 ∨ (0 ≤ r' ∧ r' ≤ left ∧ P)) := ⟨r, rfl, .inr ⟨h0, h1, h⟩⟩

theorem sz_rec : Szs lszRec (fun c => (memOk c.2.1.2.1 ∧ memOk c.2.1.2.2) ∧ memOk c.2.2.1) (fun c => lenOk c.2.2.1) := by
  intro ⟨⟨d, e⟩, ⟨k, a, b⟩, l, s⟩ left ⟨h2, h3⟩ h0 h1
  simp only [lszRec]
  have := sz_seq (Q := lenOk l) h1 (sz_cmd (k, a, b) left h2 h0 h1) (k := fun r8 => ((lszDotS (l, r8)).bind fun r9 => (cond (decide (r9 < (0 : Int))) (some (-1 : Int)) (some r9)))) fun r h4 h5 _ => by
    have := sz_seq (Q := True) h5 (sz_dots l r h3 h4 h5) (k := some) fun r h6 h7 _ => sz_end h6 (Int.le_refl _) trivial
    simpa using this
  simpa using this

/-- The sizes of a list's elements. -/
theorem sz_list {α : Type} {f : α × Int → Option Int} {In Ok : α → Prop} (hf : Szs f In Ok) {r : Int → Option Int} {x : Int → Option Int} (hr : r = some) (hx : x = some) : ∀ (l : List α) (i : Nat) (left : Int), (∀ a ∈ l, In a) → 0 ≤ left → left ≤ 1048576 →
    ∃ r', runL (fun _ a s k => (f (a, s)).bind fun r5 => cond (decide (r5 < 0)) (r (-1)) (k r5)) x i l left = some r' ∧ (r' < 0 ∨ (0 ≤ r' ∧ r' ≤ left ∧ ∀ a ∈ l, Ok a))
  | [], i, left, _, h0, h1 => ⟨left, by simp [runL, hx], .inr ⟨h0, Int.le_refl _, by simp⟩⟩
  | a :: l, i, left, hi, h0, h1 => by
    simp only [runL]
    obtain ⟨r5, e, h⟩ := hf a left (hi a (by simp)) h0 h1
    rw [e]
    rcases h with h | ⟨h2, h3, h4⟩
    · exact ⟨-1, by simp [h, hr], .inl (by omega)⟩
    · obtain ⟨r', e', h5⟩ := sz_list hf hr hx l (i + 1) r5 (fun a ha => hi a (by simp [ha])) h2 (by omega)
      refine ⟨r', by simp only [Option.bind_some, show ¬ r5 < 0 from by omega, decide_false, cond_false]; exact e', ?_⟩
      rcases h5 with h5 | ⟨h5, h6, h7⟩
      · exact .inl h5
      · refine .inr ⟨h5, by omega, fun b hb => ?_⟩
        rcases List.mem_cons.1 hb with rfl | hb
        · exact h4
        · exact h7 b hb

theorem sz_recs : Szs lszRecS (fun l => memOk l ∧ ∀ c ∈ l, (memOk c.2.1.2.1 ∧ memOk c.2.1.2.2) ∧ memOk c.2.2.1) (fun l => lenOk l ∧ ∀ c ∈ l, lenOk c.2.2.1) := by
  intro a left ⟨hm, hi⟩ h0 h1
  unfold memOk at hm
  simp only [lszRecS]
  rw [wrap64 (by omega) (by omega)]
  by_cases h : left - (a.length : Int) < 0
  · exact ⟨-1, by simp [h], .inl (by omega)⟩
  · have := loop0 a (by omega) (fun q i s => lszRecS_L5 Int q (a, s, i) (fun left6 => (some left6)) some) (fun _ a s k => (lszRec (a, s)).bind fun r5 => cond (decide (r5 < 0)) (some (-1)) (k r5)) some
      (fun q i hi s => by simp only [lszRecS_L5]; simp [hi, nth_nat _ _ hi, wrap_succ (show i < 4611686018427387904 by omega)]) (fun q s => by simp [lszRecS_L5]) (left - a.length)
    simp only [h, decide_false, cond_false]
    rw [this]
    obtain ⟨r, e, h5⟩ := sz_list sz_rec rfl rfl a 0 (left - a.length) hi (by omega) (by omega)
    refine ⟨r, e, ?_⟩
    rcases h5 with h5 | ⟨h5, h6, h7⟩
    · exact .inl h5
    · exact .inr ⟨h5, by omega, by unfold lenOk; omega, h7⟩

theorem sz_pairs : Szs lszPairS (fun l => memOk l ∧ ∀ c ∈ l, (memOk c.1 ∧ memOk c.2.1)) (fun l => lenOk l ∧ ∀ c ∈ l, True) := by
  intro a left ⟨hm, hi⟩ h0 h1
  unfold memOk at hm
  simp only [lszPairS]
  rw [wrap64 (by omega) (by omega)]
  by_cases h : left - (a.length : Int) < 0
  · exact ⟨-1, by simp [h], .inl (by omega)⟩
  · have := loop0 a (by omega) (fun q i s => lszPairS_L5 Int q (a, s, i) (fun left6 => (some left6)) some) (fun _ a s k => (lszPair (a, s)).bind fun r5 => cond (decide (r5 < 0)) (some (-1)) (k r5)) some
      (fun q i hi s => by simp only [lszPairS_L5]; simp [hi, nth_nat _ _ hi, wrap_succ (show i < 4611686018427387904 by omega)]) (fun q s => by simp [lszPairS_L5]) (left - a.length)
    simp only [h, decide_false, cond_false]
    rw [this]
    obtain ⟨r, e, h5⟩ := sz_list sz_pair rfl rfl a 0 (left - a.length) hi (by omega) (by omega)
    refine ⟨r, e, ?_⟩
    rcases h5 with h5 | ⟨h5, h6, h7⟩
    · exact .inl h5
    · exact .inr ⟨h5, by omega, by unfold lenOk; omega, h7⟩

theorem sz_answers : Szs lszAnswerS (fun l => memOk l ∧ ∀ c ∈ l, memOk c.2.1) (fun l => lenOk l ∧ ∀ c ∈ l, True) := by
  intro a left ⟨hm, hi⟩ h0 h1
  unfold memOk at hm
  simp only [lszAnswerS]
  rw [wrap64 (by omega) (by omega)]
  by_cases h : left - (a.length : Int) < 0
  · exact ⟨-1, by simp [h], .inl (by omega)⟩
  · have := loop0 a (by omega) (fun q i s => lszAnswerS_L5 Int q (a, s, i) (fun left6 => (some left6)) some) (fun _ a s k => (lszAnswer (a, s)).bind fun r5 => cond (decide (r5 < 0)) (some (-1)) (k r5)) some
      (fun q i hi s => by simp only [lszAnswerS_L5]; simp [hi, nth_nat _ _ hi, wrap_succ (show i < 4611686018427387904 by omega)]) (fun q s => by simp [lszAnswerS_L5]) (left - a.length)
    simp only [h, decide_false, cond_false]
    rw [this]
    obtain ⟨r, e, h5⟩ := sz_list sz_answer rfl rfl a 0 (left - a.length) hi (by omega) (by omega)
    refine ⟨r, e, ?_⟩
    rcases h5 with h5 | ⟨h5, h6, h7⟩
    · exact .inl h5
    · exact .inr ⟨h5, by omega, by unfold lenOk; omega, h7⟩

def RepIn (r : RepT) : Prop := (memOk r.2.2.2.1 ∧ ∀ c ∈ r.2.2.2.1, (memOk c.2.1.2.1 ∧ memOk c.2.1.2.2) ∧ memOk c.2.2.1) ∧ memOk r.2.2.2.2.1 ∧ memOk r.2.2.2.2.2.1 ∧
  (memOk r.2.2.2.2.2.2.1 ∧ ∀ c ∈ r.2.2.2.2.2.2.1, memOk c.1 ∧ memOk c.2.1) ∧ (memOk r.2.2.2.2.2.2.2 ∧ ∀ c ∈ r.2.2.2.2.2.2.2, memOk c.2.1)
def RepOk (r : RepT) : Prop := (lenOk r.2.2.2.1 ∧ ∀ c ∈ r.2.2.2.1, lenOk c.2.2.1) ∧ lenOk r.2.2.2.2.1 ∧ lenOk r.2.2.2.2.2.1 ∧ lenOk r.2.2.2.2.2.2.1 ∧ lenOk r.2.2.2.2.2.2.2
def MsgIn (m : MsgT) : Prop := (memOk m.2.2.2.2.1.2.1 ∧ memOk m.2.2.2.2.1.2.2) ∧ memOk m.2.2.2.2.2
def MsgOkS (m : MsgT) : Prop := lenOk m.2.2.2.2.2

theorem sz_replica : Szs lszReplica RepIn RepOk := by
  intro ⟨a0, a1, a2, a3, a4, a5, a6, a7⟩ left ⟨h3, h4, h5, h6, h7⟩ h0 h1
  simp only [lszReplica]
  have := sz_seq h1 (sz_recs a3 left h3 h0 h1) fun r g1 g2 _ => sz_seq g2 (sz_acks a4 r h4 g1 g2) fun r g1 g2 _ => sz_seq g2 (sz_dots a5 r h5 g1 g2) fun r g1 g2 _ => sz_seq g2 (sz_pairs a6 r h6 g1 g2) fun r g1 g2 _ =>
    sz_seq (Q := True) g2 (sz_answers a7 r h7 g1 g2) fun r g1 g2 _ => sz_end g1 (Int.le_refl _) trivial
  obtain ⟨r, e, h⟩ := this
  refine ⟨r, e, h.imp id fun ⟨k1, k2, k3, k4, k5, k6, k7, _⟩ => ⟨k1, k2, k3, k4, k5, k6.1, k7.1⟩⟩

theorem sz_msg : Szs lszMsg MsgIn MsgOkS := by
  intro ⟨a0, a1, a2, ⟨a3, a4⟩, ⟨a5, a6, a7⟩, a8⟩ left ⟨h3, h4⟩ h0 h1
  simp only [lszMsg]
  have := sz_seq h1 (sz_cmd (a5, a6, a7) left h3 h0 h1) fun r g1 g2 _ => sz_seq (Q := True) g2 (sz_dots a8 r h4 g1 g2) fun r g1 g2 _ => sz_end g1 (Int.le_refl _) trivial
  obtain ⟨r, e, h⟩ := this
  exact ⟨r, e, h.imp id fun ⟨k1, k2, k3, k4, _⟩ => ⟨k1, k2, k4⟩⟩

/-! ### copies -/
theorem to_dot (d : DotT) : ltoDot d = some d := rfl
theorem to_cmd (d : CmdT) : ltoCmd d = some d := rfl
theorem to_pair (d : PairT) : ltoPair d = some d := rfl

theorem to_dots (l : List DotT) (h : lenOk l) : ltoDotS l = some l := by
  unfold lenOk at h
  simp only [ltoDotS]
  have := copy_run l (by omega) id (0, 0) (fun q i out => ltoDotS_L3 (List DotT) q (l, i, out) some some) some
    (fun q i hi out ho => by simp only [ltoDotS_L3]; simp [hi, ho, nth_nat _ _ hi, wrap_succ (show i < 4611686018427387904 by omega), ltoDot]) (fun q out => by simp [ltoDotS_L3])
  simp only [List.map_id] at this
  rw [← this]
  have hle : (l.length : Int) ≤ 4294967296 := by omega
  simp [hle]

theorem to_rec (x : RecT) (h : lenOk x.2.2.1) : ltoRec x = some (x.1.1, x.1.2, x.2.1.1, x.2.1.2.1, x.2.1.2.2, x.2.2.1, x.2.2.2) := by
  obtain ⟨⟨a, b⟩, ⟨c, d, e⟩, f, g⟩ := x
  simp only [ltoRec, to_dot, to_cmd, Option.bind_some]
  rw [to_dots f h]
  rfl
theorem to_ack (x : AckT) : ltoAck x = some (x.1.1, x.1.2, x.2) := rfl
theorem to_answer (x : AnsT) : ltoAnswer x = some (x.1.1, x.1.2, x.2.1, x.2.2) := rfl

theorem to_recs (l : List RecT) (h : lenOk l) (h2 : ∀ x ∈ l, lenOk x.2.2.1) : ltoRecS l = some l := by
  unfold lenOk at h
  simp only [ltoRecS]
  have := copy_run l (by omega) id ((0, 0), (0, [], []), [], false) (fun q i out => ltoRecS_L3 (List RecT) q (l, i, out) some some) some
    (fun q i hi out ho => by simp only [ltoRecS_L3]; simp [hi, ho, nth_nat _ _ hi, wrap_succ (show i < 4611686018427387904 by omega), to_rec _ (h2 l[i] (List.getElem_mem hi))]) (fun q out => by simp [ltoRecS_L3])
  simp only [List.map_id] at this
  rw [← this]
  have hle : (l.length : Int) ≤ 4294967296 := by omega
  simp [hle]

theorem to_acks (l : List AckT) (h : lenOk l) : ltoAckS l = some l := by
  unfold lenOk at h
  simp only [ltoAckS]
  have := copy_run l (by omega) id ((0, 0), 0) (fun q i out => ltoAckS_L3 (List AckT) q (l, i, out) some some) some
    (fun q i hi out ho => by simp only [ltoAckS_L3]; simp [hi, ho, nth_nat _ _ hi, wrap_succ (show i < 4611686018427387904 by omega), to_ack]) (fun q out => by simp [ltoAckS_L3])
  simp only [List.map_id] at this
  rw [← this]
  have hle : (l.length : Int) ≤ 4294967296 := by omega
  simp [hle]

theorem to_pairs (l : List PairT) (h : lenOk l) : ltoPairS l = some l := by
  unfold lenOk at h
  simp only [ltoPairS]
  have := copy_run l (by omega) id ([], [], false) (fun q i out => ltoPairS_L3 (List PairT) q (l, i, out) some some) some
    (fun q i hi out ho => by simp only [ltoPairS_L3]; simp [hi, ho, nth_nat _ _ hi, wrap_succ (show i < 4611686018427387904 by omega), to_pair]) (fun q out => by simp [ltoPairS_L3])
  simp only [List.map_id] at this
  rw [← this]
  have hle : (l.length : Int) ≤ 4294967296 := by omega
  simp [hle]

theorem to_answers (l : List AnsT) (h : lenOk l) : ltoAnswerS l = some l := by
  unfold lenOk at h
  simp only [ltoAnswerS]
  have := copy_run l (by omega) id ((0, 0), [], false) (fun q i out => ltoAnswerS_L3 (List AnsT) q (l, i, out) some some) some
    (fun q i hi out ho => by simp only [ltoAnswerS_L3]; simp [hi, ho, nth_nat _ _ hi, wrap_succ (show i < 4611686018427387904 by omega), to_answer]) (fun q out => by simp [ltoAnswerS_L3])
  simp only [List.map_id] at this
  rw [← this]
  have hle : (l.length : Int) ≤ 4294967296 := by omega
  simp [hle]

theorem to_replica (x : RepT) (h : RepOk x) : ltoReplica x = some x := by
  obtain ⟨a0, a1, a2, a3, a4, a5, a6, a7⟩ := x
  obtain ⟨⟨h3, h3'⟩, h4, h5, h6, h7⟩ := h
  simp only [ltoReplica]
  rw [to_recs a3 h3 h3', Option.bind_some, to_acks a4 h4, Option.bind_some, to_dots a5 h5, Option.bind_some, to_pairs a6 h6, Option.bind_some, to_answers a7 h7]
  rfl

theorem to_msg (x : MsgT) (h : MsgOkS x) : ltoMsg x = some (x.1, x.2.1, x.2.2.1, x.2.2.2.1.1, x.2.2.2.1.2, x.2.2.2.2.1.1, x.2.2.2.2.1.2.1, x.2.2.2.2.1.2.2, x.2.2.2.2.2) := by
  obtain ⟨a0, a1, a2, ⟨a3, a4⟩, ⟨a5, a6, a7⟩, a8⟩ := x
  simp only [ltoMsg, to_dot, to_cmd, Option.bind_some]
  rw [to_dots a8 h]
  rfl

/-! ### likeness -/
theorem eq_dot (d : DotT) : leqDot (d, d) = some true := by simp [leqDot]
theorem eq_cmd (d : CmdT) : leqCmd (d, d) = some true := by simp [leqCmd]
theorem eq_pair (d : PairT) : leqPair (d, d) = some true := by simp [leqPair]
theorem eq_ack (d : AckT) : leqAck (d, d) = some true := by
  obtain ⟨⟨a, b⟩, c⟩ := d
  simp [leqAck, leqDot]
theorem eq_answer (d : AnsT) : leqAnswer (d, d) = some true := by
  obtain ⟨⟨a, b⟩, c, e⟩ := d
  simp [leqAnswer, leqDot]

theorem runL_skip {α : Type} {σ : Type} {ρ : Type} (fin : σ → ρ) : ∀ (l : List α) (i : Nat) (s : σ), runL (fun _ _ s k => k s) fin i l s = fin s
  | [], _, _ => rfl
  | _ :: l, i, s => runL_skip fin l (i + 1) s

theorem eq_dots (l : List DotT) (h : lenOk l) : leqDotS (l, l) = some true := by
  unfold lenOk at h
  simp only [leqDotS]
  have := loop0 l (by omega) (fun q i (_ : Unit) => leqDotS_L4 Bool q (l, l, i) (fun _ => some true) some) (fun _ _ s k => k s) (fun _ => some true)
    (fun q i hi s => by simp only [leqDotS_L4]; simp [hi, nth_nat _ _ hi, wrap_succ (show i < 4611686018427387904 by omega), eq_dot l[i]]) (fun q s => by simp [leqDotS_L4]) ()
  simp [this, runL_skip]

theorem eq_rec (d : RecT) (h : lenOk d.2.2.1) : leqRec (d, d) = some true := by
  obtain ⟨⟨a, b⟩, ⟨c, e, f⟩, g, s⟩ := d
  simp [leqRec, leqDot, leqCmd, eq_dots g h]

theorem eq_recs (l : List RecT) (h : lenOk l) (h2 : ∀ x ∈ l, lenOk x.2.2.1) : leqRecS (l, l) = some true := by
  unfold lenOk at h
  simp only [leqRecS]
  have := loop0 l (by omega) (fun q i (_ : Unit) => leqRecS_L4 Bool q (l, l, i) (fun _ => some true) some) (fun _ _ s k => k s) (fun _ => some true)
    (fun q i hi s => by simp only [leqRecS_L4]; simp [hi, nth_nat _ _ hi, wrap_succ (show i < 4611686018427387904 by omega), eq_rec l[i] (h2 l[i] (List.getElem_mem hi))]) (fun q s => by simp [leqRecS_L4]) ()
  simp [this, runL_skip]

theorem eq_acks (l : List AckT) (h : lenOk l) : leqAckS (l, l) = some true := by
  unfold lenOk at h
  simp only [leqAckS]
  have := loop0 l (by omega) (fun q i (_ : Unit) => leqAckS_L4 Bool q (l, l, i) (fun _ => some true) some) (fun _ _ s k => k s) (fun _ => some true)
    (fun q i hi s => by simp only [leqAckS_L4]; simp [hi, nth_nat _ _ hi, wrap_succ (show i < 4611686018427387904 by omega), eq_ack l[i]]) (fun q s => by simp [leqAckS_L4]) ()
  simp [this, runL_skip]

theorem eq_pairs (l : List PairT) (h : lenOk l) : leqPairS (l, l) = some true := by
  unfold lenOk at h
  simp only [leqPairS]
  have := loop0 l (by omega) (fun q i (_ : Unit) => leqPairS_L4 Bool q (l, l, i) (fun _ => some true) some) (fun _ _ s k => k s) (fun _ => some true)
    (fun q i hi s => by simp only [leqPairS_L4]; simp [hi, nth_nat _ _ hi, wrap_succ (show i < 4611686018427387904 by omega), eq_pair l[i]]) (fun q s => by simp [leqPairS_L4]) ()
  simp [this, runL_skip]

theorem eq_answers (l : List AnsT) (h : lenOk l) : leqAnswerS (l, l) = some true := by
  unfold lenOk at h
  simp only [leqAnswerS]
  have := loop0 l (by omega) (fun q i (_ : Unit) => leqAnswerS_L4 Bool q (l, l, i) (fun _ => some true) some) (fun _ _ s k => k s) (fun _ => some true)
    (fun q i hi s => by simp only [leqAnswerS_L4]; simp [hi, nth_nat _ _ hi, wrap_succ (show i < 4611686018427387904 by omega), eq_answer l[i]]) (fun q s => by simp [leqAnswerS_L4]) ()
  simp [this, runL_skip]

theorem eq_replica (x : RepT) (h : RepOk x) : leqReplica (x, x) = some true := by
  obtain ⟨a0, a1, a2, a3, a4, a5, a6, a7⟩ := x
  obtain ⟨⟨h3, h3'⟩, h4, h5, h6, h7⟩ := h
  simp [leqReplica, eq_recs a3 h3 h3', eq_acks a4 h4, eq_dots a5 h5, eq_pairs a6 h6, eq_answers a7 h7]

theorem eq_msg (x : MsgT) (h : MsgOkS x) : leqMsg (x, x) = some true := by
  obtain ⟨a0, a1, a2, ⟨a3, a4⟩, ⟨a5, a6, a7⟩, a8⟩ := x
  simp [leqMsg, leqDot, leqCmd, eq_dots a8 h]

/-! ### what was handed in is in memory -/
abbrev dotTy : Ty := .pair (.int .i64) (.int .i64)
abbrev cmdTy : Ty := .pair (.int .i64) (.pair .str .str)
abbrev recTy : Ty := .pair dotTy (.pair cmdTy (.pair (.sl dotTy) .bool))
abbrev ackTy : Ty := .pair dotTy (.int .i64)
abbrev pairTy : Ty := .pair .str (.pair .str .bool)
abbrev ansTy : Ty := .pair dotTy (.pair .str .bool)
abbrev repTy : Ty := .pair (.int .i64) (.pair (.int .i64) (.pair (.int .i64) (.pair (.sl recTy) (.pair (.sl ackTy) (.pair (.sl dotTy) (.pair (.sl pairTy) (.sl ansTy)))))))
abbrev msgTy : Ty := .pair (.int .i64) (.pair (.int .i64) (.pair (.int .i64) (.pair dotTy (.pair cmdTy (.sl dotTy)))))
theorem mem_of {α : Type} {l : List α} (h : l.length ≤ maxLen) : memOk l := by unfold maxLen at h; unfold memOk; omega
theorem good_rec {x : RecT} (h : GoodD recTy x) : (memOk x.2.1.2.1 ∧ memOk x.2.1.2.2) ∧ memOk x.2.2.1 := ⟨⟨mem_of h.2.1.2.1, mem_of h.2.1.2.2⟩, mem_of h.2.2.1.1⟩
theorem good_replica {r : RepT} (h : GoodD repTy r) : RepIn r :=
  ⟨⟨mem_of h.2.2.2.1.1, fun c hc => good_rec (h.2.2.2.1.2 c hc)⟩, mem_of h.2.2.2.2.1.1, mem_of h.2.2.2.2.2.1.1, ⟨mem_of h.2.2.2.2.2.2.1.1, fun c hc => have g := h.2.2.2.2.2.2.1.2 c hc; ⟨mem_of g.1, mem_of g.2.1⟩⟩,
    ⟨mem_of h.2.2.2.2.2.2.2.1, fun c hc => have g := h.2.2.2.2.2.2.2.2 c hc; mem_of g.2.1⟩⟩
theorem good_msg {m : MsgT} (h : GoodD msgTy m) : MsgIn m := ⟨⟨mem_of h.2.2.2.2.1.2.1, mem_of h.2.2.2.2.1.2.2⟩, mem_of h.2.2.2.2.2.1⟩
end Go.Rx
/- MsgOk: the program's and the reference's. -/
namespace Go.Rx
def inB (x a b : Int) : Bool := decide (x ≥ a) && decide (x ≤ b)
def dotOkB (d : DotT) : Bool := inB d.1 1 7 && inB d.2 1 999
def lessB (a b : DotT) : Bool := decide (a.1 < b.1) || (a.1 == b.1 && decide (a.2 < b.2))

theorem sIn (x a b : Int) : sl1In (x, a, b) = some (inB x a b) := by
  unfold inB; simp only [sl1In]; cases decide (x ≥ a) <;> rfl
theorem iIn (x a b : Int) : iin (x, a, b) = some (inB x a b) := by
  unfold inB; simp only [iin]; cases decide (x ≥ a) <;> rfl
theorem sDotOk_eq (d : DotT) : sDotOk d = some (dotOkB d) := by
  obtain ⟨a, b⟩ := d
  unfold dotOkB; simp only [sDotOk, sIn, Option.bind_some]; cases inB a 1 7 <;> rfl
theorem iDotOk_eq (d : DotT) : iDotOk d = some (dotOkB d) := by
  obtain ⟨a, b⟩ := d
  unfold dotOkB; simp only [iDotOk, iIn, Option.bind_some]; cases inB a 1 7 <;> rfl
theorem sLess (a b : DotT) : sDotLess (a, b) = some (lessB a b) := by
  obtain ⟨a0, a1⟩ := a; obtain ⟨b0, b1⟩ := b
  unfold lessB; simp only [sDotLess]; cases decide (a0 < b0) <;> cases (a0 == b0) <;> simp
theorem iLess (a b : DotT) : iDotLess (a, b) = some (lessB a b) := by
  obtain ⟨a0, a1⟩ := a; obtain ⟨b0, b1⟩ := b
  unfold lessB; simp only [iDotLess]; cases decide (a0 < b0) <;> cases (a0 == b0) <;> simp

theorem pair_beq (a b : DotT) : (a.1 == b.1 && a.2 == b.2) = (a == b) := rfl

/-- Neighbours, and each one. -/
theorem runL_chain {α σ ρ : Type} [Inhabited α] (xs : List α) (p : α → Bool) (less : α → α → Bool) (no : ρ) (fin : σ → ρ) (s : σ) :
    runL (fun i a s k => cond (p a) (cond (decide (0 < i)) (cond (less (nth xs ((i - 1 : Nat) : Int)) a) (k s) no) (k s)) no) fin 0 xs s = cond (xs.all p && chainB less xs) (fin s) no := by
  have key : ∀ (l pre : List α), xs = pre ++ l → runL (fun i a s k => cond (p a) (cond (decide (0 < i)) (cond (less (nth xs ((i - 1 : Nat) : Int)) a) (k s) no) (k s)) no) fin pre.length l s =
      cond (l.all p && match pre.getLast? with | none => chainB less l | some b => chainB less (b :: l)) (fin s) no := by
    intro l
    induction l with
    | nil => intro pre h; simp only [runL]; cases pre.getLast? <;> simp [chainB]
    | cons a l ih =>
      intro pre h
      simp only [runL]
      have := ih (pre ++ [a]) (by rw [h]; simp)
      rw [List.length_append, List.length_singleton] at this
      rw [this]
      simp only [List.getLast?_append, List.getLast?_singleton, Option.some_or, List.all_cons]
      rcases List.eq_nil_or_concat pre with hp | ⟨q, b, hp⟩
      · subst hp
        simp
        cases p a <;> simp
      · rw [List.concat_eq_append] at hp
        subst hp
        have hn : nth xs (((q ++ [b]).length - 1 : Nat) : Int) = b := by
          rw [h, nth_nat _ _ (by simp)]
          simp
        rw [hn]
        simp [chainB]
        cases p a <;> cases less b a <;> simp
  have := key xs [] rfl
  simpa using this

theorem sHas (l : List DotT) (d : DotT) (h : lenOk l) : sl8Has (l, d) = some (l.any (· == d)) := by
  unfold lenOk at h
  obtain ⟨a, b⟩ := d
  simp only [sl8Has]
  have := loop0 l (by omega) (fun q i (_ : Unit) => sl8Has_L2 Bool q (l, i, a, b) (fun _ => some false) some) (fun _ x s k => cond (x == (a, b)) (some true) (k s)) (fun _ => some false)
    (fun q i hi s => by simp only [sl8Has_L2]; simp [hi, nth_nat _ _ hi, wrap_succ (show i < 4611686018427387904 by omega)]; rfl) (fun q s => by simp [sl8Has_L2]) ()
  rw [this, runL_any]
  cases l.any (· == (a, b)) <;> rfl

def itemB (d : DotT) (l : List DotT) : Bool := dotOkB d && (decide (l.length ≤ 60) && (!(l.any (· == d)) && (l.all dotOkB && chainB lessB l)))

theorem sItem (d : DotT) (l : List DotT) (h : lenOk l) : sl8Item (d, l) = some (itemB d l) := by
  have h' := h
  unfold lenOk at h'
  obtain ⟨a, b⟩ := d
  unfold itemB
  simp only [sl8Item, sDotOk_eq, Option.bind_some, sHas l (a, b) h]
  have := loop0 l (by omega) (fun q i (_ : Unit) => sl8Item_L4 Bool q (i, a, b, l) (fun _ => some true) some) (fun i x s k => cond (dotOkB x) (cond (decide (0 < i)) (cond (lessB (nth l ((i - 1 : Nat) : Int)) x) (k s) (some false)) (k s)) (some false)) (fun _ => some true)
    (fun q i hi s => by
      simp only [sl8Item_L4]
      rcases Nat.eq_zero_or_pos i with h0 | h0
      · subst h0
        simp [hi, sDotOk_eq]
        have := nth_nat l 0 hi
        simp at this
        have w1 : IntKind.wrap .i64 1 = 1 := rfl
        rw [this]
        try rw [w1]
      · simp [hi, nth_nat _ _ hi, wrap_succ (show i < 4611686018427387904 by omega), wrap_pred (show i < 4611686018427387904 by omega) h0, sDotOk_eq, sLess, h0, show i - 1 < l.length by omega]
        try (cases dotOkB l[i] <;> cases lessB (nth l ((i - 1 : Nat) : Int)) l[i] <;> simp)) (fun q s => by simp [sl8Item_L4]) ()
  rw [this, runL_chain]
  have e60 : decide ((l.length : Int) > 60) = !decide (l.length ≤ 60) := by rw [Bool.eq_iff_iff]; simp; omega
  rw [e60]
  cases dotOkB (a, b) <;> cases decide (l.length ≤ 60) <;> cases l.any (· == (a, b)) <;> cases (l.all dotOkB && chainB lessB l) <;> rfl

theorem iDeps (d : DotT) (l : List DotT) (h : lenOk l) : idepsOk (d, l) = some (l.all (fun x => dotOkB x && !(x == d)) && (chainB lessB l && decide (l.length ≤ 60))) := by
  unfold lenOk at h
  obtain ⟨a, b⟩ := d
  simp only [idepsOk]
  have := loop0 l (by omega) (fun q i (_ : Unit) => idepsOk_L2 Bool q (l, l, ((l.length : Nat) : Int), i, a, b) (fun deps11 => some (decide (((deps11.length : Nat) : Int) ≤ (60 : Int)))) some) (fun i x s k => cond (dotOkB x && !(x == (a, b))) (cond (decide (0 < i)) (cond (lessB (nth l ((i - 1 : Nat) : Int)) x) (k s) (some false)) (k s)) (some false)) (fun _ => some (decide (((l.length : Nat) : Int) ≤ (60 : Int))))
    (fun q i hi s => by
      simp only [idepsOk_L2]
      rcases Nat.eq_zero_or_pos i with h0 | h0
      · subst h0
        simp [hi, iDotOk_eq]
        have := nth_nat l 0 hi
        simp at this
        have w1 : IntKind.wrap .i64 1 = 1 := rfl
        rw [this, w1]
        have e : (l[0].1 == a && l[0].2 == b) = (l[0] == (a, b)) := rfl
        rw [e]
        show (cond (dotOkB l[0]) _ _) = _
        cases dotOkB l[0] <;> cases (l[0] == (a, b)) <;> rfl
      · simp only [hi, nth_nat _ _ hi, wrap_succ (show i < 4611686018427387904 by omega), wrap_pred (show i < 4611686018427387904 by omega) h0, iDotOk_eq, iLess, Option.bind_some]
        have e : (l[i].1 == a && l[i].2 == b) = (l[i] == (a, b)) := rfl
        rw [e]
        simp [hi, h0, show i - 1 < l.length by omega]
        cases dotOkB l[i] <;> cases (l[i] == (a, b)) <;> cases lessB (nth l ((i - 1 : Nat) : Int)) l[i] <;> rfl) (fun q s => by simp [idepsOk_L2]) ()
  rw [this, runL_chain]
  have e60 : decide ((l.length : Int) ≤ 60) = decide (l.length ≤ 60) := by rw [Bool.eq_iff_iff]; simp; omega
  rw [e60]
  cases l.all (fun x => dotOkB x && !(x == (a, b))) <;> cases chainB lessB l <;> rfl

theorem iDeps_item (d : DotT) (l : List DotT) (h : lenOk l) (hd : dotOkB d = true) : idepsOk (d, l) = some (itemB d l) := by
  rw [iDeps d l h]
  unfold itemB
  have : l.all (fun x => dotOkB x && !(x == d)) = (l.all dotOkB && !(l.any (· == d))) := by
    induction l with
    | nil => rfl
    | cons a l ih =>
      have ih := ih (by unfold lenOk at h ⊢; simp at h; omega)
      simp only [List.all_cons, List.any_cons, ih]
      cases dotOkB a <;> cases (a == d) <;> cases l.all dotOkB <;> cases l.any (· == d) <;> rfl
  rw [this, hd]
  cases l.all dotOkB <;> cases l.any (· == d) <;> cases chainB lessB l <;> cases decide (l.length ≤ 60) <;> rfl

theorem sDeps (n : Int) (l : List DotT) (h : lenOk l) : sl9Deps (n, l) = some (l.all fun d => !decide (d.1 > n)) := by
  unfold lenOk at h
  simp only [sl9Deps]
  have := loop0 l (by omega) (fun q i (_ : Unit) => sl9Deps_L2 Bool q (n, l, i) (fun _ => some true) some) (fun _ x s k => cond (!decide (x.1 > n)) (k s) (some false)) (fun _ => some true)
    (fun q i hi s => by
      simp only [sl9Deps_L2]; simp [hi, nth_nat _ _ hi, wrap_succ (show i < 4611686018427387904 by omega)]) (fun q s => by simp [sl9Deps_L2]) ()
  rw [this, runL_all]
  cases l.all fun d => !decide (d.1 > n) <;> rfl

theorem iWithin (n : Int) (l : List DotT) (h : lenOk l) : iwithin (l, n) = some (l.all fun d => inB d.1 1 n) := by
  unfold lenOk at h
  simp only [iwithin]
  have := loop0 l (by omega) (fun q i (_ : Unit) => iwithin_L2 Bool q (n, l, ((l.length : Nat) : Int), i) (fun _ => some true) some) (fun _ x s k => cond (inB x.1 1 n) (k s) (some false)) (fun _ => some true)
    (fun q i hi s => by
      simp only [iwithin_L2]; simp [hi, nth_nat _ _ hi, wrap_succ (show i < 4611686018427387904 by omega), iIn]
      try (cases inB l[i].1 1 n <;> rfl)) (fun q s => by simp [iwithin_L2]) ()
  rw [this, runL_all]
  cases l.all fun d => inB d.1 1 n <;> rfl

/-- The place of a dot, or -1. -/
def atB (l : List RecT) (d : DotT) : Int := match l.findIdx? (fun x => x.1 == d) with
  | some j => (j : Int)
  | none => -1

theorem sAt (r : RepT) (d : DotT) (h : lenOk r.2.2.2.1) : sl9At (r, d) = some (atB r.2.2.2.1 d) := by
  obtain ⟨r0, r1, r2, l, r4, r5, r6, r7⟩ := r
  obtain ⟨a, b⟩ := d
  unfold lenOk at h
  dsimp only at h
  simp only [sl9At]
  have := loop0 l (by omega) (fun q i (_ : Unit) => sl9At_L2 Int q (i, r0, r1, r2, l, r4, r5, r6, r7, a, b) (fun _ => some (-1)) some) (fun i x s k => cond (x.1 == (a, b)) (some (i : Int)) (k s)) (fun _ => some (-1))
    (fun q i hi s => by
      simp only [sl9At_L2]; simp [hi, nth_nat _ _ hi, wrap_succ (show i < 4611686018427387904 by omega)]; rfl) (fun q s => by simp [sl9At_L2]) ()
  rw [this, runL_find (fun x : RecT => x.1 == (a, b)) (fun i => some (i : Int)) (fun _ => some (-1))]
  unfold atB
  cases l.findIdx? fun x => x.1 == (a, b) <;> simp

theorem iAt (r : RepT) (d : DotT) (h : lenOk r.2.2.2.1) : irecAt (r, d) = some (atB r.2.2.2.1 d) := by
  obtain ⟨r0, r1, r2, l, r4, r5, r6, r7⟩ := r
  obtain ⟨a, b⟩ := d
  unfold lenOk at h
  dsimp only at h
  simp only [irecAt]
  have := loop0 l (by omega) (fun q i (_ : Unit) => irecAt_L2 Int q (l, ((l.length : Nat) : Int), i, a, b) (fun _ => some (-1)) some) (fun i x s k => cond (x.1 == (a, b)) (some (i : Int)) (k s)) (fun _ => some (-1))
    (fun q i hi s => by
      simp only [irecAt_L2]; simp [hi, nth_nat _ _ hi, wrap_succ (show i < 4611686018427387904 by omega)]; rfl) (fun q s => by simp [irecAt_L2]) ()
  rw [this, runL_find (fun x : RecT => x.1 == (a, b)) (fun i => some (i : Int)) (fun _ => some (-1))]
  unfold atB
  cases l.findIdx? fun x => x.1 == (a, b) <;> simp

def cmdOkB (c : CmdT) : Bool := inB c.1 1 3 && (inB c.2.1.length 1 20 && (decide ((c.2.2.length : Int) ≤ 20) && (c.1 == 1 || c.2.2 == [])))

theorem sCmd (c : CmdT) : sCmdOk c = some (cmdOkB c) := by
  obtain ⟨k, a, b⟩ := c
  unfold cmdOkB
  simp only [sCmdOk, sPairOk, sIn, Option.bind_some]
  cases inB k 1 3 <;> cases inB (a.length : Int) 1 20 <;> cases decide ((b.length : Int) ≤ 20) <;> cases (k == 1) <;> rfl
theorem iCmd (c : CmdT) : iCmdOk c = some (cmdOkB c) := by
  obtain ⟨k, a, b⟩ := c
  unfold cmdOkB
  simp only [iCmdOk, ikeyOk, iIn, Option.bind_some]
  cases inB k 1 3 <;> cases inB (a.length : Int) 1 20 <;> cases decide ((b.length : Int) ≤ 20) <;> cases (k == 1) <;> rfl

def msgOkB (r : RepT) (m : MsgT) : Bool :=
  inB m.2.1 1 r.2.1 && (!(m.2.1 == r.1) && (m.2.2.1 == r.1 && (!decide (m.2.2.2.1.1 > r.2.1) && (itemB m.2.2.2.1 m.2.2.2.2.2 && ((m.2.2.2.2.2.all fun d => !decide (d.1 > r.2.1)) &&
    (((m.1 == 1 || m.1 == 3) && (m.2.1 == m.2.2.2.1.1 && cmdOkB m.2.2.2.2.1)) || (m.1 == 2 && (m.2.2.2.1.1 == r.1 && (decide (atB r.2.2.2.1 m.2.2.2.1 ≥ 0) && (m.2.2.2.2.1.1 == 0 && (m.2.2.2.2.1.2.1 == [] && m.2.2.2.2.1.2.2 == [])))))))))))

theorem sMsg_eq (r : RepT) (m : MsgT) (hr : lenOk r.2.2.2.1) (hm : lenOk m.2.2.2.2.2) : sMsgOk (r, m) = some (msgOkB r m) := by
  obtain ⟨r0, r1, r2, l, r4, r5, r6, r7⟩ := r
  obtain ⟨k, m1, m2, ⟨d0, d1⟩, ⟨c0, c1, c2⟩, deps⟩ := m
  dsimp only at hr hm
  unfold msgOkB
  simp only [sMsgOk, sIn, Option.bind_some, sItem _ _ hm, sDeps _ _ hm, sCmd]
  have hat := sAt (r0, r1, r2, l, r4, r5, r6, r7) (d0, d1) hr
  dsimp only at hat
  by_cases h2 : m2 = r0
  · subst h2
    cases inB m1 1 r1 <;> cases (m1 == m2) <;> cases decide (d0 > r1) <;> cases itemB (d0, d1) deps <;> cases (deps.all fun d => !decide (d.1 > r1)) <;> try (simp; done)
    by_cases h1 : k = 1
    · subst h1; simp; cases (m1 == d0) <;> simp
    · by_cases h3 : k = 3
      · subst h3; simp; cases (m1 == d0) <;> simp
      · by_cases h4 : k = 2
        · subst h4; simp [hat]; cases (d0 == m2) <;> simp
          cases decide (0 ≤ atB l (d0, d1)) <;> simp
        · have b1 : (k == 1) = false := by simpa using h1
          have b2 : (k == 2) = false := by simpa using h4
          have b3 : (k == 3) = false := by simpa using h3
          simp only [b1, b2, b3]; simp [b2]
  · have b1 : (m2 != r0) = true := by simp [bne, h2]
    have b2 : (m2 == r0) = false := by simpa using h2
    simp only [b1, b2]
    cases inB m1 1 r1 <;> cases (m1 == m2) <;> cases (m1 == r0) <;> rfl

theorem iMsg_eq (r : RepT) (m : MsgT) (hr : lenOk r.2.2.2.1) (hm : lenOk m.2.2.2.2.2) : iMsgOk (r, m) = some (msgOkB r m) := by
  obtain ⟨r0, r1, r2, l, r4, r5, r6, r7⟩ := r
  obtain ⟨k, m1, m2, ⟨d0, d1⟩, ⟨c0, c1, c2⟩, deps⟩ := m
  dsimp only at hr hm
  unfold msgOkB
  simp only [iMsgOk, iIn, Option.bind_some, iDotOk_eq, iWithin _ _ hm, iCmd]
  have hat := iAt (r0, r1, r2, l, r4, r5, r6, r7) (d0, d1) hr
  dsimp only at hat
  cases hd : dotOkB (d0, d1) with
  | false =>
    have : itemB (d0, d1) deps = false := by unfold itemB; rw [hd]; rfl
    rw [this]
    cases inB m1 1 r1 <;> cases (m1 == r0) <;> cases h2 : (m2 == r0) <;> cases decide (d0 > r1) <;> simp only [bne, h2] <;> rfl
  | true =>
    rw [iDeps_item _ _ hm hd]
    have hw : itemB (d0, d1) deps = true → (deps.all fun d => inB d.1 1 r1) = (deps.all fun d => !decide (d.1 > r1)) := by
      intro hi
      unfold itemB at hi
      simp only [Bool.and_eq_true] at hi
      have ha := hi.2.2.2.1
      clear hi hm
      induction deps with
      | nil => rfl
      | cons x xs ih =>
        simp only [List.all_cons, Bool.and_eq_true] at ha ⊢
        rw [ih ha.2]
        congr 1
        have := ha.1
        unfold dotOkB inB at this
        unfold inB
        rw [Bool.eq_iff_iff]
        simp at this ⊢
        omega
    cases hi : itemB (d0, d1) deps with
    | false => cases inB m1 1 r1 <;> cases (m1 == r0) <;> cases h2 : (m2 == r0) <;> cases decide (d0 > r1) <;> simp only [bne, h2] <;> rfl
    | true =>
      rw [hw hi]
      by_cases h2 : m2 = r0
      · subst h2
        cases inB m1 1 r1 <;> cases (m1 == m2) <;> cases decide (d0 > r1) <;> cases (deps.all fun d => !decide (d.1 > r1)) <;> try (simp; done)
        have hsym : (d0 == m1) = (m1 == d0) := by rw [Bool.eq_iff_iff]; simp; exact eq_comm
        by_cases h1 : k = 1
        · subst h1; simp [hsym]; cases (m1 == d0) <;> simp
        · by_cases h3 : k = 3
          · subst h3; simp [hsym]; cases (m1 == d0) <;> simp
          · by_cases h4 : k = 2
            · subst h4; simp [hat]; cases (d0 == m2) <;> simp
              cases decide (0 ≤ atB l (d0, d1)) <;> simp
            · have b1 : (k == 1) = false := by simpa using h1
              have b2 : (k == 2) = false := by simpa using h4
              have b3 : (k == 3) = false := by simpa using h3
              simp only [b1, b2, b3]; simp [b2]
      · have b1 : (m2 != r0) = true := by simp [bne, h2]
        have b2 : (m2 == r0) = false := by simpa using h2
        simp only [b1, b2]
        cases inB m1 1 r1 <;> cases (m1 == r0) <;> rfl

/-- **The law.** -/
theorem law_msgOk (r : RepT) (m : MsgT) (hr : RepIn r) (hm : MsgIn m) : lFnExactMsgOk (r, m) = some true := by
  obtain ⟨a0, a1, a2, a3, a4, a5, a6, a7⟩ := r
  obtain ⟨k, m1, m2, ⟨d0, d1⟩, ⟨c0, c1, c2⟩, deps⟩ := m
  simp only [lFnExactMsgOk]
  obtain ⟨x, e, h⟩ := sz_replica (a0, a1, a2, a3, a4, a5, a6, a7) 1048576 hr (by omega) (by omega)
  rw [e, Option.bind_some]
  rcases h with h | ⟨h0, h1, hR⟩
  · simp [h]
  · rw [show decide (x < 0) = false from by simp; omega]
    dsimp only [cond_false]
    obtain ⟨y, e', h'⟩ := sz_msg (k, m1, m2, (d0, d1), (c0, c1, c2), deps) x hm h0 h1
    rw [e', Option.bind_some]
    rcases h' with h' | ⟨h0', h1', hM⟩
    · simp [h']
    · rw [show decide (y < 0) = false from by simp; omega]
      dsimp only [cond_false]
      rw [to_replica _ hR, to_msg _ hM]
      simp only [Option.bind_some, sMsg_eq (a0, a1, a2, a3, a4, a5, a6, a7) (k, m1, m2, (d0, d1), (c0, c1, c2), deps) hR.1.1 hM, iMsg_eq (a0, a1, a2, a3, a4, a5, a6, a7) (k, m1, m2, (d0, d1), (c0, c1, c2), deps) hR.1.1 hM,
        eq_replica (a0, a1, a2, a3, a4, a5, a6, a7) hR, eq_msg (k, m1, m2, (d0, d1), (c0, c1, c2), deps) hM]
      simp
end Go.Rx
