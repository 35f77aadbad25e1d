import Derived.Test.YtfmpjodlkoahpaaFFinal0
set_option linter.all false
/- Sizes, copies, likeness. -/
namespace Go.Rx
abbrev DotT := Int × Int
abbrev CmdT := Int × List UInt8 × List UInt8
abbrev RecT := DotT × CmdT × List DotT × Bool
abbrev AckT := DotT × Int
abbrev PairT := List UInt8 × List UInt8 × Bool
abbrev AnsT := DotT × List UInt8 × Bool
abbrev RepT := Int × Int × Int × List RecT × List AckT × List DotT × List PairT × List AnsT
abbrev MsgT := Int × Int × Int × DotT × CmdT × List DotT

/-- lists no longer than a million -/
def lenOk {α : Type} (l : List α) : Prop := l.length ≤ 1048576
/-- what lies in memory -/
def memOk {α : Type} (l : List α) : Prop := l.length ≤ 9223372036854775807

/-- What a size counts: what is left, or below 0. -/
def Szs {α : Type} (f : α × Int → Option Int) (In : α → Prop) (c : α → Nat) : Prop := ∀ a left, In a → 0 ≤ left → left ≤ 1048576 → ∃ r, f (a, left) = some r ∧ (r < 0 ∨ (0 ≤ r ∧ r + (c a : Int) ≤ left))

theorem sz_dots : Szs lszDotS memOk List.length := by
  intro a left hm h0 h1
  unfold memOk at hm
  simp only [lszDotS]
  rw [wrap64 (by omega) (by omega)]
  by_cases h : left - (a.length : Int) < 0
  · exact ⟨-1, by simp [h], .inl (by omega)⟩
  · exact ⟨left - (a.length : Int), by simp [h], .inr ⟨by omega, by omega⟩⟩

theorem sz_acks : Szs lszAckS memOk List.length := by
  intro a left hm h0 h1
  unfold memOk at hm
  simp only [lszAckS]
  rw [wrap64 (by omega) (by omega)]
  by_cases h : left - (a.length : Int) < 0
  · exact ⟨-1, by simp [h], .inl (by omega)⟩
  · exact ⟨left - (a.length : Int), by simp [h], .inr ⟨by omega, by omega⟩⟩

def cCmd (c : CmdT) : Nat := c.2.1.length + c.2.2.length
def cPair (c : PairT) : Nat := c.1.length + c.2.1.length
def cAns (c : AnsT) : Nat := c.2.1.length
def cRec (c : RecT) : Nat := cCmd c.2.1 + c.2.2.1.length
/-- of a list: its elements, and what they hold -/
def cL {α : Type} (c : α → Nat) (l : List α) : Nat := l.length + (l.map c).sum

theorem sz_cmd : Szs lszCmd (fun c => memOk c.2.1 ∧ memOk c.2.2) cCmd := by
  intro ⟨k, a, b⟩ left ⟨h2, h3⟩ h0 h1
  unfold memOk at h2 h3
  dsimp only at h2 h3
  simp only [lszCmd, cCmd]
  rw [wrap64 (by omega) (by omega)]
  by_cases h : left - (a.length : Int) < 0
  · exact ⟨-1, by simp [h], .inl (by omega)⟩
  · rw [wrap64 (by omega) (by omega)]
    by_cases h' : left - (a.length : Int) - (b.length : Int) < 0
    · exact ⟨-1, by simp [h, h'], .inl (by omega)⟩
    · exact ⟨_, by simp [h, h']; rfl, .inr ⟨by omega, by omega⟩⟩

theorem sz_pair : Szs lszPair (fun c => memOk c.1 ∧ memOk c.2.1) cPair := by
  intro ⟨a, b, g⟩ left ⟨h2, h3⟩ h0 h1
  unfold memOk at h2 h3
  dsimp only at h2 h3
  simp only [lszPair, cPair]
  rw [wrap64 (by omega) (by omega)]
  by_cases h : left - (a.length : Int) < 0
  · exact ⟨-1, by simp [h], .inl (by omega)⟩
  · rw [wrap64 (by omega) (by omega)]
    by_cases h' : left - (a.length : Int) - (b.length : Int) < 0
    · exact ⟨-1, by simp [h, h'], .inl (by omega)⟩
    · exact ⟨_, by simp [h, h']; rfl, .inr ⟨by omega, by omega⟩⟩

theorem sz_answer : Szs lszAnswer (fun c => memOk c.2.1) cAns := by
  intro ⟨⟨d, e⟩, a, g⟩ left h2 h0 h1
  unfold memOk at h2
  dsimp only at h2
  simp only [lszAnswer, cAns]
  rw [wrap64 (by omega) (by omega)]
  by_cases h : left - (a.length : Int) < 0
  · exact ⟨-1, by simp [h], .inl (by omega)⟩
  · exact ⟨_, by simp [h]; rfl, .inr ⟨by omega, by omega⟩⟩

/-- One behind the other. -/
theorem sz_seq {x : Option Int} {k : Int → Option Int} {c1 c2 : Nat} {left : Int} (h1 : left ≤ 1048576) (hx : ∃ r, x = some r ∧ (r < 0 ∨ (0 ≤ r ∧ r + (c1 : Int) ≤ left))) (hk : ∀ r, 0 ≤ r → r ≤ 1048576 → ∃ r', k r = some r' ∧ (r' < 0 ∨ (0 ≤ r' ∧ r' + (c2 : Int) ≤ r))) :
    ∃ r, (x.bind fun r => cond (decide (r < 0)) (some (-1)) (k r)) = some r ∧ (r < 0 ∨ (0 ≤ r ∧ r + ((c1 + c2 : Nat) : Int) ≤ left)) := by
  obtain ⟨r, rfl, h⟩ := hx
  rcases h with h | ⟨h2, h3⟩
  · exact ⟨-1, by simp [h], .inl (by omega)⟩
  · obtain ⟨r', e, h5⟩ := hk r h2 (by omega)
    refine ⟨r', by simp [show ¬ r < 0 from by omega, e], ?_⟩
    rcases h5 with h5 | ⟨h5, h6⟩
    · exact .inl h5
    · exact .inr ⟨h5, by omega⟩

theorem sz_end {r : Int} (h0 : 0 ≤ r) : ∃ r', some r = some r' ∧ (r' < 0 ∨ (0 ≤ r' ∧ r' + ((0 : Nat) : Int) ≤ r)) := ⟨r, rfl, .inr ⟨h0, by omega⟩⟩

def RecIn (c : RecT) : Prop := (memOk c.2.1.2.1 ∧ memOk c.2.1.2.2) ∧ memOk c.2.2.1
theorem sz_rec : Szs lszRec RecIn cRec := by
  intro ⟨⟨d, e⟩, ⟨k, a, b⟩, l, s⟩ left ⟨h2, h3⟩ h0 h1
  simp only [lszRec]
  have := sz_seq h1 (sz_cmd (k, a, b) left h2 h0 h1) fun r h4 h5 => sz_seq h5 (sz_dots l r h3 h4 h5) fun r h6 h7 => sz_end h6
  simpa [cRec] using this

/-- The sizes of a list's elements. -/
theorem sz_list {α : Type} {f : α × Int → Option Int} {In : α → Prop} {c : α → Nat} (hf : Szs f In c) {r : Int → Option Int} {x : Int → Option Int} (hr : r = some) (hx : x = some) : ∀ (l : List α) (i : Nat) (left : Int), (∀ a ∈ l, In a) → 0 ≤ left → left ≤ 1048576 →
    ∃ r', runL (fun _ a s k => (f (a, s)).bind fun r5 => cond (decide (r5 < 0)) (r (-1)) (k r5)) x i l left = some r' ∧ (r' < 0 ∨ (0 ≤ r' ∧ r' + ((l.map c).sum : Int) ≤ left))
  | [], i, left, _, h0, h1 => ⟨left, by simp [runL, hx], .inr ⟨h0, by simp⟩⟩
  | a :: l, i, left, hi, h0, h1 => by
    simp only [runL]
    obtain ⟨r5, e, h⟩ := hf a left (hi a (by simp)) h0 h1
    rw [e]
    rcases h with h | ⟨h2, h3⟩
    · exact ⟨-1, by simp [h, hr], .inl (by omega)⟩
    · obtain ⟨r', e', h5⟩ := sz_list hf hr hx l (i + 1) r5 (fun a ha => hi a (by simp [ha])) h2 (by omega)
      refine ⟨r', by simp only [Option.bind_some, show ¬ r5 < 0 from by omega, decide_false, cond_false]; exact e', ?_⟩
      rcases h5 with h5 | ⟨h5, h6⟩
      · exact .inl h5
      · refine .inr ⟨h5, ?_⟩
        simp only [List.map_cons, List.sum_cons]
        omega

theorem sz_recs : Szs lszRecS (fun l => memOk l ∧ ∀ c ∈ l, RecIn c) (cL cRec) := by
  intro a left ⟨hm, hi⟩ h0 h1
  unfold memOk at hm
  simp only [lszRecS]
  rw [wrap64 (by omega) (by omega)]
  by_cases h : left - (a.length : Int) < 0
  · exact ⟨-1, by simp [h], .inl (by omega)⟩
  · have := loop0 a (by omega) (fun q i s => lszRecS_L5 Int q (a, s, i) (fun left6 => (some left6)) some) (fun _ a s k => (lszRec (a, s)).bind fun r5 => cond (decide (r5 < 0)) (some (-1)) (k r5)) some
      (fun q i hi s => by simp only [lszRecS_L5]; simp [hi, nth_nat _ _ hi, wrap_succ (show i < 4611686018427387904 by omega)]) (fun q s => by simp [lszRecS_L5]) (left - a.length)
    simp only [h, decide_false, cond_false]
    rw [this]
    obtain ⟨r, e, h5⟩ := sz_list sz_rec rfl rfl a 0 (left - a.length) hi (by omega) (by omega)
    refine ⟨r, e, ?_⟩
    unfold cL
    rcases h5 with h5 | ⟨h5, h6⟩
    · exact .inl h5
    · exact .inr ⟨h5, by omega⟩

theorem sz_pairs : Szs lszPairS (fun l => memOk l ∧ ∀ c ∈ l, (memOk c.1 ∧ memOk c.2.1)) (cL cPair) := by
  intro a left ⟨hm, hi⟩ h0 h1
  unfold memOk at hm
  simp only [lszPairS]
  rw [wrap64 (by omega) (by omega)]
  by_cases h : left - (a.length : Int) < 0
  · exact ⟨-1, by simp [h], .inl (by omega)⟩
  · have := loop0 a (by omega) (fun q i s => lszPairS_L5 Int q (a, s, i) (fun left6 => (some left6)) some) (fun _ a s k => (lszPair (a, s)).bind fun r5 => cond (decide (r5 < 0)) (some (-1)) (k r5)) some
      (fun q i hi s => by simp only [lszPairS_L5]; simp [hi, nth_nat _ _ hi, wrap_succ (show i < 4611686018427387904 by omega)]) (fun q s => by simp [lszPairS_L5]) (left - a.length)
    simp only [h, decide_false, cond_false]
    rw [this]
    obtain ⟨r, e, h5⟩ := sz_list sz_pair rfl rfl a 0 (left - a.length) hi (by omega) (by omega)
    refine ⟨r, e, ?_⟩
    unfold cL
    rcases h5 with h5 | ⟨h5, h6⟩
    · exact .inl h5
    · exact .inr ⟨h5, by omega⟩

theorem sz_answers : Szs lszAnswerS (fun l => memOk l ∧ ∀ c ∈ l, memOk c.2.1) (cL cAns) := by
  intro a left ⟨hm, hi⟩ h0 h1
  unfold memOk at hm
  simp only [lszAnswerS]
  rw [wrap64 (by omega) (by omega)]
  by_cases h : left - (a.length : Int) < 0
  · exact ⟨-1, by simp [h], .inl (by omega)⟩
  · have := loop0 a (by omega) (fun q i s => lszAnswerS_L5 Int q (a, s, i) (fun left6 => (some left6)) some) (fun _ a s k => (lszAnswer (a, s)).bind fun r5 => cond (decide (r5 < 0)) (some (-1)) (k r5)) some
      (fun q i hi s => by simp only [lszAnswerS_L5]; simp [hi, nth_nat _ _ hi, wrap_succ (show i < 4611686018427387904 by omega)]) (fun q s => by simp [lszAnswerS_L5]) (left - a.length)
    simp only [h, decide_false, cond_false]
    rw [this]
    obtain ⟨r, e, h5⟩ := sz_list sz_answer rfl rfl a 0 (left - a.length) hi (by omega) (by omega)
    refine ⟨r, e, ?_⟩
    unfold cL
    rcases h5 with h5 | ⟨h5, h6⟩
    · exact .inl h5
    · exact .inr ⟨h5, by omega⟩

def RepIn (r : RepT) : Prop := (memOk r.2.2.2.1 ∧ ∀ c ∈ r.2.2.2.1, RecIn c) ∧ memOk r.2.2.2.2.1 ∧ memOk r.2.2.2.2.2.1 ∧
  (memOk r.2.2.2.2.2.2.1 ∧ ∀ c ∈ r.2.2.2.2.2.2.1, memOk c.1 ∧ memOk c.2.1) ∧ (memOk r.2.2.2.2.2.2.2 ∧ ∀ c ∈ r.2.2.2.2.2.2.2, memOk c.2.1)
def cRep (r : RepT) : Nat := cL cRec r.2.2.2.1 + (r.2.2.2.2.1.length + (r.2.2.2.2.2.1.length + (cL cPair r.2.2.2.2.2.2.1 + cL cAns r.2.2.2.2.2.2.2)))
def RepOk (r : RepT) : Prop := (lenOk r.2.2.2.1 ∧ ∀ c ∈ r.2.2.2.1, lenOk c.2.2.1) ∧ lenOk r.2.2.2.2.1 ∧ lenOk r.2.2.2.2.2.1 ∧ lenOk r.2.2.2.2.2.2.1 ∧ lenOk r.2.2.2.2.2.2.2
def MsgIn (m : MsgT) : Prop := (memOk m.2.2.2.2.1.2.1 ∧ memOk m.2.2.2.2.1.2.2) ∧ memOk m.2.2.2.2.2
def cMsg (m : MsgT) : Nat := cCmd m.2.2.2.2.1 + m.2.2.2.2.2.length
def MsgOkS (m : MsgT) : Prop := lenOk m.2.2.2.2.2

theorem sum_mem {α : Type} {c : α → Nat} {a : α} : ∀ {l : List α}, a ∈ l → c a ≤ (l.map c).sum
  | b :: l, h => by
    rcases List.mem_cons.1 h with rfl | h
    · simp
    · have := sum_mem (c := c) h
      simp only [List.map_cons, List.sum_cons]
      omega
theorem cL_len {α : Type} {c : α → Nat} {l : List α} : l.length ≤ cL c l := Nat.le_add_right _ _
theorem cL_mem {α : Type} {c : α → Nat} {l : List α} {a : α} (h : a ∈ l) : c a ≤ cL c l := Nat.le_trans (sum_mem h) (Nat.le_add_left _ _)

theorem repOk_of {r : RepT} (h : cRep r ≤ 1048576) : RepOk r := by
  unfold cRep at h
  have h1 := cL_len (c := cRec) (l := r.2.2.2.1)
  have h2 := cL_len (c := cPair) (l := r.2.2.2.2.2.2.1)
  have h3 := cL_len (c := cAns) (l := r.2.2.2.2.2.2.2)
  refine ⟨⟨by unfold lenOk; omega, fun c hc => ?_⟩, by unfold lenOk; omega, by unfold lenOk; omega, by unfold lenOk; omega, by unfold lenOk; omega⟩
  have := cL_mem (c := cRec) hc
  have e : cRec c = cCmd c.2.1 + c.2.2.1.length := rfl
  unfold lenOk
  omega
theorem msgOk_of {m : MsgT} (h : cMsg m ≤ 1048576) : MsgOkS m := by unfold cMsg at h; unfold MsgOkS lenOk; omega

theorem sz_replica : Szs lszReplica RepIn cRep := by
  intro ⟨a0, a1, a2, a3, a4, a5, a6, a7⟩ left ⟨h3, h4, h5, h6, h7⟩ h0 h1
  simp only [lszReplica]
  have := sz_seq h1 (sz_recs a3 left h3 h0 h1) fun r g1 g2 => sz_seq g2 (sz_acks a4 r h4 g1 g2) fun r g1 g2 => sz_seq g2 (sz_dots a5 r h5 g1 g2) fun r g1 g2 => sz_seq g2 (sz_pairs a6 r h6 g1 g2) fun r g1 g2 =>
    sz_seq g2 (sz_answers a7 r h7 g1 g2) fun r g1 g2 => sz_end g1
  exact this

theorem sz_msg : Szs lszMsg MsgIn cMsg := by
  intro ⟨a0, a1, a2, ⟨a3, a4⟩, ⟨a5, a6, a7⟩, a8⟩ left ⟨h3, h4⟩ h0 h1
  simp only [lszMsg]
  have := sz_seq h1 (sz_cmd (a5, a6, a7) left h3 h0 h1) fun r g1 g2 => sz_seq g2 (sz_dots a8 r h4 g1 g2) fun r g1 g2 => sz_end g1
  exact this

/-! ### copies -/
theorem to_dot (d : DotT) : ltoDot d = some d := rfl
theorem to_cmd (d : CmdT) : ltoCmd d = some d := rfl
theorem to_pair (d : PairT) : ltoPair d = some d := rfl

theorem to_dots (l : List DotT) (h : lenOk l) : ltoDotS l = some l := by
  unfold lenOk at h
  simp only [ltoDotS]
  have := copy_run l (by omega) id (0, 0) (fun q i out => ltoDotS_L3 (List DotT) q (l, i, out) some some) some
    (fun q i hi out ho => by simp only [ltoDotS_L3]; simp [hi, ho, nth_nat _ _ hi, wrap_succ (show i < 4611686018427387904 by omega), ltoDot]) (fun q out => by simp [ltoDotS_L3])
  simp only [List.map_id] at this
  rw [← this]
  have hle : (l.length : Int) ≤ 4294967296 := by omega
  simp [hle]

theorem to_rec (x : RecT) (h : lenOk x.2.2.1) : ltoRec x = some (x.1.1, x.1.2, x.2.1.1, x.2.1.2.1, x.2.1.2.2, x.2.2.1, x.2.2.2) := by
  obtain ⟨⟨a, b⟩, ⟨c, d, e⟩, f, g⟩ := x
  simp only [ltoRec, to_dot, to_cmd, Option.bind_some]
  rw [to_dots f h]
  rfl
theorem to_ack (x : AckT) : ltoAck x = some (x.1.1, x.1.2, x.2) := rfl
theorem to_answer (x : AnsT) : ltoAnswer x = some (x.1.1, x.1.2, x.2.1, x.2.2) := rfl

theorem to_recs (l : List RecT) (h : lenOk l) (h2 : ∀ x ∈ l, lenOk x.2.2.1) : ltoRecS l = some l := by
  unfold lenOk at h
  simp only [ltoRecS]
  have := copy_run l (by omega) id ((0, 0), (0, [], []), [], false) (fun q i out => ltoRecS_L3 (List RecT) q (l, i, out) some some) some
    (fun q i hi out ho => by simp only [ltoRecS_L3]; simp [hi, ho, nth_nat _ _ hi, wrap_succ (show i < 4611686018427387904 by omega), to_rec _ (h2 l[i] (List.getElem_mem hi))]) (fun q out => by simp [ltoRecS_L3])
  simp only [List.map_id] at this
  rw [← this]
  have hle : (l.length : Int) ≤ 4294967296 := by omega
  simp [hle]

theorem to_acks (l : List AckT) (h : lenOk l) : ltoAckS l = some l := by
  unfold lenOk at h
  simp only [ltoAckS]
  have := copy_run l (by omega) id ((0, 0), 0) (fun q i out => ltoAckS_L3 (List AckT) q (l, i, out) some some) some
    (fun q i hi out ho => by simp only [ltoAckS_L3]; simp [hi, ho, nth_nat _ _ hi, wrap_succ (show i < 4611686018427387904 by omega), to_ack]) (fun q out => by simp [ltoAckS_L3])
  simp only [List.map_id] at this
  rw [← this]
  have hle : (l.length : Int) ≤ 4294967296 := by omega
  simp [hle]

theorem to_pairs (l : List PairT) (h : lenOk l) : ltoPairS l = some l := by
  unfold lenOk at h
  simp only [ltoPairS]
  have := copy_run l (by omega) id ([], [], false) (fun q i out => ltoPairS_L3 (List PairT) q (l, i, out) some some) some
    (fun q i hi out ho => by simp only [ltoPairS_L3]; simp [hi, ho, nth_nat _ _ hi, wrap_succ (show i < 4611686018427387904 by omega), to_pair]) (fun q out => by simp [ltoPairS_L3])
  simp only [List.map_id] at this
  rw [← this]
  have hle : (l.length : Int) ≤ 4294967296 := by omega
  simp [hle]

theorem to_answers (l : List AnsT) (h : lenOk l) : ltoAnswerS l = some l := by
  unfold lenOk at h
  simp only [ltoAnswerS]
  have := copy_run l (by omega) id ((0, 0), [], false) (fun q i out => ltoAnswerS_L3 (List AnsT) q (l, i, out) some some) some
    (fun q i hi out ho => by simp only [ltoAnswerS_L3]; simp [hi, ho, nth_nat _ _ hi, wrap_succ (show i < 4611686018427387904 by omega), to_answer]) (fun q out => by simp [ltoAnswerS_L3])
  simp only [List.map_id] at this
  rw [← this]
  have hle : (l.length : Int) ≤ 4294967296 := by omega
  simp [hle]

theorem to_replica (x : RepT) (h : RepOk x) : ltoReplica x = some x := by
  obtain ⟨a0, a1, a2, a3, a4, a5, a6, a7⟩ := x
  obtain ⟨⟨h3, h3'⟩, h4, h5, h6, h7⟩ := h
  simp only [ltoReplica]
  rw [to_recs a3 h3 h3', Option.bind_some, to_acks a4 h4, Option.bind_some, to_dots a5 h5, Option.bind_some, to_pairs a6 h6, Option.bind_some, to_answers a7 h7]
  rfl

theorem to_msg (x : MsgT) (h : MsgOkS x) : ltoMsg x = some (x.1, x.2.1, x.2.2.1, x.2.2.2.1.1, x.2.2.2.1.2, x.2.2.2.2.1.1, x.2.2.2.2.1.2.1, x.2.2.2.2.1.2.2, x.2.2.2.2.2) := by
  obtain ⟨a0, a1, a2, ⟨a3, a4⟩, ⟨a5, a6, a7⟩, a8⟩ := x
  simp only [ltoMsg, to_dot, to_cmd, Option.bind_some]
  rw [to_dots a8 h]
  rfl

/-! ### likeness -/
theorem eq_dot (d : DotT) : leqDot (d, d) = some true := by simp [leqDot]
theorem eq_cmd (d : CmdT) : leqCmd (d, d) = some true := by simp [leqCmd]
theorem eq_pair (d : PairT) : leqPair (d, d) = some true := by simp [leqPair]
theorem eq_ack (d : AckT) : leqAck (d, d) = some true := by
  obtain ⟨⟨a, b⟩, c⟩ := d
  simp [leqAck, leqDot]
theorem eq_answer (d : AnsT) : leqAnswer (d, d) = some true := by
  obtain ⟨⟨a, b⟩, c, e⟩ := d
  simp [leqAnswer, leqDot]

theorem runL_skip {α : Type} {σ : Type} {ρ : Type} (fin : σ → ρ) : ∀ (l : List α) (i : Nat) (s : σ), runL (fun _ _ s k => k s) fin i l s = fin s
  | [], _, _ => rfl
  | _ :: l, i, s => runL_skip fin l (i + 1) s

theorem eq_dots (l : List DotT) (h : lenOk l) : leqDotS (l, l) = some true := by
  unfold lenOk at h
  simp only [leqDotS]
  have := loop0 l (by omega) (fun q i (_ : Unit) => leqDotS_L4 Bool q (l, l, i) (fun _ => some true) some) (fun _ _ s k => k s) (fun _ => some true)
    (fun q i hi s => by simp only [leqDotS_L4]; simp [hi, nth_nat _ _ hi, wrap_succ (show i < 4611686018427387904 by omega), eq_dot l[i]]) (fun q s => by simp [leqDotS_L4]) ()
  simp [this, runL_skip]

theorem eq_rec (d : RecT) (h : lenOk d.2.2.1) : leqRec (d, d) = some true := by
  obtain ⟨⟨a, b⟩, ⟨c, e, f⟩, g, s⟩ := d
  simp [leqRec, leqDot, leqCmd, eq_dots g h]

theorem eq_recs (l : List RecT) (h : lenOk l) (h2 : ∀ x ∈ l, lenOk x.2.2.1) : leqRecS (l, l) = some true := by
  unfold lenOk at h
  simp only [leqRecS]
  have := loop0 l (by omega) (fun q i (_ : Unit) => leqRecS_L4 Bool q (l, l, i) (fun _ => some true) some) (fun _ _ s k => k s) (fun _ => some true)
    (fun q i hi s => by simp only [leqRecS_L4]; simp [hi, nth_nat _ _ hi, wrap_succ (show i < 4611686018427387904 by omega), eq_rec l[i] (h2 l[i] (List.getElem_mem hi))]) (fun q s => by simp [leqRecS_L4]) ()
  simp [this, runL_skip]

theorem eq_acks (l : List AckT) (h : lenOk l) : leqAckS (l, l) = some true := by
  unfold lenOk at h
  simp only [leqAckS]
  have := loop0 l (by omega) (fun q i (_ : Unit) => leqAckS_L4 Bool q (l, l, i) (fun _ => some true) some) (fun _ _ s k => k s) (fun _ => some true)
    (fun q i hi s => by simp only [leqAckS_L4]; simp [hi, nth_nat _ _ hi, wrap_succ (show i < 4611686018427387904 by omega), eq_ack l[i]]) (fun q s => by simp [leqAckS_L4]) ()
  simp [this, runL_skip]

theorem eq_pairs (l : List PairT) (h : lenOk l) : leqPairS (l, l) = some true := by
  unfold lenOk at h
  simp only [leqPairS]
  have := loop0 l (by omega) (fun q i (_ : Unit) => leqPairS_L4 Bool q (l, l, i) (fun _ => some true) some) (fun _ _ s k => k s) (fun _ => some true)
    (fun q i hi s => by simp only [leqPairS_L4]; simp [hi, nth_nat _ _ hi, wrap_succ (show i < 4611686018427387904 by omega), eq_pair l[i]]) (fun q s => by simp [leqPairS_L4]) ()
  simp [this, runL_skip]

theorem eq_answers (l : List AnsT) (h : lenOk l) : leqAnswerS (l, l) = some true := by
  unfold lenOk at h
  simp only [leqAnswerS]
  have := loop0 l (by omega) (fun q i (_ : Unit) => leqAnswerS_L4 Bool q (l, l, i) (fun _ => some true) some) (fun _ _ s k => k s) (fun _ => some true)
    (fun q i hi s => by simp only [leqAnswerS_L4]; simp [hi, nth_nat _ _ hi, wrap_succ (show i < 4611686018427387904 by omega), eq_answer l[i]]) (fun q s => by simp [leqAnswerS_L4]) ()
  simp [this, runL_skip]

theorem eq_replica (x : RepT) (h : RepOk x) : leqReplica (x, x) = some true := by
  obtain ⟨a0, a1, a2, a3, a4, a5, a6, a7⟩ := x
  obtain ⟨⟨h3, h3'⟩, h4, h5, h6, h7⟩ := h
  simp [leqReplica, eq_recs a3 h3 h3', eq_acks a4 h4, eq_dots a5 h5, eq_pairs a6 h6, eq_answers a7 h7]

theorem eq_msg (x : MsgT) (h : MsgOkS x) : leqMsg (x, x) = some true := by
  obtain ⟨a0, a1, a2, ⟨a3, a4⟩, ⟨a5, a6, a7⟩, a8⟩ := x
  simp [leqMsg, leqDot, leqCmd, eq_dots a8 h]

/-! ### what was handed in is in memory -/
abbrev dotTy : Ty := .pair (.int .i64) (.int .i64)
abbrev cmdTy : Ty := .pair (.int .i64) (.pair .str .str)
abbrev recTy : Ty := .pair dotTy (.pair cmdTy (.pair (.sl dotTy) .bool))
abbrev ackTy : Ty := .pair dotTy (.int .i64)
abbrev pairTy : Ty := .pair .str (.pair .str .bool)
abbrev ansTy : Ty := .pair dotTy (.pair .str .bool)
abbrev repTy : Ty := .pair (.int .i64) (.pair (.int .i64) (.pair (.int .i64) (.pair (.sl recTy) (.pair (.sl ackTy) (.pair (.sl dotTy) (.pair (.sl pairTy) (.sl ansTy)))))))
abbrev msgTy : Ty := .pair (.int .i64) (.pair (.int .i64) (.pair (.int .i64) (.pair dotTy (.pair cmdTy (.sl dotTy)))))
abbrev recTyO : Ty := .pair dotTy (.pair cmdTy (.pair (.old dotTy) .bool))
abbrev repTyO : Ty := .pair (.int .i64) (.pair (.int .i64) (.pair (.int .i64) (.pair (.old recTyO) (.pair (.old ackTy) (.pair (.old dotTy) (.pair (.old pairTy) (.old ansTy)))))))
abbrev msgTyO : Ty := .pair (.int .i64) (.pair (.int .i64) (.pair (.int .i64) (.pair dotTy (.pair cmdTy (.old dotTy)))))
theorem mem_of {α : Type} {l : List α} (h : l.length ≤ maxLen) : memOk l := by unfold maxLen at h; unfold memOk; omega
theorem good_rec {x : RecT} (h : GoodD recTyO x) : RecIn x := ⟨⟨mem_of h.2.1.2.1, mem_of h.2.1.2.2⟩, mem_of h.2.2.1.1⟩
theorem good_replica {r : RepT} (h : GoodD repTyO r) : RepIn r :=
  ⟨⟨mem_of h.2.2.2.1.1, fun c hc => good_rec (h.2.2.2.1.2 c hc)⟩, mem_of h.2.2.2.2.1.1, mem_of h.2.2.2.2.2.1.1, ⟨mem_of h.2.2.2.2.2.2.1.1, fun c hc => have g := h.2.2.2.2.2.2.1.2 c hc; ⟨mem_of g.1, mem_of g.2.1⟩⟩,
    ⟨mem_of h.2.2.2.2.2.2.2.1, fun c hc => have g := h.2.2.2.2.2.2.2.2 c hc; mem_of g.2.1⟩⟩
theorem good_msg {m : MsgT} (h : GoodD msgTyO m) : MsgIn m := ⟨⟨mem_of h.2.2.2.2.1.2.1, mem_of h.2.2.2.2.1.2.2⟩, mem_of h.2.2.2.2.2.1⟩
end Go.Rx
/- Clusters: sizes, copies, likeness. -/
namespace Go.Rx
abbrev AskedT := DotT × CmdT × List DotT
abbrev CluT := List RepT × List MsgT × List AskedT
def AskedIn (c : AskedT) : Prop := (memOk c.2.1.2.1 ∧ memOk c.2.1.2.2) ∧ memOk c.2.2
def CluIn (w : CluT) : Prop := (memOk w.1 ∧ ∀ c ∈ w.1, RepIn c) ∧ (memOk w.2.1 ∧ ∀ c ∈ w.2.1, MsgIn c) ∧ (memOk w.2.2 ∧ ∀ c ∈ w.2.2, AskedIn c)
def cAsk (c : AskedT) : Nat := cCmd c.2.1 + c.2.2.length
def cClu (w : CluT) : Nat := cL cRep w.1 + (cL cMsg w.2.1 + cL cAsk w.2.2)
structure CluOk (w : CluT) : Prop where
  lr : lenOk w.1
  rep : ∀ c ∈ w.1, RepOk c
  lm : lenOk w.2.1
  msg : ∀ c ∈ w.2.1, MsgOkS c
  la : lenOk w.2.2
  ask : ∀ c ∈ w.2.2, lenOk c.2.2
  all : cClu w ≤ 1048576

theorem cluOk_of {w : CluT} (h : cClu w ≤ 1048576) : CluOk w := by
  have h' := h
  unfold cClu at h'
  have h1 := cL_len (c := cRep) (l := w.1)
  have h2 := cL_len (c := cMsg) (l := w.2.1)
  have h3 := cL_len (c := cAsk) (l := w.2.2)
  refine ⟨by unfold lenOk; omega, fun c hc => repOk_of ?_, by unfold lenOk; omega, fun c hc => msgOk_of ?_, by unfold lenOk; omega, fun c hc => ?_, h⟩
  · have := cL_mem (c := cRep) hc; omega
  · have := cL_mem (c := cMsg) hc; omega
  · have := cL_mem (c := cAsk) hc; have e : cAsk c = cCmd c.2.1 + c.2.2.length := rfl; unfold lenOk; omega

theorem sz_asked : Szs lszAsked AskedIn cAsk := by
  intro ⟨⟨d, e⟩, ⟨k, a, b⟩, l⟩ left ⟨h2, h3⟩ h0 h1
  simp only [lszAsked]
  have := sz_seq h1 (sz_cmd (k, a, b) left h2 h0 h1) fun r g1 g2 => sz_seq g2 (sz_dots l r h3 g1 g2) fun r g1 g2 => sz_end g1
  exact this

theorem sz_replicas : Szs lszReplicaS (fun l => memOk l ∧ ∀ c ∈ l, RepIn c) (cL cRep) := by
  intro a left ⟨hm, hi⟩ h0 h1
  unfold memOk at hm
  simp only [lszReplicaS]
  rw [wrap64 (by omega) (by omega)]
  by_cases h : left - (a.length : Int) < 0
  · exact ⟨-1, by simp [h], .inl (by omega)⟩
  · have := loop0 a (by omega) (fun q i s => lszReplicaS_L5 Int q (a, s, i) (fun left6 => (some left6)) some) (fun _ a s k => (lszReplica (a, s)).bind fun r5 => cond (decide (r5 < 0)) (some (-1)) (k r5)) some
      (fun q i hi s => by simp only [lszReplicaS_L5]; simp [hi, nth_nat _ _ hi, wrap_succ (show i < 4611686018427387904 by omega)]) (fun q s => by simp [lszReplicaS_L5]) (left - a.length)
    simp only [h, decide_false, cond_false]
    rw [this]
    obtain ⟨r, e, h5⟩ := sz_list sz_replica rfl rfl a 0 (left - a.length) hi (by omega) (by omega)
    refine ⟨r, e, ?_⟩
    unfold cL
    rcases h5 with h5 | ⟨h5, h6⟩
    · exact .inl h5
    · exact .inr ⟨h5, by omega⟩

theorem sz_msgs : Szs lszMsgS (fun l => memOk l ∧ ∀ c ∈ l, MsgIn c) (cL cMsg) := by
  intro a left ⟨hm, hi⟩ h0 h1
  unfold memOk at hm
  simp only [lszMsgS]
  rw [wrap64 (by omega) (by omega)]
  by_cases h : left - (a.length : Int) < 0
  · exact ⟨-1, by simp [h], .inl (by omega)⟩
  · have := loop0 a (by omega) (fun q i s => lszMsgS_L5 Int q (a, s, i) (fun left6 => (some left6)) some) (fun _ a s k => (lszMsg (a, s)).bind fun r5 => cond (decide (r5 < 0)) (some (-1)) (k r5)) some
      (fun q i hi s => by simp only [lszMsgS_L5]; simp [hi, nth_nat _ _ hi, wrap_succ (show i < 4611686018427387904 by omega)]) (fun q s => by simp [lszMsgS_L5]) (left - a.length)
    simp only [h, decide_false, cond_false]
    rw [this]
    obtain ⟨r, e, h5⟩ := sz_list sz_msg rfl rfl a 0 (left - a.length) hi (by omega) (by omega)
    refine ⟨r, e, ?_⟩
    unfold cL
    rcases h5 with h5 | ⟨h5, h6⟩
    · exact .inl h5
    · exact .inr ⟨h5, by omega⟩

theorem sz_askeds : Szs lszAskedS (fun l => memOk l ∧ ∀ c ∈ l, AskedIn c) (cL cAsk) := by
  intro a left ⟨hm, hi⟩ h0 h1
  unfold memOk at hm
  simp only [lszAskedS]
  rw [wrap64 (by omega) (by omega)]
  by_cases h : left - (a.length : Int) < 0
  · exact ⟨-1, by simp [h], .inl (by omega)⟩
  · have := loop0 a (by omega) (fun q i s => lszAskedS_L5 Int q (a, s, i) (fun left6 => (some left6)) some) (fun _ a s k => (lszAsked (a, s)).bind fun r5 => cond (decide (r5 < 0)) (some (-1)) (k r5)) some
      (fun q i hi s => by simp only [lszAskedS_L5]; simp [hi, nth_nat _ _ hi, wrap_succ (show i < 4611686018427387904 by omega)]) (fun q s => by simp [lszAskedS_L5]) (left - a.length)
    simp only [h, decide_false, cond_false]
    rw [this]
    obtain ⟨r, e, h5⟩ := sz_list sz_asked rfl rfl a 0 (left - a.length) hi (by omega) (by omega)
    refine ⟨r, e, ?_⟩
    unfold cL
    rcases h5 with h5 | ⟨h5, h6⟩
    · exact .inl h5
    · exact .inr ⟨h5, by omega⟩

theorem sz_cluster : Szs lszCluster CluIn cClu := by
  intro ⟨a, b, c⟩ left ⟨h3, h4, h5⟩ h0 h1
  simp only [lszCluster]
  have := sz_seq h1 (sz_replicas a left h3 h0 h1) fun r g1 g2 => sz_seq g2 (sz_msgs b r h4 g1 g2) fun r g1 g2 => sz_seq g2 (sz_askeds c r h5 g1 g2) fun r g1 g2 => sz_end g1
  exact this

theorem to_asked (x : AskedT) (h : lenOk x.2.2) : ltoAsked x = some (x.1.1, x.1.2, x.2.1.1, x.2.1.2.1, x.2.1.2.2, x.2.2) := by
  obtain ⟨⟨a, b⟩, ⟨c, d, e⟩, f⟩ := x
  simp only [ltoAsked, to_dot, to_cmd, Option.bind_some]
  rw [to_dots f h]
  rfl

theorem to_replicas (l : List RepT) (h : lenOk l) (h2 : ∀ x ∈ l, RepOk x) : ltoReplicaS l = some l := by
  unfold lenOk at h
  simp only [ltoReplicaS]
  have := copy_run l (by omega) id (0, 0, 0, [], [], [], [], []) (fun q i out => ltoReplicaS_L3 (List RepT) q (l, i, out) some some) some
    (fun q i hi out ho => by simp only [ltoReplicaS_L3]; simp [hi, ho, nth_nat _ _ hi, wrap_succ (show i < 4611686018427387904 by omega), to_replica _ (h2 l[i] (List.getElem_mem hi))]) (fun q out => by simp [ltoReplicaS_L3])
  simp only [List.map_id] at this
  rw [← this]
  have hle : (l.length : Int) ≤ 4294967296 := by omega
  simp [hle]

theorem to_msgs (l : List MsgT) (h : lenOk l) (h2 : ∀ x ∈ l, MsgOkS x) : ltoMsgS l = some l := by
  unfold lenOk at h
  simp only [ltoMsgS]
  have := copy_run l (by omega) id (0, 0, 0, (0, 0), (0, [], []), []) (fun q i out => ltoMsgS_L3 (List MsgT) q (l, i, out) some some) some
    (fun q i hi out ho => by simp only [ltoMsgS_L3]; simp [hi, ho, nth_nat _ _ hi, wrap_succ (show i < 4611686018427387904 by omega), to_msg _ (h2 l[i] (List.getElem_mem hi))]) (fun q out => by simp [ltoMsgS_L3])
  simp only [List.map_id] at this
  rw [← this]
  have hle : (l.length : Int) ≤ 4294967296 := by omega
  simp [hle]

theorem to_askeds (l : List AskedT) (h : lenOk l) (h2 : ∀ x ∈ l, lenOk x.2.2) : ltoAskedS l = some l := by
  unfold lenOk at h
  simp only [ltoAskedS]
  have := copy_run l (by omega) id ((0, 0), (0, [], []), []) (fun q i out => ltoAskedS_L3 (List AskedT) q (l, i, out) some some) some
    (fun q i hi out ho => by simp only [ltoAskedS_L3]; simp [hi, ho, nth_nat _ _ hi, wrap_succ (show i < 4611686018427387904 by omega), to_asked _ (h2 l[i] (List.getElem_mem hi))]) (fun q out => by simp [ltoAskedS_L3])
  simp only [List.map_id] at this
  rw [← this]
  have hle : (l.length : Int) ≤ 4294967296 := by omega
  simp [hle]

theorem to_cluster (w : CluT) (h : CluOk w) : ltoCluster w = some w := by
  obtain ⟨a, b, c⟩ := w
  obtain ⟨h1, h2, h3, h4, h5, h6, _⟩ := h
  simp only [ltoCluster]
  rw [to_replicas a h1 h2, Option.bind_some, to_msgs b h3 h4, Option.bind_some, to_askeds c h5 h6]
  rfl

theorem eq_asked (d : AskedT) (h : lenOk d.2.2) : leqAsked (d, d) = some true := by
  obtain ⟨⟨a, b⟩, ⟨c, e, f⟩, g⟩ := d
  simp [leqAsked, leqDot, leqCmd, eq_dots g h]

theorem eq_replicas (l : List RepT) (h : lenOk l) (h2 : ∀ x ∈ l, RepOk x) : leqReplicaS (l, l) = some true := by
  unfold lenOk at h
  simp only [leqReplicaS]
  have := loop0 l (by omega) (fun q i (_ : Unit) => leqReplicaS_L4 Bool q (l, l, i) (fun _ => some true) some) (fun _ _ s k => k s) (fun _ => some true)
    (fun q i hi s => by simp only [leqReplicaS_L4]; simp [hi, nth_nat _ _ hi, wrap_succ (show i < 4611686018427387904 by omega), eq_replica l[i] (h2 l[i] (List.getElem_mem hi))]) (fun q s => by simp [leqReplicaS_L4]) ()
  simp [this, runL_skip]

theorem eq_msgs (l : List MsgT) (h : lenOk l) (h2 : ∀ x ∈ l, MsgOkS x) : leqMsgS (l, l) = some true := by
  unfold lenOk at h
  simp only [leqMsgS]
  have := loop0 l (by omega) (fun q i (_ : Unit) => leqMsgS_L4 Bool q (l, l, i) (fun _ => some true) some) (fun _ _ s k => k s) (fun _ => some true)
    (fun q i hi s => by simp only [leqMsgS_L4]; simp [hi, nth_nat _ _ hi, wrap_succ (show i < 4611686018427387904 by omega), eq_msg l[i] (h2 l[i] (List.getElem_mem hi))]) (fun q s => by simp [leqMsgS_L4]) ()
  simp [this, runL_skip]

theorem eq_askeds (l : List AskedT) (h : lenOk l) (h2 : ∀ x ∈ l, lenOk x.2.2) : leqAskedS (l, l) = some true := by
  unfold lenOk at h
  simp only [leqAskedS]
  have := loop0 l (by omega) (fun q i (_ : Unit) => leqAskedS_L4 Bool q (l, l, i) (fun _ => some true) some) (fun _ _ s k => k s) (fun _ => some true)
    (fun q i hi s => by simp only [leqAskedS_L4]; simp [hi, nth_nat _ _ hi, wrap_succ (show i < 4611686018427387904 by omega), eq_asked l[i] (h2 l[i] (List.getElem_mem hi))]) (fun q s => by simp [leqAskedS_L4]) ()
  simp [this, runL_skip]

theorem eq_cluster (w : CluT) (h : CluOk w) : leqCluster (w, w) = some true := by
  obtain ⟨a, b, c⟩ := w
  obtain ⟨h1, h2, h3, h4, h5, h6, _⟩ := h
  simp [leqCluster, eq_replicas a h1 h2, eq_msgs b h3 h4, eq_askeds c h5 h6]

abbrev askedTy : Ty := .pair dotTy (.pair cmdTy (.sl dotTy))
abbrev cluTy : Ty := .pair (.sl repTy) (.pair (.sl msgTy) (.sl askedTy))
abbrev askedTyO : Ty := .pair dotTy (.pair cmdTy (.old dotTy))
abbrev cluTyO : Ty := .pair (.old repTyO) (.pair (.old msgTyO) (.old askedTyO))
theorem good_cluster {w : CluT} (h : GoodD cluTyO w) : CluIn w :=
  ⟨⟨mem_of h.1.1, fun c hc => good_replica (h.1.2 c hc)⟩, ⟨mem_of h.2.1.1, fun c hc => good_msg (h.2.1.2 c hc)⟩,
    ⟨mem_of h.2.2.1, fun c hc => have g := h.2.2.2 c hc; ⟨⟨mem_of g.2.1.2.1, mem_of g.2.1.2.2⟩, mem_of g.2.2.1⟩⟩⟩

end Go.Rx
/- Marks: how far they count; Final's law. -/
namespace Go.Rx

/-! ### Marks -/
theorem mtext_run {O : Type} (x : List UInt8 → Option O) (r) : ∀ (m k q : Nat) (out : List UInt8), k < 10 ^ m → k ≤ 1000000000 → m < q → out.length + m ≤ 1000 → ∃ v, v.length ≤ 1000 ∧ lmarkText_L4 O q ((k : Int), out) x r = x v
  | 0, k, q + 1, out, hk, _, _, ho => by
    have : k = 0 := by simpa using hk
    subst this
    exact ⟨out, by omega, by simp [lmarkText_L4]⟩
  | m + 1, k, q + 1, out, hk, hk2, hq, ho => by
    by_cases h0 : k = 0
    · subst h0
      exact ⟨out, by omega, by simp [lmarkText_L4]⟩
    · have e1 : decide ((k : Int) > 0) = true := decide_eq_true (by omega)
      have d1 : IntKind.wrap .i64 (Int.tdiv (k : Int) 10) = ((k / 10 : Nat) : Int) := by rw [Int.tdiv_eq_ediv_of_nonneg (by omega), wrap64 (by omega) (by omega)]; omega
      have e2 : ∀ v : Int, decide ((strOf [v]).length + out.length ≤ lenBound) = true := fun v => decide_eq_true (by simp only [strOf, List.map_cons, List.map_nil, List.length_cons, List.length_nil, lenBound]; omega)
      rw [lmarkText_L4]
      simp only [e1, e2, cond_true, d1]
      exact mtext_run x r m (k / 10) q _ (by rw [Nat.pow_succ] at hk; omega) (by omega) (by omega) (by simp [strOf]; omega)
  | _, _, 0, _, _, _, h, _ => absurd h (Nat.not_lt_zero _)
theorem mtext_tot (k : Nat) (h : k ≤ 1000000000) : ∃ v, lmarkText (k : Int) = some v := by
  simp only [lmarkText]
  by_cases h0 : (k : Int) ≤ 0
  · rw [decide_eq_true h0]; exact ⟨_, rfl⟩
  · rw [decide_eq_false h0]
    obtain ⟨v, h1, h2⟩ := mtext_run (O := List UInt8) (fun out3 => (cond (decide ((1 + out3.length) ≤ lenBound)) (some ([109] ++ out3)) none)) some 10 k fuel [] (by omega) h (by rw [fuel_eq]; omega) (by simp)
    rw [cond_false, h2, decide_eq_true (by unfold lenBound; omega)]
    exact ⟨_, rfl⟩
noncomputable def mt (k : Nat) : List UInt8 := (lmarkText (k : Int)).getD []
theorem mt_eq {k : Nat} (h : k ≤ 1000000000) : lmarkText (k : Int) = some (mt k) := by
  obtain ⟨v, e⟩ := mtext_tot k h
  unfold mt
  rw [e]; rfl

/-- The sum over a list. -/
def nL {α : Type} (n : α → Nat) (l : List α) : Nat := (l.map n).sum
theorem nL_cons {α : Type} (n : α → Nat) (a : α) (l : List α) : nL n (a :: l) = n a + nL n l := by simp [nL]
theorem nL_map {α β : Type} (f : β → α) (n : α → Nat) (l : List β) : nL n (List.map f l) = nL (fun x => n (f x)) l := by simp [nL, Function.comp_def]
theorem nL_le {α : Type} {n c : α → Nat} (h : ∀ a, n a ≤ 8 * c a + 8) (l : List α) : nL n l ≤ 8 * cL c l := by
  induction l with
  | nil => simp [nL, cL]
  | cons a l ih =>
    have := h a
    unfold cL at ih ⊢
    rw [nL_cons, List.length_cons, List.map_cons, List.sum_cons]
    omega
theorem nL_const {α : Type} (m : Nat) (l : List α) : nL (fun _ => m) l = m * l.length := by
  induction l with
  | nil => rfl
  | cons a l ih => rw [nL_cons, ih, List.length_cons]; rw [Nat.mul_succ]; omega

theorem runL_mk {α : Type} {ρ : Type} {n : α → Nat} {step : Nat → α → Int → (Int → ρ) → ρ} (h : ∀ i a (k : Nat) cont, k + n a ≤ 100000000 → step i a (k : Int) cont = cont ((k + n a : Nat) : Int)) (fin : Int → ρ) :
    ∀ (l : List α) (i k : Nat), k + nL n l ≤ 100000000 → runL step fin i l (k : Int) = fin ((k + nL n l : Nat) : Int)
  | [], i, k, _ => rfl
  | a :: l, i, k, hk => by
    rw [nL_cons] at hk ⊢
    simp only [runL]
    rw [h i a k _ (by omega)]
    have := runL_mk h fin l (i + 1) (k + n a) (by omega)
    rw [this, Nat.add_assoc]

theorem w1 {k : Nat} (h : k ≤ 200000000) : IntKind.wrap .i64 ((k : Int) + 1) = ((k + 1 : Nat) : Int) := wrap_succ (by omega)

/-- F counts n. -/
def Mks {α : Type} (F : α × Int → Option Int) (n : α → Nat) : Prop := ∀ x (k : Nat), k + n x ≤ 100000000 → F (x, (k : Int)) = some ((k + n x : Nat) : Int)

theorem len_nL {α : Type} {n : α → Nat} (h : ∀ a, 1 ≤ n a) (l : List α) : l.length ≤ nL n l := by
  induction l with
  | nil => simp
  | cons a l ih => have := h a; rw [nL_cons, List.length_cons]; omega

theorem mk_dots : Mks lmarkDotSM (nL fun _ => 2) := by
  intro x k hk
  have hl := len_nL (n := fun _ => 2) (fun _ => by omega) x
  simp only [lmarkDotSM]
  have := loop0 x (by omega) (fun q i s => lmarkDotSM_L2 Int q (x, s, i) (fun k5 => (some k5)) some) (fun _ a s cont => cont (IntKind.wrap .i64 (IntKind.wrap .i64 (s + 1) + 1))) some
    (fun q i hi s => by simp only [lmarkDotSM_L2]; simp [hi, wrap_succ (show i < 4611686018427387904 by omega)]) (fun q s => by simp [lmarkDotSM_L2]) (k : Int)
  rw [this, runL_mk (n := fun _ => 2) (fun i a k cont h => by rw [w1 (by omega), w1 (by omega)]) some x 0 k hk]

theorem mk_acks : Mks lmarkAckSM (nL fun _ => 3) := by
  intro x k hk
  have hl := len_nL (n := fun _ => 3) (fun _ => by omega) x
  simp only [lmarkAckSM]
  have := loop0 x (by omega) (fun q i s => lmarkAckSM_L2 Int q (x, s, i) (fun k5 => (some k5)) some) (fun _ a s cont => cont (IntKind.wrap .i64 (IntKind.wrap .i64 (IntKind.wrap .i64 (s + 1) + 1) + 1))) some
    (fun q i hi s => by simp only [lmarkAckSM_L2]; simp [hi, wrap_succ (show i < 4611686018427387904 by omega)]) (fun q s => by simp [lmarkAckSM_L2]) (k : Int)
  rw [this, runL_mk (n := fun _ => 3) (fun i a k cont h => by rw [w1 (by omega), w1 (by omega), w1 (by omega)]) some x 0 k hk]

theorem mk_pairs : Mks lmarkPairSM (nL fun _ => 3) := by
  intro x k hk
  have hl := len_nL (n := fun _ => 3) (fun _ => by omega) x
  simp only [lmarkPairSM]
  have := loop0 x (by omega) (fun q i s => lmarkPairSM_L2 Int q (x, s, i) (fun k5 => (some k5)) some) (fun _ a s cont => (lmarkText s).bind fun _ => (lmarkText (IntKind.wrap .i64 (s + 1))).bind fun _ => cont (IntKind.wrap .i64 (IntKind.wrap .i64 (IntKind.wrap .i64 (s + 1) + 1) + 1))) some
    (fun q i hi s => by simp only [lmarkPairSM_L2]; simp [hi, wrap_succ (show i < 4611686018427387904 by omega)]) (fun q s => by simp [lmarkPairSM_L2]) (k : Int)
  rw [this, runL_mk (n := fun _ => 3) (fun i a k cont h => by rw [w1 (by omega), w1 (by omega), w1 (by omega), mt_eq (by omega), mt_eq (by omega)]; rfl) some x 0 k hk]

theorem mk_answers : Mks lmarkAnswerSM (nL fun _ => 4) := by
  intro x k hk
  have hl := len_nL (n := fun _ => 4) (fun _ => by omega) x
  simp only [lmarkAnswerSM]
  have := loop0 x (by omega) (fun q i s => lmarkAnswerSM_L2 Int q (x, s, i) (fun k5 => (some k5)) some) (fun _ a s cont => (lmarkText (IntKind.wrap .i64 (IntKind.wrap .i64 (s + 1) + 1))).bind fun _ => cont (IntKind.wrap .i64 (IntKind.wrap .i64 (IntKind.wrap .i64 (IntKind.wrap .i64 (s + 1) + 1) + 1) + 1))) some
    (fun q i hi s => by simp only [lmarkAnswerSM_L2]; simp [hi, wrap_succ (show i < 4611686018427387904 by omega)]) (fun q s => by simp [lmarkAnswerSM_L2]) (k : Int)
  rw [this, runL_mk (n := fun _ => 4) (fun i a k cont h => by rw [w1 (by omega), w1 (by omega), w1 (by omega), w1 (by omega), mt_eq (by omega)]; rfl) some x 0 k hk]

abbrev RecS := (Unit × Unit) × (Unit × Unit × Unit) × List (Unit × Unit) × Unit
abbrev MsgS := Unit × Unit × Unit × (Unit × Unit) × (Unit × Unit × Unit) × List (Unit × Unit)
abbrev AskS := (Unit × Unit) × (Unit × Unit × Unit) × List (Unit × Unit)
abbrev RepS := Unit × Unit × Unit × List RecS × List ((Unit × Unit) × Unit) × List (Unit × Unit) × List (Unit × Unit × Unit) × List ((Unit × Unit) × Unit × Unit)
def nRec (c : RecS) : Nat := 6 + nL (fun _ => 2) c.2.2.1
def nMsg (c : MsgS) : Nat := 8 + nL (fun _ => 2) c.2.2.2.2.2
def nAsk (c : AskS) : Nat := 5 + nL (fun _ => 2) c.2.2
def nRep (c : RepS) : Nat := 3 + nL nRec c.2.2.2.1 + nL (fun _ => 3) c.2.2.2.2.1 + nL (fun _ => 2) c.2.2.2.2.2.1 + nL (fun _ => 3) c.2.2.2.2.2.2.1 + nL (fun _ => 4) c.2.2.2.2.2.2.2

theorem mk_recs : Mks lmarkRecSM (nL nRec) := by
  intro x k hk
  have hl := len_nL (n := nRec) (fun _ => by unfold nRec; omega) x
  simp only [lmarkRecSM]
  have := loop0 x (by omega) (fun q i s => lmarkRecSM_L2 Int q (x, s, i) (fun k5 => (some k5)) some) (fun _ a s cont =>
      (lmarkText (IntKind.wrap .i64 (IntKind.wrap .i64 (IntKind.wrap .i64 (s + 1) + 1) + 1))).bind fun _ => (lmarkText (IntKind.wrap .i64 (IntKind.wrap .i64 (IntKind.wrap .i64 (IntKind.wrap .i64 (s + 1) + 1) + 1) + 1))).bind fun _ =>
      (lmarkDotSM (a.2.2.1, IntKind.wrap .i64 (IntKind.wrap .i64 (IntKind.wrap .i64 (IntKind.wrap .i64 (IntKind.wrap .i64 (s + 1) + 1) + 1) + 1) + 1))).bind fun r => cont (IntKind.wrap .i64 (r + 1))) some
    (fun q i hi s => by simp only [lmarkRecSM_L2]; simp [hi, nth_nat _ _ hi, wrap_succ (show i < 4611686018427387904 by omega)]) (fun q s => by simp [lmarkRecSM_L2]) (k : Int)
  rw [this, runL_mk (n := nRec) (fun i a k cont h => by
    unfold nRec at h ⊢
    rw [w1 (by omega), w1 (by omega), w1 (by omega), w1 (by omega), w1 (by omega), mt_eq (by omega), mt_eq (by omega), mk_dots _ _ (by omega)]
    simp only [Option.bind_some]
    rw [w1 (by omega)]
    congr 2; omega) some x 0 k hk]

theorem mk_msgs : Mks lmarkMsgSM (nL nMsg) := by
  intro x k hk
  have hl := len_nL (n := nMsg) (fun _ => by unfold nMsg; omega) x
  simp only [lmarkMsgSM]
  have := loop0 x (by omega) (fun q i s => lmarkMsgSM_L2 Int q (x, s, i) (fun k5 => (some k5)) some) (fun _ a s cont =>
      let t := (IntKind.wrap .i64 (IntKind.wrap .i64 (IntKind.wrap .i64 (IntKind.wrap .i64 (IntKind.wrap .i64 (IntKind.wrap .i64 (s + 1) + 1) + 1) + 1) + 1) + 1))
      (lmarkText t).bind fun _ => (lmarkText (IntKind.wrap .i64 (t + 1))).bind fun _ =>
      (lmarkDotSM (a.2.2.2.2.2, IntKind.wrap .i64 (IntKind.wrap .i64 (t + 1) + 1))).bind fun r => cont r) some
    (fun q i hi s => by simp only [lmarkMsgSM_L2]; simp [hi, nth_nat _ _ hi, wrap_succ (show i < 4611686018427387904 by omega)]) (fun q s => by simp [lmarkMsgSM_L2]) (k : Int)
  rw [this, runL_mk (n := nMsg) (fun i a k cont h => by
    unfold nMsg at h ⊢
    dsimp only
    rw [w1 (by omega), w1 (by omega), w1 (by omega), w1 (by omega), w1 (by omega), w1 (by omega), w1 (by omega), w1 (by omega), mt_eq (by omega), mt_eq (by omega), mk_dots _ _ (by omega)]
    simp only [Option.bind_some]
    congr 2; omega) some x 0 k hk]

theorem mk_askeds : Mks lmarkAskedSM (nL nAsk) := by
  intro x k hk
  have hl := len_nL (n := nAsk) (fun _ => by unfold nAsk; omega) x
  simp only [lmarkAskedSM]
  have := loop0 x (by omega) (fun q i s => lmarkAskedSM_L2 Int q (x, s, i) (fun k5 => (some k5)) some) (fun _ a s cont =>
      let t := (IntKind.wrap .i64 (IntKind.wrap .i64 (IntKind.wrap .i64 (s + 1) + 1) + 1))
      (lmarkText t).bind fun _ => (lmarkText (IntKind.wrap .i64 (t + 1))).bind fun _ =>
      (lmarkDotSM (a.2.2, IntKind.wrap .i64 (IntKind.wrap .i64 (t + 1) + 1))).bind fun r => cont r) some
    (fun q i hi s => by simp only [lmarkAskedSM_L2]; simp [hi, nth_nat _ _ hi, wrap_succ (show i < 4611686018427387904 by omega)]) (fun q s => by simp [lmarkAskedSM_L2]) (k : Int)
  rw [this, runL_mk (n := nAsk) (fun i a k cont h => by
    unfold nAsk at h ⊢
    dsimp only
    rw [w1 (by omega), w1 (by omega), w1 (by omega), w1 (by omega), w1 (by omega), mt_eq (by omega), mt_eq (by omega), mk_dots _ _ (by omega)]
    simp only [Option.bind_some]
    congr 2; omega) some x 0 k hk]

theorem mk_replicas : Mks lmarkReplicaSM (nL nRep) := by
  intro x k hk
  have hl := len_nL (n := nRep) (fun _ => by unfold nRep; omega) x
  simp only [lmarkReplicaSM]
  have := loop0 x (by omega) (fun q i s => lmarkReplicaSM_L2 Int q (x, s, i) (fun k5 => (some k5)) some) (fun _ a s cont =>
      (lmarkRecSM (a.2.2.2.1, IntKind.wrap .i64 (IntKind.wrap .i64 (IntKind.wrap .i64 (s + 1) + 1) + 1))).bind fun r => (lmarkAckSM (a.2.2.2.2.1, r)).bind fun r => (lmarkDotSM (a.2.2.2.2.2.1, r)).bind fun r =>
      (lmarkPairSM (a.2.2.2.2.2.2.1, r)).bind fun r => (lmarkAnswerSM (a.2.2.2.2.2.2.2, r)).bind fun r => cont r) some
    (fun q i hi s => by simp only [lmarkReplicaSM_L2]; simp [hi, nth_nat _ _ hi, wrap_succ (show i < 4611686018427387904 by omega)]) (fun q s => by simp [lmarkReplicaSM_L2]) (k : Int)
  rw [this, runL_mk (n := nRep) (fun i a k cont h => by
    unfold nRep at h ⊢
    rw [w1 (by omega), w1 (by omega), w1 (by omega), mk_recs _ _ (by omega), Option.bind_some, mk_acks _ _ (by omega), Option.bind_some, mk_dots _ _ (by omega), Option.bind_some, mk_pairs _ _ (by omega), Option.bind_some, mk_answers _ _ (by omega), Option.bind_some]
    congr 2; omega) some x 0 k hk]
end Go.Rx
/- Final's law: plain. -/
namespace Go.Rx

/-! ### The marks on what was made -/
def sDot (c : DotT) : Unit × Unit := dotTy.shapeVal c
def sAck (c : AckT) : (Unit × Unit) × Unit := ackTy.shapeVal c
def sPair (c : PairT) : Unit × Unit × Unit := pairTy.shapeVal c
def sAns (c : AnsT) : (Unit × Unit) × Unit × Unit := ansTy.shapeVal c
def sRec (c : RecT) : RecS := recTy.shapeVal c
def sMsg (c : MsgT) : MsgS := msgTy.shapeVal c
def sAsk (c : AskedT) : AskS := askedTy.shapeVal c
def sRep (c : RepT) : RepS := repTy.shapeVal c
theorem n_rec (c : RecT) : nRec (sRec c) ≤ 8 * cRec c + 8 := by
  have : nRec (sRec c) = 6 + nL (fun _ => 2) (List.map sDot c.2.2.1) := rfl
  rw [this, nL_map, nL_const]
  unfold cRec
  omega
theorem n_msg (c : MsgT) : nMsg (sMsg c) ≤ 8 * cMsg c + 8 := by
  have : nMsg (sMsg c) = 8 + nL (fun _ => 2) (List.map sDot c.2.2.2.2.2) := rfl
  rw [this, nL_map, nL_const]
  unfold cMsg
  omega
theorem n_ask (c : AskedT) : nAsk (sAsk c) ≤ 8 * cAsk c + 8 := by
  have : nAsk (sAsk c) = 5 + nL (fun _ => 2) (List.map sDot c.2.2) := rfl
  rw [this, nL_map, nL_const]
  unfold cAsk
  omega
theorem n_rep (c : RepT) : nRep (sRep c) ≤ 8 * cRep c + 8 := by
  have : nRep (sRep c) = 3 + nL nRec (List.map sRec c.2.2.2.1) + nL (fun _ => 3) (List.map sAck c.2.2.2.2.1) + nL (fun _ => 2) (List.map sDot c.2.2.2.2.2.1) +
    nL (fun _ => 3) (List.map sPair c.2.2.2.2.2.2.1) + nL (fun _ => 4) (List.map sAns c.2.2.2.2.2.2.2) := rfl
  rw [this, nL_map, nL_map, nL_map, nL_map, nL_map, nL_const, nL_const, nL_const, nL_const]
  have h1 := nL_le (n := fun x => nRec (sRec x)) (c := cRec) n_rec c.2.2.2.1
  have h2 : c.2.2.2.2.2.2.1.length ≤ cL cPair c.2.2.2.2.2.2.1 := cL_len
  have h3 : c.2.2.2.2.2.2.2.length ≤ cL cAns c.2.2.2.2.2.2.2 := cL_len
  unfold cRep
  omega

theorem mark_cluster (w : CluT) (h : cClu w ≤ 1048576) : ∃ n : Nat, lmarkClusterM (cluTy.shapeVal w, 1) = some (n : Int) := by
  obtain ⟨a, b, c⟩ := w
  have h1 := nL_le (n := fun x => nRep (sRep x)) (c := cRep) n_rep a
  have h2 := nL_le (n := fun x => nMsg (sMsg x)) (c := cMsg) n_msg b
  have h3 := nL_le (n := fun x => nAsk (sAsk x)) (c := cAsk) n_ask c
  have h : cL cRep a + (cL cMsg b + cL cAsk c) ≤ 1048576 := h
  have e : lmarkClusterM (cluTy.shapeVal (a, b, c), 1) = ((lmarkReplicaSM (List.map sRep a, ((1 : Nat) : Int))).bind fun r4 => ((lmarkMsgSM (List.map sMsg b, r4)).bind fun r5 => ((lmarkAskedSM (List.map sAsk c, r5)).bind fun r6 => (some r6)))) := rfl
  rw [e, mk_replicas _ _ (by rw [nL_map]; omega), Option.bind_some, mk_msgs _ _ (by rw [nL_map, nL_map]; omega), Option.bind_some, mk_askeds _ _ (by rw [nL_map, nL_map, nL_map]; omega)]
  exact ⟨_, rfl⟩

noncomputable def mkP (k : Nat) : PairT := (mt k, mt (k + 1), ((Int.tmod ((k + 2 : Nat) : Int) 3) == 0))
noncomputable def marksP (k : Nat) : Nat → List PairT
  | 0 => []
  | d + 1 => mkP k :: marksP (k + 3) d
theorem marksP_len (d : Nat) : ∀ k, (marksP k d).length = d := by
  induction d with
  | zero => intro k; rfl
  | succ d ih => intro k; simp [marksP, ih]

theorem setP (pre rest : List PairT) (v w : PairT) : List.set (pre ++ v :: rest) (Int.toNat (pre.length : Int)) w = pre ++ w :: rest := by
  rw [Int.toNat_natCast, List.set_append_right _ _ (Nat.le_refl _), Nat.sub_self]
  rfl
theorem nthP (pre rest : List PairT) (v : PairT) : nth (pre ++ v :: rest) (pre.length : Int) = v := by
  unfold nth
  rw [Int.toNat_natCast, List.getD_eq_getElem?_getD, List.getElem?_append_right (Nat.le_refl _), Nat.sub_self]
  rfl
theorem ltP (pre rest : List PairT) (v : PairT) : decide ((pre.length : Int) < (((pre ++ v :: rest).length : Nat) : Int)) = true := decide_eq_true (by simp; omega)

theorem markP_step {O : Type} (q k : Nat) (pre rest : List PairT) (v : PairT) (hk : k ≤ 10000000) (hp : pre.length ≤ 10000000) (x) (r : (Int × List PairT) → Option O) :
    lmarkPairS_L2 O (q + 1) ((k : Int), (pre.length : Int), pre ++ v :: rest) x r = lmarkPairS_L2 O q (((k + 3 : Nat) : Int), ((pre.length + 1 : Nat) : Int), pre ++ mkP k :: rest) x r := by
  have w1 := wrap_succ (show k < 4611686018427387904 by omega)
  have w2 := wrap_succ (show k + 1 < 4611686018427387904 by omega)
  have w3 := wrap_succ (show k + 1 + 1 < 4611686018427387904 by omega)
  have w5 := wrap_succ (show pre.length < 4611686018427387904 by omega)
  have e0 : decide ((0 : Int) ≤ (pre.length : Int)) = true := decide_eq_true (by omega)
  have t1 := mt_eq (k := k) (by omega)
  have t2 := mt_eq (k := k + 1) (by omega)
  rw [lmarkPairS_L2]
  simp only [ltP, e0, Bool.and_true, cond_true, setP, nthP, w1, w2, w3, w5, t1, t2, Option.bind_some]
  rfl

theorem markP_run {O : Type} (x) (r : (Int × List PairT) → Option O) : ∀ (rest pre : List PairT) (q k : Nat), k + 3 * rest.length ≤ 10000000 → pre.length + rest.length ≤ 10000000 →
    lmarkPairS_L2 O (q + rest.length + 1) ((k : Int), (pre.length : Int), pre ++ rest) x r = x (((k + 3 * rest.length : Nat) : Int), pre ++ marksP k rest.length)
  | [], pre, q, k, hk, hp => by
    rw [lmarkPairS_L2]
    simp [marksP]
  | v :: rest, pre, q, k, hk, hp => by
    simp only [List.length_cons] at hk hp ⊢
    rw [show q + (rest.length + 1) + 1 = (q + rest.length + 1) + 1 from by omega, markP_step _ _ _ _ _ (by omega) (by omega)]
    have := markP_run x r rest (pre ++ [mkP k]) q (k + 3) (by omega) (by simp; omega)
    rw [List.length_append, List.length_singleton, List.append_assoc, List.append_assoc] at this
    rw [show pre ++ mkP k :: rest = pre ++ ([mkP k] ++ rest) from rfl, this]
    rw [show k + 3 + 3 * rest.length = k + 3 * (rest.length + 1) from by omega]
    rfl

theorem heldP_run {O : Type} (x) (r : Int → Option O) : ∀ (d : Nat) (pre : List PairT) (q k : Nat), k + 3 * d ≤ 10000000 → pre.length + d ≤ 10000000 →
    lheldPairS_L2 O (q + d + 1) (pre ++ marksP k d, (k : Int), (pre.length : Int)) x r = x ((k + 3 * d : Nat) : Int)
  | 0, pre, q, k, _, _ => by
    rw [lheldPairS_L2]
    simp [marksP]
  | d + 1, pre, q, k, hk, hp => by
    have w1 := wrap_succ (show k < 4611686018427387904 by omega)
    have w2 := wrap_succ (show k + 1 < 4611686018427387904 by omega)
    have w3 := wrap_succ (show k + 1 + 1 < 4611686018427387904 by omega)
    have w5 := wrap_succ (show pre.length < 4611686018427387904 by omega)
    have e0 : decide ((0 : Int) ≤ (pre.length : Int)) = true := decide_eq_true (by omega)
    have t1 := mt_eq (k := k) (by omega)
    have t2 := mt_eq (k := k + 1) (by omega)
    have b1 : (mkP k).1 = mt k := rfl
    have b2 : (mkP k).2.1 = mt (k + 1) := rfl
    have b3 : (mkP k).2.2 = ((Int.tmod ((k + 1 + 1 : Nat) : Int) 3) == 0) := rfl
    rw [show q + (d + 1) + 1 = (q + d + 1) + 1 from by omega, marksP, lheldPairS_L2]
    simp only [ltP, e0, Bool.and_true, cond_true, nthP, w1, w2, w3, w5, t1, t2, Option.bind_some, b1, b2, b3, cond_false, beq_self_eq_true, Bool.not_true]
    have := heldP_run x r d (pre ++ [mkP k]) q (k + 3) (by omega) (by simp; omega)
    rw [List.length_append, List.length_singleton, List.append_assoc] at this
    rw [show k + 3 * (d + 1) = k + 3 + 3 * d from by omega]
    exact this

theorem fuelP (n : Nat) (h : n ≤ 1048576) : ∃ q, fuel = q + n + 1 := ⟨fuel - n - 1, by have := fuel_eq; omega⟩
theorem mark_pairs (l : List PairT) (h : lenOk l) : lmarkPairS (l, 1) = some (((1 + 3 * l.length : Nat) : Int), marksP 1 l.length) := by
  unfold lenOk at h
  obtain ⟨q, hq⟩ := fuelP l.length h
  have := markP_run (O := Int × List PairT) (fun z => some z) some l [] q 1 (by omega) (by simp; omega)
  simp only [lmarkPairS, hq]
  exact this
theorem held_pairs (d : Nat) (h : d ≤ 1048576) : lheldPairS (marksP 1 d, 1) = some ((1 + 3 * d : Nat) : Int) := by
  obtain ⟨q, hq⟩ := fuelP d h
  have := heldP_run (O := Int) (fun z => some z) some d [] q 1 (by omega) (by simp; omega)
  simp only [lheldPairS, hq]
  exact this

/-- Both say the first one's map. -/
theorem final_both (w : CluT) (h : CluOk w) : ∃ p : List PairT, lenOk p ∧ sFinal w = some p ∧ iFinal w = some p := by
  obtain ⟨a, b, c⟩ := w
  cases a with
  | nil => exact ⟨[], by simp [lenOk], by simp [sFinal], by simp [iFinal]⟩
  | cons r a =>
    have hr := (h.rep r (by simp)).2.2.2.1
    have hr' := hr
    unfold lenOk at hr'
    have hn : nth (r :: a) 0 = r := rfl
    have e0 : ((((r :: a).length : Nat) : Int) == 0) = false := by simp; omega
    have e1 : decide ((0 : Int) < (((r :: a).length : Nat) : Int)) = true := decide_eq_true (by simp)
    have e2 : decide (r.2.2.2.2.2.2.1.length ≤ lenBound) = true := decide_eq_true (by unfold lenBound; omega)
    refine ⟨r.2.2.2.2.2.2.1, hr, ?_, ?_⟩
    · simp only [sFinal, hn, e0, e1, e2, cond_true, cond_false, Nat.zero_add, List.nil_append]
    · simp only [iFinal, hn, e0, e1, e2, cond_true, cond_false]

/-- **The law.** -/
theorem law_final (w : CluT) (hw : CluIn w) : lFnExactFinal w = some true := by
  simp only [lFnExactFinal]
  obtain ⟨x, e, h'⟩ := sz_cluster w 1048576 hw (by omega) (by omega)
  rw [e, Option.bind_some]
  rcases h' with h' | ⟨h0, h1⟩
  · simp [h']
  · have hc : cClu w ≤ 1048576 := by omega
    have hW := cluOk_of hc
    rw [show decide (x < 0) = false from by simp; omega]
    obtain ⟨p, hp, e1, e2⟩ := final_both w hW
    obtain ⟨n, hn⟩ := mark_cluster w hc
    have hp' := hp
    unfold lenOk at hp'
    have hn0 : decide ((n : Int) < 0) = false := decide_eq_false (by omega)
    have hn1 : decide (((1 + 3 * p.length : Nat) : Int) < 0) = false := decide_eq_false (by omega)
    have hm : lmarkClusterM (Ty.shapeVal cluTy (w.1, w.2.1, w.2.2), 1) = some (n : Int) := hn
    have e3 := eq_cluster w hW
    have e4 := eq_pairs p hp
    have et := to_cluster w hW
    simp only [cond_false, et, e1, e2, Option.bind_some, e3, e4, hm, hn0, mark_pairs p hp, held_pairs p.length hp', hn1, bne_self_eq_false, Bool.not_true]
theorem law_final_good (w : CluT) (h : GoodD cluTyO w) : lFnExactFinal w = some true := law_final w (good_cluster h)
end Go.Rx
