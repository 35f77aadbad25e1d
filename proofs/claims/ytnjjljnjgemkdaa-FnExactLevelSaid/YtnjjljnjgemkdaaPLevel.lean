import Derived.Test.YtnjjljnjgemkdaaFLevel0
set_option linter.all false
/- Sizes, copies, likeness. -/
namespace Go.Rx
abbrev DotT := Int × Int
abbrev CmdT := Int × List UInt8 × List UInt8
abbrev RecT := DotT × CmdT × List DotT × Bool
abbrev AckT := DotT × Int
abbrev PairT := List UInt8 × List UInt8 × Bool
abbrev AnsT := DotT × List UInt8 × Bool
abbrev RepT := Int × Int × Int × List RecT × List AckT × List DotT × List PairT × List AnsT
abbrev MsgT := Int × Int × Int × DotT × CmdT × List DotT

/-- lists no longer than a million -/
def lenOk {α : Type} (l : List α) : Prop := l.length ≤ 1048576
/-- what lies in memory -/
def memOk {α : Type} (l : List α) : Prop := l.length ≤ 9223372036854775807

/-- What a size counts: what is left, or below 0. -/
def Szs {α : Type} (f : α × Int → Option Int) (In : α → Prop) (c : α → Nat) : Prop := ∀ a left, In a → 0 ≤ left → left ≤ 1048576 → ∃ r, f (a, left) = some r ∧ (r < 0 ∨ (0 ≤ r ∧ r + (c a : Int) ≤ left))

theorem sz_dots : Szs lszDotS memOk List.length := by
  intro a left hm h0 h1
  unfold memOk at hm
  simp only [lszDotS]
  rw [wrap64 (by omega) (by omega)]
  by_cases h : left - (a.length : Int) < 0
  · exact ⟨-1, by simp [h], .inl (by omega)⟩
  · exact ⟨left - (a.length : Int), by simp [h], .inr ⟨by omega, by omega⟩⟩

theorem sz_acks : Szs lszAckS memOk List.length := by
  intro a left hm h0 h1
  unfold memOk at hm
  simp only [lszAckS]
  rw [wrap64 (by omega) (by omega)]
  by_cases h : left - (a.length : Int) < 0
  · exact ⟨-1, by simp [h], .inl (by omega)⟩
  · exact ⟨left - (a.length : Int), by simp [h], .inr ⟨by omega, by omega⟩⟩

def cCmd (c : CmdT) : Nat := c.2.1.length + c.2.2.length
def cPair (c : PairT) : Nat := c.1.length + c.2.1.length
def cAns (c : AnsT) : Nat := c.2.1.length
def cRec (c : RecT) : Nat := cCmd c.2.1 + c.2.2.1.length
/-- of a list: its elements, and what they hold -/
def cL {α : Type} (c : α → Nat) (l : List α) : Nat := l.length + (l.map c).sum

theorem sz_cmd : Szs lszCmd (fun c => memOk c.2.1 ∧ memOk c.2.2) cCmd := by
  intro ⟨k, a, b⟩ left ⟨h2, h3⟩ h0 h1
  unfold memOk at h2 h3
  dsimp only at h2 h3
  simp only [lszCmd, cCmd]
  rw [wrap64 (by omega) (by omega)]
  by_cases h : left - (a.length : Int) < 0
  · exact ⟨-1, by simp [h], .inl (by omega)⟩
  · rw [wrap64 (by omega) (by omega)]
    by_cases h' : left - (a.length : Int) - (b.length : Int) < 0
    · exact ⟨-1, by simp [h, h'], .inl (by omega)⟩
    · exact ⟨_, by simp [h, h']; rfl, .inr ⟨by omega, by omega⟩⟩

theorem sz_pair : Szs lszPair (fun c => memOk c.1 ∧ memOk c.2.1) cPair := by
  intro ⟨a, b, g⟩ left ⟨h2, h3⟩ h0 h1
  unfold memOk at h2 h3
  dsimp only at h2 h3
  simp only [lszPair, cPair]
  rw [wrap64 (by omega) (by omega)]
  by_cases h : left - (a.length : Int) < 0
  · exact ⟨-1, by simp [h], .inl (by omega)⟩
  · rw [wrap64 (by omega) (by omega)]
    by_cases h' : left - (a.length : Int) - (b.length : Int) < 0
    · exact ⟨-1, by simp [h, h'], .inl (by omega)⟩
    · exact ⟨_, by simp [h, h']; rfl, .inr ⟨by omega, by omega⟩⟩

theorem sz_answer : Szs lszAnswer (fun c => memOk c.2.1) cAns := by
  intro ⟨⟨d, e⟩, a, g⟩ left h2 h0 h1
  unfold memOk at h2
  dsimp only at h2
  simp only [lszAnswer, cAns]
  rw [wrap64 (by omega) (by omega)]
  by_cases h : left - (a.length : Int) < 0
  · exact ⟨-1, by simp [h], .inl (by omega)⟩
  · exact ⟨_, by simp [h]; rfl, .inr ⟨by omega, by omega⟩⟩

/-- One behind the other. -/
theorem sz_seq {x : Option Int} {k : Int → Option Int} {c1 c2 : Nat} {left : Int} (h1 : left ≤ 1048576) (hx : ∃ r, x = some r ∧ (r < 0 ∨ (0 ≤ r ∧ r + (c1 : Int) ≤ left))) (hk : ∀ r, 0 ≤ r → r ≤ 1048576 → ∃ r', k r = some r' ∧ (r' < 0 ∨ (0 ≤ r' ∧ r' + (c2 : Int) ≤ r))) :
    ∃ r, (x.bind fun r => cond (decide (r < 0)) (some (-1)) (k r)) = some r ∧ (r < 0 ∨ (0 ≤ r ∧ r + ((c1 + c2 : Nat) : Int) ≤ left)) := by
  obtain ⟨r, rfl, h⟩ := hx
  rcases h with h | ⟨h2, h3⟩
  · exact ⟨-1, by simp [h], .inl (by omega)⟩
  · obtain ⟨r', e, h5⟩ := hk r h2 (by omega)
    refine ⟨r', by simp [show ¬ r < 0 from by omega, e], ?_⟩
    rcases h5 with h5 | ⟨h5, h6⟩
    · exact .inl h5
    · exact .inr ⟨h5, by omega⟩

theorem sz_end {r : Int} (h0 : 0 ≤ r) : ∃ r', some r = some r' ∧ (r' < 0 ∨ (0 ≤ r' ∧ r' + ((0 : Nat) : Int) ≤ r)) := ⟨r, rfl, .inr ⟨h0, by omega⟩⟩

def RecIn (c : RecT) : Prop := (memOk c.2.1.2.1 ∧ memOk c.2.1.2.2) ∧ memOk c.2.2.1
theorem sz_rec : Szs lszRec RecIn cRec := by
  intro ⟨⟨d, e⟩, ⟨k, a, b⟩, l, s⟩ left ⟨h2, h3⟩ h0 h1
  simp only [lszRec]
  have := sz_seq h1 (sz_cmd (k, a, b) left h2 h0 h1) fun r h4 h5 => sz_seq h5 (sz_dots l r h3 h4 h5) fun r h6 h7 => sz_end h6
  simpa [cRec] using this

/-- The sizes of a list's elements. -/
theorem sz_list {α : Type} {f : α × Int → Option Int} {In : α → Prop} {c : α → Nat} (hf : Szs f In c) {r : Int → Option Int} {x : Int → Option Int} (hr : r = some) (hx : x = some) : ∀ (l : List α) (i : Nat) (left : Int), (∀ a ∈ l, In a) → 0 ≤ left → left ≤ 1048576 →
    ∃ r', runL (fun _ a s k => (f (a, s)).bind fun r5 => cond (decide (r5 < 0)) (r (-1)) (k r5)) x i l left = some r' ∧ (r' < 0 ∨ (0 ≤ r' ∧ r' + ((l.map c).sum : Int) ≤ left))
  | [], i, left, _, h0, h1 => ⟨left, by simp [runL, hx], .inr ⟨h0, by simp⟩⟩
  | a :: l, i, left, hi, h0, h1 => by
    simp only [runL]
    obtain ⟨r5, e, h⟩ := hf a left (hi a (by simp)) h0 h1
    rw [e]
    rcases h with h | ⟨h2, h3⟩
    · exact ⟨-1, by simp [h, hr], .inl (by omega)⟩
    · obtain ⟨r', e', h5⟩ := sz_list hf hr hx l (i + 1) r5 (fun a ha => hi a (by simp [ha])) h2 (by omega)
      refine ⟨r', by simp only [Option.bind_some, show ¬ r5 < 0 from by omega, decide_false, cond_false]; exact e', ?_⟩
      rcases h5 with h5 | ⟨h5, h6⟩
      · exact .inl h5
      · refine .inr ⟨h5, ?_⟩
        simp only [List.map_cons, List.sum_cons]
        omega

theorem sz_recs : Szs lszRecS (fun l => memOk l ∧ ∀ c ∈ l, RecIn c) (cL cRec) := by
  intro a left ⟨hm, hi⟩ h0 h1
  unfold memOk at hm
  simp only [lszRecS]
  rw [wrap64 (by omega) (by omega)]
  by_cases h : left - (a.length : Int) < 0
  · exact ⟨-1, by simp [h], .inl (by omega)⟩
  · have := loop0 a (by omega) (fun q i s => lszRecS_L5 Int q (a, s, i) (fun left6 => (some left6)) some) (fun _ a s k => (lszRec (a, s)).bind fun r5 => cond (decide (r5 < 0)) (some (-1)) (k r5)) some
      (fun q i hi s => by simp only [lszRecS_L5]; simp [hi, nth_nat _ _ hi, wrap_succ (show i < 4611686018427387904 by omega)]) (fun q s => by simp [lszRecS_L5]) (left - a.length)
    simp only [h, decide_false, cond_false]
    rw [this]
    obtain ⟨r, e, h5⟩ := sz_list sz_rec rfl rfl a 0 (left - a.length) hi (by omega) (by omega)
    refine ⟨r, e, ?_⟩
    unfold cL
    rcases h5 with h5 | ⟨h5, h6⟩
    · exact .inl h5
    · exact .inr ⟨h5, by omega⟩

theorem sz_pairs : Szs lszPairS (fun l => memOk l ∧ ∀ c ∈ l, (memOk c.1 ∧ memOk c.2.1)) (cL cPair) := by
  intro a left ⟨hm, hi⟩ h0 h1
  unfold memOk at hm
  simp only [lszPairS]
  rw [wrap64 (by omega) (by omega)]
  by_cases h : left - (a.length : Int) < 0
  · exact ⟨-1, by simp [h], .inl (by omega)⟩
  · have := loop0 a (by omega) (fun q i s => lszPairS_L5 Int q (a, s, i) (fun left6 => (some left6)) some) (fun _ a s k => (lszPair (a, s)).bind fun r5 => cond (decide (r5 < 0)) (some (-1)) (k r5)) some
      (fun q i hi s => by simp only [lszPairS_L5]; simp [hi, nth_nat _ _ hi, wrap_succ (show i < 4611686018427387904 by omega)]) (fun q s => by simp [lszPairS_L5]) (left - a.length)
    simp only [h, decide_false, cond_false]
    rw [this]
    obtain ⟨r, e, h5⟩ := sz_list sz_pair rfl rfl a 0 (left - a.length) hi (by omega) (by omega)
    refine ⟨r, e, ?_⟩
    unfold cL
    rcases h5 with h5 | ⟨h5, h6⟩
    · exact .inl h5
    · exact .inr ⟨h5, by omega⟩

theorem sz_answers : Szs lszAnswerS (fun l => memOk l ∧ ∀ c ∈ l, memOk c.2.1) (cL cAns) := by
  intro a left ⟨hm, hi⟩ h0 h1
  unfold memOk at hm
  simp only [lszAnswerS]
  rw [wrap64 (by omega) (by omega)]
  by_cases h : left - (a.length : Int) < 0
  · exact ⟨-1, by simp [h], .inl (by omega)⟩
  · have := loop0 a (by omega) (fun q i s => lszAnswerS_L5 Int q (a, s, i) (fun left6 => (some left6)) some) (fun _ a s k => (lszAnswer (a, s)).bind fun r5 => cond (decide (r5 < 0)) (some (-1)) (k r5)) some
      (fun q i hi s => by simp only [lszAnswerS_L5]; simp [hi, nth_nat _ _ hi, wrap_succ (show i < 4611686018427387904 by omega)]) (fun q s => by simp [lszAnswerS_L5]) (left - a.length)
    simp only [h, decide_false, cond_false]
    rw [this]
    obtain ⟨r, e, h5⟩ := sz_list sz_answer rfl rfl a 0 (left - a.length) hi (by omega) (by omega)
    refine ⟨r, e, ?_⟩
    unfold cL
    rcases h5 with h5 | ⟨h5, h6⟩
    · exact .inl h5
    · exact .inr ⟨h5, by omega⟩

def RepIn (r : RepT) : Prop := (memOk r.2.2.2.1 ∧ ∀ c ∈ r.2.2.2.1, RecIn c) ∧ memOk r.2.2.2.2.1 ∧ memOk r.2.2.2.2.2.1 ∧
  (memOk r.2.2.2.2.2.2.1 ∧ ∀ c ∈ r.2.2.2.2.2.2.1, memOk c.1 ∧ memOk c.2.1) ∧ (memOk r.2.2.2.2.2.2.2 ∧ ∀ c ∈ r.2.2.2.2.2.2.2, memOk c.2.1)
def cRep (r : RepT) : Nat := cL cRec r.2.2.2.1 + (r.2.2.2.2.1.length + (r.2.2.2.2.2.1.length + (cL cPair r.2.2.2.2.2.2.1 + cL cAns r.2.2.2.2.2.2.2)))
def RepOk (r : RepT) : Prop := (lenOk r.2.2.2.1 ∧ ∀ c ∈ r.2.2.2.1, lenOk c.2.2.1) ∧ lenOk r.2.2.2.2.1 ∧ lenOk r.2.2.2.2.2.1 ∧ lenOk r.2.2.2.2.2.2.1 ∧ lenOk r.2.2.2.2.2.2.2
def MsgIn (m : MsgT) : Prop := (memOk m.2.2.2.2.1.2.1 ∧ memOk m.2.2.2.2.1.2.2) ∧ memOk m.2.2.2.2.2
def cMsg (m : MsgT) : Nat := cCmd m.2.2.2.2.1 + m.2.2.2.2.2.length
def MsgOkS (m : MsgT) : Prop := lenOk m.2.2.2.2.2

theorem sum_mem {α : Type} {c : α → Nat} {a : α} : ∀ {l : List α}, a ∈ l → c a ≤ (l.map c).sum
  | b :: l, h => by
    rcases List.mem_cons.1 h with rfl | h
    · simp
    · have := sum_mem (c := c) h
      simp only [List.map_cons, List.sum_cons]
      omega
theorem cL_len {α : Type} {c : α → Nat} {l : List α} : l.length ≤ cL c l := Nat.le_add_right _ _
theorem cL_mem {α : Type} {c : α → Nat} {l : List α} {a : α} (h : a ∈ l) : c a ≤ cL c l := Nat.le_trans (sum_mem h) (Nat.le_add_left _ _)

theorem repOk_of {r : RepT} (h : cRep r ≤ 1048576) : RepOk r := by
  unfold cRep at h
  have h1 := cL_len (c := cRec) (l := r.2.2.2.1)
  have h2 := cL_len (c := cPair) (l := r.2.2.2.2.2.2.1)
  have h3 := cL_len (c := cAns) (l := r.2.2.2.2.2.2.2)
  refine ⟨⟨by unfold lenOk; omega, fun c hc => ?_⟩, by unfold lenOk; omega, by unfold lenOk; omega, by unfold lenOk; omega, by unfold lenOk; omega⟩
  have := cL_mem (c := cRec) hc
  have e : cRec c = cCmd c.2.1 + c.2.2.1.length := rfl
  unfold lenOk
  omega
theorem msgOk_of {m : MsgT} (h : cMsg m ≤ 1048576) : MsgOkS m := by unfold cMsg at h; unfold MsgOkS lenOk; omega

theorem sz_replica : Szs lszReplica RepIn cRep := by
  intro ⟨a0, a1, a2, a3, a4, a5, a6, a7⟩ left ⟨h3, h4, h5, h6, h7⟩ h0 h1
  simp only [lszReplica]
  have := sz_seq h1 (sz_recs a3 left h3 h0 h1) fun r g1 g2 => sz_seq g2 (sz_acks a4 r h4 g1 g2) fun r g1 g2 => sz_seq g2 (sz_dots a5 r h5 g1 g2) fun r g1 g2 => sz_seq g2 (sz_pairs a6 r h6 g1 g2) fun r g1 g2 =>
    sz_seq g2 (sz_answers a7 r h7 g1 g2) fun r g1 g2 => sz_end g1
  exact this

theorem sz_msg : Szs lszMsg MsgIn cMsg := by
  intro ⟨a0, a1, a2, ⟨a3, a4⟩, ⟨a5, a6, a7⟩, a8⟩ left ⟨h3, h4⟩ h0 h1
  simp only [lszMsg]
  have := sz_seq h1 (sz_cmd (a5, a6, a7) left h3 h0 h1) fun r g1 g2 => sz_seq g2 (sz_dots a8 r h4 g1 g2) fun r g1 g2 => sz_end g1
  exact this

/-! ### copies -/
theorem to_dot (d : DotT) : ltoDot d = some d := rfl
theorem to_cmd (d : CmdT) : ltoCmd d = some d := rfl
theorem to_pair (d : PairT) : ltoPair d = some d := rfl

theorem to_dots (l : List DotT) (h : lenOk l) : ltoDotS l = some l := by
  unfold lenOk at h
  simp only [ltoDotS]
  have := copy_run l (by omega) id (0, 0) (fun q i out => ltoDotS_L3 (List DotT) q (l, i, out) some some) some
    (fun q i hi out ho => by simp only [ltoDotS_L3]; simp [hi, ho, nth_nat _ _ hi, wrap_succ (show i < 4611686018427387904 by omega), ltoDot]) (fun q out => by simp [ltoDotS_L3])
  simp only [List.map_id] at this
  rw [← this]
  have hle : (l.length : Int) ≤ 4294967296 := by omega
  simp [hle]

theorem to_rec (x : RecT) (h : lenOk x.2.2.1) : ltoRec x = some (x.1.1, x.1.2, x.2.1.1, x.2.1.2.1, x.2.1.2.2, x.2.2.1, x.2.2.2) := by
  obtain ⟨⟨a, b⟩, ⟨c, d, e⟩, f, g⟩ := x
  simp only [ltoRec, to_dot, to_cmd, Option.bind_some]
  rw [to_dots f h]
  rfl
theorem to_ack (x : AckT) : ltoAck x = some (x.1.1, x.1.2, x.2) := rfl
theorem to_answer (x : AnsT) : ltoAnswer x = some (x.1.1, x.1.2, x.2.1, x.2.2) := rfl

theorem to_recs (l : List RecT) (h : lenOk l) (h2 : ∀ x ∈ l, lenOk x.2.2.1) : ltoRecS l = some l := by
  unfold lenOk at h
  simp only [ltoRecS]
  have := copy_run l (by omega) id ((0, 0), (0, [], []), [], false) (fun q i out => ltoRecS_L3 (List RecT) q (l, i, out) some some) some
    (fun q i hi out ho => by simp only [ltoRecS_L3]; simp [hi, ho, nth_nat _ _ hi, wrap_succ (show i < 4611686018427387904 by omega), to_rec _ (h2 l[i] (List.getElem_mem hi))]) (fun q out => by simp [ltoRecS_L3])
  simp only [List.map_id] at this
  rw [← this]
  have hle : (l.length : Int) ≤ 4294967296 := by omega
  simp [hle]

theorem to_acks (l : List AckT) (h : lenOk l) : ltoAckS l = some l := by
  unfold lenOk at h
  simp only [ltoAckS]
  have := copy_run l (by omega) id ((0, 0), 0) (fun q i out => ltoAckS_L3 (List AckT) q (l, i, out) some some) some
    (fun q i hi out ho => by simp only [ltoAckS_L3]; simp [hi, ho, nth_nat _ _ hi, wrap_succ (show i < 4611686018427387904 by omega), to_ack]) (fun q out => by simp [ltoAckS_L3])
  simp only [List.map_id] at this
  rw [← this]
  have hle : (l.length : Int) ≤ 4294967296 := by omega
  simp [hle]

theorem to_pairs (l : List PairT) (h : lenOk l) : ltoPairS l = some l := by
  unfold lenOk at h
  simp only [ltoPairS]
  have := copy_run l (by omega) id ([], [], false) (fun q i out => ltoPairS_L3 (List PairT) q (l, i, out) some some) some
    (fun q i hi out ho => by simp only [ltoPairS_L3]; simp [hi, ho, nth_nat _ _ hi, wrap_succ (show i < 4611686018427387904 by omega), to_pair]) (fun q out => by simp [ltoPairS_L3])
  simp only [List.map_id] at this
  rw [← this]
  have hle : (l.length : Int) ≤ 4294967296 := by omega
  simp [hle]

theorem to_answers (l : List AnsT) (h : lenOk l) : ltoAnswerS l = some l := by
  unfold lenOk at h
  simp only [ltoAnswerS]
  have := copy_run l (by omega) id ((0, 0), [], false) (fun q i out => ltoAnswerS_L3 (List AnsT) q (l, i, out) some some) some
    (fun q i hi out ho => by simp only [ltoAnswerS_L3]; simp [hi, ho, nth_nat _ _ hi, wrap_succ (show i < 4611686018427387904 by omega), to_answer]) (fun q out => by simp [ltoAnswerS_L3])
  simp only [List.map_id] at this
  rw [← this]
  have hle : (l.length : Int) ≤ 4294967296 := by omega
  simp [hle]

theorem to_replica (x : RepT) (h : RepOk x) : ltoReplica x = some x := by
  obtain ⟨a0, a1, a2, a3, a4, a5, a6, a7⟩ := x
  obtain ⟨⟨h3, h3'⟩, h4, h5, h6, h7⟩ := h
  simp only [ltoReplica]
  rw [to_recs a3 h3 h3', Option.bind_some, to_acks a4 h4, Option.bind_some, to_dots a5 h5, Option.bind_some, to_pairs a6 h6, Option.bind_some, to_answers a7 h7]
  rfl

theorem to_msg (x : MsgT) (h : MsgOkS x) : ltoMsg x = some (x.1, x.2.1, x.2.2.1, x.2.2.2.1.1, x.2.2.2.1.2, x.2.2.2.2.1.1, x.2.2.2.2.1.2.1, x.2.2.2.2.1.2.2, x.2.2.2.2.2) := by
  obtain ⟨a0, a1, a2, ⟨a3, a4⟩, ⟨a5, a6, a7⟩, a8⟩ := x
  simp only [ltoMsg, to_dot, to_cmd, Option.bind_some]
  rw [to_dots a8 h]
  rfl

/-! ### likeness -/
theorem eq_dot (d : DotT) : leqDot (d, d) = some true := by simp [leqDot]
theorem eq_cmd (d : CmdT) : leqCmd (d, d) = some true := by simp [leqCmd]
theorem eq_pair (d : PairT) : leqPair (d, d) = some true := by simp [leqPair]
theorem eq_ack (d : AckT) : leqAck (d, d) = some true := by
  obtain ⟨⟨a, b⟩, c⟩ := d
  simp [leqAck, leqDot]
theorem eq_answer (d : AnsT) : leqAnswer (d, d) = some true := by
  obtain ⟨⟨a, b⟩, c, e⟩ := d
  simp [leqAnswer, leqDot]

theorem runL_skip {α : Type} {σ : Type} {ρ : Type} (fin : σ → ρ) : ∀ (l : List α) (i : Nat) (s : σ), runL (fun _ _ s k => k s) fin i l s = fin s
  | [], _, _ => rfl
  | _ :: l, i, s => runL_skip fin l (i + 1) s

theorem eq_dots (l : List DotT) (h : lenOk l) : leqDotS (l, l) = some true := by
  unfold lenOk at h
  simp only [leqDotS]
  have := loop0 l (by omega) (fun q i (_ : Unit) => leqDotS_L4 Bool q (l, l, i) (fun _ => some true) some) (fun _ _ s k => k s) (fun _ => some true)
    (fun q i hi s => by simp only [leqDotS_L4]; simp [hi, nth_nat _ _ hi, wrap_succ (show i < 4611686018427387904 by omega), eq_dot l[i]]) (fun q s => by simp [leqDotS_L4]) ()
  simp [this, runL_skip]

theorem eq_rec (d : RecT) (h : lenOk d.2.2.1) : leqRec (d, d) = some true := by
  obtain ⟨⟨a, b⟩, ⟨c, e, f⟩, g, s⟩ := d
  simp [leqRec, leqDot, leqCmd, eq_dots g h]

theorem eq_recs (l : List RecT) (h : lenOk l) (h2 : ∀ x ∈ l, lenOk x.2.2.1) : leqRecS (l, l) = some true := by
  unfold lenOk at h
  simp only [leqRecS]
  have := loop0 l (by omega) (fun q i (_ : Unit) => leqRecS_L4 Bool q (l, l, i) (fun _ => some true) some) (fun _ _ s k => k s) (fun _ => some true)
    (fun q i hi s => by simp only [leqRecS_L4]; simp [hi, nth_nat _ _ hi, wrap_succ (show i < 4611686018427387904 by omega), eq_rec l[i] (h2 l[i] (List.getElem_mem hi))]) (fun q s => by simp [leqRecS_L4]) ()
  simp [this, runL_skip]

theorem eq_acks (l : List AckT) (h : lenOk l) : leqAckS (l, l) = some true := by
  unfold lenOk at h
  simp only [leqAckS]
  have := loop0 l (by omega) (fun q i (_ : Unit) => leqAckS_L4 Bool q (l, l, i) (fun _ => some true) some) (fun _ _ s k => k s) (fun _ => some true)
    (fun q i hi s => by simp only [leqAckS_L4]; simp [hi, nth_nat _ _ hi, wrap_succ (show i < 4611686018427387904 by omega), eq_ack l[i]]) (fun q s => by simp [leqAckS_L4]) ()
  simp [this, runL_skip]

theorem eq_pairs (l : List PairT) (h : lenOk l) : leqPairS (l, l) = some true := by
  unfold lenOk at h
  simp only [leqPairS]
  have := loop0 l (by omega) (fun q i (_ : Unit) => leqPairS_L4 Bool q (l, l, i) (fun _ => some true) some) (fun _ _ s k => k s) (fun _ => some true)
    (fun q i hi s => by simp only [leqPairS_L4]; simp [hi, nth_nat _ _ hi, wrap_succ (show i < 4611686018427387904 by omega), eq_pair l[i]]) (fun q s => by simp [leqPairS_L4]) ()
  simp [this, runL_skip]

theorem eq_answers (l : List AnsT) (h : lenOk l) : leqAnswerS (l, l) = some true := by
  unfold lenOk at h
  simp only [leqAnswerS]
  have := loop0 l (by omega) (fun q i (_ : Unit) => leqAnswerS_L4 Bool q (l, l, i) (fun _ => some true) some) (fun _ _ s k => k s) (fun _ => some true)
    (fun q i hi s => by simp only [leqAnswerS_L4]; simp [hi, nth_nat _ _ hi, wrap_succ (show i < 4611686018427387904 by omega), eq_answer l[i]]) (fun q s => by simp [leqAnswerS_L4]) ()
  simp [this, runL_skip]

theorem eq_replica (x : RepT) (h : RepOk x) : leqReplica (x, x) = some true := by
  obtain ⟨a0, a1, a2, a3, a4, a5, a6, a7⟩ := x
  obtain ⟨⟨h3, h3'⟩, h4, h5, h6, h7⟩ := h
  simp [leqReplica, eq_recs a3 h3 h3', eq_acks a4 h4, eq_dots a5 h5, eq_pairs a6 h6, eq_answers a7 h7]

theorem eq_msg (x : MsgT) (h : MsgOkS x) : leqMsg (x, x) = some true := by
  obtain ⟨a0, a1, a2, ⟨a3, a4⟩, ⟨a5, a6, a7⟩, a8⟩ := x
  simp [leqMsg, leqDot, leqCmd, eq_dots a8 h]

/-! ### what was handed in is in memory -/
abbrev dotTy : Ty := .pair (.int .i64) (.int .i64)
abbrev cmdTy : Ty := .pair (.int .i64) (.pair .str .str)
abbrev recTy : Ty := .pair dotTy (.pair cmdTy (.pair (.sl dotTy) .bool))
abbrev ackTy : Ty := .pair dotTy (.int .i64)
abbrev pairTy : Ty := .pair .str (.pair .str .bool)
abbrev ansTy : Ty := .pair dotTy (.pair .str .bool)
abbrev repTy : Ty := .pair (.int .i64) (.pair (.int .i64) (.pair (.int .i64) (.pair (.sl recTy) (.pair (.sl ackTy) (.pair (.sl dotTy) (.pair (.sl pairTy) (.sl ansTy)))))))
abbrev msgTy : Ty := .pair (.int .i64) (.pair (.int .i64) (.pair (.int .i64) (.pair dotTy (.pair cmdTy (.sl dotTy)))))
theorem mem_of {α : Type} {l : List α} (h : l.length ≤ maxLen) : memOk l := by unfold maxLen at h; unfold memOk; omega
theorem good_rec {x : RecT} (h : GoodD recTy x) : RecIn x := ⟨⟨mem_of h.2.1.2.1, mem_of h.2.1.2.2⟩, mem_of h.2.2.1.1⟩
theorem good_replica {r : RepT} (h : GoodD repTy r) : RepIn r :=
  ⟨⟨mem_of h.2.2.2.1.1, fun c hc => good_rec (h.2.2.2.1.2 c hc)⟩, mem_of h.2.2.2.2.1.1, mem_of h.2.2.2.2.2.1.1, ⟨mem_of h.2.2.2.2.2.2.1.1, fun c hc => have g := h.2.2.2.2.2.2.1.2 c hc; ⟨mem_of g.1, mem_of g.2.1⟩⟩,
    ⟨mem_of h.2.2.2.2.2.2.2.1, fun c hc => have g := h.2.2.2.2.2.2.2.2 c hc; mem_of g.2.1⟩⟩
theorem good_msg {m : MsgT} (h : GoodD msgTy m) : MsgIn m := ⟨⟨mem_of h.2.2.2.2.1.2.1, mem_of h.2.2.2.2.1.2.2⟩, mem_of h.2.2.2.2.2.1⟩
end Go.Rx
/- Clusters: sizes, copies, likeness. -/
namespace Go.Rx
abbrev AskedT := DotT × CmdT × List DotT
abbrev CluT := List RepT × List MsgT × List AskedT
def AskedIn (c : AskedT) : Prop := (memOk c.2.1.2.1 ∧ memOk c.2.1.2.2) ∧ memOk c.2.2
def CluIn (w : CluT) : Prop := (memOk w.1 ∧ ∀ c ∈ w.1, RepIn c) ∧ (memOk w.2.1 ∧ ∀ c ∈ w.2.1, MsgIn c) ∧ (memOk w.2.2 ∧ ∀ c ∈ w.2.2, AskedIn c)
def cAsk (c : AskedT) : Nat := cCmd c.2.1 + c.2.2.length
def cClu (w : CluT) : Nat := cL cRep w.1 + (cL cMsg w.2.1 + cL cAsk w.2.2)
structure CluOk (w : CluT) : Prop where
  lr : lenOk w.1
  rep : ∀ c ∈ w.1, RepOk c
  lm : lenOk w.2.1
  msg : ∀ c ∈ w.2.1, MsgOkS c
  la : lenOk w.2.2
  ask : ∀ c ∈ w.2.2, lenOk c.2.2
  all : cClu w ≤ 1048576

theorem cluOk_of {w : CluT} (h : cClu w ≤ 1048576) : CluOk w := by
  have h' := h
  unfold cClu at h'
  have h1 := cL_len (c := cRep) (l := w.1)
  have h2 := cL_len (c := cMsg) (l := w.2.1)
  have h3 := cL_len (c := cAsk) (l := w.2.2)
  refine ⟨by unfold lenOk; omega, fun c hc => repOk_of ?_, by unfold lenOk; omega, fun c hc => msgOk_of ?_, by unfold lenOk; omega, fun c hc => ?_, h⟩
  · have := cL_mem (c := cRep) hc; omega
  · have := cL_mem (c := cMsg) hc; omega
  · have := cL_mem (c := cAsk) hc; have e : cAsk c = cCmd c.2.1 + c.2.2.length := rfl; unfold lenOk; omega

theorem sz_asked : Szs lszAsked AskedIn cAsk := by
  intro ⟨⟨d, e⟩, ⟨k, a, b⟩, l⟩ left ⟨h2, h3⟩ h0 h1
  simp only [lszAsked]
  have := sz_seq h1 (sz_cmd (k, a, b) left h2 h0 h1) fun r g1 g2 => sz_seq g2 (sz_dots l r h3 g1 g2) fun r g1 g2 => sz_end g1
  exact this

theorem sz_replicas : Szs lszReplicaS (fun l => memOk l ∧ ∀ c ∈ l, RepIn c) (cL cRep) := by
  intro a left ⟨hm, hi⟩ h0 h1
  unfold memOk at hm
  simp only [lszReplicaS]
  rw [wrap64 (by omega) (by omega)]
  by_cases h : left - (a.length : Int) < 0
  · exact ⟨-1, by simp [h], .inl (by omega)⟩
  · have := loop0 a (by omega) (fun q i s => lszReplicaS_L5 Int q (a, s, i) (fun left6 => (some left6)) some) (fun _ a s k => (lszReplica (a, s)).bind fun r5 => cond (decide (r5 < 0)) (some (-1)) (k r5)) some
      (fun q i hi s => by simp only [lszReplicaS_L5]; simp [hi, nth_nat _ _ hi, wrap_succ (show i < 4611686018427387904 by omega)]) (fun q s => by simp [lszReplicaS_L5]) (left - a.length)
    simp only [h, decide_false, cond_false]
    rw [this]
    obtain ⟨r, e, h5⟩ := sz_list sz_replica rfl rfl a 0 (left - a.length) hi (by omega) (by omega)
    refine ⟨r, e, ?_⟩
    unfold cL
    rcases h5 with h5 | ⟨h5, h6⟩
    · exact .inl h5
    · exact .inr ⟨h5, by omega⟩

theorem sz_msgs : Szs lszMsgS (fun l => memOk l ∧ ∀ c ∈ l, MsgIn c) (cL cMsg) := by
  intro a left ⟨hm, hi⟩ h0 h1
  unfold memOk at hm
  simp only [lszMsgS]
  rw [wrap64 (by omega) (by omega)]
  by_cases h : left - (a.length : Int) < 0
  · exact ⟨-1, by simp [h], .inl (by omega)⟩
  · have := loop0 a (by omega) (fun q i s => lszMsgS_L5 Int q (a, s, i) (fun left6 => (some left6)) some) (fun _ a s k => (lszMsg (a, s)).bind fun r5 => cond (decide (r5 < 0)) (some (-1)) (k r5)) some
      (fun q i hi s => by simp only [lszMsgS_L5]; simp [hi, nth_nat _ _ hi, wrap_succ (show i < 4611686018427387904 by omega)]) (fun q s => by simp [lszMsgS_L5]) (left - a.length)
    simp only [h, decide_false, cond_false]
    rw [this]
    obtain ⟨r, e, h5⟩ := sz_list sz_msg rfl rfl a 0 (left - a.length) hi (by omega) (by omega)
    refine ⟨r, e, ?_⟩
    unfold cL
    rcases h5 with h5 | ⟨h5, h6⟩
    · exact .inl h5
    · exact .inr ⟨h5, by omega⟩

theorem sz_askeds : Szs lszAskedS (fun l => memOk l ∧ ∀ c ∈ l, AskedIn c) (cL cAsk) := by
  intro a left ⟨hm, hi⟩ h0 h1
  unfold memOk at hm
  simp only [lszAskedS]
  rw [wrap64 (by omega) (by omega)]
  by_cases h : left - (a.length : Int) < 0
  · exact ⟨-1, by simp [h], .inl (by omega)⟩
  · have := loop0 a (by omega) (fun q i s => lszAskedS_L5 Int q (a, s, i) (fun left6 => (some left6)) some) (fun _ a s k => (lszAsked (a, s)).bind fun r5 => cond (decide (r5 < 0)) (some (-1)) (k r5)) some
      (fun q i hi s => by simp only [lszAskedS_L5]; simp [hi, nth_nat _ _ hi, wrap_succ (show i < 4611686018427387904 by omega)]) (fun q s => by simp [lszAskedS_L5]) (left - a.length)
    simp only [h, decide_false, cond_false]
    rw [this]
    obtain ⟨r, e, h5⟩ := sz_list sz_asked rfl rfl a 0 (left - a.length) hi (by omega) (by omega)
    refine ⟨r, e, ?_⟩
    unfold cL
    rcases h5 with h5 | ⟨h5, h6⟩
    · exact .inl h5
    · exact .inr ⟨h5, by omega⟩

theorem sz_cluster : Szs lszCluster CluIn cClu := by
  intro ⟨a, b, c⟩ left ⟨h3, h4, h5⟩ h0 h1
  simp only [lszCluster]
  have := sz_seq h1 (sz_replicas a left h3 h0 h1) fun r g1 g2 => sz_seq g2 (sz_msgs b r h4 g1 g2) fun r g1 g2 => sz_seq g2 (sz_askeds c r h5 g1 g2) fun r g1 g2 => sz_end g1
  exact this

theorem to_asked (x : AskedT) (h : lenOk x.2.2) : ltoAsked x = some (x.1.1, x.1.2, x.2.1.1, x.2.1.2.1, x.2.1.2.2, x.2.2) := by
  obtain ⟨⟨a, b⟩, ⟨c, d, e⟩, f⟩ := x
  simp only [ltoAsked, to_dot, to_cmd, Option.bind_some]
  rw [to_dots f h]
  rfl

theorem to_replicas (l : List RepT) (h : lenOk l) (h2 : ∀ x ∈ l, RepOk x) : ltoReplicaS l = some l := by
  unfold lenOk at h
  simp only [ltoReplicaS]
  have := copy_run l (by omega) id (0, 0, 0, [], [], [], [], []) (fun q i out => ltoReplicaS_L3 (List RepT) q (l, i, out) some some) some
    (fun q i hi out ho => by simp only [ltoReplicaS_L3]; simp [hi, ho, nth_nat _ _ hi, wrap_succ (show i < 4611686018427387904 by omega), to_replica _ (h2 l[i] (List.getElem_mem hi))]) (fun q out => by simp [ltoReplicaS_L3])
  simp only [List.map_id] at this
  rw [← this]
  have hle : (l.length : Int) ≤ 4294967296 := by omega
  simp [hle]

theorem to_msgs (l : List MsgT) (h : lenOk l) (h2 : ∀ x ∈ l, MsgOkS x) : ltoMsgS l = some l := by
  unfold lenOk at h
  simp only [ltoMsgS]
  have := copy_run l (by omega) id (0, 0, 0, (0, 0), (0, [], []), []) (fun q i out => ltoMsgS_L3 (List MsgT) q (l, i, out) some some) some
    (fun q i hi out ho => by simp only [ltoMsgS_L3]; simp [hi, ho, nth_nat _ _ hi, wrap_succ (show i < 4611686018427387904 by omega), to_msg _ (h2 l[i] (List.getElem_mem hi))]) (fun q out => by simp [ltoMsgS_L3])
  simp only [List.map_id] at this
  rw [← this]
  have hle : (l.length : Int) ≤ 4294967296 := by omega
  simp [hle]

theorem to_askeds (l : List AskedT) (h : lenOk l) (h2 : ∀ x ∈ l, lenOk x.2.2) : ltoAskedS l = some l := by
  unfold lenOk at h
  simp only [ltoAskedS]
  have := copy_run l (by omega) id ((0, 0), (0, [], []), []) (fun q i out => ltoAskedS_L3 (List AskedT) q (l, i, out) some some) some
    (fun q i hi out ho => by simp only [ltoAskedS_L3]; simp [hi, ho, nth_nat _ _ hi, wrap_succ (show i < 4611686018427387904 by omega), to_asked _ (h2 l[i] (List.getElem_mem hi))]) (fun q out => by simp [ltoAskedS_L3])
  simp only [List.map_id] at this
  rw [← this]
  have hle : (l.length : Int) ≤ 4294967296 := by omega
  simp [hle]

theorem to_cluster (w : CluT) (h : CluOk w) : ltoCluster w = some w := by
  obtain ⟨a, b, c⟩ := w
  obtain ⟨h1, h2, h3, h4, h5, h6, _⟩ := h
  simp only [ltoCluster]
  rw [to_replicas a h1 h2, Option.bind_some, to_msgs b h3 h4, Option.bind_some, to_askeds c h5 h6]
  rfl

theorem eq_asked (d : AskedT) (h : lenOk d.2.2) : leqAsked (d, d) = some true := by
  obtain ⟨⟨a, b⟩, ⟨c, e, f⟩, g⟩ := d
  simp [leqAsked, leqDot, leqCmd, eq_dots g h]

theorem eq_replicas (l : List RepT) (h : lenOk l) (h2 : ∀ x ∈ l, RepOk x) : leqReplicaS (l, l) = some true := by
  unfold lenOk at h
  simp only [leqReplicaS]
  have := loop0 l (by omega) (fun q i (_ : Unit) => leqReplicaS_L4 Bool q (l, l, i) (fun _ => some true) some) (fun _ _ s k => k s) (fun _ => some true)
    (fun q i hi s => by simp only [leqReplicaS_L4]; simp [hi, nth_nat _ _ hi, wrap_succ (show i < 4611686018427387904 by omega), eq_replica l[i] (h2 l[i] (List.getElem_mem hi))]) (fun q s => by simp [leqReplicaS_L4]) ()
  simp [this, runL_skip]

theorem eq_msgs (l : List MsgT) (h : lenOk l) (h2 : ∀ x ∈ l, MsgOkS x) : leqMsgS (l, l) = some true := by
  unfold lenOk at h
  simp only [leqMsgS]
  have := loop0 l (by omega) (fun q i (_ : Unit) => leqMsgS_L4 Bool q (l, l, i) (fun _ => some true) some) (fun _ _ s k => k s) (fun _ => some true)
    (fun q i hi s => by simp only [leqMsgS_L4]; simp [hi, nth_nat _ _ hi, wrap_succ (show i < 4611686018427387904 by omega), eq_msg l[i] (h2 l[i] (List.getElem_mem hi))]) (fun q s => by simp [leqMsgS_L4]) ()
  simp [this, runL_skip]

theorem eq_askeds (l : List AskedT) (h : lenOk l) (h2 : ∀ x ∈ l, lenOk x.2.2) : leqAskedS (l, l) = some true := by
  unfold lenOk at h
  simp only [leqAskedS]
  have := loop0 l (by omega) (fun q i (_ : Unit) => leqAskedS_L4 Bool q (l, l, i) (fun _ => some true) some) (fun _ _ s k => k s) (fun _ => some true)
    (fun q i hi s => by simp only [leqAskedS_L4]; simp [hi, nth_nat _ _ hi, wrap_succ (show i < 4611686018427387904 by omega), eq_asked l[i] (h2 l[i] (List.getElem_mem hi))]) (fun q s => by simp [leqAskedS_L4]) ()
  simp [this, runL_skip]

theorem eq_cluster (w : CluT) (h : CluOk w) : leqCluster (w, w) = some true := by
  obtain ⟨a, b, c⟩ := w
  obtain ⟨h1, h2, h3, h4, h5, h6, _⟩ := h
  simp [leqCluster, eq_replicas a h1 h2, eq_msgs b h3 h4, eq_askeds c h5 h6]

abbrev askedTy : Ty := .pair dotTy (.pair cmdTy (.sl dotTy))
abbrev cluTy : Ty := .pair (.sl repTy) (.pair (.sl msgTy) (.sl askedTy))
theorem good_cluster {w : CluT} (h : GoodD cluTy w) : CluIn w :=
  ⟨⟨mem_of h.1.1, fun c hc => good_replica (h.1.2 c hc)⟩, ⟨mem_of h.2.1.1, fun c hc => good_msg (h.2.1.2 c hc)⟩,
    ⟨mem_of h.2.2.1, fun c hc => have g := h.2.2.2 c hc; ⟨⟨mem_of g.2.1.2.1, mem_of g.2.1.2.2⟩, mem_of g.2.2.1⟩⟩⟩

/-- The frame of a law on clusters that compares two Bool functions. -/
theorem law_cluster {law s i : CluT → Option Bool} (hl : ∀ w, law w = ((lszCluster (w, 1048576)).bind fun r3 => (cond (decide (r3 < 0)) (some true) ((ltoCluster w).bind fun x => ((s x).bind fun r7 => ((ltoCluster w).bind fun y => ((i y).bind fun r11 =>
      (cond (!(r11 == r7)) (some false) ((ltoCluster w).bind fun z => ((leqCluster (y, z)).bind fun r15 => (cond (!r15) (some false) (some true))))))))))))
    (h : ∀ w, CluOk w → ∃ b, s w = some b ∧ i w = some b) (w : CluT) (hw : CluIn w) : law w = some true := by
  rw [hl]
  obtain ⟨x, e, h'⟩ := sz_cluster w 1048576 hw (by omega) (by omega)
  rw [e, Option.bind_some]
  rcases h' with h' | ⟨h0, h1⟩
  · simp [h']
  · have hW := cluOk_of (w := w) (by omega)
    rw [show decide (x < 0) = false from by simp; omega]
    obtain ⟨b, e1, e2⟩ := h w hW
    simp only [cond_false, to_cluster w hW, Option.bind_some, e1, e2, eq_cluster w hW]
    simp
end Go.Rx
/- MsgOk: the program's and the reference's. -/
namespace Go.Rx
def inB (x a b : Int) : Bool := decide (x ≥ a) && decide (x ≤ b)
def dotOkB (d : DotT) : Bool := inB d.1 1 7 && inB d.2 1 999
def lessB (a b : DotT) : Bool := decide (a.1 < b.1) || (a.1 == b.1 && decide (a.2 < b.2))

theorem sIn (x a b : Int) : sl1In (x, a, b) = some (inB x a b) := by
  unfold inB; simp only [sl1In]; cases decide (x ≥ a) <;> rfl
theorem iIn (x a b : Int) : iin (x, a, b) = some (inB x a b) := by
  unfold inB; simp only [iin]; cases decide (x ≥ a) <;> rfl
theorem sDotOk_eq (d : DotT) : sDotOk d = some (dotOkB d) := by
  obtain ⟨a, b⟩ := d
  unfold dotOkB; simp only [sDotOk, sIn, Option.bind_some]; cases inB a 1 7 <;> rfl
theorem iDotOk_eq (d : DotT) : iDotOk d = some (dotOkB d) := by
  obtain ⟨a, b⟩ := d
  unfold dotOkB; simp only [iDotOk, iIn, Option.bind_some]; cases inB a 1 7 <;> rfl
theorem sLess (a b : DotT) : sDotLess (a, b) = some (lessB a b) := by
  obtain ⟨a0, a1⟩ := a; obtain ⟨b0, b1⟩ := b
  unfold lessB; simp only [sDotLess]; cases decide (a0 < b0) <;> cases (a0 == b0) <;> simp
theorem iLess (a b : DotT) : iDotLess (a, b) = some (lessB a b) := by
  obtain ⟨a0, a1⟩ := a; obtain ⟨b0, b1⟩ := b
  unfold lessB; simp only [iDotLess]; cases decide (a0 < b0) <;> cases (a0 == b0) <;> simp

theorem pair_beq (a b : DotT) : (a.1 == b.1 && a.2 == b.2) = (a == b) := rfl

/-- Neighbours, and each one. -/
theorem runL_chain {α σ ρ : Type} [Inhabited α] (xs : List α) (p : α → Bool) (less : α → α → Bool) (no : ρ) (fin : σ → ρ) (s : σ) :
    runL (fun i a s k => cond (p a) (cond (decide (0 < i)) (cond (less (nth xs ((i - 1 : Nat) : Int)) a) (k s) no) (k s)) no) fin 0 xs s = cond (xs.all p && chainB less xs) (fin s) no := by
  have key : ∀ (l pre : List α), xs = pre ++ l → runL (fun i a s k => cond (p a) (cond (decide (0 < i)) (cond (less (nth xs ((i - 1 : Nat) : Int)) a) (k s) no) (k s)) no) fin pre.length l s =
      cond (l.all p && match pre.getLast? with | none => chainB less l | some b => chainB less (b :: l)) (fin s) no := by
    intro l
    induction l with
    | nil => intro pre h; simp only [runL]; cases pre.getLast? <;> simp [chainB]
    | cons a l ih =>
      intro pre h
      simp only [runL]
      have := ih (pre ++ [a]) (by rw [h]; simp)
      rw [List.length_append, List.length_singleton] at this
      rw [this]
      simp only [List.getLast?_append, List.getLast?_singleton, Option.some_or, List.all_cons]
      rcases List.eq_nil_or_concat pre with hp | ⟨q, b, hp⟩
      · subst hp
        simp
        cases p a <;> simp
      · rw [List.concat_eq_append] at hp
        subst hp
        have hn : nth xs (((q ++ [b]).length - 1 : Nat) : Int) = b := by
          rw [h, nth_nat _ _ (by simp)]
          simp
        rw [hn]
        simp [chainB]
        cases p a <;> cases less b a <;> simp
  have := key xs [] rfl
  simpa using this

theorem sHas (l : List DotT) (d : DotT) (h : lenOk l) : sl8Has (l, d) = some (l.any (· == d)) := by
  unfold lenOk at h
  obtain ⟨a, b⟩ := d
  simp only [sl8Has]
  have := loop0 l (by omega) (fun q i (_ : Unit) => sl8Has_L2 Bool q (l, i, a, b) (fun _ => some false) some) (fun _ x s k => cond (x == (a, b)) (some true) (k s)) (fun _ => some false)
    (fun q i hi s => by simp only [sl8Has_L2]; simp [hi, nth_nat _ _ hi, wrap_succ (show i < 4611686018427387904 by omega)]; rfl) (fun q s => by simp [sl8Has_L2]) ()
  rw [this, runL_any]
  cases l.any (· == (a, b)) <;> rfl

def itemB (d : DotT) (l : List DotT) : Bool := dotOkB d && (decide (l.length ≤ 60) && (!(l.any (· == d)) && (l.all dotOkB && chainB lessB l)))

theorem sItem (d : DotT) (l : List DotT) (h : lenOk l) : sl8Item (d, l) = some (itemB d l) := by
  have h' := h
  unfold lenOk at h'
  obtain ⟨a, b⟩ := d
  unfold itemB
  simp only [sl8Item, sDotOk_eq, Option.bind_some, sHas l (a, b) h]
  have := loop0 l (by omega) (fun q i (_ : Unit) => sl8Item_L4 Bool q (i, a, b, l) (fun _ => some true) some) (fun i x s k => cond (dotOkB x) (cond (decide (0 < i)) (cond (lessB (nth l ((i - 1 : Nat) : Int)) x) (k s) (some false)) (k s)) (some false)) (fun _ => some true)
    (fun q i hi s => by
      simp only [sl8Item_L4]
      rcases Nat.eq_zero_or_pos i with h0 | h0
      · subst h0
        simp [hi, sDotOk_eq]
        have := nth_nat l 0 hi
        simp at this
        have w1 : IntKind.wrap .i64 1 = 1 := rfl
        rw [this]
        try rw [w1]
      · simp [hi, nth_nat _ _ hi, wrap_succ (show i < 4611686018427387904 by omega), wrap_pred (show i < 4611686018427387904 by omega) h0, sDotOk_eq, sLess, h0, show i - 1 < l.length by omega]
        try (cases dotOkB l[i] <;> cases lessB (nth l ((i - 1 : Nat) : Int)) l[i] <;> simp)) (fun q s => by simp [sl8Item_L4]) ()
  rw [this, runL_chain]
  have e60 : decide ((l.length : Int) > 60) = !decide (l.length ≤ 60) := by rw [Bool.eq_iff_iff]; simp; omega
  rw [e60]
  cases dotOkB (a, b) <;> cases decide (l.length ≤ 60) <;> cases l.any (· == (a, b)) <;> cases (l.all dotOkB && chainB lessB l) <;> rfl

theorem iDeps (d : DotT) (l : List DotT) (h : lenOk l) : idepsOk (d, l) = some (l.all (fun x => dotOkB x && !(x == d)) && (chainB lessB l && decide (l.length ≤ 60))) := by
  unfold lenOk at h
  obtain ⟨a, b⟩ := d
  simp only [idepsOk]
  have := loop0 l (by omega) (fun q i (_ : Unit) => idepsOk_L2 Bool q (l, l, ((l.length : Nat) : Int), i, a, b) (fun deps11 => some (decide (((deps11.length : Nat) : Int) ≤ (60 : Int)))) some) (fun i x s k => cond (dotOkB x && !(x == (a, b))) (cond (decide (0 < i)) (cond (lessB (nth l ((i - 1 : Nat) : Int)) x) (k s) (some false)) (k s)) (some false)) (fun _ => some (decide (((l.length : Nat) : Int) ≤ (60 : Int))))
    (fun q i hi s => by
      simp only [idepsOk_L2]
      rcases Nat.eq_zero_or_pos i with h0 | h0
      · subst h0
        simp [hi, iDotOk_eq]
        have := nth_nat l 0 hi
        simp at this
        have w1 : IntKind.wrap .i64 1 = 1 := rfl
        rw [this, w1]
        have e : (l[0].1 == a && l[0].2 == b) = (l[0] == (a, b)) := rfl
        rw [e]
        show (cond (dotOkB l[0]) _ _) = _
        cases dotOkB l[0] <;> cases (l[0] == (a, b)) <;> rfl
      · simp only [hi, nth_nat _ _ hi, wrap_succ (show i < 4611686018427387904 by omega), wrap_pred (show i < 4611686018427387904 by omega) h0, iDotOk_eq, iLess, Option.bind_some]
        have e : (l[i].1 == a && l[i].2 == b) = (l[i] == (a, b)) := rfl
        rw [e]
        simp [hi, h0, show i - 1 < l.length by omega]
        cases dotOkB l[i] <;> cases (l[i] == (a, b)) <;> cases lessB (nth l ((i - 1 : Nat) : Int)) l[i] <;> rfl) (fun q s => by simp [idepsOk_L2]) ()
  rw [this, runL_chain]
  have e60 : decide ((l.length : Int) ≤ 60) = decide (l.length ≤ 60) := by rw [Bool.eq_iff_iff]; simp; omega
  rw [e60]
  cases l.all (fun x => dotOkB x && !(x == (a, b))) <;> cases chainB lessB l <;> rfl

theorem iDeps_item (d : DotT) (l : List DotT) (h : lenOk l) (hd : dotOkB d = true) : idepsOk (d, l) = some (itemB d l) := by
  rw [iDeps d l h]
  unfold itemB
  have : l.all (fun x => dotOkB x && !(x == d)) = (l.all dotOkB && !(l.any (· == d))) := by
    induction l with
    | nil => rfl
    | cons a l ih =>
      have ih := ih (by unfold lenOk at h ⊢; simp at h; omega)
      simp only [List.all_cons, List.any_cons, ih]
      cases dotOkB a <;> cases (a == d) <;> cases l.all dotOkB <;> cases l.any (· == d) <;> rfl
  rw [this, hd]
  cases l.all dotOkB <;> cases l.any (· == d) <;> cases chainB lessB l <;> cases decide (l.length ≤ 60) <;> rfl

theorem sDeps (n : Int) (l : List DotT) (h : lenOk l) : sl9Deps (n, l) = some (l.all fun d => !decide (d.1 > n)) := by
  unfold lenOk at h
  simp only [sl9Deps]
  have := loop0 l (by omega) (fun q i (_ : Unit) => sl9Deps_L2 Bool q (n, l, i) (fun _ => some true) some) (fun _ x s k => cond (!decide (x.1 > n)) (k s) (some false)) (fun _ => some true)
    (fun q i hi s => by
      simp only [sl9Deps_L2]; simp [hi, nth_nat _ _ hi, wrap_succ (show i < 4611686018427387904 by omega)]) (fun q s => by simp [sl9Deps_L2]) ()
  rw [this, runL_all]
  cases l.all fun d => !decide (d.1 > n) <;> rfl

theorem iWithin (n : Int) (l : List DotT) (h : lenOk l) : iwithin (l, n) = some (l.all fun d => inB d.1 1 n) := by
  unfold lenOk at h
  simp only [iwithin]
  have := loop0 l (by omega) (fun q i (_ : Unit) => iwithin_L2 Bool q (n, l, ((l.length : Nat) : Int), i) (fun _ => some true) some) (fun _ x s k => cond (inB x.1 1 n) (k s) (some false)) (fun _ => some true)
    (fun q i hi s => by
      simp only [iwithin_L2]; simp [hi, nth_nat _ _ hi, wrap_succ (show i < 4611686018427387904 by omega), iIn]
      try (cases inB l[i].1 1 n <;> rfl)) (fun q s => by simp [iwithin_L2]) ()
  rw [this, runL_all]
  cases l.all fun d => inB d.1 1 n <;> rfl

/-- The place of a dot, or -1. -/
def atB (l : List RecT) (d : DotT) : Int := match l.findIdx? (fun x => x.1 == d) with
  | some j => (j : Int)
  | none => -1

theorem sAt (r : RepT) (d : DotT) (h : lenOk r.2.2.2.1) : sl9At (r, d) = some (atB r.2.2.2.1 d) := by
  obtain ⟨r0, r1, r2, l, r4, r5, r6, r7⟩ := r
  obtain ⟨a, b⟩ := d
  unfold lenOk at h
  dsimp only at h
  simp only [sl9At]
  have := loop0 l (by omega) (fun q i (_ : Unit) => sl9At_L2 Int q (i, r0, r1, r2, l, r4, r5, r6, r7, a, b) (fun _ => some (-1)) some) (fun i x s k => cond (x.1 == (a, b)) (some (i : Int)) (k s)) (fun _ => some (-1))
    (fun q i hi s => by
      simp only [sl9At_L2]; simp [hi, nth_nat _ _ hi, wrap_succ (show i < 4611686018427387904 by omega)]; rfl) (fun q s => by simp [sl9At_L2]) ()
  rw [this, runL_find (fun x : RecT => x.1 == (a, b)) (fun i => some (i : Int)) (fun _ => some (-1))]
  unfold atB
  cases l.findIdx? fun x => x.1 == (a, b) <;> simp

theorem iAt (r : RepT) (d : DotT) (h : lenOk r.2.2.2.1) : irecAt (r, d) = some (atB r.2.2.2.1 d) := by
  obtain ⟨r0, r1, r2, l, r4, r5, r6, r7⟩ := r
  obtain ⟨a, b⟩ := d
  unfold lenOk at h
  dsimp only at h
  simp only [irecAt]
  have := loop0 l (by omega) (fun q i (_ : Unit) => irecAt_L2 Int q (l, ((l.length : Nat) : Int), i, a, b) (fun _ => some (-1)) some) (fun i x s k => cond (x.1 == (a, b)) (some (i : Int)) (k s)) (fun _ => some (-1))
    (fun q i hi s => by
      simp only [irecAt_L2]; simp [hi, nth_nat _ _ hi, wrap_succ (show i < 4611686018427387904 by omega)]; rfl) (fun q s => by simp [irecAt_L2]) ()
  rw [this, runL_find (fun x : RecT => x.1 == (a, b)) (fun i => some (i : Int)) (fun _ => some (-1))]
  unfold atB
  cases l.findIdx? fun x => x.1 == (a, b) <;> simp

def cmdOkB (c : CmdT) : Bool := inB c.1 1 3 && (inB c.2.1.length 1 20 && (decide ((c.2.2.length : Int) ≤ 20) && (c.1 == 1 || c.2.2 == [])))

theorem sCmd (c : CmdT) : sCmdOk c = some (cmdOkB c) := by
  obtain ⟨k, a, b⟩ := c
  unfold cmdOkB
  simp only [sCmdOk, sPairOk, sIn, Option.bind_some]
  cases inB k 1 3 <;> cases inB (a.length : Int) 1 20 <;> cases decide ((b.length : Int) ≤ 20) <;> cases (k == 1) <;> rfl
theorem iCmd (c : CmdT) : iCmdOk c = some (cmdOkB c) := by
  obtain ⟨k, a, b⟩ := c
  unfold cmdOkB
  simp only [iCmdOk, ikeyOk, iIn, Option.bind_some]
  cases inB k 1 3 <;> cases inB (a.length : Int) 1 20 <;> cases decide ((b.length : Int) ≤ 20) <;> cases (k == 1) <;> rfl

def msgOkB (r : RepT) (m : MsgT) : Bool :=
  inB m.2.1 1 r.2.1 && (!(m.2.1 == r.1) && (m.2.2.1 == r.1 && (!decide (m.2.2.2.1.1 > r.2.1) && (itemB m.2.2.2.1 m.2.2.2.2.2 && ((m.2.2.2.2.2.all fun d => !decide (d.1 > r.2.1)) &&
    (((m.1 == 1 || m.1 == 3) && (m.2.1 == m.2.2.2.1.1 && cmdOkB m.2.2.2.2.1)) || (m.1 == 2 && (m.2.2.2.1.1 == r.1 && (decide (atB r.2.2.2.1 m.2.2.2.1 ≥ 0) && (m.2.2.2.2.1.1 == 0 && (m.2.2.2.2.1.2.1 == [] && m.2.2.2.2.1.2.2 == [])))))))))))

theorem sMsg_eq (r : RepT) (m : MsgT) (hr : lenOk r.2.2.2.1) (hm : lenOk m.2.2.2.2.2) : sMsgOk (r, m) = some (msgOkB r m) := by
  obtain ⟨r0, r1, r2, l, r4, r5, r6, r7⟩ := r
  obtain ⟨k, m1, m2, ⟨d0, d1⟩, ⟨c0, c1, c2⟩, deps⟩ := m
  dsimp only at hr hm
  unfold msgOkB
  simp only [sMsgOk, sIn, Option.bind_some, sItem _ _ hm, sDeps _ _ hm, sCmd]
  have hat := sAt (r0, r1, r2, l, r4, r5, r6, r7) (d0, d1) hr
  dsimp only at hat
  by_cases h2 : m2 = r0
  · subst h2
    cases inB m1 1 r1 <;> cases (m1 == m2) <;> cases decide (d0 > r1) <;> cases itemB (d0, d1) deps <;> cases (deps.all fun d => !decide (d.1 > r1)) <;> try (simp; done)
    by_cases h1 : k = 1
    · subst h1; simp; cases (m1 == d0) <;> simp
    · by_cases h3 : k = 3
      · subst h3; simp; cases (m1 == d0) <;> simp
      · by_cases h4 : k = 2
        · subst h4; simp [hat]; cases (d0 == m2) <;> simp
          cases decide (0 ≤ atB l (d0, d1)) <;> simp
        · have b1 : (k == 1) = false := by simpa using h1
          have b2 : (k == 2) = false := by simpa using h4
          have b3 : (k == 3) = false := by simpa using h3
          simp only [b1, b2, b3]; simp [b2]
  · have b1 : (m2 != r0) = true := by simp [bne, h2]
    have b2 : (m2 == r0) = false := by simpa using h2
    simp only [b1, b2]
    cases inB m1 1 r1 <;> cases (m1 == m2) <;> cases (m1 == r0) <;> rfl

theorem iMsg_eq (r : RepT) (m : MsgT) (hr : lenOk r.2.2.2.1) (hm : lenOk m.2.2.2.2.2) : iMsgOk (r, m) = some (msgOkB r m) := by
  obtain ⟨r0, r1, r2, l, r4, r5, r6, r7⟩ := r
  obtain ⟨k, m1, m2, ⟨d0, d1⟩, ⟨c0, c1, c2⟩, deps⟩ := m
  dsimp only at hr hm
  unfold msgOkB
  simp only [iMsgOk, iIn, Option.bind_some, iDotOk_eq, iWithin _ _ hm, iCmd]
  have hat := iAt (r0, r1, r2, l, r4, r5, r6, r7) (d0, d1) hr
  dsimp only at hat
  cases hd : dotOkB (d0, d1) with
  | false =>
    have : itemB (d0, d1) deps = false := by unfold itemB; rw [hd]; rfl
    rw [this]
    cases inB m1 1 r1 <;> cases (m1 == r0) <;> cases h2 : (m2 == r0) <;> cases decide (d0 > r1) <;> simp only [bne, h2] <;> rfl
  | true =>
    rw [iDeps_item _ _ hm hd]
    have hw : itemB (d0, d1) deps = true → (deps.all fun d => inB d.1 1 r1) = (deps.all fun d => !decide (d.1 > r1)) := by
      intro hi
      unfold itemB at hi
      simp only [Bool.and_eq_true] at hi
      have ha := hi.2.2.2.1
      clear hi hm
      induction deps with
      | nil => rfl
      | cons x xs ih =>
        simp only [List.all_cons, Bool.and_eq_true] at ha ⊢
        rw [ih ha.2]
        congr 1
        have := ha.1
        unfold dotOkB inB at this
        unfold inB
        rw [Bool.eq_iff_iff]
        simp at this ⊢
        omega
    cases hi : itemB (d0, d1) deps with
    | false => cases inB m1 1 r1 <;> cases (m1 == r0) <;> cases h2 : (m2 == r0) <;> cases decide (d0 > r1) <;> simp only [bne, h2] <;> rfl
    | true =>
      rw [hw hi]
      by_cases h2 : m2 = r0
      · subst h2
        cases inB m1 1 r1 <;> cases (m1 == m2) <;> cases decide (d0 > r1) <;> cases (deps.all fun d => !decide (d.1 > r1)) <;> try (simp; done)
        have hsym : (d0 == m1) = (m1 == d0) := by rw [Bool.eq_iff_iff]; simp; exact eq_comm
        by_cases h1 : k = 1
        · subst h1; simp [hsym]; cases (m1 == d0) <;> simp
        · by_cases h3 : k = 3
          · subst h3; simp [hsym]; cases (m1 == d0) <;> simp
          · by_cases h4 : k = 2
            · subst h4; simp [hat]; cases (d0 == m2) <;> simp
              cases decide (0 ≤ atB l (d0, d1)) <;> simp
            · have b1 : (k == 1) = false := by simpa using h1
              have b2 : (k == 2) = false := by simpa using h4
              have b3 : (k == 3) = false := by simpa using h3
              simp only [b1, b2, b3]; simp [b2]
      · have b1 : (m2 != r0) = true := by simp [bne, h2]
        have b2 : (m2 == r0) = false := by simpa using h2
        simp only [b1, b2]
        cases inB m1 1 r1 <;> cases (m1 == r0) <;> rfl

/-- **The law.** -/
theorem law_msgOk (r : RepT) (m : MsgT) (hr : RepIn r) (hm : MsgIn m) : lFnExactMsgOk (r, m) = some true := by
  obtain ⟨a0, a1, a2, a3, a4, a5, a6, a7⟩ := r
  obtain ⟨k, m1, m2, ⟨d0, d1⟩, ⟨c0, c1, c2⟩, deps⟩ := m
  simp only [lFnExactMsgOk]
  obtain ⟨x, e, h⟩ := sz_replica (a0, a1, a2, a3, a4, a5, a6, a7) 1048576 hr (by omega) (by omega)
  rw [e, Option.bind_some]
  rcases h with h | ⟨h0, h1⟩
  · simp [h]
  · rw [show decide (x < 0) = false from by simp; omega]
    dsimp only [cond_false]
    have hR := repOk_of (r := (a0, a1, a2, a3, a4, a5, a6, a7)) (by omega)
    obtain ⟨y, e', h'⟩ := sz_msg (k, m1, m2, (d0, d1), (c0, c1, c2), deps) x hm h0 (by omega)
    rw [e', Option.bind_some]
    rcases h' with h' | ⟨h0', h1'⟩
    · simp [h']
    · have hM := msgOk_of (m := (k, m1, m2, (d0, d1), (c0, c1, c2), deps)) (by omega)
      rw [show decide (y < 0) = false from by simp; omega]
      dsimp only [cond_false]
      rw [to_replica _ hR, to_msg _ hM]
      simp only [Option.bind_some, sMsg_eq (a0, a1, a2, a3, a4, a5, a6, a7) (k, m1, m2, (d0, d1), (c0, c1, c2), deps) hR.1.1 hM, iMsg_eq (a0, a1, a2, a3, a4, a5, a6, a7) (k, m1, m2, (d0, d1), (c0, c1, c2), deps) hR.1.1 hM,
        eq_replica (a0, a1, a2, a3, a4, a5, a6, a7) hR, eq_msg (k, m1, m2, (d0, d1), (c0, c1, c2), deps) hM]
      simp
end Go.Rx
/- Level: the program's and the reference's. -/
namespace Go.Rx

theorem allI_same {α : Type} [Inhabited α] [BEq α] [LawfulBEq α] (a b : List α) (h : a.length = b.length) : allI (fun i x => x == nth b (i : Int)) 0 a = (a == b) := by
  rw [Bool.eq_iff_iff, allI_iff]
  simp only [beq_iff_eq]
  constructor
  · intro h1
    refine List.ext_getElem h fun i h2 h3 => ?_
    have := h1 i h2
    rw [Nat.zero_add, nth_nat _ _ h3] at this
    exact this
  · intro h1 j hj
    subst h1
    rw [Nat.zero_add, nth_nat _ _ hj]

theorem hasI (l : List DotT) (d : DotT) (h : lenOk l) : ihasDot (l, d) = some (l.any (· == d)) := by
  unfold lenOk at h
  obtain ⟨a, b⟩ := d
  simp only [ihasDot]
  have := loop0 l (by omega) (fun q i (_ : Unit) => ihasDot_L2 Bool q (l, ((l.length : Nat) : Int), i, a, b) (fun _ => some false) some) (fun _ x s k => cond (x == (a, b)) (some true) (k s)) (fun _ => some false)
    (fun q i hi s => by simp only [ihasDot_L2]; simp [hi, nth_nat _ _ hi, wrap_succ (show i < 4611686018427387904 by omega)]; rfl) (fun q s => by simp [ihasDot_L2]) ()
  rw [this, runL_any]
  cases l.any (· == (a, b)) <;> rfl

theorem len_ne {α : Type} [BEq α] [LawfulBEq α] {a b : List α} (hl : ¬ a.length = b.length) : (((a.length : Nat) : Int) != ((b.length : Nat) : Int)) = true ∧ (a == b) = false := by
  refine ⟨by simp [bne]; omega, ?_⟩
  rw [beq_eq_false_iff_ne]
  intro h
  exact hl (by rw [h])

theorem len_eq {α : Type} {a b : List α} (hl : a.length = b.length) : (((a.length : Nat) : Int) != ((b.length : Nat) : Int)) = false := by simp [bne, hl]

theorem dotsS (a b : List DotT) (ha : lenOk a) : sl11SameDots (a, b) = some (a == b) := by
  unfold lenOk at ha
  simp only [sl11SameDots]
  by_cases hl : a.length = b.length
  · have := loop0 a (by omega) (fun q i (_ : Unit) => sl11SameDots_L4 Bool q (a, b, i) (fun _ => some true) some) (fun i x s k => cond (x == nth b (i : Int)) (k s) (some false)) (fun _ => some true)
      (fun q i hi s => by
        simp only [sl11SameDots_L4]
        have h : i < b.length := by omega
        have e : (a[i].1 == b[i].1 && a[i].2 == b[i].2) = (a[i] == b[i]) := rfl
        simp only [hi, h, nth_nat _ _ hi, nth_nat _ _ h, wrap_succ (show i < 4611686018427387904 by omega), e]
        simp [hi, h]
        try (cases a[i] == b[i] <;> rfl)) (fun q s => by simp [sl11SameDots_L4]) ()
    rw [len_eq hl]
    simp only [cond_false]
    rw [this, runL_allI, allI_same _ _ hl]
    cases a == b <;> rfl
  · rw [(len_ne hl).1, (len_ne hl).2]
    rfl

theorem dotsI (a b : List DotT) (ha : lenOk a) : isameDots (a, b) = some (a == b) := by
  unfold lenOk at ha
  simp only [isameDots]
  by_cases hl : a.length = b.length
  · have := loop0 a (by omega) (fun q i (_ : Unit) => isameDots_L4 Bool q (a, b, ((a.length : Nat) : Int), i) (fun _ => some true) some) (fun i x s k => cond (x == nth b (i : Int)) (k s) (some false)) (fun _ => some true)
      (fun q i hi s => by
        simp only [isameDots_L4]
        have h : i < b.length := by omega
        have e : (a[i].1 == b[i].1 && a[i].2 == b[i].2) = (a[i] == b[i]) := rfl
        simp only [hi, h, nth_nat _ _ hi, nth_nat _ _ h, wrap_succ (show i < 4611686018427387904 by omega), e]
        simp [hi, h]
        try (cases a[i] == b[i] <;> rfl)) (fun q s => by simp [isameDots_L4]) ()
    rw [len_eq hl]
    simp only [cond_false]
    rw [this, runL_allI, allI_same _ _ hl]
    cases a == b <;> rfl
  · rw [(len_ne hl).1, (len_ne hl).2]
    rfl

theorem pairsS (a b : List PairT) (ha : lenOk a) : sl9SamePairs (a, b) = some (a == b) := by
  unfold lenOk at ha
  simp only [sl9SamePairs]
  by_cases hl : a.length = b.length
  · have := loop0 a (by omega) (fun q i (_ : Unit) => sl9SamePairs_L4 Bool q (a, b, i) (fun _ => some true) some) (fun i x s k => cond (x == nth b (i : Int)) (k s) (some false)) (fun _ => some true)
      (fun q i hi s => by
        simp only [sl9SamePairs_L4]
        have h : i < b.length := by omega
        have e : (a[i].1 == b[i].1 && (a[i].2.1 == b[i].2.1 && a[i].2.2 == b[i].2.2)) = (a[i] == b[i]) := rfl
        simp only [hi, h, nth_nat _ _ hi, nth_nat _ _ h, wrap_succ (show i < 4611686018427387904 by omega), e]
        simp [hi, h]
        try (cases a[i] == b[i] <;> rfl)) (fun q s => by simp [sl9SamePairs_L4]) ()
    rw [len_eq hl]
    simp only [cond_false]
    rw [this, runL_allI, allI_same _ _ hl]
    cases a == b <;> rfl
  · rw [(len_ne hl).1, (len_ne hl).2]
    rfl

theorem pairsI (a b : List PairT) (ha : lenOk a) : isamePairs (a, b) = some (a == b) := by
  unfold lenOk at ha
  simp only [isamePairs]
  by_cases hl : a.length = b.length
  · have := loop0 a (by omega) (fun q i (_ : Unit) => isamePairs_L4 Bool q (a, b, ((a.length : Nat) : Int), i) (fun _ => some true) some) (fun i x s k => cond (x == nth b (i : Int)) (k s) (some false)) (fun _ => some true)
      (fun q i hi s => by
        simp only [isamePairs_L4]
        have h : i < b.length := by omega
        have e : (a[i].1 == b[i].1 && (a[i].2.1 == b[i].2.1 && a[i].2.2 == b[i].2.2)) = (a[i] == b[i]) := rfl
        simp only [hi, h, nth_nat _ _ hi, nth_nat _ _ h, wrap_succ (show i < 4611686018427387904 by omega), e]
        simp [hi, h]
        try (cases a[i] == b[i] <;> rfl)) (fun q s => by simp [isamePairs_L4]) ()
    rw [len_eq hl]
    simp only [cond_false]
    rw [this, runL_allI, allI_same _ _ hl]
    cases a == b <;> rfl
  · rw [(len_ne hl).1, (len_ne hl).2]
    rfl

theorem rec_beq (x y : RecT) : (x == y) = (x.1 == y.1 && (x.2.1 == y.2.1 && (x.2.2.2 == y.2.2.2 && x.2.2.1 == y.2.2.1))) := by
  obtain ⟨x1, x2, x3, x4⟩ := x
  obtain ⟨y1, y2, y3, y4⟩ := y
  rw [Bool.eq_iff_iff]
  simp only [beq_iff_eq, Bool.and_eq_true, Prod.mk.injEq]
  constructor
  · intro ⟨a, b, c, d⟩; exact ⟨a, b, d, c⟩
  · intro ⟨a, b, c, d⟩; exact ⟨a, b, d, c⟩

theorem recsI (a b : List RecT) (ha : lenOk a) (hd : ∀ c ∈ a, lenOk c.2.2.1) : isameRecs (a, b) = some (a == b) := by
  unfold lenOk at ha
  simp only [isameRecs]
  by_cases hl : a.length = b.length
  · have := loop0 a (by omega) (fun q i (_ : Unit) => isameRecs_L4 Bool q (b, a, ((a.length : Nat) : Int), i) (fun _ => some true) some) (fun i x s k => cond (x == nth b (i : Int)) (k s) (some false)) (fun _ => some true)
      (fun q i hi s => by
        simp only [isameRecs_L4]
        have h : i < b.length := by omega
        have e : (a[i].1.1 == b[i].1.1 && a[i].1.2 == b[i].1.2) = (a[i].1 == b[i].1) := rfl
        have e2 : (a[i].2.1.1 == b[i].2.1.1 && (a[i].2.1.2.1 == b[i].2.1.2.1 && a[i].2.1.2.2 == b[i].2.1.2.2)) = (a[i].2.1 == b[i].2.1) := rfl
        simp only [hi, h, nth_nat _ _ hi, nth_nat _ _ h, wrap_succ (show i < 4611686018427387904 by omega), e, e2, dotsI _ _ (hd _ (List.getElem_mem hi)), rec_beq a[i] b[i]]
        simp only [hi, h, Int.natCast_nonneg, Int.ofNat_lt, decide_true, Bool.and_self, cond_true, Option.bind_some]
        cases a[i].1 == b[i].1 <;> cases a[i].2.1 == b[i].2.1 <;> cases a[i].2.2.2 == b[i].2.2.2 <;> cases a[i].2.2.1 == b[i].2.2.1 <;> rfl) (fun q s => by simp [isameRecs_L4]) ()
    rw [len_eq hl]
    simp only [cond_false]
    rw [this, runL_allI, allI_same _ _ hl]
    cases a == b <;> rfl
  · rw [(len_ne hl).1, (len_ne hl).2]
    rfl

/-- A replica is level with the first. -/
def oneI (f r : RepT) : Bool := r.2.2.2.1 == f.2.2.2.1 && (r.2.2.2.2.2.2.1 == f.2.2.2.2.2.2.1 && r.2.2.2.1.all fun x => x.2.2.2 && r.2.2.2.2.2.1.any (· == x.1))
def recS (done : List DotT) (x y : RecT) : Bool := x.2.2.2 && (done.any (· == x.1) && (x.1 == y.1 && (x.2.1 == y.2.1 && x.2.2.1 == y.2.2.1)))
def oneS (f r : RepT) : Bool := !(((r.2.2.2.1.length : Nat) : Int) != ((f.2.2.2.1.length : Nat) : Int)) && (r.2.2.2.2.2.2.1 == f.2.2.2.2.2.2.1 && allI (fun k x => recS r.2.2.2.2.2.1 x (nth f.2.2.2.1 (k : Int))) 0 r.2.2.2.1)

theorem iRowL (r f : RepT) (hr : RepOk r) {O : Type} (v11 : List RepT) (v12 v13 : Int) (v14 : List PairT) (v15 : List RepT) (v16 v17 v18 v19 v20) (w24 : List RepT) (w25 : List MsgT) (w26 : List AskedT) (x) (q0 : Bool → Option O) :
    iLevel_L7 O fuel (v11, v12, v13, v14, v15, v16, v17, v18, v19, v20, r.2.2.2.1, ((r.2.2.2.1.length : Nat) : Int), 0, w24, w25, w26, r.1, r.2.1, r.2.2.1, r.2.2.2.1, r.2.2.2.2.1, r.2.2.2.2.2.1, r.2.2.2.2.2.2.1, r.2.2.2.2.2.2.2) x q0 =
      cond (r.2.2.2.1.all fun x => x.2.2.2 && r.2.2.2.2.2.1.any (· == x.1)) (x (v11, v12, v13, v14, v15, v16, v17, v18, v19, v20, w24, w25, w26, r.1, r.2.1, r.2.2.1, r.2.2.2.1, r.2.2.2.2.1, r.2.2.2.2.2.1, r.2.2.2.2.2.2.1, r.2.2.2.2.2.2.2)) (q0 false) := by
  obtain ⟨a0, a1, a2, a3, a4, a5, a6, a7⟩ := r
  have h3 := hr.1.1
  have h5 := hr.2.2.1
  unfold lenOk at h3
  dsimp only at h3 h5 ⊢
  have := loop0 a3 (by omega) (fun q n (_ : Unit) => iLevel_L7 O q (v11, v12, v13, v14, v15, v16, v17, v18, v19, v20, a3, ((a3.length : Nat) : Int), n, w24, w25, w26, a0, a1, a2, a3, a4, a5, a6, a7) x q0)
    (fun _ y s k => cond (y.2.2.2 && a5.any (· == y.1)) (k s) (q0 false)) (fun _ => x (v11, v12, v13, v14, v15, v16, v17, v18, v19, v20, w24, w25, w26, a0, a1, a2, a3, a4, a5, a6, a7))
    (fun q i hi s => by
      simp only [iLevel_L7]
      have e := hasI a5 a3[i].1 h5
      simp [hi, nth_nat _ _ hi, wrap_succ (show i < 4611686018427387904 by omega), e]
      try (cases a3[i].2.2.2 <;> cases (a5.any (· == a3[i].1)) <;> rfl)) (fun q s => by simp [iLevel_L7]) ()
  rw [this, runL_all]

theorem sRowL (r f : RepT) (hr : RepOk r) (hl : r.2.2.2.1.length = f.2.2.2.1.length) {O : Type} (i8 : Int) (v10 v11 v12 v13) (w14 : List RepT) (w15 : List MsgT) (w16 : List AskedT) (x) (q0 : Bool → Option O) :
    sLevel_L9 O fuel (i8, 0, v10, v11, v12, v13, w14, w15, w16, r.1, r.2.1, r.2.2.1, r.2.2.2.1, r.2.2.2.2.1, r.2.2.2.2.2.1, r.2.2.2.2.2.2.1, r.2.2.2.2.2.2.2, f.1, f.2.1, f.2.2.1, f.2.2.2.1, f.2.2.2.2.1, f.2.2.2.2.2.1, f.2.2.2.2.2.2.1, f.2.2.2.2.2.2.2) x q0 =
      cond (allI (fun k x => recS r.2.2.2.2.2.1 x (nth f.2.2.2.1 (k : Int))) 0 r.2.2.2.1) (x (i8, v10, v11, v12, v13, w14, w15, w16, r.1, r.2.1, r.2.2.1, r.2.2.2.1, r.2.2.2.2.1, r.2.2.2.2.2.1, r.2.2.2.2.2.2.1, r.2.2.2.2.2.2.2, f.1, f.2.1, f.2.2.1, f.2.2.2.1, f.2.2.2.2.1, f.2.2.2.2.2.1, f.2.2.2.2.2.2.1, f.2.2.2.2.2.2.2)) (q0 false) := by
  obtain ⟨a0, a1, a2, a3, a4, a5, a6, a7⟩ := r
  obtain ⟨b0, b1, b2, b3, b4, b5, b6, b7⟩ := f
  have h3 := hr.1.1
  have hd := hr.1.2
  have h5 := hr.2.2.1
  unfold lenOk at h3
  dsimp only at h3 h5 hl hd ⊢
  have := loop0 a3 (by omega) (fun q n (_ : Unit) => sLevel_L9 O q (i8, n, v10, v11, v12, v13, w14, w15, w16, a0, a1, a2, a3, a4, a5, a6, a7, b0, b1, b2, b3, b4, b5, b6, b7) x q0)
    (fun k y s c => cond (recS a5 y (nth b3 (k : Int))) (c s) (q0 false)) (fun _ => x (i8, v10, v11, v12, v13, w14, w15, w16, a0, a1, a2, a3, a4, a5, a6, a7, b0, b1, b2, b3, b4, b5, b6, b7))
    (fun q i hi s => by
      simp only [sLevel_L9]
      have hb : i < b3.length := by omega
      have e1 := sHas a5 a3[i].1 h5
      have e : (a3[i].1.1 == b3[i].1.1 && a3[i].1.2 == b3[i].1.2) = (a3[i].1 == b3[i].1) := rfl
      have e2 : (a3[i].2.1.1 == b3[i].2.1.1 && (a3[i].2.1.2.1 == b3[i].2.1.2.1 && a3[i].2.1.2.2 == b3[i].2.1.2.2)) = (a3[i].2.1 == b3[i].2.1) := rfl
      have e3 := dotsS a3[i].2.2.1 b3[i].2.2.1 (hd _ (List.getElem_mem hi))
      have h0 : ((a3[i].1.1, a3[i].1.2) : DotT) = a3[i].1 := rfl
      simp only [nth_nat _ _ hi, nth_nat _ _ hb, wrap_succ (show i < 4611686018427387904 by omega), e, e2, e3, h0, e1, recS]
      simp only [hi, hb, Int.natCast_nonneg, Int.ofNat_lt, decide_true, Bool.and_self, cond_true, Option.bind_some]
      cases a3[i].2.2.2 <;> cases a5.any (· == a3[i].1) <;> cases a3[i].1 == b3[i].1 <;> cases a3[i].2.1 == b3[i].2.1 <;> cases a3[i].2.2.1 == b3[i].2.2.1 <;> rfl) (fun q s => by simp [sLevel_L9]) ()
  rw [this, runL_allI]

theorem sLevel_eq (w : CluT) (h : CluOk w) : sLevel w = some ((w.1.all fun r => oneS (nth w.1 0) r) && decide (w.2.1.length = 0)) := by
  obtain ⟨l, m, s⟩ := w
  have hl := h.lr
  have hok := h.rep
  unfold lenOk at hl
  dsimp only at hl hok ⊢
  simp only [sLevel]
  have := loop0 l (by omega) (fun q i (_ : Unit) => sLevel_L2 Bool q (i, l, m, s) (fun x => some (((x.2.1.length : Nat) : Int) == 0)) some) (fun _ r s k => cond (oneS (nth l 0) r) (k s) (some false)) (fun _ => some (((m.length : Nat) : Int) == 0))
    (fun q i hi u => by
      have h0 : 0 < l.length := by omega
      simp only [sLevel_L2]
      simp only [nth_nat _ _ hi]
      have e := pairsS l[i].2.2.2.2.2.2.1 (nth l 0).2.2.2.2.2.2.1 (hok _ (List.getElem_mem hi)).2.2.2.1
      by_cases hn : l[i].2.2.2.1.length = (nth l 0).2.2.2.1.length
      · simp only [e, Option.bind_some]
        rw [sRowL l[i] (nth l 0) (hok _ (List.getElem_mem hi)) hn]
        simp only [len_eq hn, oneS, wrap_succ (show i < 4611686018427387904 by omega)]
        simp only [hi, h0, Int.natCast_nonneg, Int.ofNat_lt, Int.natCast_pos, decide_true, Bool.and_self, cond_true, cond_false, Option.bind_some]
        cases l[i].2.2.2.2.2.2.1 == (nth l 0).2.2.2.2.2.2.1 <;> cases (allI (fun k x => recS l[i].2.2.2.2.2.1 x (nth (nth l 0).2.2.2.1 (k : Int))) 0 l[i].2.2.2.1) <;> rfl
      · have hn' : (((l[i].2.2.2.1.length : Nat) : Int) != (((nth l 0).2.2.2.1.length : Nat) : Int)) = true := by simp [bne]; omega
        simp only [hn', oneS]
        simp only [hi, h0, Int.natCast_nonneg, Int.ofNat_lt, Int.natCast_pos, decide_true, Bool.and_self, cond_true, cond_false, Option.bind_some]
        rfl) (fun q u => by simp [sLevel_L2]) ()
  refine this.trans ?_
  rw [runL_all]
  cases (l.all fun r => oneS (nth l 0) r) <;> cases m <;> rfl

theorem iLevel_eq (w : CluT) (h : CluOk w) : iLevel w = some ((w.1.all fun r => oneI (nth w.1 0) r) && decide (w.2.1.length = 0)) := by
  obtain ⟨l, m, s⟩ := w
  have hl := h.lr
  have hok := h.rep
  unfold lenOk at hl
  dsimp only at hl hok ⊢
  simp only [iLevel]
  have := loop0 l (by omega) (fun q i (_ : Unit) => iLevel_L2 Bool q (l, ((l.length : Nat) : Int), i, l, m, s) (fun x => some (((x.2.1.length : Nat) : Int) == 0)) some) (fun _ r s k => cond (oneI (nth l 0) r) (k s) (some false)) (fun _ => some (((m.length : Nat) : Int) == 0))
    (fun q i hi u => by
      have h0 : 0 < l.length := by omega
      simp only [iLevel_L2]
      simp only [nth_nat _ _ hi]
      have e := pairsI l[i].2.2.2.2.2.2.1 (nth l 0).2.2.2.2.2.2.1 (hok _ (List.getElem_mem hi)).2.2.2.1
      have e2 := recsI l[i].2.2.2.1 (nth l 0).2.2.2.1 (hok _ (List.getElem_mem hi)).1.1 (hok _ (List.getElem_mem hi)).1.2
      simp only [e, e2, oneI]
      simp only [hi, h0, Int.natCast_nonneg, Int.ofNat_lt, Int.natCast_pos, decide_true, Bool.and_self, cond_true, cond_false, Option.bind_some]
      rw [iRowL l[i] (nth l 0) (hok _ (List.getElem_mem hi))]
      simp only [wrap_succ (show i < 4611686018427387904 by omega)]
      cases l[i].2.2.2.1 == (nth l 0).2.2.2.1 <;> cases l[i].2.2.2.2.2.2.1 == (nth l 0).2.2.2.2.2.2.1 <;> cases (l[i].2.2.2.1.all fun x => x.2.2.2 && l[i].2.2.2.2.2.1.any (· == x.1)) <;> rfl) (fun q u => by simp [iLevel_L2]) ()
  refine this.trans ?_
  rw [runL_all]
  cases (l.all fun r => oneI (nth l 0) r) <;> cases m <;> rfl

theorem level_same (l : List RepT) : (l.all fun r => oneS (nth l 0) r) = (l.all fun r => oneI (nth l 0) r) := by
  rw [Bool.eq_iff_iff]
  simp only [List.all_eq_true]
  by_cases hl : 0 < l.length
  · have hm : nth l 0 ∈ l := by
      have := nth_nat l 0 hl
      rw [show ((0 : Nat) : Int) = 0 from rfl] at this
      rw [this]; exact List.getElem_mem _
    generalize nth l 0 = f at hm ⊢
    constructor
    · intro h r hr
      have hf := h f hm
      have hr := h r hr
      unfold oneS recS at hf hr
      simp only [Bool.and_eq_true, allI_iff, beq_iff_eq, Bool.not_eq_true', bne_eq_false_iff_eq, Nat.zero_add] at hf hr
      obtain ⟨-, -, hf⟩ := hf
      obtain ⟨h1, h2, h3⟩ := hr
      have h1 : r.2.2.2.1.length = f.2.2.2.1.length := by omega
      unfold oneI
      simp only [Bool.and_eq_true, List.all_eq_true, beq_iff_eq]
      refine ⟨List.ext_getElem h1 fun j hj hj' => ?_, h2, fun x hx => ?_⟩
      · have hx := h3 j hj
        have hy := hf j hj'
        rw [nth_nat _ _ hj'] at hx
        obtain ⟨ha, hb, hc, hd, he⟩ := hx
        generalize r.2.2.2.1[j] = a at *
        generalize f.2.2.2.1[j] = b at *
        obtain ⟨a1, a2, a3, a4⟩ := a
        obtain ⟨b1, b2, b3, b4⟩ := b
        have := hy.1
        simp_all
      · obtain ⟨j, hj, rfl⟩ := List.getElem_of_mem hx
        exact ⟨(h3 j hj).1, (h3 j hj).2.1⟩
    · intro h r hr
      have hr := h r hr
      unfold oneI at hr
      simp only [Bool.and_eq_true, List.all_eq_true, beq_iff_eq] at hr
      obtain ⟨h1, h2, h3⟩ := hr
      unfold oneS recS
      simp only [Bool.and_eq_true, allI_iff, beq_iff_eq, Bool.not_eq_true', bne_eq_false_iff_eq, Nat.zero_add]
      refine ⟨by rw [h1], h2, fun j hj => ?_⟩
      have := h3 _ (List.getElem_mem hj)
      have hj' : j < f.2.2.2.1.length := by rw [← h1]; exact hj
      have e : r.2.2.2.1[j] = f.2.2.2.1[j] := by simp only [h1]
      rw [nth_nat _ _ hj']
      exact ⟨this.1, this.2, by rw [e], by rw [e], by rw [e]⟩
  · have : l = [] := List.eq_nil_of_length_eq_zero (by omega)
    subst this
    simp

/-- **The law.** -/
theorem law_level (w : CluT) (hw : CluIn w) : lFnExactLevel w = some true :=
  law_cluster (s := sLevel) (i := iLevel) (fun w => by obtain ⟨a, b, c⟩ := w; rfl) (fun w h => ⟨_, by rw [sLevel_eq w h, level_same], iLevel_eq w h⟩) w hw
end Go.Rx
