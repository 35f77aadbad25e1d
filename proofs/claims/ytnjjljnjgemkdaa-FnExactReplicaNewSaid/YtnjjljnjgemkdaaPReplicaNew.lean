import Derived.Test.YtnjjljnjgemkdaaFReplicaNew0
set_option linter.all false
/- ReplicaNew: the law over the functions. -/
namespace Go.Rx

theorem fuel_s : ∃ q, fuel = q + 1 := ⟨fuel - 1, by rw [fuel_eq]⟩

theorem mk_recs (k : Int) : lmarkRecS ([], k) = some k := by
  obtain ⟨q, hq⟩ := fuel_s
  simp only [lmarkRecS, hq, lmarkRecS_L2]; rfl
theorem mk_acks (k : Int) : lmarkAckS ([], k) = some k := by
  obtain ⟨q, hq⟩ := fuel_s
  simp only [lmarkAckS, hq, lmarkAckS_L2]; rfl
theorem mk_dots (k : Int) : lmarkDotS ([], k) = some k := by
  obtain ⟨q, hq⟩ := fuel_s
  simp only [lmarkDotS, hq, lmarkDotS_L2]; rfl
theorem mk_pairs (k : Int) : lmarkPairS ([], k) = some k := by
  obtain ⟨q, hq⟩ := fuel_s
  simp only [lmarkPairS, hq, lmarkPairS_L2]; rfl
theorem mk_answers (k : Int) : lmarkAnswerS ([], k) = some k := by
  obtain ⟨q, hq⟩ := fuel_s
  simp only [lmarkAnswerS, hq, lmarkAnswerS_L2]; rfl
theorem hd_recs (k : Int) : lheldRecS ([], k) = some k := by
  obtain ⟨q, hq⟩ := fuel_s
  simp only [lheldRecS, hq, lheldRecS_L2]; rfl
theorem hd_acks (k : Int) : lheldAckS ([], k) = some k := by
  obtain ⟨q, hq⟩ := fuel_s
  simp only [lheldAckS, hq, lheldAckS_L2]; rfl
theorem hd_dots (k : Int) : lheldDotS ([], k) = some k := by
  obtain ⟨q, hq⟩ := fuel_s
  simp only [lheldDotS, hq, lheldDotS_L2]; rfl
theorem hd_pairs (k : Int) : lheldPairS ([], k) = some k := by
  obtain ⟨q, hq⟩ := fuel_s
  simp only [lheldPairS, hq, lheldPairS_L2]; rfl
theorem hd_answers (k : Int) : lheldAnswerS ([], k) = some k := by
  obtain ⟨q, hq⟩ := fuel_s
  simp only [lheldAnswerS, hq, lheldAnswerS_L2]; rfl
theorem q_recs : leqRecS ([], []) = some true := by
  obtain ⟨q, hq⟩ := fuel_s
  simp only [leqRecS, hq, leqRecS_L4]; rfl
theorem q_acks : leqAckS ([], []) = some true := by
  obtain ⟨q, hq⟩ := fuel_s
  simp only [leqAckS, hq, leqAckS_L4]; rfl
theorem q_dots : leqDotS ([], []) = some true := by
  obtain ⟨q, hq⟩ := fuel_s
  simp only [leqDotS, hq, leqDotS_L4]; rfl
theorem q_pairs : leqPairS ([], []) = some true := by
  obtain ⟨q, hq⟩ := fuel_s
  simp only [leqPairS, hq, leqPairS_L4]; rfl
theorem q_answers : leqAnswerS ([], []) = some true := by
  obtain ⟨q, hq⟩ := fuel_s
  simp only [leqAnswerS, hq, leqAnswerS_L4]; rfl

theorem in_s (x a b : Int) : sl1In (x, a, b) = some (decide (x ≥ a) && decide (x ≤ b)) := by
  simp only [sl1In]
  by_cases h1 : x ≥ a <;> by_cases h2 : x ≤ b <;> simp [h1, h2] <;> omega
theorem in_i (x a b : Int) : iin (x, a, b) = some (decide (x ≥ a) && decide (x ≤ b)) := by
  simp only [iin]
  by_cases h1 : x ≥ a <;> by_cases h2 : x ≤ b <;> simp [h1, h2] <;> omega

theorem new_both (id n : Int) : ∃ a b c : Int, sReplicaNew (id, n) = some (a, b, c, [], [], [], [], []) ∧ iReplicaNew (id, n) = some (a, b, c, [], [], [], [], []) := by
  simp only [sReplicaNew, iReplicaNew, sl9Ids, in_s, in_i, Option.bind_some]
  cases (decide (n ≥ 1) && decide (n ≤ 7)) <;> cases (decide (id ≥ 1) && decide (id ≤ n)) <;> exact ⟨_, _, _, rfl, rfl⟩

/-- **The law.** -/
theorem law_replicaNew (id n : Int) : lFnExactReplicaNew (id, n) = some true := by
  obtain ⟨a, b, c, e1, e2⟩ := new_both id n
  simp only [lFnExactReplicaNew, e1, e2, Option.bind_some, leqReplica, bne_self_eq_false, cond_false, q_recs, q_acks, q_dots, q_pairs, q_answers, Bool.not_true,
    lmarkReplica, mk_recs, mk_acks, mk_dots, mk_pairs, mk_answers, lheldReplica, hd_recs, hd_acks, hd_dots, hd_pairs, hd_answers]
  rfl
end Go.Rx
