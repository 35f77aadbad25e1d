import Derived.Test.YtnjjljnjgemkdaaFClusterNew1
set_option linter.all false
/- ClusterNew: the law over the functions. -/
namespace Go.Rx

abbrev Ids := Int × Int × Int
abbrev RecY := (Int × Int) × (Int × List UInt8 × List UInt8) × List (Int × Int) × Bool
abbrev RepY := Int × Int × Int × List RecY × List ((Int × Int) × Int) × List (Int × Int) × List (List UInt8 × List UInt8 × Bool) × List ((Int × Int) × List UInt8 × Bool)
def mk1 (t : Ids) : RepY := (t.1, t.2.1, t.2.2, [], [], [], [], [])
def mk3 (l : List Ids) : List RepY := l.map mk1

theorem fuel_n (n : Nat) (h : n < 1000) : ∃ q, fuel = q + n + 1 := ⟨fuel - n - 1, by have := fuel_eq; omega⟩
theorem fuel_s : ∃ q, fuel = q + 1 := fuel_n 0 (by omega)

theorem mk_recs (k : Int) : lmarkRecS ([], k) = some k := by
  obtain ⟨q, hq⟩ := fuel_s
  simp only [lmarkRecS, hq, lmarkRecS_L2]; rfl
theorem mk_acks (k : Int) : lmarkAckS ([], k) = some k := by
  obtain ⟨q, hq⟩ := fuel_s
  simp only [lmarkAckS, hq, lmarkAckS_L2]; rfl
theorem mk_dots (k : Int) : lmarkDotS ([], k) = some k := by
  obtain ⟨q, hq⟩ := fuel_s
  simp only [lmarkDotS, hq, lmarkDotS_L2]; rfl
theorem mk_pairs (k : Int) : lmarkPairS ([], k) = some k := by
  obtain ⟨q, hq⟩ := fuel_s
  simp only [lmarkPairS, hq, lmarkPairS_L2]; rfl
theorem mk_answers (k : Int) : lmarkAnswerS ([], k) = some k := by
  obtain ⟨q, hq⟩ := fuel_s
  simp only [lmarkAnswerS, hq, lmarkAnswerS_L2]; rfl
theorem mk_msgs (k : Int) : lmarkMsgS ([], k) = some k := by
  obtain ⟨q, hq⟩ := fuel_s
  simp only [lmarkMsgS, hq, lmarkMsgS_L2]; rfl
theorem mk_askeds (k : Int) : lmarkAskedS ([], k) = some k := by
  obtain ⟨q, hq⟩ := fuel_s
  simp only [lmarkAskedS, hq, lmarkAskedS_L2]; rfl
theorem hd_recs (k : Int) : lheldRecS ([], k) = some k := by
  obtain ⟨q, hq⟩ := fuel_s
  simp only [lheldRecS, hq, lheldRecS_L2]; rfl
theorem hd_acks (k : Int) : lheldAckS ([], k) = some k := by
  obtain ⟨q, hq⟩ := fuel_s
  simp only [lheldAckS, hq, lheldAckS_L2]; rfl
theorem hd_dots (k : Int) : lheldDotS ([], k) = some k := by
  obtain ⟨q, hq⟩ := fuel_s
  simp only [lheldDotS, hq, lheldDotS_L2]; rfl
theorem hd_pairs (k : Int) : lheldPairS ([], k) = some k := by
  obtain ⟨q, hq⟩ := fuel_s
  simp only [lheldPairS, hq, lheldPairS_L2]; rfl
theorem hd_answers (k : Int) : lheldAnswerS ([], k) = some k := by
  obtain ⟨q, hq⟩ := fuel_s
  simp only [lheldAnswerS, hq, lheldAnswerS_L2]; rfl
theorem hd_msgs (k : Int) : lheldMsgS ([], k) = some k := by
  obtain ⟨q, hq⟩ := fuel_s
  simp only [lheldMsgS, hq, lheldMsgS_L2]; rfl
theorem hd_askeds (k : Int) : lheldAskedS ([], k) = some k := by
  obtain ⟨q, hq⟩ := fuel_s
  simp only [lheldAskedS, hq, lheldAskedS_L2]; rfl
theorem q_recs : leqRecS ([], []) = some true := by
  obtain ⟨q, hq⟩ := fuel_s
  simp only [leqRecS, hq, leqRecS_L4]; rfl
theorem q_acks : leqAckS ([], []) = some true := by
  obtain ⟨q, hq⟩ := fuel_s
  simp only [leqAckS, hq, leqAckS_L4]; rfl
theorem q_dots : leqDotS ([], []) = some true := by
  obtain ⟨q, hq⟩ := fuel_s
  simp only [leqDotS, hq, leqDotS_L4]; rfl
theorem q_pairs : leqPairS ([], []) = some true := by
  obtain ⟨q, hq⟩ := fuel_s
  simp only [leqPairS, hq, leqPairS_L4]; rfl
theorem q_answers : leqAnswerS ([], []) = some true := by
  obtain ⟨q, hq⟩ := fuel_s
  simp only [leqAnswerS, hq, leqAnswerS_L4]; rfl
theorem q_msgs : leqMsgS ([], []) = some true := by
  obtain ⟨q, hq⟩ := fuel_s
  simp only [leqMsgS, hq, leqMsgS_L4]; rfl
theorem q_askeds : leqAskedS ([], []) = some true := by
  obtain ⟨q, hq⟩ := fuel_s
  simp only [leqAskedS, hq, leqAskedS_L4]; rfl
theorem q_rep (a b c : Int) : leqReplica ((a, b, c, [], [], [], [], []), a, b, c, [], [], [], [], []) = some true := by
  simp only [leqReplica, bne_self_eq_false, cond_false, q_recs, q_acks, q_dots, q_pairs, q_answers, Option.bind_some, Bool.not_true]

theorem mk3_len (l : List Ids) : (mk3 l).length = l.length := by simp [mk3]
theorem mk3_nth (pre rest : List Ids) (v : Ids) : nth (mk3 (pre ++ v :: rest)) (pre.length : Int) = (v.1, v.2.1, v.2.2, [], [], [], [], []) := by
  rw [nth_nat _ _ (by simp [mk3])]
  simp [mk3, mk1]
theorem mk3_set (pre rest : List Ids) (v : Ids) (a b c : Int) : List.set (mk3 (pre ++ v :: rest)) (Int.toNat (pre.length : Int)) (a, b, c, [], [], [], [], []) = mk3 (pre ++ (a, b, c) :: rest) := by
  simp [mk3, mk1]

theorem in_range (pre rest : List Ids) (v : Ids) : (decide ((0 : Int) ≤ (pre.length : Int)) && decide ((pre.length : Int) < (((mk3 (pre ++ v :: rest)).length : Nat) : Int))) = true := by
  rw [mk3_len]; simp; omega
theorem in_range1 (pre rest : List Ids) (v : Ids) : decide ((pre.length : Int) < (((mk3 (pre ++ v :: rest)).length : Nat) : Int)) = true := by
  rw [mk3_len]; simp; omega

theorem nonneg (n : Nat) : decide ((0 : Int) ≤ (n : Int)) = true := by simp

def marks (k : Nat) : Nat → List Ids
  | 0 => []
  | d + 1 => ((k : Int), ((k + 1 : Nat) : Int), ((k + 2 : Nat) : Int)) :: marks (k + 3) d

theorem mark_step {O : Type} (q k : Nat) (pre rest : List Ids) (v : Ids) (hk : k + 3 < 4611686018427387904) (hp : pre.length + 1 < 4611686018427387904) (x) (r : (Int × List RepY) → Option O) :
    lmarkReplicaS_L2 O (q + 1) ((k : Int), (pre.length : Int), mk3 (pre ++ v :: rest)) x r =
      lmarkReplicaS_L2 O q (((k + 3 : Nat) : Int), ((pre.length + 1 : Nat) : Int), mk3 (pre ++ ((k : Int), ((k + 1 : Nat) : Int), ((k + 2 : Nat) : Int)) :: rest)) x r := by
  rw [lmarkReplicaS_L2]
  simp only [wrap_succ (show k < 4611686018427387904 by omega), wrap_succ (show k + 1 < 4611686018427387904 by omega), wrap_succ (show k + 2 < 4611686018427387904 by omega), wrap_succ (show pre.length < 4611686018427387904 by omega),
    mk3_nth, mk3_set, nonneg, in_range1, Bool.and_self, cond_true, mk_recs, mk_acks, mk_dots, mk_pairs, mk_answers, Option.bind_some]

theorem mark_run {O : Type} (x) (r : (Int × List RepY) → Option O) : ∀ (rest pre : List Ids) (q k : Nat), k + 3 * rest.length < 4611686018427387904 → pre.length + rest.length < 4611686018427387904 →
    lmarkReplicaS_L2 O (q + rest.length + 1) ((k : Int), (pre.length : Int), mk3 (pre ++ rest)) x r = x (((k + 3 * rest.length : Nat) : Int), mk3 (pre ++ marks k rest.length))
  | [], pre, q, k, _, _ => by
    rw [lmarkReplicaS_L2]
    simp [mk3_len, marks]
  | v :: rest, pre, q, k, hk, hp => by
    simp only [List.length_cons] at hk hp ⊢
    rw [show q + (rest.length + 1) + 1 = (q + rest.length + 1) + 1 from by omega, mark_step _ _ _ _ _ (by omega) (by omega)]
    have := mark_run x r rest (pre ++ [((k : Int), ((k + 1 : Nat) : Int), ((k + 2 : Nat) : Int))]) q (k + 3) (by omega) (by simp; omega)
    simp only [List.length_append, List.length_cons, List.length_nil, List.append_assoc, List.cons_append, List.nil_append, Nat.zero_add] at this
    rw [this, show k + 3 + 3 * rest.length = k + 3 * (rest.length + 1) from by omega]
    rfl

theorem held_run {O : Type} (x) (r : Int → Option O) : ∀ (d : Nat) (pre : List Ids) (q k : Nat), k + 3 * d < 4611686018427387904 → pre.length + d < 4611686018427387904 →
    lheldReplicaS_L2 O (q + d + 1) (mk3 (pre ++ marks k d), (k : Int), (pre.length : Int)) x r = x ((k + 3 * d : Nat) : Int)
  | 0, pre, q, k, _, _ => by
    rw [lheldReplicaS_L2]
    simp [mk3_len, marks]
  | d + 1, pre, q, k, hk, hp => by
    have := held_run x r d (pre ++ [((k : Int), ((k + 1 : Nat) : Int), ((k + 2 : Nat) : Int))]) q (k + 3) (by omega) (by simp; omega)
    simp only [List.length_append, List.length_cons, List.length_nil, List.append_assoc, List.cons_append, List.nil_append, Nat.zero_add] at this
    rw [show q + (d + 1) + 1 = (q + d + 1) + 1 from by omega, marks, lheldReplicaS_L2]
    have hn : ∀ n : Nat, decide (((n : Nat) : Int) < 0) = false := fun n => by simp
    simp only [wrap_succ (show k < 4611686018427387904 by omega), wrap_succ (show k + 1 < 4611686018427387904 by omega), wrap_succ (show k + 2 < 4611686018427387904 by omega), wrap_succ (show pre.length < 4611686018427387904 by omega),
      mk3_nth, nonneg, in_range1, Bool.and_self, cond_true, cond_false, bne_self_eq_false, hd_recs, hd_acks, hd_dots, hd_pairs, hd_answers, Option.bind_some, hn]
    rw [this, show k + 3 + 3 * d = k + 3 * (d + 1) from by omega]

theorem marks_len (d : Nat) : ∀ k, (marks k d).length = d := by
  induction d with
  | zero => intro k; rfl
  | succ d ih => intro k; simp [marks, ih]

theorem mark_all (l : List Ids) (h : l.length ≤ 7) : lmarkCluster ((mk3 l, [], []), 1) = some (((1 + 3 * l.length : Nat) : Int), mk3 (marks 1 l.length)) := by
  obtain ⟨q, hq⟩ := fuel_n l.length (by omega)
  have := mark_run (O := Int × List RepY) (fun z => some z) some l [] q 1 (by omega) (by simp; omega)
  simp only [List.length_nil, List.nil_append] at this
  have e : lmarkReplicaS (mk3 l, 1) = some (((1 + 3 * l.length : Nat) : Int), mk3 (marks 1 l.length)) := by
    simp only [lmarkReplicaS, hq]
    exact this
  simp only [lmarkCluster, e, Option.bind_some, mk_msgs, mk_askeds]

theorem held_all (d : Nat) (h : d ≤ 7) : lheldCluster ((mk3 (marks 1 d), [], []), 1) = some ((1 + 3 * d : Nat) : Int) := by
  obtain ⟨q, hq⟩ := fuel_n d (by omega)
  have := held_run (O := Int) (fun z => some z) some d [] q 1 (by omega) (by simp; omega)
  simp only [List.length_nil, List.nil_append] at this
  have hn : decide (((1 + 3 * d : Nat) : Int) < 0) = false := by simp; omega
  have e : lheldReplicaS (mk3 (marks 1 d), 1) = some ((1 + 3 * d : Nat) : Int) := by
    simp only [lheldReplicaS, hq]
    exact this
  simp only [lheldCluster, e, Option.bind_some, hd_msgs, hd_askeds, hn, cond_false]

theorem q_reps (l : List Ids) (h : l.length ≤ 7) : leqReplicaS (mk3 l, mk3 l) = some true := by
  simp only [leqReplicaS, bne_self_eq_false, cond_false]
  have hl : (mk3 l).length < 1152921504606846976 := by rw [mk3_len]; omega
  have := loop0 (mk3 l) hl (fun q i (_ : Unit) => leqReplicaS_L4 Bool q (mk3 l, mk3 l, i) (fun _ => some true) some) (fun _ _ s k => cond true (k s) (some false)) (fun _ => some true)
    (fun q i hi s => by
      simp only [leqReplicaS_L4]
      have h2 : i < l.length := by rw [mk3_len] at hi; exact hi
      have h3 : nth (mk3 l) (i : Int) = (l[i].1, l[i].2.1, l[i].2.2, [], [], [], [], []) := by
        rw [nth_nat _ _ hi]; simp [mk3, mk1]
      simp only [h3, q_rep, Option.bind_some]
      simp [hi, wrap_succ (show i < 4611686018427387904 by omega)]) (fun q s => by simp [leqReplicaS_L4]) ()
  rw [this, runL_all, show ((mk3 l).all fun _ => true) = true from List.all_eq_true.2 fun _ _ => rfl]
  rfl

theorem q_clu (l : List Ids) (h : l.length ≤ 7) : leqCluster ((mk3 l, [], []), mk3 l, [], []) = some true := by
  simp only [leqCluster, q_reps l h, q_msgs, q_askeds, Option.bind_some, Bool.not_true, cond_false]

theorem in_s (x a b : Int) : sl1In (x, a, b) = some (decide (x ≥ a) && decide (x ≤ b)) := by
  simp only [sl1In]
  by_cases h1 : x ≥ a <;> by_cases h2 : x ≤ b <;> simp [h1, h2] <;> omega
theorem in_i (x a b : Int) : iin (x, a, b) = some (decide (x ≥ a) && decide (x ≤ b)) := by
  simp only [iin]
  by_cases h1 : x ≥ a <;> by_cases h2 : x ≤ b <;> simp [h1, h2] <;> omega

theorem new_s (id n : Int) (h1 : 1 ≤ id) (h2 : id ≤ n) (h3 : n ≤ 7) : sReplicaNew (id, n) = some (id, n, 1, [], [], [], [], []) := by
  have a1 : n ≥ 1 := by omega
  simp [sReplicaNew, sl9Ids, in_s, h1, h2, h3, a1]
theorem new_i (id n : Int) (h1 : 1 ≤ id) (h2 : id ≤ n) (h3 : n ≤ 7) : iReplicaNew (id, n) = some (id, n, 1, [], [], [], [], []) := by
  have a1 : n ≥ 1 := by omega
  simp [iReplicaNew, in_i, h1, h2, h3, a1]

def made (n : Nat) (i : Nat) : Nat → List Ids
  | 0 => []
  | d + 1 => ((i : Int), (n : Int), 1) :: made n (i + 1) d
theorem made_len (n d : Nat) : ∀ i, (made n i d).length = d := by
  induction d with
  | zero => intro i; rfl
  | succ d ih => intro i; simp [made, ih]

theorem s_run {O : Type} (n : Nat) (hn : n ≤ 7) (x) (r : _ → Option O) : ∀ (d i q : Nat) (pre : List Ids), i + d = n + 1 → 1 ≤ i → pre.length + d ≤ 100 →
    sClusterNew_L3 O (q + d + 1) ((n : Int), (i : Int), mk3 pre) x r = x (mk3 (pre ++ made n i d))
  | 0, i, q, pre, h, _, _ => by
    rw [sClusterNew_L3]
    simp [made, show ¬ i ≤ n by omega]
  | d + 1, i, q, pre, h, h1, hp => by
    rw [show q + (d + 1) + 1 = (q + d + 1) + 1 from by omega, sClusterNew_L3]
    simp only [new_s (i : Int) (n : Int) (by omega) (by omega) (by omega), Option.bind_some, wrap_succ (show i < 4611686018427387904 by omega)]
    have e : mk3 pre ++ [((i : Int), (n : Int), 1, [], [], [], [], [])] = mk3 (pre ++ [((i : Int), (n : Int), 1)]) := by simp [mk3, mk1]
    have hl : decide ((mk3 pre).length + [((i : Int), (n : Int), (1 : Int), ([] : List RecY), ([] : List ((Int × Int) × Int)), ([] : List (Int × Int)), ([] : List (List UInt8 × List UInt8 × Bool)), ([] : List ((Int × Int) × List UInt8 × Bool)))].length ≤ lenBound) = true := by
      rw [mk3_len]; simp [lenBound]; omega
    rw [show decide ((i : Int) ≤ (n : Int)) = true from by simp; omega, show decide ((n : Int) ≤ 7) = true from by simp; omega, hl, e]
    simp only [cond_true]
    rw [s_run n hn x r d (i + 1) q (pre ++ [((i : Int), (n : Int), 1)]) (by omega) (by omega) (by simp; omega)]
    simp [made]

theorem i_run {O : Type} (n : Nat) (hn : n ≤ 7) (x) (r : _ → Option O) : ∀ (d i q : Nat) (pre : List Ids), i + d = n + 1 → 1 ≤ i → pre.length + d ≤ 100 →
    iClusterNew_L5 O (q + d + 1) ((n : Int), (i : Int), mk3 pre) x r = x (mk3 (pre ++ made n i d))
  | 0, i, q, pre, h, _, _ => by
    rw [iClusterNew_L5]
    simp [made, show ¬ i ≤ n by omega]
  | d + 1, i, q, pre, h, h1, hp => by
    rw [show q + (d + 1) + 1 = (q + d + 1) + 1 from by omega, iClusterNew_L5]
    simp only [new_i (i : Int) (n : Int) (by omega) (by omega) (by omega), Option.bind_some, wrap_succ (show i < 4611686018427387904 by omega)]
    have e : mk3 pre ++ [((i : Int), (n : Int), 1, [], [], [], [], [])] = mk3 (pre ++ [((i : Int), (n : Int), 1)]) := by simp [mk3, mk1]
    have hl : decide ((mk3 pre).length + [((i : Int), (n : Int), (1 : Int), ([] : List RecY), ([] : List ((Int × Int) × Int)), ([] : List (Int × Int)), ([] : List (List UInt8 × List UInt8 × Bool)), ([] : List ((Int × Int) × List UInt8 × Bool)))].length ≤ lenBound) = true := by
      rw [mk3_len]; simp [lenBound]; omega
    rw [show decide ((i : Int) ≤ (n : Int)) = true from by simp; omega, hl, e]
    simp only [cond_true]
    rw [i_run n hn x r d (i + 1) q (pre ++ [((i : Int), (n : Int), 1)]) (by omega) (by omega) (by simp; omega)]
    simp [made]

theorem both (n : Int) : ∃ l : List Ids, l.length ≤ 7 ∧ sClusterNew n = some (mk3 l, [], []) ∧ iClusterNew n = some (mk3 l, [], []) := by
  by_cases h : 1 ≤ n ∧ n ≤ 7
  · obtain ⟨m, rfl⟩ : ∃ m : Nat, n = (m : Int) := ⟨n.toNat, by omega⟩
    refine ⟨made m 1 m, by rw [made_len]; omega, ?_, ?_⟩
    · obtain ⟨q, hq⟩ := fuel_n m (by omega)
      simp only [sClusterNew, hq]
      exact s_run m (by omega) _ _ m 1 q [] (by omega) (by omega) (by simp; omega)
    · obtain ⟨q, hq⟩ := fuel_n m (by omega)
      simp only [iClusterNew, hq, in_i, Option.bind_some]
      rw [show (decide ((m : Int) ≥ 1) && decide ((m : Int) ≤ 7)) = true from by simp; omega]
      simp only [Bool.not_true, cond_false]
      exact i_run m (by omega) _ _ m 1 q [] (by omega) (by omega) (by simp; omega)
  · refine ⟨[], by simp, ?_, ?_⟩
    · obtain ⟨q, hq⟩ := fuel_s
      simp only [sClusterNew, hq, sClusterNew_L3]
      by_cases h1 : 1 ≤ n
      · simp [h1, show ¬ n ≤ 7 by omega, mk3]
      · simp [h1, mk3]
    · simp only [iClusterNew, in_i, Option.bind_some]
      rw [show (decide (n ≥ 1) && decide (n ≤ 7)) = false from by simp; omega]
      rfl

/-- **The law.** -/
theorem law_clusterNew (n : Int) : lFnExactClusterNew n = some true := by
  obtain ⟨l, hl, e1, e2⟩ := both n
  have hn : decide (((1 + 3 * l.length : Nat) : Int) < 0) = false := by simp; omega
  simp only [lFnExactClusterNew, e1, e2, Option.bind_some, q_clu l hl, mark_all l hl, held_all l.length hl, hn, bne_self_eq_false, cond_false, Bool.not_true]
end Go.Rx
