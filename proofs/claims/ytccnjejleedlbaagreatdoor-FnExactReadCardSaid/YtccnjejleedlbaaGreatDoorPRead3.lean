import Derived.Test.YtccnjejleedlbaaGreatDoorPRead2
set_option linter.all false
/- Read: plain. -/
namespace Go.Rx

/-! ### One table -/
theorem smayHave_ok (f : FB) (hf : f.length = 8) (key : List UInt8) (h : key.length ≤ 1000000) : sMayHave (outF f, key) = some (bitAt f (markN key).1 && bitAt f (markN key).2) := by
  have hm := markN_lt key
  have e0 : (((((outF f).length : Nat) : Int)) != 8) = false := by rw [outF_len, hf]; rfl
  have g : ∀ n, n < 64 → (decide ((0 : Int) ≤ ((n / 8 : Nat) : Int)) && decide (((n / 8 : Nat) : Int) < (((outF f).length : Nat) : Int))) = true := fun n hn => by
    rw [outF_len, hf, decide_eq_true (by omega), decide_eq_true (by omega)]; rfl
  have gu : ∀ n : Nat, IntKind.wrap .u64 ((n % 8 : Nat) : Int) = ((n % 8 : Nat) : Int) := fun n => IntWalk.u64_in _ (by omega)
  have g2 : ∀ n : Nat, decide (((n % 8 : Nat) : Int) < 0) = false := fun n => decide_eq_false (by omega)
  have g3 : ∀ n, n < 64 → ((bits .and .u8 (Int.fdiv (nth (outF f) ((n / 8 : Nat) : Int)) ((2 : Int) ^ (min (n % 8) 8))) 1) == 1) = bitAt f n := fun n hn => by
    rw [outF_nth f (n / 8) (by omega), and8 _ _ (Nat.mod_lt _ (by omega))]
    rfl
  simp only [sMayHave, e0, cond_false, smark_ok key h, Option.bind_some, div8 _ hm.1, div8 _ hm.2, mod8, gu, g2, Int.toNat_natCast, g _ hm.1, g _ hm.2, cond_true, g3 _ hm.1, g3 _ hm.2]
  cases bitAt f (markN key).1 <;> rfl

theorem look_i (key : List UInt8) (pairs : List PairT) (hl : pairs.length ≤ 1000) (v19 v20 : List UInt8) (v21 : Bool) (x : (List UInt8 × List UInt8 × Bool) → Option (PairT × Int)) (r : (PairT × Int) → Option (PairT × Int)) :
    iTableGet_L14 (PairT × Int) fuel (key, ((pairs.length : Nat) : Int), 0, v19, v20, v21, pairs) x r = match pairs.find? (fun p => p.1 == key) with
      | some p => r (p, 0)
      | none => x (v19, v20, v21) := look_in key pairs hl v19 v20 v21 x r
theorem runL_look {ρ : Type} (key : List UInt8) (R : PairT → ρ) (no : ρ) : ∀ (l : List PairT) (i : Nat) (s : Unit), runL (fun _ p s k => cond (p.1 == key) (R p) (k s)) (fun _ => no) i l s = match l.find? (fun p => p.1 == key) with
    | some p => R p
    | none => no
  | [], _, _ => rfl
  | a :: l, i, s => by
    simp only [runL, List.find?_cons]
    cases h : (a.1 == key) with
    | true => rfl
    | false => exact runL_look key R no l (i + 1) s
theorem look_s (key : List UInt8) (pairs : List PairT) (hl : pairs.length ≤ 1000) (v19 v20 : List UInt8) (v21 : Bool) (x : (List UInt8 × List UInt8 × Bool) → Option (PairT × Int)) (r : (PairT × Int) → Option (PairT × Int)) :
    sTableGet_L14 (PairT × Int) fuel (key, 0, v19, v20, v21, pairs) x r = match pairs.find? (fun p => p.1 == key) with
      | some p => r (p, 0)
      | none => x (v19, v20, v21) := by
  have := loop0 pairs (by omega) (fun q i (_ : Unit) => sTableGet_L14 (PairT × Int) q (key, i, v19, v20, v21, pairs) x r) (fun _ p s k => cond (p.1 == key) (r (p, 0)) (k s)) (fun _ => x (v19, v20, v21))
    (fun q i hi s => by
      have e1 : decide ((i : Int) < ((pairs.length : Nat) : Int)) = true := decide_eq_true (by omega)
      have e2 : decide ((0 : Int) ≤ (i : Int)) = true := decide_eq_true (by omega)
      simp only [sTableGet_L14, e1, e2, Bool.and_self, cond_true, nth_nat pairs i hi, wrap_succ (show i < 4611686018427387904 by omega)]) (fun q s => by simp [sTableGet_L14]) ()
  rw [this]
  exact runL_look key (fun p => r (p, 0)) (x (v19, v20, v21)) pairs 0 ()

theorem get_both (l : List PairT) (h : validL l) (key : List UInt8) (hk : key.length ≤ 1000000) : ∃ p c, iTableGet (tableB l, key) = some (p, c) ∧ sTableGet (tableB l, key) = some (p, c) ∧ (c = 0 ∨ c = 1) := by
  have hp := h.pok
  have h2 := h.2.1
  obtain ⟨hI, hA⟩ := table_at l hp h2
  have hel := (ents_len l hp (nbk l) (Nat.le_refl _)).1
  have hn : nbk l ≤ 53 := by unfold nbk; omega
  have hff : (keysF l).length = 8 := by rw [keysF, fltB_len]; simp
  have mi := mayHave_ok _ hff key hk
  have ms := smayHave_ok _ hff key hk
  cases hb : (bitAt (keysF l) (markN key).1 && bitAt (keysF l) (markN key).2) with
  | false =>
    rw [hb] at mi ms
    refine ⟨([], [], false), 1, ?_, ?_, .inr rfl⟩
    · simp only [iTableGet, index_ok hI, mi, Option.bind_some, Bool.not_true, Bool.not_false, cond_false, cond_true]
    · simp only [sTableGet, sindex_ok hI rfl, ms, Option.bind_some, Bool.not_true, Bool.not_false, cond_false, cond_true]
  | true =>
    rw [hb] at mi ms
    have loop : ∀ (m q q' i : Nat), i + m = nbk l → m < q → m < q' → ∃ p c, iTableGet_L7 (PairT × Int) q (tableB l, key, (nbk l : Int), (i : Int), [], [], false, (ents l (nbk l)).map entI) (fun _ => some (([], [], false), 1)) some = some (p, c) ∧ sTableGet_L7 (PairT × Int) q' (tableB l, key, (ents l (nbk l)).map (·.1), (ents l (nbk l)).map (fun e => (e.2 : Int)), (i : Int), [], [], false) (fun _ => some (([], [], false), 1)) some = some (p, c) ∧ (c = 0 ∨ c = 1) := by
      intro m
      induction m with
      | zero =>
        intro q q' i he hq hq'
        obtain ⟨q, rfl⟩ : ∃ z, q = z + 1 := ⟨q - 1, by omega⟩
        obtain ⟨q', rfl⟩ : ∃ z, q' = z + 1 := ⟨q' - 1, by omega⟩
        have e1 : decide ((i : Int) < (nbk l : Int)) = false := decide_eq_false (by omega)
        have e2 : decide ((i : Int) < ((((ents l (nbk l)).map (·.1)).length : Nat) : Int)) = false := decide_eq_false (by rw [List.length_map, hel]; omega)
        refine ⟨([], [], false), 1, ?_, ?_, .inr rfl⟩
        · simp only [iTableGet_L7, e1, cond_false]
        · simp only [sTableGet_L7, e2, cond_false]
      | succ m ih =>
        intro q q' i he hq hq'
        obtain ⟨q, rfl⟩ : ∃ z, q = z + 1 := ⟨q - 1, by omega⟩
        obtain ⟨q', rfl⟩ : ∃ z, q' = z + 1 := ⟨q' - 1, by omega⟩
        have hi : i < nbk l := by omega
        have hbl := blk_len l i
        have e1 : decide ((i : Int) < (nbk l : Int)) = true := decide_eq_true (by omega)
        have e2 : decide ((0 : Int) ≤ (i : Int)) = true := decide_eq_true (by omega)
        have e3 : decide ((i : Int) < ((((ents l (nbk l)).map entI).length : Nat) : Int)) = true := decide_eq_true (by rw [List.length_map, hel]; omega)
        have s3 : decide ((i : Int) < ((((ents l (nbk l)).map (·.1)).length : Nat) : Int)) = true := decide_eq_true (by rw [List.length_map, hel]; omega)
        have s4 : decide ((i : Int) < ((((ents l (nbk l)).map (fun e => (e.2 : Int))).length : Nat) : Int)) = true := decide_eq_true (by rw [List.length_map, hel]; omega)
        have n1 : nth ((ents l (nbk l)).map (·.1)) (i : Int) = lastK (blk l i) := by
          rw [nth_nat _ _ (by rw [List.length_map, hel]; exact hi), List.getElem_map, ents_get l (nbk l) i (by rw [hel]; exact hi) hi]
        have n2 : nth ((ents l (nbk l)).map (fun e => (e.2 : Int))) (i : Int) = (((outB l i).length : Nat) : Int) := by
          rw [nth_nat _ _ (by rw [List.length_map, hel]; exact hi), List.getElem_map, ents_get l (nbk l) i (by rw [hel]; exact hi) hi]
        have e5 := pairsAt_ok hI.by_ hI.len (outB l i).length (blk l i) (fun p h => hp p (blk_mem h)) (by omega) (hA i hi)
        have s5 := spairsAt_ok hI.by_ hI.len (outB l i).length (blk l i) (fun p h => hp p (blk_mem h)) (by omega) (hA i hi)
        cases hc : Op.bytesLess (lastK (blk l i)) key with
        | true =>
          obtain ⟨p, c, k1, k2, k3⟩ := ih q q' (i + 1) (by omega) (by omega) (by omega)
          refine ⟨p, c, ?_, ?_, k3⟩
          · simp only [iTableGet_L7, e1, e2, e3, ent_nth l hp i hi, hc, Bool.and_self, cond_true, wrap_succ (show i < 4611686018427387904 by omega)]
            exact k1
          · simp only [sTableGet_L7, e2, s3, n1, hc, Bool.and_self, cond_true, wrap_succ (show i < 4611686018427387904 by omega)]
            exact k2
        | false =>
          cases hf : (blk l i).find? (fun p => p.1 == key) with
          | some p =>
            refine ⟨p, 0, ?_, ?_, .inl rfl⟩
            · simp only [iTableGet_L7, e1, e2, e3, ent_nth l hp i hi, hc, e5, Bool.and_self, cond_true, cond_false, Bool.not_true, Option.bind_some]
              rw [look_i _ _ (by omega), hf]
            · simp only [sTableGet_L7, e2, s3, s4, n1, n2, hc, s5, Bool.and_self, cond_true, cond_false, Bool.not_true, Option.bind_some]
              rw [look_s _ _ (by omega), hf]
          | none =>
            refine ⟨([], [], false), 1, ?_, ?_, .inr rfl⟩
            · simp only [iTableGet_L7, e1, e2, e3, ent_nth l hp i hi, hc, e5, Bool.and_self, cond_true, cond_false, Bool.not_true, Option.bind_some]
              rw [look_i _ _ (by omega), hf]
            · simp only [sTableGet_L7, e2, s3, s4, n1, n2, hc, s5, Bool.and_self, cond_true, cond_false, Bool.not_true, Option.bind_some]
              rw [look_s _ _ (by omega), hf]
    obtain ⟨p, c, k1, k2, k3⟩ := loop (nbk l) fuel fuel 0 (by omega) (by rw [fuel_eq]; omega) (by rw [fuel_eq]; omega)
    refine ⟨p, c, ?_, ?_, k3⟩
    · simp only [iTableGet, index_ok hI, mi, Option.bind_some, Bool.not_true, cond_false]
      rw [show ((((ents l (nbk l)).map entI).length : Nat) : Int) = (nbk l : Int) from by rw [List.length_map, hel]]
      exact k1
    · simp only [sTableGet, sindex_ok hI rfl, ms, Option.bind_some, Bool.not_true, cond_false]
      exact k2

/-! ### The table in memory -/
theorem runL_some {α β : Type} (p : α → Bool) (R : α → β) (no : β) : ∀ (l : List α) (i : Nat) (s : Unit), ∃ z, runL (fun _ a s k => cond (p a) (some (R a)) (k s)) (fun _ => some no) i l s = some z
  | [], _, _ => ⟨_, rfl⟩
  | a :: l, i, s => by
    simp only [runL]
    cases p a with
    | true => exact ⟨_, rfl⟩
    | false => exact runL_some p R no l (i + 1) s
theorem memGet_both (l : List NodT) (hl : l.length ≤ 1048576) (key : List UInt8) : ∃ z, iMemGet (l, key) = some z ∧ sMemGet (l, key) = some z := by
  have hi := loop0 l (by omega) (fun q i (_ : Unit) => iMemGet_L2 (PairT × Bool) q (key, l, ((l.length : Nat) : Int), i, [], [], false) (fun (v9, v10, v11) => (some (([], [], false), false))) some) (fun _ (n : NodT) s k => cond (n.1.1 == key) (some (n.1, true)) (k s)) (fun _ => some (([], [], false), false))
    (fun q i hi s => by
      have e1 : decide ((i : Int) < ((l.length : Nat) : Int)) = true := decide_eq_true (by omega)
      have e2 : decide ((0 : Int) ≤ (i : Int)) = true := decide_eq_true (by omega)
      simp only [iMemGet_L2, e1, e2, Bool.and_self, cond_true, nth_nat l i hi, wrap_succ (show i < 4611686018427387904 by omega)]) (fun q s => by simp [iMemGet_L2]) ()
  have hs := loop0 l (by omega) (fun q i (_ : Unit) => sMemGet_L2 (PairT × Bool) q (key, i, l, [], [], false) (fun (v8, v9, v10) => (some (([], [], false), false))) some) (fun _ (n : NodT) s k => cond (n.1.1 == key) (some (n.1, true)) (k s)) (fun _ => some (([], [], false), false))
    (fun q i hi s => by
      have e1 : decide ((i : Int) < ((l.length : Nat) : Int)) = true := decide_eq_true (by omega)
      have e2 : decide ((0 : Int) ≤ (i : Int)) = true := decide_eq_true (by omega)
      simp only [sMemGet_L2, e1, e2, Bool.and_self, cond_true, nth_nat l i hi, wrap_succ (show i < 4611686018427387904 by omega)]) (fun q s => by simp [sMemGet_L2]) ()
  obtain ⟨z, hz⟩ := runL_some (fun n : NodT => n.1.1 == key) (fun n => (n.1, true)) (([], [], false), false) l 0 ()
  refine ⟨z, ?_, ?_⟩
  · simp only [iMemGet]; exact hi.trans hz
  · simp only [sMemGet]; exact hs.trans hz

/-! ### The order -/
section
variable {l : List MetT} (hl : l.length ≤ 20) (m0 m1 : Int)
include hl
abbrev OX := (Int × Int × List MetT × List MetT) → Option (List MetT)
theorem ord3 (x x' : OX) : ∀ (k q q' : Nat) (out : List MetT), k ≤ l.length → k < q → k < q' → out.length + k ≤ 1000 → (∀ y ∈ out, y ∈ l) → ∃ out', out'.length ≤ out.length + k ∧ (∀ y ∈ out', y ∈ l) ∧
    iorder_L3 (List MetT) q ((k : Int) - 1, m0, m1, l, out) x some = x (m0, m1, l, out') ∧ sl7Order_L3 (List MetT) q' ((k : Int) - 1, m0, m1, l, out) x' some = x' (m0, m1, l, out')
  | 0, q + 1, q' + 1, out, _, _, _, ho, hm => by
    have e1 : decide (((0 : Nat) : Int) - 1 ≥ 0) = false := rfl
    exact ⟨out, by omega, hm, by simp only [iorder_L3, e1, cond_false], by simp only [sl7Order_L3, e1, cond_false]⟩
  | k + 1, q + 1, q' + 1, out, hk, hq, hq', ho, hm => by
    have hkl : k < l.length := by omega
    have w : ((k + 1 : Nat) : Int) - 1 = (k : Int) := by omega
    have e1 : decide ((k : Int) ≥ 0) = true := decide_eq_true (by omega)
    have e2 : decide ((0 : Int) ≤ (k : Int)) = true := decide_eq_true (by omega)
    have e3 : decide ((k : Int) < ((l.length : Nat) : Int)) = true := decide_eq_true (by omega)
    have w2 : IntKind.wrap .i64 ((k : Int) - 1) = (k : Int) - 1 := wrap64 (by omega) (by omega)
    have e4 : ∀ z : MetT, decide (out.length + [z].length ≤ lenBound) = true := fun z => decide_eq_true (by simp only [List.length_cons, List.length_nil, lenBound]; omega)
    rw [w]
    cases hc : (l[k].2.1 == 0) with
    | true =>
      obtain ⟨out', k1, k2, k3, k4⟩ := ord3 x x' k q q' (out ++ [l[k]]) (by omega) (by omega) (by omega) (by simp; omega) (fun y hy => (List.mem_append.1 hy).elim (hm y) fun h => by simp at h; subst h; exact List.getElem_mem hkl)
      refine ⟨out', by simp at k1; omega, k2, ?_, ?_⟩
      · simp only [iorder_L3, e1, e2, e3, Bool.and_self, cond_true, nth_nat l k hkl, hc, e4, w2]; exact k3
      · simp only [sl7Order_L3, e1, e2, e3, Bool.and_self, cond_true, nth_nat l k hkl, hc, e4, w2]; exact k4
    | false =>
      obtain ⟨out', k1, k2, k3, k4⟩ := ord3 x x' k q q' out (by omega) (by omega) (by omega) (by omega) hm
      refine ⟨out', by omega, k2, ?_, ?_⟩
      · simp only [iorder_L3, e1, e2, e3, Bool.and_self, cond_true, cond_false, nth_nat l k hkl, hc, w2]; exact k3
      · simp only [sl7Order_L3, e1, e2, e3, Bool.and_self, cond_true, cond_false, nth_nat l k hkl, hc, w2]; exact k4
  | _, 0, _, _, _, h, _, _, _ => absurd h (Nat.not_lt_zero _)
  | _, _, 0, _, _, _, h, _, _ => absurd h (Nat.not_lt_zero _)

theorem ord11 (lv : Int) (x x' : (Int × Int × Int × List MetT × List MetT) → Option (List MetT)) : ∀ (m q q' i : Nat) (out : List MetT), i + m = l.length → m < q → m < q' → out.length + m ≤ 1000 → (∀ y ∈ out, y ∈ l) → ∃ out', out'.length ≤ out.length + m ∧ (∀ y ∈ out', y ∈ l) ∧
    iorder_L11 (List MetT) q (lv, l, ((l.length : Nat) : Int), (i : Int), m0, m1, l, out) x some = x (lv, m0, m1, l, out') ∧ sl7Order_L11 (List MetT) q' (lv, (i : Int), m0, m1, l, out) x' some = x' (lv, m0, m1, l, out')
  | 0, q + 1, q' + 1, i, out, he, _, _, ho, hm => by
    have e1 : decide ((i : Int) < ((l.length : Nat) : Int)) = false := decide_eq_false (by omega)
    exact ⟨out, by omega, hm, by simp only [iorder_L11, e1, cond_false], by simp only [sl7Order_L11, e1, cond_false]⟩
  | m + 1, q + 1, q' + 1, i, out, he, hq, hq', ho, hm => by
    have hi : i < l.length := by omega
    have e2 : decide ((0 : Int) ≤ (i : Int)) = true := decide_eq_true (by omega)
    have e3 : decide ((i : Int) < ((l.length : Nat) : Int)) = true := decide_eq_true (by omega)
    have w2 := wrap_succ (show i < 4611686018427387904 by omega)
    have e4 : ∀ z : MetT, decide (out.length + [z].length ≤ lenBound) = true := fun z => decide_eq_true (by simp only [List.length_cons, List.length_nil, lenBound]; omega)
    cases hc : (l[i].2.1 == lv) with
    | true =>
      obtain ⟨out', k1, k2, k3, k4⟩ := ord11 lv x x' m q q' (i + 1) (out ++ [l[i]]) (by omega) (by omega) (by omega) (by simp; omega) (fun y hy => (List.mem_append.1 hy).elim (hm y) fun h => by simp at h; subst h; exact List.getElem_mem hi)
      refine ⟨out', by simp at k1; omega, k2, ?_, ?_⟩
      · simp only [iorder_L11, e2, e3, Bool.and_self, cond_true, nth_nat l i hi, hc, e4, w2]; exact k3
      · simp only [sl7Order_L11, e2, e3, Bool.and_self, cond_true, nth_nat l i hi, hc, e4, w2]; exact k4
    | false =>
      obtain ⟨out', k1, k2, k3, k4⟩ := ord11 lv x x' m q q' (i + 1) out (by omega) (by omega) (by omega) (by omega) hm
      refine ⟨out', by omega, k2, ?_, ?_⟩
      · simp only [iorder_L11, e2, e3, Bool.and_self, cond_true, cond_false, nth_nat l i hi, hc, w2]; exact k3
      · simp only [sl7Order_L11, e2, e3, Bool.and_self, cond_true, cond_false, nth_nat l i hi, hc, w2]; exact k4
  | _, 0, _, _, _, _, h, _, _, _ => absurd h (Nat.not_lt_zero _)
  | _, _, 0, _, _, _, _, h, _, _ => absurd h (Nat.not_lt_zero _)

theorem ord8 : ∀ (m q q' lv : Nat) (out : List MetT), lv + m = 4 → m < q → m < q' → out.length + 20 * m ≤ 900 → (∀ y ∈ out, y ∈ l) → ∃ out', out'.length ≤ 1000 ∧ (∀ y ∈ out', y ∈ l) ∧
    iorder_L8 (List MetT) q ((lv : Int), m0, m1, l, out) (fun out30 => (some out30)) some = some out' ∧ sl7Order_L8 (List MetT) q' ((lv : Int), m0, m1, l, out) (fun out28 => (some out28)) some = some out'
  | 0, q + 1, q' + 1, lv, out, he, _, _, ho, hm => by
    have e1 : decide ((lv : Int) ≤ 3) = false := decide_eq_false (by omega)
    exact ⟨out, by omega, hm, by simp only [iorder_L8, e1, cond_false], by simp only [sl7Order_L8, e1, cond_false]⟩
  | m + 1, q + 1, q' + 1, lv, out, he, hq, hq', ho, hm => by
    have e1 : decide ((lv : Int) ≤ 3) = true := decide_eq_true (by omega)
    obtain ⟨o1, k1, k2, k3, k4⟩ := ord11 hl m0 m1 (lv : Int) (fun (level25, m26, m27, m28, out29) => (iorder_L8 (List MetT) q ((IntKind.wrap .i64 (level25 + (1 : Int))), m26, m27, m28, out29) (fun out30 => (some out30)) some)) (fun (level23, m24, m25, m26, out27) => (sl7Order_L8 (List MetT) q' ((IntKind.wrap .i64 (level23 + (1 : Int))), m24, m25, m26, out27) (fun out28 => (some out28)) some)) l.length fuel fuel 0 out (by omega) (by rw [fuel_eq]; omega) (by rw [fuel_eq]; omega) (by omega) hm
    obtain ⟨o2, j1, j2, j3, j4⟩ := ord8 m q q' (lv + 1) o1 (by omega) (by omega) (by omega) (by omega) k2
    refine ⟨o2, j1, j2, ?_, ?_⟩
    · rw [iorder_L8]
      simp only [e1, cond_true]
      refine Eq.trans k3 ?_
      dsimp only
      rw [wrap_succ (show lv < 4611686018427387904 by omega)]
      exact j3
    · rw [sl7Order_L8]
      simp only [e1, cond_true]
      refine Eq.trans k4 ?_
      dsimp only
      rw [wrap_succ (show lv < 4611686018427387904 by omega)]
      exact j4
  | _, 0, _, _, _, _, h, _, _, _ => absurd h (Nat.not_lt_zero _)
  | _, _, 0, _, _, _, _, h, _, _ => absurd h (Nat.not_lt_zero _)

theorem order_both : ∃ L, iorder (m0, m1, l) = some L ∧ sl7Order (m0, m1, l) = some L ∧ L.length ≤ 1000 ∧ ∀ y ∈ L, y ∈ l := by
  have w : IntKind.wrap .i64 (((l.length : Nat) : Int) - 1) = ((l.length : Nat) : Int) - 1 := wrap64 (by omega) (by omega)
  obtain ⟨o1, k1, k2, k3, k4⟩ := ord3 hl m0 m1 (fun (m8, m9, m10, out11) => (iorder_L8 (List MetT) fuel ((1 : Int), m8, m9, m10, out11) (fun out30 => (some out30)) some)) (fun (m8, m9, m10, out11) => (sl7Order_L8 (List MetT) fuel ((1 : Int), m8, m9, m10, out11) (fun out28 => (some out28)) some)) l.length fuel fuel [] (by omega) (by rw [fuel_eq]; omega) (by rw [fuel_eq]; omega) (by simp; omega) (by simp)
  simp only [List.length_nil] at k1
  obtain ⟨o2, j1, j2, j3, j4⟩ := ord8 hl m0 m1 3 fuel fuel 1 o1 (by omega) (by rw [fuel_eq]; omega) (by rw [fuel_eq]; omega) (by omega) k2
  refine ⟨o2, ?_, ?_, j1, j2⟩
  · simp only [iorder, w]; exact Eq.trans k3 j3
  · simp only [sl7Order, w]; exact Eq.trans k4 j4
end
end Go.Rx
/- Read: the law, plain. -/
namespace Go.Rx

/-- What is right has right tables. -/
theorem store_both2 (s : StoreT) (h : StoreIn s) : ∃ r, iStoreOk s = some r ∧ sStoreOk s = some r ∧ (r = true → diskB s.1 = true ∧ manB (s.2.2.1, s.2.2.2.1, s.2.2.2.2) = true ∧ s.2.2.2.2.all (rowC s.1) = true) := by
  obtain ⟨d, ml, n, lg, tl⟩ := s
  obtain ⟨hd, hb, hm, ht⟩ := h
  simp only at hd hb hm ht
  have di := disk_i d hd
  have ds := disk_s d hd
  have mi := mem_i ml hm
  have ms := mem_s ml hm
  have ni := man_i (n, lg, tl) ht
  have ns := man_s (n, lg, tl) ht
  obtain ⟨m, f, ci, cs, c3, c4⟩ := cur_both d hd
  have bi := bytes_i d hd
  have bs := bytes_s d hd
  have bin := byt_in hd hb
  have ti := tabs_i d hd hb n lg tl
  have ts := tabs_s d hd hb n lg tl
  obtain ⟨d0, d1, d2, d3⟩ := d
  cases hD : diskB (d0, d1, d2, d3) with
  | false =>
    rw [hD] at di ds
    exact ⟨false, by simp only [iStoreOk, di, Option.bind_some, Bool.not_false, cond_true], by simp only [sStoreOk, ds, Option.bind_some, Bool.not_false, cond_true], fun h => by cases h⟩
  | true =>
    rw [hD] at di ds
    cases hM : memB ml with
    | false =>
      rw [hM] at mi ms
      exact ⟨false, by simp only [iStoreOk, di, mi, Option.bind_some, Bool.not_false, Bool.not_true, cond_true, cond_false], by simp only [sStoreOk, ds, ms, Option.bind_some, Bool.not_false, Bool.not_true, cond_true, cond_false], fun h => by cases h⟩
    | true =>
      rw [hM] at mi ms
      cases hN : manB (n, lg, tl) with
      | false =>
        rw [hN] at ni ns
        exact ⟨false, by simp only [iStoreOk, di, mi, ni, Option.bind_some, Bool.not_false, Bool.not_true, cond_true, cond_false], by simp only [sStoreOk, ds, ms, ns, Option.bind_some, Bool.not_false, Bool.not_true, cond_true, cond_false], fun h => by cases h⟩
      | true =>
        rw [hN] at ni ns
        obtain ⟨_, r2, r3, r4⟩ := man_right hN
        simp only at r2 r3 r4
        have li := log_i r2
        have ls := log_s r2
        have lo := logN_ok r2
        have bi := bi (logN lg)
        have bs := bs (logN lg) lo.1 lo.2
        obtain ⟨hB, hL⟩ := bin (logN lg)
        generalize bytR (byt (d0, d1, d2, d3) (logN lg)) = bf at bi bs hB hL
        obtain ⟨b, two⟩ := bf
        simp only at hB hL
        have ri := records_i hB hL
        have rs := records_s hB hL
        have hrl : (recs b b.length 0).1.length ≤ 1048576 := Nat.le_trans (recs_len _ _) hL
        have hrw : ∀ y ∈ (recs b b.length 0).1, ByteL y ∧ y.length ≤ 1048576 := fun y hy => by
          obtain ⟨q1, q2⟩ := recs_body _ _ _ hy
          exact ⟨fun z hz => hB z (q2 z hz), by omega⟩
        have ei := memOf_i _ hrl hrw
        obtain ⟨m0, m0l, es⟩ := memOf_s _ hrl hrw
        have ti := ti r3 r4
        have ts := ts r3 r4
        have tx1 := text_s m (by omega)
        have tx2 := text_s (n, lg, tl) ht
        have sm := man_same_i m (n, lg, tl) (by omega)
        have key : f = true → ((m.1 == n) && ((m.2.1 == lg) && sameT m.2.2 tl)) = (manT m == manT (n, lg, tl)) := fun hf => by
          have hmB := c4 hf
          rw [Bool.eq_iff_iff]
          simp only [Bool.and_eq_true, beq_iff_eq, sameT_iff]
          constructor
          · rintro ⟨q1, q2, q3⟩
            have : m = (n, lg, tl) := Prod.ext q1 (Prod.ext q2 q3)
            rw [this]
          · intro q
            have := manT_inj hmB hN q
            rw [this]
            exact ⟨rfl, rfl, rfl⟩
        generalize ((recs b b.length 0).2 : Int) = en at ri rs
        generalize (recs b b.length 0).1 = rl at ri rs ei es
        obtain ⟨m1, m2, m3⟩ := m
        simp only at sm key
        cases f with
        | false =>
          refine ⟨false, ?_, ?_, fun h => by cases h⟩
          · cases hmf : memF rl [] with
            | none => rw [hmf] at ei; simp only [iStoreOk, di, mi, ni, ci, li, bi, ri, ei, Option.bind_some, Bool.not_true, cond_false]
            | some mm => rw [hmf] at ei; simp only [iStoreOk, di, mi, ni, ci, li, bi, ri, ei, Option.bind_some, Bool.not_true, cond_false]
          · cases hmf : memF rl [] with
            | none => rw [hmf] at es; simp only [sStoreOk, ds, ms, ns, cs, ls, bs, rs, es, Option.bind_some, Bool.not_true, cond_false]
            | some mm => rw [hmf] at es; simp only [sStoreOk, ds, ms, ns, cs, ls, bs, rs, es, Option.bind_some, Bool.not_true, cond_false]
        | true =>
          have key := key rfl
          cases hmf : memF rl [] with
          | none =>
            rw [hmf] at ei es
            refine ⟨false, ?_, ?_, fun h => by cases h⟩
            · simp only [iStoreOk, di, mi, ni, ci, li, bi, ri, ei, Option.bind_some, Bool.not_true, cond_false, cond_true]
              cases two <;> rfl
            · simp only [sStoreOk, ds, ms, ns, cs, ls, bs, rs, es, Option.bind_some, Bool.not_true, cond_false, cond_true, tx1, tx2]
              cases (manT (m1, m2, m3) == manT (n, lg, tl)) <;> cases two <;> cases (en == ((b.length : Nat) : Int)) <;> rfl
          | some mm =>
            rw [hmf] at ei es
            have hmm := memF_len _ _ _ (by simp) hmf
            have si := same_i mm ml (by omega)
            have ss := same_s mm ml (by omega)
            rw [key] at sm
            refine ⟨(two && (en == ((b.length : Nat) : Int))) && ((manT (m1, m2, m3) == manT (n, lg, tl)) && (sameN mm ml && tl.all (rowC (d0, d1, d2, d3)))), ?_, ?_, fun h => ?_⟩
            · simp only [iStoreOk, di, mi, ni, ci, li, bi, ri, ei, sm, si, ti, Option.bind_some, Bool.not_true, cond_false, cond_true]
              cases (manT (m1, m2, m3) == manT (n, lg, tl)) <;> cases two <;> cases (en == ((b.length : Nat) : Int)) <;> cases sameN mm ml <;> rfl
            · simp only [sStoreOk, ds, ms, ns, cs, ls, bs, rs, es, Option.bind_some, Bool.not_true, cond_false, cond_true, tx1, tx2, ss, ts]
              cases (manT (m1, m2, m3) == manT (n, lg, tl)) <;> cases two <;> cases (en == ((b.length : Nat) : Int)) <;> cases sameN mm ml <;> rfl
            · simp only [Bool.and_eq_true] at h
              exact ⟨rfl, rfl, h.2.2.2⟩

theorem row_table {d : DiskT} (h : DiskIn d) (hb : dByteIn d) {x : MetT} (hr : rowC d x = true) : ∃ l, validL l ∧ byt d (tabN x.1) = some (tableB l) := by
  unfold rowC at hr
  cases hy : byt d (tabN x.1) with
  | none => rw [hy] at hr; cases hr
  | some b =>
    rw [hy] at hr
    obtain ⟨hl, y, hy1, hy2⟩ := byt_len h hy
    have hB : ByteL b := by rw [← hy2]; exact hb y hy1
    obtain ⟨l, ok, k1, k2⟩ := itablePairs_total b hB (by omega)
    cases ok with
    | true =>
      obtain ⟨k3, k4⟩ := k2 rfl
      exact ⟨l, k3, by rw [k4]⟩
    | false =>
      have ht : tabR b = none := by simp only [tabR, k1]
      simp only [ht] at hr
      cases hr

abbrev RX := (Bool × List UInt8 × List UInt8 × Bool) → Option (List UInt8 × Int)
theorem read_loop (d : DiskT) (h : DiskIn d) (hb : dByteIn d) (m4 : List NodT) (n lg : Int) (tl : List MetT) (key : List UInt8) (hk : key.length ≤ 1000000) (L : List MetT) (hL : L.length ≤ 1000) (hr : ∀ x ∈ L, RowR x ∧ rowC d x = true) (x : RX) (hx : ∀ p p' : PairT, x (false, p.1, p.2.1, p.2.2) = x (false, p'.1, p'.2.1, p'.2.2)) (hz : ∀ a, ∃ z, x a = some z) :
    ∀ (m q q' i : Nat) (ok : Bool) (p p' : PairT), i + m = L.length → m < q → m < q' → (ok = true → p = p') →
      ∃ z, iRead_L5 (List UInt8 × Int) q (key, ok, ((L.length : Nat) : Int), (i : Int), d.1, d.2.1, d.2.2.1, d.2.2.2, m4, n, lg, tl, p.1, p.2.1, p.2.2, L) x some = some z ∧
        sRead_L6 (List UInt8 × Int) q' (key, ok, (i : Int), d.1, d.2.1, d.2.2.1, d.2.2.2, m4, n, lg, tl, p'.1, p'.2.1, p'.2.2, L) x some = some z
  | m, q + 1, q' + 1, i, ok, p, p', he, hq, hq', hpp => by
    have stop : ∃ z, x (ok, p.1, p.2.1, p.2.2) = some z ∧ x (ok, p'.1, p'.2.1, p'.2.2) = some z := by
      obtain ⟨z, hzz⟩ := hz (ok, p.1, p.2.1, p.2.2)
      refine ⟨z, hzz, ?_⟩
      cases ok with
      | true => rw [← hpp rfl]; exact hzz
      | false => rw [← hx p p']; exact hzz
    by_cases hi : i < L.length
    · obtain ⟨m, rfl⟩ : ∃ m', m = m' + 1 := ⟨m - 1, by omega⟩
      have e1 : decide ((i : Int) < ((L.length : Nat) : Int)) = true := decide_eq_true (by omega)
      have e2 : decide ((0 : Int) ≤ (i : Int)) = true := decide_eq_true (by omega)
      rw [iRead_L5, sRead_L6]
      cases ok with
      | true =>
        simp only [e1, e2, Bool.and_self, Bool.not_true, cond_true, cond_false]
        exact stop
      | false =>
        have hm := List.getElem_mem hi
        obtain ⟨hrow, hrc⟩ := hr _ hm
        obtain ⟨l, hv, hbt⟩ := row_table h hb hrc
        have n1 := tab_i hrow.1
        have n2 := tab_s hrow.1
        have b1 := bytes_i d h (tabN L[i].1)
        have b2 := bytes_s d h (tabN L[i].1) (tabN_ok hrow.1).1 (tabN_ok hrow.1).2
        rw [hbt] at b1 b2
        obtain ⟨pp, c, g1, g2, g3⟩ := get_both l hv key hk
        have b1' : iBytes ((d.1, d.2.1, d.2.2.1, d.2.2.2), tabN L[i].1) = some (tableB l, true) := b1
        have b2' : sBytes ((d.1, d.2.1, d.2.2.1, d.2.2.2), tabN L[i].1) = some (tableB l, true) := b2
        have w := wrap_succ (show i < 4611686018427387904 by omega)
        simp only [e1, e2, Bool.and_self, Bool.not_false, cond_true, cond_false, nth_nat L i hi, n1, n2, b1', b2', g1, g2, Option.bind_some, w]
        rcases g3 with rfl | rfl
        · have f1 : ((0 : Int) == 2) = false := rfl
          have f2 : ((0 : Int) == 0) = true := rfl
          simp only [f1, f2, cond_false, cond_true]
          exact read_loop d h hb m4 n lg tl key hk L hL hr x hx hz m q q' (i + 1) true pp pp (by omega) (by omega) (by omega) (fun _ => rfl)
        · have f1 : ((1 : Int) == 2) = false := rfl
          have f2 : ((1 : Int) == 0) = false := rfl
          simp only [f1, f2, cond_false]
          exact read_loop d h hb m4 n lg tl key hk L hL hr x hx hz m q q' (i + 1) false p pp (by omega) (by omega) (by omega) (fun h => by cases h)
    · have e1 : decide ((i : Int) < ((L.length : Nat) : Int)) = false := decide_eq_false (by omega)
      rw [iRead_L5, sRead_L6]
      simp only [e1, cond_false]
      exact stop
  | _, 0, _, _, _, _, _, _, h, _, _ => absurd h (Nat.not_lt_zero _)
  | _, _, 0, _, _, _, _, _, _, h, _ => absurd h (Nat.not_lt_zero _)

def finR : RX := fun (ok, _, v, g) => cond (!ok) (some ([], (3 : Int))) (cond g (some ([], (3 : Int))) (some (v, (0 : Int))))

theorem read_both (s : StoreT) (h : StoreIn s) (key : List UInt8) : ∃ z, iRead (s, key) = some z ∧ sRead (s, key) = some z := by
  obtain ⟨r, i1, s1, hr⟩ := store_both2 s h
  obtain ⟨d, ml, n, lg, tl⟩ := s
  obtain ⟨hd, hb, hm, ht⟩ := h
  simp only at hd hb hm ht hr
  obtain ⟨mz, mg1, mg2⟩ := memGet_both ml hm key
  have rl := read_loop d hd hb ml n lg tl key
  obtain ⟨d0, d1, d2, d3⟩ := d
  cases r with
  | false => exact ⟨([], 1), by simp only [iRead, i1, Option.bind_some, Bool.not_false, cond_true], by simp only [sRead, s1, Option.bind_some, Bool.not_false, cond_true]⟩
  | true =>
    obtain ⟨_, hN, hT⟩ := hr rfl
    obtain ⟨_, _, r3, r4⟩ := man_right hN
    simp only at r3 r4
    have ik : ikeyOk key = some (decide (((key.length : Nat) : Int) ≥ 1) && decide (((key.length : Nat) : Int) ≤ 20)) := by simp only [ikeyOk, iInE, Option.bind_some]
    cases hk : (decide (((key.length : Nat) : Int) ≥ 1) && decide (((key.length : Nat) : Int) ≤ 20)) with
    | false =>
      rw [hk] at ik
      exact ⟨([], 1), by simp only [iRead, i1, ik, Option.bind_some, Bool.not_true, Bool.not_false, cond_true, cond_false], by simp only [sRead, s1, sInE, hk, Option.bind_some, Bool.not_true, Bool.not_false, cond_true, cond_false]⟩
    | true =>
      rw [hk] at ik
      have hk20 : key.length ≤ 1000000 := by
        simp only [Bool.and_eq_true, decide_eq_true_eq] at hk
        omega
      obtain ⟨L, o1, o2, o3, o4⟩ := order_both r3 n lg
      obtain ⟨⟨p1, p2, p3⟩, ok⟩ := mz
      have hrows : ∀ x ∈ L, RowR x ∧ rowC (d0, d1, d2, d3) x = true := fun x hx => ⟨r4 x (o4 x hx), List.all_eq_true.1 hT x (o4 x hx)⟩
      obtain ⟨z, k1, k2⟩ := rl hk20 L o3 hrows finR (fun _ _ => rfl) (fun a => by
        obtain ⟨ok, a1, a2, a3⟩ := a
        cases ok <;> cases a3 <;> exact ⟨_, rfl⟩) L.length fuel fuel 0 ok (p1, p2, p3) (p1, p2, p3) (by omega) (by rw [fuel_eq]; omega) (by rw [fuel_eq]; omega) (fun _ => rfl)
      refine ⟨z, ?_, ?_⟩
      · simp only [iRead, i1, ik, mg1, o1, Option.bind_some, Bool.not_true, cond_false]
        exact k1
      · simp only [sRead, s1, sInE, hk, mg2, o2, Option.bind_some, Bool.not_true, cond_false]
        exact k2

/-- **The law.** -/
theorem law_read (s : StoreT) (key : List UInt8) (h : StoreG s) : lFnExactRead (s, key) = some true := by
  obtain ⟨r, e, k⟩ := sz_store s h
  have t := to_store s
  have q := eq_store s
  have b := fun hin => read_both s hin key
  obtain ⟨⟨d0, d1, d2, d3⟩, ml, n, lg, tl⟩ := s
  simp only [lFnExactRead, e, Option.bind_some]
  cases decide (((key.length : Nat) : Int) > 1048576) with
  | true => rfl
  | false =>
    rw [cond_false]
    rcases k with k | ⟨k, hin⟩
    · rw [decide_eq_true k]; rfl
    · obtain ⟨⟨z1, z2⟩, b1, b2⟩ := b hin
      have t := t hin
      have q := q hin
      simp only at t
      simp only [decide_eq_false (show ¬ r < 0 by omega), cond_false, t, Option.bind_some, b1, b2, beq_self_eq_true, bne_self_eq_false, Bool.not_true, q]
theorem law_read_good (s : StoreT) (key : List UInt8) (h : GoodD storeTy s) : lFnExactRead (s, key) = some true := law_read s key (good_store s h)
end Go.Rx
