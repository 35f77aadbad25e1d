import Derived.Test.YtecdihlfbncedaaGreatDoorPScan2
import Derived.Orders
import Derived.IntWalk
set_option linter.all false
/- Stores: the order of tables, and right tables. -/
namespace Go.Rx

/-! ### The order -/
section
variable {l : List MetT} (hl : l.length ≤ 20) (m0 m1 : Int)
include hl
abbrev OX := (Int × Int × List MetT × List MetT) → Option (List MetT)
theorem ord3 (x x' : OX) : ∀ (k q q' : Nat) (out : List MetT), k ≤ l.length → k < q → k < q' → out.length + k ≤ 1000 → (∀ y ∈ out, y ∈ l) → ∃ out', out'.length ≤ out.length + k ∧ (∀ y ∈ out', y ∈ l) ∧
    iorder_L3 (List MetT) q ((k : Int) - 1, m0, m1, l, out) x some = x (m0, m1, l, out') ∧ sl7Order_L3 (List MetT) q' ((k : Int) - 1, m0, m1, l, out) x' some = x' (m0, m1, l, out')
  | 0, q + 1, q' + 1, out, _, _, _, ho, hm => by
    have e1 : decide (((0 : Nat) : Int) - 1 ≥ 0) = false := rfl
    exact ⟨out, by omega, hm, by simp only [iorder_L3, e1, cond_false], by simp only [sl7Order_L3, e1, cond_false]⟩
  | k + 1, q + 1, q' + 1, out, hk, hq, hq', ho, hm => by
    have hkl : k < l.length := by omega
    have w : ((k + 1 : Nat) : Int) - 1 = (k : Int) := by omega
    have e1 : decide ((k : Int) ≥ 0) = true := decide_eq_true (by omega)
    have e2 : decide ((0 : Int) ≤ (k : Int)) = true := decide_eq_true (by omega)
    have e3 : decide ((k : Int) < ((l.length : Nat) : Int)) = true := decide_eq_true (by omega)
    have w2 : IntKind.wrap .i64 ((k : Int) - 1) = (k : Int) - 1 := wrap64 (by omega) (by omega)
    have e4 : ∀ z : MetT, decide (out.length + [z].length ≤ lenBound) = true := fun z => decide_eq_true (by simp only [List.length_cons, List.length_nil, lenBound]; omega)
    rw [w]
    cases hc : (l[k].2.1 == 0) with
    | true =>
      obtain ⟨out', k1, k2, k3, k4⟩ := ord3 x x' k q q' (out ++ [l[k]]) (by omega) (by omega) (by omega) (by simp; omega) (fun y hy => (List.mem_append.1 hy).elim (hm y) fun h => by simp at h; subst h; exact List.getElem_mem hkl)
      refine ⟨out', by simp at k1; omega, k2, ?_, ?_⟩
      · simp only [iorder_L3, e1, e2, e3, Bool.and_self, cond_true, nth_nat l k hkl, hc, e4, w2]; exact k3
      · simp only [sl7Order_L3, e1, e2, e3, Bool.and_self, cond_true, nth_nat l k hkl, hc, e4, w2]; exact k4
    | false =>
      obtain ⟨out', k1, k2, k3, k4⟩ := ord3 x x' k q q' out (by omega) (by omega) (by omega) (by omega) hm
      refine ⟨out', by omega, k2, ?_, ?_⟩
      · simp only [iorder_L3, e1, e2, e3, Bool.and_self, cond_true, cond_false, nth_nat l k hkl, hc, w2]; exact k3
      · simp only [sl7Order_L3, e1, e2, e3, Bool.and_self, cond_true, cond_false, nth_nat l k hkl, hc, w2]; exact k4
  | _, 0, _, _, _, h, _, _, _ => absurd h (Nat.not_lt_zero _)
  | _, _, 0, _, _, _, h, _, _ => absurd h (Nat.not_lt_zero _)

theorem ord11 (lv : Int) (x x' : (Int × Int × Int × List MetT × List MetT) → Option (List MetT)) : ∀ (m q q' i : Nat) (out : List MetT), i + m = l.length → m < q → m < q' → out.length + m ≤ 1000 → (∀ y ∈ out, y ∈ l) → ∃ out', out'.length ≤ out.length + m ∧ (∀ y ∈ out', y ∈ l) ∧
    iorder_L11 (List MetT) q (lv, l, ((l.length : Nat) : Int), (i : Int), m0, m1, l, out) x some = x (lv, m0, m1, l, out') ∧ sl7Order_L11 (List MetT) q' (lv, (i : Int), m0, m1, l, out) x' some = x' (lv, m0, m1, l, out')
  | 0, q + 1, q' + 1, i, out, he, _, _, ho, hm => by
    have e1 : decide ((i : Int) < ((l.length : Nat) : Int)) = false := decide_eq_false (by omega)
    exact ⟨out, by omega, hm, by simp only [iorder_L11, e1, cond_false], by simp only [sl7Order_L11, e1, cond_false]⟩
  | m + 1, q + 1, q' + 1, i, out, he, hq, hq', ho, hm => by
    have hi : i < l.length := by omega
    have e2 : decide ((0 : Int) ≤ (i : Int)) = true := decide_eq_true (by omega)
    have e3 : decide ((i : Int) < ((l.length : Nat) : Int)) = true := decide_eq_true (by omega)
    have w2 := wrap_succ (show i < 4611686018427387904 by omega)
    have e4 : ∀ z : MetT, decide (out.length + [z].length ≤ lenBound) = true := fun z => decide_eq_true (by simp only [List.length_cons, List.length_nil, lenBound]; omega)
    cases hc : (l[i].2.1 == lv) with
    | true =>
      obtain ⟨out', k1, k2, k3, k4⟩ := ord11 lv x x' m q q' (i + 1) (out ++ [l[i]]) (by omega) (by omega) (by omega) (by simp; omega) (fun y hy => (List.mem_append.1 hy).elim (hm y) fun h => by simp at h; subst h; exact List.getElem_mem hi)
      refine ⟨out', by simp at k1; omega, k2, ?_, ?_⟩
      · simp only [iorder_L11, e2, e3, Bool.and_self, cond_true, nth_nat l i hi, hc, e4, w2]; exact k3
      · simp only [sl7Order_L11, e2, e3, Bool.and_self, cond_true, nth_nat l i hi, hc, e4, w2]; exact k4
    | false =>
      obtain ⟨out', k1, k2, k3, k4⟩ := ord11 lv x x' m q q' (i + 1) out (by omega) (by omega) (by omega) (by omega) hm
      refine ⟨out', by omega, k2, ?_, ?_⟩
      · simp only [iorder_L11, e2, e3, Bool.and_self, cond_true, cond_false, nth_nat l i hi, hc, w2]; exact k3
      · simp only [sl7Order_L11, e2, e3, Bool.and_self, cond_true, cond_false, nth_nat l i hi, hc, w2]; exact k4
  | _, 0, _, _, _, _, h, _, _, _ => absurd h (Nat.not_lt_zero _)
  | _, _, 0, _, _, _, _, h, _, _ => absurd h (Nat.not_lt_zero _)

theorem ord8 : ∀ (m q q' lv : Nat) (out : List MetT), lv + m = 4 → m < q → m < q' → out.length + 20 * m ≤ 900 → (∀ y ∈ out, y ∈ l) → ∃ out', out'.length ≤ 1000 ∧ (∀ y ∈ out', y ∈ l) ∧
    iorder_L8 (List MetT) q ((lv : Int), m0, m1, l, out) (fun out30 => (some out30)) some = some out' ∧ sl7Order_L8 (List MetT) q' ((lv : Int), m0, m1, l, out) (fun out28 => (some out28)) some = some out'
  | 0, q + 1, q' + 1, lv, out, he, _, _, ho, hm => by
    have e1 : decide ((lv : Int) ≤ 3) = false := decide_eq_false (by omega)
    exact ⟨out, by omega, hm, by simp only [iorder_L8, e1, cond_false], by simp only [sl7Order_L8, e1, cond_false]⟩
  | m + 1, q + 1, q' + 1, lv, out, he, hq, hq', ho, hm => by
    have e1 : decide ((lv : Int) ≤ 3) = true := decide_eq_true (by omega)
    obtain ⟨o1, k1, k2, k3, k4⟩ := ord11 hl m0 m1 (lv : Int) (fun (level25, m26, m27, m28, out29) => (iorder_L8 (List MetT) q ((IntKind.wrap .i64 (level25 + (1 : Int))), m26, m27, m28, out29) (fun out30 => (some out30)) some)) (fun (level23, m24, m25, m26, out27) => (sl7Order_L8 (List MetT) q' ((IntKind.wrap .i64 (level23 + (1 : Int))), m24, m25, m26, out27) (fun out28 => (some out28)) some)) l.length fuel fuel 0 out (by omega) (by rw [fuel_eq]; omega) (by rw [fuel_eq]; omega) (by omega) hm
    obtain ⟨o2, j1, j2, j3, j4⟩ := ord8 m q q' (lv + 1) o1 (by omega) (by omega) (by omega) (by omega) k2
    refine ⟨o2, j1, j2, ?_, ?_⟩
    · rw [iorder_L8]
      simp only [e1, cond_true]
      refine Eq.trans k3 ?_
      dsimp only
      rw [wrap_succ (show lv < 4611686018427387904 by omega)]
      exact j3
    · rw [sl7Order_L8]
      simp only [e1, cond_true]
      refine Eq.trans k4 ?_
      dsimp only
      rw [wrap_succ (show lv < 4611686018427387904 by omega)]
      exact j4
  | _, 0, _, _, _, _, h, _, _, _ => absurd h (Nat.not_lt_zero _)
  | _, _, 0, _, _, _, _, h, _, _ => absurd h (Nat.not_lt_zero _)

theorem order_both : ∃ L, iorder (m0, m1, l) = some L ∧ sl7Order (m0, m1, l) = some L ∧ L.length ≤ 1000 ∧ ∀ y ∈ L, y ∈ l := by
  have w : IntKind.wrap .i64 (((l.length : Nat) : Int) - 1) = ((l.length : Nat) : Int) - 1 := wrap64 (by omega) (by omega)
  obtain ⟨o1, k1, k2, k3, k4⟩ := ord3 hl m0 m1 (fun (m8, m9, m10, out11) => (iorder_L8 (List MetT) fuel ((1 : Int), m8, m9, m10, out11) (fun out30 => (some out30)) some)) (fun (m8, m9, m10, out11) => (sl7Order_L8 (List MetT) fuel ((1 : Int), m8, m9, m10, out11) (fun out28 => (some out28)) some)) l.length fuel fuel [] (by omega) (by rw [fuel_eq]; omega) (by rw [fuel_eq]; omega) (by simp; omega) (by simp)
  simp only [List.length_nil] at k1
  obtain ⟨o2, j1, j2, j3, j4⟩ := ord8 hl m0 m1 3 fuel fuel 1 o1 (by omega) (by rw [fuel_eq]; omega) (by rw [fuel_eq]; omega) (by omega) k2
  refine ⟨o2, ?_, ?_, j1, j2⟩
  · simp only [iorder, w]; exact Eq.trans k3 j3
  · simp only [sl7Order, w]; exact Eq.trans k4 j4
end
/-- What is right has right tables. -/
theorem store_both3 (s : StoreT) (h : StoreIn s) : ∃ r, iStoreOk s = some r ∧ sStoreOk s = some r ∧ (r = true → memB s.2.1 = true ∧ diskB s.1 = true ∧ manB (s.2.2.1, s.2.2.2.1, s.2.2.2.2) = true ∧ s.2.2.2.2.all (rowC s.1) = true) := by
  obtain ⟨d, ml, n, lg, tl⟩ := s
  obtain ⟨hd, hb, hm, ht⟩ := h
  simp only at hd hb hm ht
  have di := disk_i d hd
  have ds := disk_s d hd
  have mi := mem_i ml hm
  have ms := mem_s ml hm
  have ni := man_i (n, lg, tl) ht
  have ns := man_s (n, lg, tl) ht
  obtain ⟨m, f, ci, cs, c3, c4⟩ := cur_both d hd
  have bi := bytes_i d hd
  have bs := bytes_s d hd
  have bin := byt_in hd hb
  have ti := tabs_i d hd hb n lg tl
  have ts := tabs_s d hd hb n lg tl
  obtain ⟨d0, d1, d2, d3⟩ := d
  cases hD : diskB (d0, d1, d2, d3) with
  | false =>
    rw [hD] at di ds
    exact ⟨false, by simp only [iStoreOk, di, Option.bind_some, Bool.not_false, cond_true], by simp only [sStoreOk, ds, Option.bind_some, Bool.not_false, cond_true], fun h => by cases h⟩
  | true =>
    rw [hD] at di ds
    cases hM : memB ml with
    | false =>
      rw [hM] at mi ms
      exact ⟨false, by simp only [iStoreOk, di, mi, Option.bind_some, Bool.not_false, Bool.not_true, cond_true, cond_false], by simp only [sStoreOk, ds, ms, Option.bind_some, Bool.not_false, Bool.not_true, cond_true, cond_false], fun h => by cases h⟩
    | true =>
      rw [hM] at mi ms
      cases hN : manB (n, lg, tl) with
      | false =>
        rw [hN] at ni ns
        exact ⟨false, by simp only [iStoreOk, di, mi, ni, Option.bind_some, Bool.not_false, Bool.not_true, cond_true, cond_false], by simp only [sStoreOk, ds, ms, ns, Option.bind_some, Bool.not_false, Bool.not_true, cond_true, cond_false], fun h => by cases h⟩
      | true =>
        rw [hN] at ni ns
        obtain ⟨_, r2, r3, r4⟩ := man_right hN
        simp only at r2 r3 r4
        have li := log_i r2
        have ls := log_s r2
        have lo := logN_ok r2
        have bi := bi (logN lg)
        have bs := bs (logN lg) lo.1 lo.2
        obtain ⟨hB, hL⟩ := bin (logN lg)
        generalize bytR (byt (d0, d1, d2, d3) (logN lg)) = bf at bi bs hB hL
        obtain ⟨b, two⟩ := bf
        simp only at hB hL
        have ri := records_i hB hL
        have rs := records_s hB hL
        have hrl : (recs b b.length 0).1.length ≤ 1048576 := Nat.le_trans (recs_len _ _) hL
        have hrw : ∀ y ∈ (recs b b.length 0).1, ByteL y ∧ y.length ≤ 1048576 := fun y hy => by
          obtain ⟨q1, q2⟩ := recs_body _ _ _ hy
          exact ⟨fun z hz => hB z (q2 z hz), by omega⟩
        have ei := memOf_i _ hrl hrw
        obtain ⟨m0, m0l, es⟩ := memOf_s _ hrl hrw
        have ti := ti r3 r4
        have ts := ts r3 r4
        have tx1 := text_s m (by omega)
        have tx2 := text_s (n, lg, tl) ht
        have sm := man_same_i m (n, lg, tl) (by omega)
        have key : f = true → ((m.1 == n) && ((m.2.1 == lg) && sameT m.2.2 tl)) = (manT m == manT (n, lg, tl)) := fun hf => by
          have hmB := c4 hf
          rw [Bool.eq_iff_iff]
          simp only [Bool.and_eq_true, beq_iff_eq, sameT_iff]
          constructor
          · rintro ⟨q1, q2, q3⟩
            have : m = (n, lg, tl) := Prod.ext q1 (Prod.ext q2 q3)
            rw [this]
          · intro q
            have := manT_inj hmB hN q
            rw [this]
            exact ⟨rfl, rfl, rfl⟩
        generalize ((recs b b.length 0).2 : Int) = en at ri rs
        generalize (recs b b.length 0).1 = rl at ri rs ei es
        obtain ⟨m1, m2, m3⟩ := m
        simp only at sm key
        cases f with
        | false =>
          refine ⟨false, ?_, ?_, fun h => by cases h⟩
          · cases hmf : memF rl [] with
            | none => rw [hmf] at ei; simp only [iStoreOk, di, mi, ni, ci, li, bi, ri, ei, Option.bind_some, Bool.not_true, cond_false]
            | some mm => rw [hmf] at ei; simp only [iStoreOk, di, mi, ni, ci, li, bi, ri, ei, Option.bind_some, Bool.not_true, cond_false]
          · cases hmf : memF rl [] with
            | none => rw [hmf] at es; simp only [sStoreOk, ds, ms, ns, cs, ls, bs, rs, es, Option.bind_some, Bool.not_true, cond_false]
            | some mm => rw [hmf] at es; simp only [sStoreOk, ds, ms, ns, cs, ls, bs, rs, es, Option.bind_some, Bool.not_true, cond_false]
        | true =>
          have key := key rfl
          cases hmf : memF rl [] with
          | none =>
            rw [hmf] at ei es
            refine ⟨false, ?_, ?_, fun h => by cases h⟩
            · simp only [iStoreOk, di, mi, ni, ci, li, bi, ri, ei, Option.bind_some, Bool.not_true, cond_false, cond_true]
              cases two <;> rfl
            · simp only [sStoreOk, ds, ms, ns, cs, ls, bs, rs, es, Option.bind_some, Bool.not_true, cond_false, cond_true, tx1, tx2]
              cases (manT (m1, m2, m3) == manT (n, lg, tl)) <;> cases two <;> cases (en == ((b.length : Nat) : Int)) <;> rfl
          | some mm =>
            rw [hmf] at ei es
            have hmm := memF_len _ _ _ (by simp) hmf
            have si := same_i mm ml (by omega)
            have ss := same_s mm ml (by omega)
            rw [key] at sm
            refine ⟨(two && (en == ((b.length : Nat) : Int))) && ((manT (m1, m2, m3) == manT (n, lg, tl)) && (sameN mm ml && tl.all (rowC (d0, d1, d2, d3)))), ?_, ?_, fun h => ?_⟩
            · simp only [iStoreOk, di, mi, ni, ci, li, bi, ri, ei, sm, si, ti, Option.bind_some, Bool.not_true, cond_false, cond_true]
              cases (manT (m1, m2, m3) == manT (n, lg, tl)) <;> cases two <;> cases (en == ((b.length : Nat) : Int)) <;> cases sameN mm ml <;> rfl
            · simp only [sStoreOk, ds, ms, ns, cs, ls, bs, rs, es, Option.bind_some, Bool.not_true, cond_false, cond_true, tx1, tx2, ss, ts]
              cases (manT (m1, m2, m3) == manT (n, lg, tl)) <;> cases two <;> cases (en == ((b.length : Nat) : Int)) <;> cases sameN mm ml <;> rfl
            · simp only [Bool.and_eq_true] at h
              exact ⟨rfl, rfl, rfl, h.2.2.2⟩

theorem row_table {d : DiskT} (h : DiskIn d) (hb : dByteIn d) {x : MetT} (hr : rowC d x = true) : ∃ l, validL l ∧ byt d (tabN x.1) = some (tableB l) := by
  unfold rowC at hr
  cases hy : byt d (tabN x.1) with
  | none => rw [hy] at hr; cases hr
  | some b =>
    rw [hy] at hr
    obtain ⟨hl, y, hy1, hy2⟩ := byt_len h hy
    have hB : ByteL b := by rw [← hy2]; exact hb y hy1
    obtain ⟨l, ok, k1, k2⟩ := itablePairs_total b hB (by omega)
    cases ok with
    | true =>
      obtain ⟨k3, k4⟩ := k2 rfl
      exact ⟨l, k3, by rw [k4]⟩
    | false =>
      have ht : tabR b = none := by simp only [tabR, k1]
      simp only [ht] at hr
      cases hr

end Go.Rx
/- Merging of rising lists: two by two, the first one counts, and all at once. -/
namespace Go.Rx

theorem less_irrefl : ∀ a : List UInt8, Op.bytesLess a a = false
  | [] => rfl
  | a :: x => by
    rw [Op.bytesLess, less_irrefl x]
    simp

theorem less_trans : ∀ {a b c : List UInt8}, Op.bytesLess a b = true → Op.bytesLess b c = true → Op.bytesLess a c = true
  | [], [], _, h, _ => by simp [Op.bytesLess] at h
  | [], _ :: _, [], _, h => by simp [Op.bytesLess] at h
  | [], _ :: _, _ :: _, _, _ => rfl
  | _ :: _, [], _, h, _ => by simp [Op.bytesLess] at h
  | _ :: _, _ :: _, [], _, h => by simp [Op.bytesLess] at h
  | a :: x, b :: y, c :: z, h, k => by
    simp only [Op.bytesLess, Bool.or_eq_true, Bool.and_eq_true, decide_eq_true_eq, beq_iff_eq] at h k ⊢
    rcases h with h | ⟨h, h2⟩ <;> rcases k with k | ⟨k, k2⟩
    · exact .inl (UInt8.lt_trans h k)
    · exact .inl (k ▸ h)
    · exact .inl (h ▸ k)
    · exact .inr ⟨h.trans k, less_trans h2 k2⟩

theorem less_ne {a b : List UInt8} (h : Op.bytesLess a b = true) : a ≠ b := by
  rintro rfl
  rw [less_irrefl] at h
  cases h

theorem less_total : ∀ {a b : List UInt8}, Op.bytesLess a b = false → a ≠ b → Op.bytesLess b a = true
  | [], [], _, h => absurd rfl h
  | [], _ :: _, h, _ => by simp [Op.bytesLess] at h
  | _ :: _, [], _, _ => rfl
  | a :: x, b :: y, h, k => by
    simp only [Op.bytesLess, Bool.or_eq_false_iff, Bool.and_eq_false_iff, decide_eq_false_iff_not, beq_eq_false_iff_ne] at h
    simp only [Op.bytesLess, Bool.or_eq_true, Bool.and_eq_true, decide_eq_true_eq, beq_iff_eq]
    rcases h with ⟨h1, h2⟩
    by_cases e : a = b
    · subst e
      rcases h2 with h2 | h2
      · exact absurd rfl h2
      · exact .inr ⟨rfl, less_total h2 (fun e => k (by rw [e]))⟩
    · exact .inl (UInt8.lt_of_le_of_ne (UInt8.not_lt.1 h1) (Ne.symm e))


abbrev PairU := List UInt8 × List UInt8 × Bool
/-- Rising. -/
def Asc (l : List PairU) : Prop := l.Pairwise fun a b => Op.bytesLess a.1 b.1 = true
def look (l : List PairU) (k : List UInt8) : Option PairU := l.find? fun p => p.1 == k

theorem look_cons (p : PairU) (l : List PairU) (k : List UInt8) : look (p :: l) k = if p.1 = k then some p else look l k := by
  unfold look
  rw [List.find?_cons]
  by_cases h : p.1 = k
  · simp [h]
  · have : (p.1 == k) = false := by simpa using h
    rw [this, if_neg h]

theorem look_none {l : List PairU} {k : List UInt8} (h : ∀ p ∈ l, Op.bytesLess k p.1 = true) : look l k = none := by
  unfold look
  rw [List.find?_eq_none]
  intro p hp hk
  have := less_ne (h p hp)
  exact this (by simpa using hk : p.1 = k).symm

theorem look_mem {l : List PairU} {k : List UInt8} {p : PairU} (h : look l k = some p) : p ∈ l ∧ p.1 = k := by
  unfold look at h
  exact ⟨List.mem_of_find?_eq_some h, by simpa using List.find?_some h⟩

theorem asc_ext : ∀ {l m : List PairU}, Asc l → Asc m → (∀ k, look l k = look m k) → l = m
  | [], [], _, _, _ => rfl
  | [], y :: m, _, _, h => by have := h y.1; rw [look_cons, if_pos rfl] at this; cases this
  | x :: l, [], _, _, h => by have := h x.1; rw [look_cons, if_pos rfl] at this; cases this
  | x :: l, y :: m, hl, hm, h => by
    obtain ⟨hl1, hl2⟩ := List.pairwise_cons.1 hl
    obtain ⟨hm1, hm2⟩ := List.pairwise_cons.1 hm
    have hx := h x.1
    rw [look_cons, if_pos rfl] at hx
    have hy := h y.1
    rw [look_cons y, if_pos rfl] at hy
    by_cases e : x.1 = y.1
    · rw [look_cons, if_pos e.symm] at hx
      have hxy : x = y := Option.some.inj hx
      subst hxy
      congr 1
      refine asc_ext hl2 hm2 fun k => ?_
      have hk := h k
      rw [look_cons, look_cons] at hk
      by_cases ek : x.1 = k
      · subst ek
        rw [look_none hl1, look_none hm1]
      · rwa [if_neg ek, if_neg ek] at hk
    · exfalso
      have m1 := (look_mem hx.symm).1
      have m2 := (look_mem hy).1
      have m1' : x ∈ m := by
        rcases List.mem_cons.1 m1 with e2 | e2
        · exact absurd (by rw [e2]) e
        · exact e2
      have m2' : y ∈ l := by
        rcases List.mem_cons.1 m2 with e2 | e2
        · exact absurd (by rw [e2]) e
        · exact e2
      have := less_trans (hl1 y m2') (hm1 x m1')
      rw [less_irrefl] at this
      cases this

/-! ### Two lists -/
def merge2 : List PairU → List PairU → List PairU
  | [], b => b
  | x :: a, [] => x :: a
  | x :: a, y :: b => if Op.bytesLess x.1 y.1 then x :: merge2 a (y :: b) else if Op.bytesLess y.1 x.1 then y :: merge2 (x :: a) b else x :: merge2 a b
termination_by a b => a.length + b.length

theorem merge2_mem : ∀ (a b : List PairU) (p : PairU), p ∈ merge2 a b → p ∈ a ∨ p ∈ b
  | [], b, p, h => by rw [merge2] at h; exact .inr h
  | x :: a, [], p, h => by rw [merge2] at h; exact .inl h
  | x :: a, y :: b, p, h => by
    rw [merge2] at h
    split at h
    · rcases List.mem_cons.1 h with e | e
      · exact .inl (by rw [e]; exact List.mem_cons_self)
      · exact (merge2_mem a (y :: b) p e).imp (List.mem_cons_of_mem _) id
    · split at h
      · rcases List.mem_cons.1 h with e | e
        · exact .inr (by rw [e]; exact List.mem_cons_self)
        · exact (merge2_mem (x :: a) b p e).imp id (List.mem_cons_of_mem _)
      · rcases List.mem_cons.1 h with e | e
        · exact .inl (by rw [e]; exact List.mem_cons_self)
        · exact (merge2_mem a b p e).imp (List.mem_cons_of_mem _) (List.mem_cons_of_mem _)
termination_by a b => a.length + b.length

theorem merge2_len : ∀ (a b : List PairU), (merge2 a b).length ≤ a.length + b.length
  | [], b => by rw [merge2]; simp
  | x :: a, [] => by rw [merge2]; simp
  | x :: a, y :: b => by
    rw [merge2]
    split
    · have := merge2_len a (y :: b); simp only [List.length_cons] at this ⊢; omega
    · split
      · have := merge2_len (x :: a) b; simp only [List.length_cons] at this ⊢; omega
      · have := merge2_len a b; simp only [List.length_cons] at this ⊢; omega
termination_by a b => a.length + b.length

theorem merge2_asc : ∀ {a b : List PairU}, Asc a → Asc b → Asc (merge2 a b)
  | [], b, _, hb => by rw [merge2]; exact hb
  | x :: a, [], ha, _ => by rw [merge2]; exact ha
  | x :: a, y :: b, ha, hb => by
    obtain ⟨ha1, ha2⟩ := List.pairwise_cons.1 ha
    obtain ⟨hb1, hb2⟩ := List.pairwise_cons.1 hb
    rw [merge2]
    split
    · rename_i h
      refine List.pairwise_cons.2 ⟨fun p hp => ?_, merge2_asc ha2 hb⟩
      rcases merge2_mem a (y :: b) p hp with e | e
      · exact ha1 p e
      · rcases List.mem_cons.1 e with e | e
        · rw [e]; exact h
        · exact less_trans h (hb1 p e)
    · rename_i h
      split
      · rename_i h2
        refine List.pairwise_cons.2 ⟨fun p hp => ?_, merge2_asc ha hb2⟩
        rcases merge2_mem (x :: a) b p hp with e | e
        · rcases List.mem_cons.1 e with e | e
          · rw [e]; exact h2
          · exact less_trans h2 (ha1 p e)
        · exact hb1 p e
      · rename_i h2
        have e0 : x.1 = y.1 := by
          refine Classical.byContradiction fun e => ?_
          exact h2 (less_total (by simpa using h) e)
        refine List.pairwise_cons.2 ⟨fun p hp => ?_, merge2_asc ha2 hb2⟩
        rcases merge2_mem a b p hp with e | e
        · exact ha1 p e
        · rw [e0]; exact hb1 p e
termination_by a b => a.length + b.length

theorem merge2_look : ∀ {a b : List PairU} (k : List UInt8), Asc a → Asc b → look (merge2 a b) k = (look a k).or (look b k)
  | [], b, k, _, _ => by rw [merge2]; simp [look]
  | x :: a, [], k, _, _ => by rw [merge2]; simp [look]
  | x :: a, y :: b, k, ha, hb => by
    obtain ⟨ha1, ha2⟩ := List.pairwise_cons.1 ha
    obtain ⟨hb1, hb2⟩ := List.pairwise_cons.1 hb
    rw [merge2]
    split
    · rename_i h
      rw [look_cons, look_cons x a, merge2_look k ha2 hb]
      split <;> rfl
    · rename_i h
      split
      · rename_i h2
        rw [look_cons, merge2_look k ha hb2, look_cons y b]
        by_cases e : y.1 = k
        · subst e
          rw [if_pos rfl, if_pos rfl, look_none (l := x :: a) (fun p hp => by
            rcases List.mem_cons.1 hp with e | e
            · rw [e]; exact h2
            · exact less_trans h2 (ha1 p e))]
          rfl
        · rw [if_neg e, if_neg e]
      · rename_i h2
        have e0 : x.1 = y.1 := by
          refine Classical.byContradiction fun e => ?_
          exact h2 (less_total (by simpa using h) e)
        rw [look_cons, merge2_look k ha2 hb2, look_cons x a, look_cons y b, ← e0]
        split
        · rfl
        · rfl
termination_by a b => a.length + b.length

/-! ### All at once -/
/-- The first list with the least head: its place, and the head. -/
def bst : List (List PairU) → Nat → Option (Nat × PairU) → Option (Nat × PairU)
  | [], _, s => s
  | [] :: Rs, i, s => bst Rs (i + 1) s
  | (p :: _) :: Rs, i, s => bst Rs (i + 1) (match s with
    | none => some (i, p)
    | some (j, q) => if Op.bytesLess p.1 q.1 then some (i, p) else some (j, q))
def advL (k : List UInt8) : List PairU → List PairU
  | q :: R => if q.1 = k then R else q :: R
  | [] => []
theorem advL_cons (k : List UInt8) (q : PairU) (R : List PairU) : advL k (q :: R) = if q.1 = k then R else q :: R := rfl
def adv (k : List UInt8) (Rs : List (List PairU)) : List (List PairU) := Rs.map (advL k)
def km : Nat → List (List PairU) → List PairU
  | 0, _ => []
  | n + 1, Rs => match bst Rs 0 none with
    | none => []
    | some (_, p) => p :: km n (adv p.1 Rs)
def fl (Rs : List (List PairU)) (k : List UInt8) : Option PairU := match Rs with
  | [] => none
  | R :: Rs => (look R k).or (fl Rs k)
def tot (Rs : List (List PairU)) : Nat := (Rs.map List.length).sum

theorem len_tot : ∀ {Rs : List (List PairU)} {R : List PairU}, R ∈ Rs → R.length ≤ tot Rs
  | R0 :: Rs, R, h => by
    unfold tot
    simp only [List.map_cons, List.sum_cons]
    rcases List.mem_cons.1 h with e | e
    · rw [e]; omega
    · have := len_tot e
      unfold tot at this
      omega
theorem bst_cons (p0 : PairU) (R0 : List PairU) (Rs : List (List PairU)) (i : Nat) (s : Option (Nat × PairU)) : bst ((p0 :: R0) :: Rs) i s = bst Rs (i + 1) (match s with
    | none => some (i, p0)
    | some (j, q) => if Op.bytesLess p0.1 q.1 then some (i, p0) else some (j, q)) := rfl
theorem bst_nil (Rs : List (List PairU)) (i : Nat) (s : Option (Nat × PairU)) : bst ([] :: Rs) i s = bst Rs (i + 1) s := rfl

/-- What bst finds. -/
theorem bst_spec : ∀ (Rs : List (List PairU)) (i : Nat) (s : Option (Nat × PairU)), match bst Rs i s with
    | none => s = none ∧ ∀ R ∈ Rs, R = []
    | some (j, p) => ((s = some (j, p) ∧ ∀ R ∈ Rs, ∀ q R', R = q :: R' → Op.bytesLess q.1 p.1 = false) ∨
        (∃ A R' B, Rs = A ++ (p :: R') :: B ∧ j = i + A.length ∧ (∀ R ∈ A, ∀ q R'', R = q :: R'' → Op.bytesLess p.1 q.1 = true) ∧ (∀ R ∈ B, ∀ q R'', R = q :: R'' → Op.bytesLess q.1 p.1 = false) ∧ ∀ j' q, s = some (j', q) → Op.bytesLess p.1 q.1 = true))
  | [], i, s => by
    cases s with
    | none => exact ⟨rfl, fun R h => by simp at h⟩
    | some s => exact .inl ⟨rfl, fun R h => by simp at h⟩
  | [] :: Rs, i, s => by
    have := bst_spec Rs (i + 1) s
    rw [bst_nil]
    cases hb : bst Rs (i + 1) s with
    | none =>
      rw [hb] at this
      exact ⟨this.1, fun R h => (List.mem_cons.1 h).elim id (this.2 R)⟩
    | some jp =>
      obtain ⟨j, p⟩ := jp
      rw [hb] at this
      rcases this with ⟨h1, h2⟩ | ⟨A, R', B, h1, h2, h3, h4, h5⟩
      · refine .inl ⟨h1, fun R hR q R' e => ?_⟩
        rcases List.mem_cons.1 hR with h | h
        · rw [h] at e; cases e
        · exact h2 R h q R' e
      · refine .inr ⟨[] :: A, R', B, by rw [h1]; rfl, by rw [h2, List.length_cons]; omega, fun R hR q R'' e => ?_, h4, h5⟩
        rcases List.mem_cons.1 hR with h | h
        · rw [h] at e; cases e
        · exact h3 R h q R'' e
  | (p0 :: R0) :: Rs, i, s => by
    rw [bst_cons]
    generalize hs : (match s with
      | none => some (i, p0)
      | some (j, q) => if Op.bytesLess p0.1 q.1 then some (i, p0) else some (j, q)) = s'
    have ih := bst_spec Rs (i + 1) s'
    -- s' is either the old one, which is not above, or the new one
    have hcase : (s' = some (i, p0) ∧ ∀ j' q, s = some (j', q) → Op.bytesLess p0.1 q.1 = true) ∨ (∃ j q, s = some (j, q) ∧ s' = some (j, q) ∧ Op.bytesLess p0.1 q.1 = false) := by
      cases s with
      | none => exact .inl ⟨hs.symm, fun _ _ h => by cases h⟩
      | some jq =>
        obtain ⟨j, q⟩ := jq
        simp only at hs
        split at hs
        · rename_i h
          exact .inl ⟨hs.symm, fun _ _ e => by cases e; exact h⟩
        · rename_i h
          exact .inr ⟨j, q, rfl, hs.symm, by simpa using h⟩
    cases hb : bst Rs (i + 1) s' with
    | none =>
      rw [hb] at ih
      rcases hcase with ⟨h1, _⟩ | ⟨_, _, _, h1, _⟩ <;> (rw [h1] at ih; cases ih.1)
    | some jp =>
      obtain ⟨j, p⟩ := jp
      rw [hb] at ih
      rcases ih with ⟨h1, h2⟩ | ⟨A, R', B, h1, h2, h3, h4, h5⟩
      · rcases hcase with ⟨c1, c2⟩ | ⟨j', q', c1, c2, c3⟩
        · rw [c1] at h1
          cases h1
          exact .inr ⟨[], R0, Rs, rfl, rfl, fun R hR => by simp at hR, h2, c2⟩
        · rw [c2] at h1
          cases h1
          refine .inl ⟨c1, fun R hR q R' e => ?_⟩
          rcases List.mem_cons.1 hR with h | h
          · rw [h] at e; cases e; exact c3
          · exact h2 R h q R' e
      · refine .inr ⟨(p0 :: R0) :: A, R', B, by rw [h1]; rfl, by rw [h2, List.length_cons]; omega, fun R hR q R'' e => ?_, h4, fun j' q e => ?_⟩
        · rcases List.mem_cons.1 hR with h | h
          · rw [h] at e
            cases e
            rcases hcase with ⟨c1, c2⟩ | ⟨j', q', c1, c2, c3⟩
            · exact h5 _ _ c1
            · have hp := h5 _ _ c2
              by_cases e : p.1 = p0.1
              · rw [← e, hp] at c3; cases c3
              · cases hx : Op.bytesLess p.1 p0.1 with
                | true => rfl
                | false =>
                  have := less_trans (less_total hx e) hp
                  rw [this] at c3; cases c3
          · exact h3 R h q R'' e
        · rcases hcase with ⟨c1, c2⟩ | ⟨j2, q2, c1, c2, c3⟩
          · exact less_trans (h5 _ _ c1) (c2 _ _ e)
          · rw [c1] at e; cases e; exact h5 _ _ c2

theorem bst_none {Rs : List (List PairU)} (h : bst Rs 0 none = none) : ∀ R ∈ Rs, R = [] := by
  have := bst_spec Rs 0 none
  rw [h] at this
  exact this.2
theorem bst_some {Rs : List (List PairU)} {j : Nat} {p : PairU} (h : bst Rs 0 none = some (j, p)) : ∃ A R' B, Rs = A ++ (p :: R') :: B ∧ j = A.length ∧ (∀ R ∈ A, ∀ q R'', R = q :: R'' → Op.bytesLess p.1 q.1 = true) ∧ (∀ R ∈ B, ∀ q R'', R = q :: R'' → Op.bytesLess q.1 p.1 = false) := by
  have := bst_spec Rs 0 none
  rw [h] at this
  rcases this with ⟨h1, _⟩ | ⟨A, R', B, h1, h2, h3, h4, _⟩
  · cases h1
  · exact ⟨A, R', B, h1, by omega, h3, h4⟩

theorem advL_look {k k' : List UInt8} (R : List PairU) (h : k' ≠ k) : look (advL k R) k' = look R k' := by
  cases R with
  | nil => rfl
  | cons q R =>
    rw [advL_cons]
    split
    · rename_i e
      rw [look_cons, if_neg (by rw [e]; exact Ne.symm h)]
    · rfl
theorem advL_asc {k : List UInt8} {R : List PairU} (h : Asc R) : Asc (advL k R) := by
  cases R with
  | nil => exact h
  | cons q R =>
    rw [advL_cons]
    split
    · exact (List.pairwise_cons.1 h).2
    · exact h
theorem advL_mem {k : List UInt8} {R : List PairU} {x : PairU} (h : x ∈ advL k R) : x ∈ R := by
  cases R with
  | nil => exact h
  | cons q R =>
    rw [advL_cons] at h
    split at h
    · exact List.mem_cons_of_mem _ h
    · exact h
theorem advL_len (k : List UInt8) (R : List PairU) : (advL k R).length ≤ R.length := by
  cases R with
  | nil => exact Nat.le_refl _
  | cons q R =>
    rw [advL_cons]
    split
    · simp
    · exact Nat.le_refl _
theorem fl_adv {k k' : List UInt8} (h : k' ≠ k) : ∀ (Rs : List (List PairU)), fl (adv k Rs) k' = fl Rs k'
  | [] => rfl
  | R :: Rs => by
    show (look (advL k R) k').or (fl (adv k Rs) k') = _
    rw [advL_look R h, fl_adv h Rs]
    rfl
theorem tot_adv (k : List UInt8) : ∀ (Rs : List (List PairU)), tot (adv k Rs) ≤ tot Rs
  | [] => Nat.le_refl _
  | R :: Rs => by
    have h1 := advL_len k R
    have h2 := tot_adv k Rs
    unfold tot adv at *
    simp only [List.map_cons, List.sum_cons]
    omega
theorem tot_app (A B : List (List PairU)) : tot (A ++ B) = tot A + tot B := by unfold tot; simp
theorem fl_app (A B : List (List PairU)) (k : List UInt8) : fl (A ++ B) k = (fl A k).or (fl B k) := by
  induction A with
  | nil => rfl
  | cons R A ih =>
    show (look R k).or (fl (A ++ B) k) = ((look R k).or (fl A k)).or (fl B k)
    rw [ih, Option.or_assoc]
theorem fl_none {Rs : List (List PairU)} {k : List UInt8} (h : ∀ R ∈ Rs, look R k = none) : fl Rs k = none := by
  induction Rs with
  | nil => rfl
  | cons R Rs ih =>
    show (look R k).or (fl Rs k) = none
    rw [h R (by simp), ih fun R hR => h R (List.mem_cons_of_mem _ hR)]
    rfl

/-- All behind the least head. -/
theorem above {Rs : List (List PairU)} (ha : ∀ R ∈ Rs, Asc R) {p : PairU} (h : ∀ R ∈ Rs, ∀ q R', R = q :: R' → Op.bytesLess q.1 p.1 = false) : ∀ R ∈ adv p.1 Rs, ∀ x ∈ R, Op.bytesLess p.1 x.1 = true := by
  intro R hR x hx
  unfold adv at hR
  obtain ⟨R0, hR0, rfl⟩ := List.mem_map.1 hR
  cases R0 with
  | nil => simp [advL] at hx
  | cons q R0 =>
    have h1 := h _ hR0 q R0 rfl
    obtain ⟨a1, a2⟩ := List.pairwise_cons.1 (ha _ hR0)
    rw [advL_cons] at hx
    split at hx
    · rename_i e
      rw [← e]; exact a1 x hx
    · rename_i e
      have h2 := less_total h1 e
      rcases List.mem_cons.1 hx with e2 | e2
      · rw [e2]; exact h2
      · exact less_trans h2 (a1 x e2)

theorem km_spec : ∀ (n : Nat) (Rs : List (List PairU)), (∀ R ∈ Rs, Asc R) → tot Rs ≤ n → Asc (km n Rs) ∧ (∀ k, look (km n Rs) k = fl Rs k) ∧ (∀ x ∈ km n Rs, ∃ R ∈ Rs, x ∈ R)
  | 0, Rs, _, ht => by
    have he : ∀ R ∈ Rs, R = [] := by
      intro R hR
      have := len_tot hR
      exact List.eq_nil_of_length_eq_zero (by omega)
    refine ⟨List.Pairwise.nil, fun k => ?_, fun x hx => by simp [km] at hx⟩
    rw [fl_none fun R hR => by rw [he R hR]; rfl]
    rfl
  | n + 1, Rs, ha, ht => by
    rw [km]
    cases hb : bst Rs 0 none with
    | none =>
      have he := bst_none hb
      refine ⟨List.Pairwise.nil, fun k => ?_, fun x hx => by simp at hx⟩
      rw [fl_none fun R hR => by rw [he R hR]; rfl]
      rfl
    | some jp =>
      obtain ⟨j, p⟩ := jp
      obtain ⟨A, R', B, hRs, _, hA, hB⟩ := bst_some hb
      have hall : ∀ R ∈ Rs, ∀ q R', R = q :: R' → Op.bytesLess q.1 p.1 = false := by
        intro R hR q R2 e
        rw [hRs] at hR
        rcases List.mem_append.1 hR with h | h
        · have := hA R h q R2 e
          cases hq : Op.bytesLess q.1 p.1 with
          | false => rfl
          | true => have h2 := less_trans this hq; rw [less_irrefl] at h2; cases h2
        · rcases List.mem_cons.1 h with h | h
          · rw [h] at e; cases e; exact less_irrefl _
          · exact hB R h q R2 e
      have hab := above ha hall
      have htot : tot (adv p.1 Rs) ≤ n := by
        rw [hRs] at ht ⊢
        have h1 := tot_adv p.1 A
        have h2 := tot_adv p.1 B
        unfold adv at *
        rw [List.map_append, List.map_cons, tot_app]
        rw [tot_app] at ht
        have h3 : advL p.1 (p :: R') = R' := by rw [advL_cons, if_pos rfl]
        rw [h3]
        unfold tot at *
        simp only [List.map_cons, List.sum_cons, List.length_cons] at ht ⊢
        omega
      obtain ⟨k1, k2, k3⟩ := km_spec n (adv p.1 Rs) (fun R hR => by
        unfold adv at hR
        obtain ⟨R0, hR0, rfl⟩ := List.mem_map.1 hR
        exact advL_asc (ha R0 hR0)) htot
      refine ⟨List.pairwise_cons.2 ⟨fun x hx => ?_, k1⟩, fun k => ?_, fun x hx => ?_⟩
      · obtain ⟨R, hR, hxR⟩ := k3 x hx
        exact hab R hR x hxR
      · rw [look_cons]
        split
        · rename_i e
          subst e
          rw [hRs, fl_app, fl_none (Rs := A)]
          · show some p = (none : Option PairU).or ((look (p :: R') p.1).or (fl B p.1))
            rw [look_cons, if_pos rfl]
            rfl
          · intro R hR
            refine look_none fun x hx => ?_
            cases R with
            | nil => simp at hx
            | cons q R2 =>
              have h1 := hA _ hR q R2 rfl
              have ha' := ha (q :: R2) (by rw [hRs]; exact List.mem_append_left _ hR)
              rcases List.mem_cons.1 hx with e2 | e2
              · rw [e2]; exact h1
              · exact less_trans h1 ((List.pairwise_cons.1 ha').1 x e2)
        · rename_i e
          rw [k2 k, fl_adv (Ne.symm e)]
      · rcases List.mem_cons.1 hx with e | e
        · refine ⟨p :: R', by rw [hRs]; simp, by rw [e]; simp⟩
        · obtain ⟨R, hR, hxR⟩ := k3 x e
          unfold adv at hR
          obtain ⟨R0, hR0, rfl⟩ := List.mem_map.1 hR
          exact ⟨R0, hR0, advL_mem hxR⟩

theorem fold_spec : ∀ (Ts : List (List PairU)) (P : List PairU), Asc P → (∀ R ∈ Ts, Asc R) → Asc (Ts.foldl merge2 P) ∧ ∀ k, look (Ts.foldl merge2 P) k = (look P k).or (fl Ts k)
  | [], P, hP, _ => ⟨hP, fun k => by show look P k = (look P k).or none; simp⟩
  | T :: Ts, P, hP, hT => by
    have hTT := hT T (by simp)
    obtain ⟨h1, h2⟩ := fold_spec Ts (merge2 P T) (merge2_asc hP hTT) fun R hR => hT R (List.mem_cons_of_mem _ hR)
    refine ⟨h1, fun k => ?_⟩
    show look (Ts.foldl merge2 (merge2 P T)) k = (look P k).or ((look T k).or (fl Ts k))
    rw [h2 k, merge2_look k hP hTT, Option.or_assoc]

/-- **Both merge to the same.** -/
theorem merge_same (P : List PairU) (Ts : List (List PairU)) (hP : Asc P) (hT : ∀ R ∈ Ts, Asc R) (n : Nat) (hn : tot (P :: Ts) ≤ n) : km n (P :: Ts) = Ts.foldl merge2 P := by
  have hall : ∀ R ∈ P :: Ts, Asc R := fun R hR => (List.mem_cons.1 hR).elim (fun e => by rw [e]; exact hP) (hT R)
  obtain ⟨h1, h2, _⟩ := km_spec n (P :: Ts) hall hn
  obtain ⟨h3, h4⟩ := fold_spec Ts P hP hT
  exact asc_ext h1 h3 fun k => by rw [h2 k, h4 k]; rfl
end Go.Rx
/- Scan: the loops that merge. -/
namespace Go.Rx

theorem room1 {α : Type} {l : List α} {z : α} (h : l.length ≤ 1000000) : decide (l.length + [z].length ≤ lenBound) = true := decide_eq_true (by simp only [List.length_cons, List.length_nil, lenBound]; omega)

/-! ### Two lists -/
theorem merge_loop {O : Type} (a b : List PairU) (ha : a.length ≤ 500000) (hb : b.length ≤ 500000) (x : List PairU → Option O) (r) : ∀ (m q i k : Nat) (out : List PairU), i ≤ a.length → k ≤ b.length → (a.length - i) + (b.length - k) ≤ m → m < q → out.length ≤ i + k →
    sl4Merge_L4 O q (a, b, (i : Int), (k : Int), out) x r = x (out ++ merge2 (a.drop i) (b.drop k))
  | m, 0, _, _, _, _, _, _, h, _ => absurd h (Nat.not_lt_zero _)
  | m, q + 1, i, k, out, hi, hk, hm, hq, ho => by
    have r0 : ∀ z : PairU, decide (out.length + [z].length ≤ lenBound) = true := fun z => room1 (by omega)
    have p1 : decide ((0 : Int) ≤ (i : Int)) = true := decide_eq_true (by omega)
    have p2 : decide ((0 : Int) ≤ (k : Int)) = true := decide_eq_true (by omega)
    have w1 := wrap_succ (show i < 4611686018427387904 by omega)
    have w2 := wrap_succ (show k < 4611686018427387904 by omega)
    rw [sl4Merge_L4]
    by_cases h1 : i < a.length
    · have c1 : decide ((i : Int) < ((a.length : Nat) : Int)) = true := decide_eq_true (by omega)
      have c1' : ((i : Int) == ((a.length : Nat) : Int)) = false := by simp; omega
      have n1 := nth_nat a i h1
      have d1 : a.drop i = a[i] :: a.drop (i + 1) := List.drop_eq_getElem_cons h1
      by_cases h2 : k < b.length
      · have c2 : decide ((k : Int) < ((b.length : Nat) : Int)) = true := decide_eq_true (by omega)
        have c2' : ((k : Int) == ((b.length : Nat) : Int)) = false := by simp; omega
        have n2 := nth_nat b k h2
        have d2 : b.drop k = b[k] :: b.drop (k + 1) := List.drop_eq_getElem_cons h2
        cases hl : Op.bytesLess a[i].1 b[k].1 with
        | true =>
          have ih := merge_loop a b ha hb x r (m - 1) q (i + 1) k (out ++ [a[i]]) (by omega) hk (by omega) (by omega) (by simp; omega)
          simp only [c1, c2', p1, p2, c2, n1, n2, hl, cond_true, cond_false, Option.bind_some, Bool.and_self, r0, w1]
          refine Eq.trans ih ?_
          rw [d1, d2, merge2, if_pos hl, List.append_assoc]
          rfl
        | false =>
          cases hl2 : Op.bytesLess b[k].1 a[i].1 with
          | true =>
            have ih := merge_loop a b ha hb x r (m - 1) q i (k + 1) (out ++ [b[k]]) hi (by omega) (by omega) (by omega) (by simp; omega)
            simp only [c1, c1', c2', p1, p2, c2, n1, n2, hl, hl2, cond_true, cond_false, Option.bind_some, Bool.and_self, r0, w2]
            refine Eq.trans ih ?_
            rw [d1, d2, merge2, if_neg (by rw [hl]; simp), if_pos hl2, List.append_assoc, ← d1]
            rfl
          | false =>
            have ih := merge_loop a b ha hb x r (m - 1) q (i + 1) (k + 1) (out ++ [a[i]]) (by omega) (by omega) (by omega) (by omega) (by simp; omega)
            simp only [c1, c1', c2', p1, p2, c2, n1, n2, hl, hl2, cond_true, cond_false, Option.bind_some, Bool.and_self, r0, w1, w2]
            refine Eq.trans ih ?_
            rw [d1, d2, merge2, if_neg (by rw [hl]; simp), if_neg (by rw [hl2]; simp), List.append_assoc]
            rfl
      · have hk' : k = b.length := by omega
        have c2' : ((k : Int) == ((b.length : Nat) : Int)) = true := by simp; omega
        have ih := merge_loop a b ha hb x r (m - 1) q (i + 1) k (out ++ [a[i]]) (by omega) hk (by omega) (by omega) (by simp; omega)
        simp only [c1, c2', p1, n1, cond_true, Option.bind_some, Bool.and_self, r0, w1]
        refine Eq.trans ih ?_
        have e : b.drop k = [] := List.drop_eq_nil_of_le (by omega)
        have mr : ∀ l : List PairU, merge2 l [] = l := fun l => by cases l <;> rw [merge2]
        rw [e, mr, mr, d1, List.append_assoc]
        rfl
    · have hi' : i = a.length := by omega
      have c1 : decide ((i : Int) < ((a.length : Nat) : Int)) = false := decide_eq_false (by omega)
      have c1' : ((i : Int) == ((a.length : Nat) : Int)) = true := by simp; omega
      have e : a.drop i = [] := List.drop_eq_nil_of_le (by omega)
      by_cases h2 : k < b.length
      · have c2 : decide ((k : Int) < ((b.length : Nat) : Int)) = true := decide_eq_true (by omega)
        have c2' : ((k : Int) == ((b.length : Nat) : Int)) = false := by simp; omega
        have n2 := nth_nat b k h2
        have d2 : b.drop k = b[k] :: b.drop (k + 1) := List.drop_eq_getElem_cons h2
        have ih := merge_loop a b ha hb x r (m - 1) q i (k + 1) (out ++ [b[k]]) hi (by omega) (by omega) (by omega) (by simp; omega)
        simp only [c1, c1', c2', p2, c2, n2, cond_true, cond_false, Option.bind_some, Bool.and_self, r0, w2]
        refine Eq.trans ih ?_
        rw [e, merge2, merge2, d2, List.append_assoc]
        rfl
      · have c2 : decide ((k : Int) < ((b.length : Nat) : Int)) = false := decide_eq_false (by omega)
        have e2 : b.drop k = [] := List.drop_eq_nil_of_le (by omega)
        simp only [c1, c2, cond_false]
        rw [e, e2, merge2, List.append_nil]
        cases x out <;> rfl

theorem sMerge_ok (a b : List PairU) (ha : a.length ≤ 500000) (hb : b.length ≤ 500000) : sl4Merge (a, b) = some (merge2 a b) := by
  simp only [sl4Merge]
  have := merge_loop a b ha hb (fun out => some out) some (a.length + b.length) fuel 0 0 [] (Nat.zero_le _) (Nat.zero_le _) (by omega) (by rw [fuel_eq]; omega) (by simp)
  exact this

/-! ### What is there -/
theorem there_loop {O : Type} (l : List PairU) (hl : l.length ≤ 500000) (x : List PairU → Option O) (r) : ∀ (m q i : Nat) (out : List PairU), i + m = l.length → m < q → out.length ≤ i →
    sl4There_L3 O q (l, (i : Int), out) x r = x (out ++ (l.drop i).filter fun p => !p.2.2)
  | 0, q + 1, i, out, hi, _, ho => by
    have c : decide ((i : Int) < ((l.length : Nat) : Int)) = false := decide_eq_false (by omega)
    rw [sl4There_L3, List.drop_eq_nil_of_le (by omega)]
    simp only [c, cond_false, List.filter_nil, List.append_nil]
  | m + 1, q + 1, i, out, hi, hq, ho => by
    have h1 : i < l.length := by omega
    have c : decide ((i : Int) < ((l.length : Nat) : Int)) = true := decide_eq_true (by omega)
    have p1 : decide ((0 : Int) ≤ (i : Int)) = true := decide_eq_true (by omega)
    have w := wrap_succ (show i < 4611686018427387904 by omega)
    have r0 : ∀ z : PairU, decide (out.length + [z].length ≤ lenBound) = true := fun z => room1 (by omega)
    have n1 := nth_nat l i h1
    rw [sl4There_L3, List.drop_eq_getElem_cons h1]
    cases hg : l[i].2.2 with
    | true =>
      have ih := there_loop l hl x r m q (i + 1) out (by omega) (by omega) (by omega)
      simp only [c, p1, Bool.and_self, cond_true, n1, hg, Bool.not_true, cond_false, w, List.filter_cons, Bool.false_eq_true, if_false]
      exact ih
    | false =>
      have ih := there_loop l hl x r m q (i + 1) (out ++ [l[i]]) (by omega) (by omega) (by simp; omega)
      have he : (l[i].1, l[i].2.1, false) = l[i] := by rw [← hg]
      simp only [c, p1, Bool.and_self, cond_true, n1, hg, Bool.not_false, r0, w, List.filter_cons, if_true, he]
      rw [ih, List.append_assoc]
      rfl
  | _, 0, _, _, _, h, _ => absurd h (Nat.not_lt_zero _)

theorem sThere_ok (l : List PairU) (hl : l.length ≤ 500000) : sl4There l = some (l.filter fun p => !p.2.2) := by
  simp only [sl4There]
  exact there_loop l hl (fun out => some out) some l.length fuel 0 [] (by omega) (by rw [fuel_eq]; omega) (by simp)

/-! ### Pairs in memory -/
theorem imempairs_loop {O : Type} (l : List NodT) (hl : l.length ≤ 500000) (x : List PairU → Option O) (r) : ∀ (m q i : Nat) (out : List PairU), i + m = l.length → m < q → out.length ≤ i →
    ipairsOf_L3 O q (l, ((l.length : Nat) : Int), (i : Int), out) x r = x (out ++ (l.drop i).map (·.1))
  | 0, q + 1, i, out, hi, _, ho => by
    have c : decide ((i : Int) < ((l.length : Nat) : Int)) = false := decide_eq_false (by omega)
    rw [ipairsOf_L3, List.drop_eq_nil_of_le (by omega)]
    simp only [c, cond_false, List.map_nil, List.append_nil]
  | m + 1, q + 1, i, out, hi, hq, ho => by
    have h1 : i < l.length := by omega
    have c : decide ((i : Int) < ((l.length : Nat) : Int)) = true := decide_eq_true (by omega)
    have p1 : decide ((0 : Int) ≤ (i : Int)) = true := decide_eq_true (by omega)
    have w := wrap_succ (show i < 4611686018427387904 by omega)
    have r0 : ∀ z : PairU, decide (out.length + [z].length ≤ lenBound) = true := fun z => room1 (by omega)
    have n1 := nth_nat l i h1
    rw [ipairsOf_L3, List.drop_eq_getElem_cons h1]
    have ih := imempairs_loop l hl x r m q (i + 1) (out ++ [l[i].1]) (by omega) (by omega) (by simp; omega)
    simp only [c, p1, Bool.and_self, cond_true, n1, r0, w, List.map_cons]
    refine Eq.trans ih ?_
    rw [List.append_assoc]
    rfl
  | _, 0, _, _, _, h, _ => absurd h (Nat.not_lt_zero _)
theorem imempairs_ok (l : List NodT) (hl : l.length ≤ 500000) : ipairsOf l = some (l.map (·.1)) := by
  simp only [ipairsOf]
  exact imempairs_loop l hl (fun out => some out) some l.length fuel 0 [] (by omega) (by rw [fuel_eq]; omega) (by simp)
theorem smempairs_loop {O : Type} (l : List NodT) (hl : l.length ≤ 500000) (x : List PairU → Option O) (r) : ∀ (m q i : Nat) (out : List PairU), i + m = l.length → m < q → out.length ≤ i →
    sl7MemPairs_L3 O q ((i : Int), l, out) x r = x (out ++ (l.drop i).map (·.1))
  | 0, q + 1, i, out, hi, _, ho => by
    have c : decide ((i : Int) < ((l.length : Nat) : Int)) = false := decide_eq_false (by omega)
    rw [sl7MemPairs_L3, List.drop_eq_nil_of_le (by omega)]
    simp only [c, cond_false, List.map_nil, List.append_nil]
  | m + 1, q + 1, i, out, hi, hq, ho => by
    have h1 : i < l.length := by omega
    have c : decide ((i : Int) < ((l.length : Nat) : Int)) = true := decide_eq_true (by omega)
    have p1 : decide ((0 : Int) ≤ (i : Int)) = true := decide_eq_true (by omega)
    have w := wrap_succ (show i < 4611686018427387904 by omega)
    have r0 : ∀ z : PairU, decide (out.length + [z].length ≤ lenBound) = true := fun z => room1 (by omega)
    have n1 := nth_nat l i h1
    rw [sl7MemPairs_L3, List.drop_eq_getElem_cons h1]
    have ih := smempairs_loop l hl x r m q (i + 1) (out ++ [l[i].1]) (by omega) (by omega) (by simp; omega)
    simp only [c, p1, Bool.and_self, cond_true, n1, r0, w, List.map_cons]
    refine Eq.trans ih ?_
    rw [List.append_assoc]
    rfl
  | _, 0, _, _, _, h, _ => absurd h (Nat.not_lt_zero _)
theorem smempairs_ok (l : List NodT) (hl : l.length ≤ 500000) : sl7MemPairs l = some (l.map (·.1)) := by
  simp only [sl7MemPairs]
  exact smempairs_loop l hl (fun out => some out) some l.length fuel 0 [] (by omega) (by rw [fuel_eq]; omega) (by simp)
end Go.Rx
/- Scan: all lists at once. -/
namespace Go.Rx

/-- Where each list stands. -/
def ints (ats : List Nat) : List Int := ats.map Int.ofNat
def rems (Ls : List (List PairU)) (ats : List Nat) : List (List PairU) := List.zipWith (fun l a => l.drop a) Ls ats
structure AtPos (Ls : List (List PairU)) (ats : List Nat) : Prop where
  len : ats.length = Ls.length
  le : ∀ i (h : i < ats.length) (h2 : i < Ls.length), ats[i] ≤ Ls[i].length

theorem ints_len (ats : List Nat) : (ints ats).length = ats.length := by simp [ints]
theorem ints_nth (ats : List Nat) (i : Nat) (h : i < ats.length) : nth (ints ats) (i : Int) = (ats[i] : Int) := by
  rw [nth_nat _ _ (by rw [ints_len]; exact h)]
  simp [ints]
theorem ints_set (ats : List Nat) (i v : Nat) : List.set (ints ats) (Int.toNat (i : Int)) (v : Int) = ints (ats.set i v) := by
  rw [Int.toNat_natCast]
  simp [ints, List.map_set]

theorem rems_len {Ls : List (List PairU)} {ats : List Nat} (h : AtPos Ls ats) : (rems Ls ats).length = Ls.length := by
  unfold rems
  rw [List.length_zipWith, h.len, Nat.min_self]
theorem rems_get {Ls : List (List PairU)} {ats : List Nat} (h : AtPos Ls ats) (i : Nat) (hi : i < Ls.length) : (rems Ls ats)[i]'(by rw [rems_len h]; exact hi) = Ls[i].drop (ats[i]'(by rw [h.len]; exact hi)) := by
  unfold rems
  rw [List.getElem_zipWith]
theorem rems_drop {Ls : List (List PairU)} {ats : List Nat} (h : AtPos Ls ats) (i : Nat) (hi : i < Ls.length) : (rems Ls ats).drop i = Ls[i].drop (ats[i]'(by rw [h.len]; exact hi)) :: (rems Ls ats).drop (i + 1) := by
  rw [List.drop_eq_getElem_cons (by rw [rems_len h]; exact hi), rems_get h i hi]

/-- The place that was found, as a number. -/
def encB : Option (Nat × PairU) → Int
  | none => -1
  | some (j, _) => (j : Int)
def goodB (Ls : List (List PairU)) (ats : List Nat) (s : Option (Nat × PairU)) : Prop := ∀ j p, s = some (j, p) → ∃ (h1 : j < Ls.length) (h2 : j < ats.length) (h3 : ats[j] < Ls[j].length), Ls[j][ats[j]] = p

theorem best_loop {O : Type} {Ls : List (List PairU)} {ats : List Nat} (h : AtPos Ls ats) (hL : Ls.length ≤ 100000) (drop : Bool) (out : List PairU) (x : _ → Option O) (r) : ∀ (m q i : Nat) (s : Option (Nat × PairU)), i + m = Ls.length → m < q → goodB Ls ats s →
    ∃ s', goodB Ls ats s' ∧ s' = bst ((rems Ls ats).drop i) i s ∧ imerge_L5 O q (Ls, drop, encB s, Ls, ((Ls.length : Nat) : Int), (i : Int), ints ats, out) x r = x (Ls, drop, encB s', ints ats, out)
  | 0, q + 1, i, s, hi, _, hg => by
    have c : decide ((i : Int) < ((Ls.length : Nat) : Int)) = false := decide_eq_false (by omega)
    refine ⟨s, hg, ?_, ?_⟩
    · rw [List.drop_eq_nil_of_le (by rw [rems_len h]; omega)]; rfl
    · rw [imerge_L5]
      simp only [c, cond_false]
  | m + 1, q + 1, i, s, hi, hq, hg => by
    have h1 : i < Ls.length := by omega
    have h2 : i < ats.length := by rw [h.len]; exact h1
    have c1 : decide ((i : Int) < ((Ls.length : Nat) : Int)) = true := decide_eq_true (by omega)
    have c2 : decide ((0 : Int) ≤ (i : Int)) = true := decide_eq_true (by omega)
    have c3 : decide ((i : Int) < (((ints ats).length : Nat) : Int)) = true := decide_eq_true (by rw [ints_len]; omega)
    have w := wrap_succ (show i < 4611686018427387904 by omega)
    have n1 := nth_nat Ls i h1
    have n2 := ints_nth ats i h2
    rw [rems_drop h i h1, imerge_L5]
    by_cases h3 : ats[i] < Ls[i].length
    · have c4 : decide ((ats[i] : Int) < ((Ls[i].length : Nat) : Int)) = true := decide_eq_true (by omega)
      have c5 : decide ((0 : Int) ≤ (ats[i] : Int)) = true := decide_eq_true (by omega)
      have n3 := nth_nat Ls[i] ats[i] h3
      rw [List.drop_eq_getElem_cons h3, bst_cons]
      cases s with
      | none =>
        obtain ⟨s', g1, g2, g3⟩ := best_loop h hL drop out x r m q (i + 1) (some (i, Ls[i][ats[i]])) (by omega) (by omega) (fun j p e => by cases e; exact ⟨h1, h2, h3, rfl⟩)
        refine ⟨s', g1, g2, ?_⟩
        have e1 : decide (encB none < (0 : Int)) = true := rfl
        simp only [c1, c2, c3, Bool.and_self, cond_true, n1, n2, c4, e1, w]
        exact g3
      | some jp =>
        obtain ⟨j, p⟩ := jp
        obtain ⟨k1, k2, k3, k4⟩ := hg j p rfl
        have e1 : decide (encB (some (j, p)) < (0 : Int)) = false := decide_eq_false (by show ¬ ((j : Int) < 0); omega)
        have eb : encB (some (j, p)) = (j : Int) := rfl
        have b1 : decide ((0 : Int) ≤ (j : Int)) = true := decide_eq_true (by omega)
        have b2 : decide ((j : Int) < ((Ls.length : Nat) : Int)) = true := decide_eq_true (by omega)
        have b3 : decide ((j : Int) < (((ints ats).length : Nat) : Int)) = true := decide_eq_true (by rw [ints_len]; omega)
        have m1 := nth_nat Ls j k1
        have m2 := ints_nth ats j k2
        have b4 : decide ((0 : Int) ≤ (ats[j] : Int)) = true := decide_eq_true (by omega)
        have b5 : decide ((ats[j] : Int) < ((Ls[j].length : Nat) : Int)) = true := decide_eq_true (by omega)
        have m3 := nth_nat Ls[j] ats[j] k3
        rw [k4] at m3
        cases hl : Op.bytesLess Ls[i][ats[i]].1 p.1 with
        | true =>
          obtain ⟨s', g1, g2, g3⟩ := best_loop h hL drop out x r m q (i + 1) (some (i, Ls[i][ats[i]])) (by omega) (by omega) (fun j p e => by cases e; exact ⟨h1, h2, h3, rfl⟩)
          refine ⟨s', g1, by rw [g2]; simp only [hl, if_true], ?_⟩
          simp only [c1, c2, c3, Bool.and_self, cond_true, cond_false, n1, n2, n3, c4, c5, e1, w, eb, b1, b2, b3, m1, m2, m3, b4, b5, hl]
          exact g3
        | false =>
          obtain ⟨s', g1, g2, g3⟩ := best_loop h hL drop out x r m q (i + 1) (some (j, p)) (by omega) (by omega) hg
          refine ⟨s', g1, by rw [g2]; simp only [hl, Bool.false_eq_true, if_false], ?_⟩
          simp only [c1, c2, c3, Bool.and_self, cond_true, cond_false, n1, n2, n3, c4, c5, e1, w, eb, b1, b2, b3, m1, m2, m3, b4, b5, hl]
          exact g3
    · have c4 : decide ((ats[i] : Int) < ((Ls[i].length : Nat) : Int)) = false := decide_eq_false (by omega)
      rw [List.drop_eq_nil_of_le (by omega), bst_nil]
      obtain ⟨s', g1, g2, g3⟩ := best_loop h hL drop out x r m q (i + 1) s (by omega) (by omega) hg
      refine ⟨s', g1, g2, ?_⟩
      simp only [c1, c2, c3, Bool.and_self, cond_true, cond_false, n1, n2, c4, w]
      exact g3
  | _, 0, _, _, _, h, _ => absurd h (Nat.not_lt_zero _)

/-! ### All that have the key go on -/
def stepA (key : List UInt8) (l : List PairU) (a : Nat) : Nat := if h : a < l.length then (if l[a].1 = key then a + 1 else a) else a
def stepAll (key : List UInt8) (Ls : List (List PairU)) (ats : List Nat) : List Nat := List.zipWith (stepA key) Ls ats

theorem stepA_le {key : List UInt8} {l : List PairU} {a : Nat} (h : a ≤ l.length) : stepA key l a ≤ l.length := by
  unfold stepA
  split
  · split <;> omega
  · exact h
theorem stepAll_at {key : List UInt8} {Ls : List (List PairU)} {ats : List Nat} (h : AtPos Ls ats) : AtPos Ls (stepAll key Ls ats) := by
  have hl : (stepAll key Ls ats).length = Ls.length := by unfold stepAll; rw [List.length_zipWith, h.len, Nat.min_self]
  refine ⟨hl, fun i h1 h2 => ?_⟩
  have e : (stepAll key Ls ats)[i] = stepA key Ls[i] (ats[i]'(by rw [h.len]; exact h2)) := by simp [stepAll]
  rw [e]
  exact stepA_le (h.le i (by rw [h.len]; exact h2) h2)
theorem drop_step (key : List UInt8) (l : List PairU) (a : Nat) : l.drop (stepA key l a) = advL key (l.drop a) := by
  unfold stepA
  split
  · rename_i h
    rw [List.drop_eq_getElem_cons h, advL_cons]
    split
    · rfl
    · rw [← List.drop_eq_getElem_cons h]
  · rename_i h
    rw [List.drop_eq_nil_of_le (by omega)]
    rfl
theorem rems_step {key : List UInt8} {Ls : List (List PairU)} {ats : List Nat} : rems Ls (stepAll key Ls ats) = adv key (rems Ls ats) := by
  unfold rems stepAll adv
  induction Ls generalizing ats with
  | nil => rfl
  | cons l Ls ih =>
    cases ats with
    | nil => rfl
    | cons a ats =>
      simp only [List.zipWith_cons_cons, List.map_cons]
      rw [drop_step, ih]

theorem adv_loop {O : Type} {Ls : List (List PairU)} {ats : List Nat} (h : AtPos Ls ats) (hL : Ls.length ≤ 100000) (hB : ∀ l ∈ Ls, l.length ≤ 100000) (drop : Bool) (out : List PairU) (p : PairU) (x : _ → Option O) (r) : ∀ (m q i : Nat) (cur : List Nat), i + m = Ls.length → m < q →
    cur = (stepAll p.1 Ls ats).take i ++ ats.drop i →
    imerge_L14 O q (Ls, drop, Ls, ((Ls.length : Nat) : Int), (i : Int), ints cur, out, p.1, p.2.1, p.2.2) x r = x (Ls, drop, ints (stepAll p.1 Ls ats), out, p.1, p.2.1, p.2.2)
  | 0, q + 1, i, cur, hi, _, hc => by
    have c : decide ((i : Int) < ((Ls.length : Nat) : Int)) = false := decide_eq_false (by omega)
    have e : cur = stepAll p.1 Ls ats := by
      rw [hc, List.drop_eq_nil_of_le (by rw [h.len]; omega), List.append_nil, List.take_of_length_le (by rw [(stepAll_at h).len]; omega)]
    rw [imerge_L14, e]
    simp only [c, cond_false]
  | m + 1, q + 1, i, cur, hi, hq, hc => by
    have h1 : i < Ls.length := by omega
    have h2 : i < ats.length := by rw [h.len]; exact h1
    have hsl : (stepAll p.1 Ls ats).length = Ls.length := (stepAll_at h).len
    have htl : ((stepAll p.1 Ls ats).take i).length = i := by rw [List.length_take]; omega
    have hcl : cur.length = Ls.length := by rw [hc, List.length_append, htl, List.length_drop, h.len]; omega
    have hci : cur[i]'(by omega) = ats[i] := by
      subst hc
      rw [List.getElem_append_right (by omega)]
      simp [htl]
    have hnext : ∀ v, v = stepA p.1 Ls[i] ats[i] → cur.set i v = (stepAll p.1 Ls ats).take (i + 1) ++ ats.drop (i + 1) := by
      intro v hv
      rw [hc, List.set_append_right _ _ (by omega), htl, Nat.sub_self, List.drop_eq_getElem_cons h2, List.set_cons_zero, List.take_succ_eq_append_getElem (by omega), List.append_assoc]
      congr 1
      have : (stepAll p.1 Ls ats)[i]'(by omega) = stepA p.1 Ls[i] ats[i] := by unfold stepAll; rw [List.getElem_zipWith]
      rw [this, hv]
      rfl
    have hsame : ats[i] = stepA p.1 Ls[i] ats[i] → cur = (stepAll p.1 Ls ats).take (i + 1) ++ ats.drop (i + 1) := by
      intro hv
      rw [← hnext _ hv]
      rw [← hci]
      exact (List.set_getElem_self _).symm
    have c1 : decide ((i : Int) < ((Ls.length : Nat) : Int)) = true := decide_eq_true (by omega)
    have c2 : decide ((0 : Int) ≤ (i : Int)) = true := decide_eq_true (by omega)
    have c3 : decide ((i : Int) < (((ints cur).length : Nat) : Int)) = true := decide_eq_true (by rw [ints_len]; omega)
    have w := wrap_succ (show i < 4611686018427387904 by omega)
    have n1 := nth_nat Ls i h1
    have n2 := ints_nth cur i (by omega)
    rw [hci] at n2
    have hb := hB _ (List.getElem_mem h1)
    have w2 := wrap_succ (show ats[i] < 4611686018427387904 by have := h.le i h2 h1; omega)
    rw [imerge_L14]
    by_cases h3 : ats[i] < Ls[i].length
    · have c4 : decide ((ats[i] : Int) < ((Ls[i].length : Nat) : Int)) = true := decide_eq_true (by omega)
      have c5 : decide ((0 : Int) ≤ (ats[i] : Int)) = true := decide_eq_true (by omega)
      have n3 := nth_nat Ls[i] ats[i] h3
      by_cases hk : Ls[i][ats[i]].1 = p.1
      · have hs : ats[i] + 1 = stepA p.1 Ls[i] ats[i] := by unfold stepA; rw [dif_pos h3, if_pos hk]
        have ih := adv_loop h hL hB drop out p x r m q (i + 1) _ (by omega) (by omega) (hnext _ hs)
        have hbe : (Ls[i][ats[i]].1 == p.1) = true := by simpa using hk
        have es := ints_set cur i (ats[i] + 1)
        simp only [c1, c2, c3, Bool.and_self, cond_true, n1, n2, n3, c4, c5, hbe, w, w2, es]
        exact ih
      · have hs : ats[i] = stepA p.1 Ls[i] ats[i] := by unfold stepA; rw [dif_pos h3, if_neg hk]
        have ih := adv_loop h hL hB drop out p x r m q (i + 1) _ (by omega) (by omega) (hsame hs)
        have hbe : (Ls[i][ats[i]].1 == p.1) = false := by simpa using hk
        simp only [c1, c2, c3, Bool.and_self, cond_true, cond_false, n1, n2, n3, c4, c5, hbe, w]
        exact ih
    · have hs : ats[i] = stepA p.1 Ls[i] ats[i] := by unfold stepA; rw [dif_neg h3]
      have ih := adv_loop h hL hB drop out p x r m q (i + 1) _ (by omega) (by omega) (hsame hs)
      have c4 : decide ((ats[i] : Int) < ((Ls[i].length : Nat) : Int)) = false := decide_eq_false (by omega)
      simp only [c1, c2, c3, Bool.and_self, cond_true, cond_false, n1, n2, c4, w]
      exact ih
  | _, 0, _, _, _, h, _ => absurd h (Nat.not_lt_zero _)

/-! ### All rounds -/
theorem km_loop {O : Type} {Ls : List (List PairU)} (hL : Ls.length ≤ 100000) (hB : ∀ l ∈ Ls, l.length ≤ 100000) (x : _ → Option O) (r : List PairU → Option O) : ∀ (n q : Nat) (ats : List Nat) (out : List PairU), AtPos Ls ats → tot (rems Ls ats) ≤ n → n < q → out.length + n ≤ 900000 →
    imerge_L3 O q (Ls, true, ints ats, out) x r = r (out ++ (km n (rems Ls ats)).filter fun p => !p.2.2)
  | _, 0, _, _, _, _, h, _ => absurd h (Nat.not_lt_zero _)
  | n, q + 1, ats, out, ha, ht, hq, ho => by
    obtain ⟨s', g1, g2, g3⟩ := best_loop ha hL true out (O := O) (fun (lists14, drop15, best16, at17, out18) => (cond (decide (best16 < (0 : Int))) (r out18) (cond (decide ((0 : Int) ≤ best16) && decide (best16 < ((lists14.length : Nat) : Int))) (cond (decide ((0 : Int) ≤ best16) && decide (best16 < ((at17.length : Nat) : Int))) (cond (decide ((0 : Int) ≤ (nth at17 best16)) && decide ((nth at17 best16) < (((nth lists14 best16).length : Nat) : Int))) (imerge_L14 O fuel (lists14, drop15, lists14, ((lists14.length : Nat) : Int), (0 : Int), at17, out18, (nth (nth lists14 best16) (nth at17 best16)).1, (nth (nth lists14 best16) (nth at17 best16)).2.1, (nth (nth lists14 best16) (nth at17 best16)).2.2) (fun (lists29, drop30, at31, out32, p33, p34, p35) => (cond (!drop30) (cond (decide ((out32.length + [(p33, p34, p35)].length) ≤ lenBound)) (imerge_L3 O q (lists29, drop30, at31, (out32 ++ [(p33, p34, p35)])) x r) none) (cond (!p35) (cond (decide ((out32.length + [(p33, p34, p35)].length) ≤ lenBound)) (imerge_L3 O q (lists29, drop30, at31, (out32 ++ [(p33, p34, p35)])) x r) none) (imerge_L3 O q (lists29, drop30, at31, out32) x r)))) r) none) none) none))) r Ls.length fuel 0 none (by omega) (by rw [fuel_eq]; omega) (fun _ _ h => by cases h)
    rw [List.drop_zero] at g2
    rw [imerge_L3]
    refine Eq.trans g3 ?_
    dsimp only
    cases s' with
    | none =>
      have e1 : decide (encB none < (0 : Int)) = true := rfl
      have hk : km n (rems Ls ats) = [] := by
        cases n with
        | zero => rfl
        | succ n => rw [km, ← g2]
      rw [e1, cond_true, hk]
      simp
    | some jp =>
      obtain ⟨j, p⟩ := jp
      obtain ⟨k1, k2, k3, k4⟩ := g1 j p rfl
      have eb : encB (some (j, p)) = (j : Int) := rfl
      have e1 : decide ((j : Int) < (0 : Int)) = false := decide_eq_false (by omega)
      have b1 : decide ((0 : Int) ≤ (j : Int)) = true := decide_eq_true (by omega)
      have b2 : decide ((j : Int) < ((Ls.length : Nat) : Int)) = true := decide_eq_true (by omega)
      have b3 : decide ((j : Int) < (((ints ats).length : Nat) : Int)) = true := decide_eq_true (by rw [ints_len]; omega)
      have m1 := nth_nat Ls j k1
      have m2 := ints_nth ats j k2
      have b4 : decide ((0 : Int) ≤ (ats[j] : Int)) = true := decide_eq_true (by omega)
      have b5 : decide ((ats[j] : Int) < ((Ls[j].length : Nat) : Int)) = true := decide_eq_true (by omega)
      have m3 := nth_nat Ls[j] ats[j] k3
      rw [k4] at m3
      obtain ⟨n, rfl⟩ : ∃ n', n = n' + 1 := by
        refine ⟨n - 1, ?_⟩
        have hmem : Ls[j].drop ats[j] ∈ rems Ls ats := by
          rw [← rems_get ha j k1]
          exact List.getElem_mem _
        have := len_tot hmem
        rw [List.length_drop] at this
        omega
      rw [eb]
      simp only [e1, cond_false, b1, b2, b3, Bool.and_self, cond_true, m1, m2, b4, b5, m3]
      refine Eq.trans (adv_loop ha hL hB true out p _ r Ls.length fuel 0 ats (by omega) (by rw [fuel_eq]; omega) (by simp)) ?_
      have hs := stepAll_at (key := p.1) ha
      have hr := rems_step (key := p.1) (Ls := Ls) (ats := ats)
      have htot : tot (adv p.1 (rems Ls ats)) ≤ n := by
        obtain ⟨A, R', B, hRs, _, _, _⟩ := bst_some g2.symm
        rw [hRs] at ht ⊢
        have h1 := tot_adv p.1 A
        have h2 := tot_adv p.1 B
        unfold adv at *
        rw [List.map_append, List.map_cons, tot_app]
        rw [tot_app] at ht
        have h3 : advL p.1 (p :: R') = R' := by rw [advL_cons, if_pos rfl]
        rw [h3]
        unfold tot at *
        simp only [List.map_cons, List.sum_cons, List.length_cons] at ht ⊢
        omega
      have hkm : km (n + 1) (rems Ls ats) = p :: km n (adv p.1 (rems Ls ats)) := by rw [km, ← g2]
      have hk : decide (out.length + [(p.1, p.2.1, p.2.2)].length ≤ lenBound) = true := room1 (by omega)
      rw [hkm]
      dsimp only
      simp only [Bool.not_true, cond_false]
      cases hg : p.2.2 with
      | true =>
        have ih := km_loop hL hB x r n q (stepAll p.1 Ls ats) out hs (by rw [hr]; exact htot) (by omega) (by omega)
        rw [hr] at ih
        simp only [Bool.not_true, cond_false]
        rw [ih, List.filter_cons_of_neg (by rw [hg]; simp)]
      | false =>
        have ih := km_loop hL hB x r n q (stepAll p.1 Ls ats) (out ++ [p]) hs (by rw [hr]; exact htot) (by omega) (by simp; omega)
        rw [hr] at ih
        rw [hg] at hk
        have he : (p.1, p.2.1, false) = p := by rw [← hg]
        have hk2 : decide (out.length + [p].length ≤ lenBound) = true := room1 (by omega)
        simp only [Bool.not_false, cond_true, he, hk2]
        rw [ih, List.filter_cons_of_pos (by rw [hg]; rfl), List.append_assoc]
        rfl

theorem rems_zero : ∀ (Ls : List (List PairU)), rems Ls (List.replicate Ls.length 0) = Ls
  | [] => rfl
  | l :: Ls => by
    have := rems_zero Ls
    unfold rems at *
    rw [List.length_cons, List.replicate_succ, List.zipWith_cons_cons, this, List.drop_zero]

theorem imerge_ok (Ls : List (List PairU)) (hL : Ls.length ≤ 100000) (hB : ∀ l ∈ Ls, l.length ≤ 100000) (n : Nat) (hn : tot Ls ≤ n) (hn2 : n ≤ 900000) : imerge (Ls, true) = some ((km n Ls).filter fun p => !p.2.2) := by
  have c1 : decide ((0 : Int) ≤ ((Ls.length : Nat) : Int)) = true := decide_eq_true (by omega)
  have c2 : decide (((Ls.length : Nat) : Int) ≤ 4294967296) = true := decide_eq_true (by omega)
  have hz := rems_zero Ls
  have ha : AtPos Ls (List.replicate Ls.length 0) := ⟨by simp, fun i h1 h2 => by simp⟩
  have hi : List.replicate Ls.length (0 : Int) = ints (List.replicate Ls.length 0) := by simp [ints]
  have := km_loop (O := List PairU) hL hB (fun z => z.elim) some n fuel _ [] ha (by rw [hz]; exact hn) (by rw [fuel_eq]; omega) (by simp; omega)
  rw [hz] at this
  simp only [imerge, c1, c2, beq_self_eq_true, Bool.and_self, cond_true, Int.toNat_natCast, hi]
  exact this
end Go.Rx
/- Marks on disks and manifests. -/
namespace Go.Rx

theorem mtext_run {O : Type} (x : List UInt8 → Option O) (r) : ∀ (m k q : Nat) (out : List UInt8), k < 10 ^ m → k ≤ 1000000000000000000 → m < q → out.length + m ≤ 1000 → ∃ v, v.length ≤ 1000 ∧ lmarkText_L4 O q ((k : Int), out) x r = x v
  | 0, k, q + 1, out, hk, _, _, ho => by
    have : k = 0 := by simpa using hk
    subst this
    exact ⟨out, by omega, by simp [lmarkText_L4]⟩
  | m + 1, k, q + 1, out, hk, hk2, hq, ho => by
    by_cases h0 : k = 0
    · subst h0
      exact ⟨out, by omega, by simp [lmarkText_L4]⟩
    · have e1 : decide ((k : Int) > 0) = true := decide_eq_true (by omega)
      have d1 : IntKind.wrap .i64 (Int.tdiv (k : Int) 10) = ((k / 10 : Nat) : Int) := by rw [Int.tdiv_eq_ediv_of_nonneg (by omega), wrap64 (by omega) (by omega)]; omega
      have e2 : ∀ v : Int, decide ((strOf [v]).length + out.length ≤ lenBound) = true := fun v => decide_eq_true (by simp only [strOf, List.map_cons, List.map_nil, List.length_cons, List.length_nil, lenBound]; omega)
      rw [lmarkText_L4]
      simp only [e1, e2, cond_true, d1]
      exact mtext_run x r m (k / 10) q _ (by rw [Nat.pow_succ] at hk; omega) (by omega) (by omega) (by simp [strOf]; omega)
  | _, _, 0, _, _, _, h, _ => absurd h (Nat.not_lt_zero _)
theorem mtext_tot (k : Nat) (h : k ≤ 1000000000000000000) : ∃ v, lmarkText (k : Int) = some v := by
  simp only [lmarkText]
  by_cases h0 : (k : Int) ≤ 0
  · rw [decide_eq_true h0]; exact ⟨_, rfl⟩
  · rw [decide_eq_false h0]
    obtain ⟨v, h1, h2⟩ := mtext_run (O := List UInt8) (fun out3 => (cond (decide ((1 + out3.length) ≤ lenBound)) (some ([109] ++ out3)) none)) some 19 k fuel [] (by omega) h (by rw [fuel_eq]; omega) (by simp)
    rw [cond_false, h2, decide_eq_true (by unfold lenBound; omega)]
    exact ⟨_, rfl⟩
noncomputable def mt (k : Nat) : List UInt8 := (lmarkText (k : Int)).getD []
theorem mt_eq {k : Nat} (h : k ≤ 1000000000000000000) : lmarkText (k : Int) = some (mt k) := by
  obtain ⟨v, e⟩ := mtext_tot k h
  unfold mt
  rw [e]; rfl
/-- The sum over a list. -/
def nL {α : Type} (n : α → Nat) (l : List α) : Nat := (l.map n).sum
theorem nL_cons {α : Type} (n : α → Nat) (a : α) (l : List α) : nL n (a :: l) = n a + nL n l := by simp [nL]
theorem nL_map {α β : Type} (f : β → α) (n : α → Nat) (l : List β) : nL n (List.map f l) = nL (fun x => n (f x)) l := by simp [nL, Function.comp_def]
theorem nL_le {α : Type} {n : α → Nat} {c : Nat} (l : List α) (h : ∀ a ∈ l, n a ≤ c) : nL n l ≤ l.length * c := by
  induction l with
  | nil => simp [nL]
  | cons a l ih =>
    have h1 := h a (by simp)
    have h2 := ih fun x hx => h x (List.mem_cons_of_mem _ hx)
    rw [nL_cons, List.length_cons, Nat.succ_mul]
    omega
theorem nL_const {α : Type} (m : Nat) (l : List α) : nL (fun _ => m) l = m * l.length := by
  induction l with
  | nil => rfl
  | cons a l ih => rw [nL_cons, ih, List.length_cons]; rw [Nat.mul_succ]; omega

theorem runL_mk {α : Type} {ρ : Type} {n : α → Nat} {step : Nat → α → Int → (Int → ρ) → ρ} (h : ∀ i a (k : Nat) cont, k + n a ≤ 100000000000000000 → step i a (k : Int) cont = cont ((k + n a : Nat) : Int)) (fin : Int → ρ) :
    ∀ (l : List α) (i k : Nat), k + nL n l ≤ 100000000000000000 → runL step fin i l (k : Int) = fin ((k + nL n l : Nat) : Int)
  | [], i, k, _ => rfl
  | a :: l, i, k, hk => by
    rw [nL_cons] at hk ⊢
    simp only [runL]
    rw [h i a k _ (by omega)]
    have := runL_mk h fin l (i + 1) (k + n a) (by omega)
    rw [this, Nat.add_assoc]

theorem w1 {k : Nat} (h : k ≤ 200000000000000000) : IntKind.wrap .i64 ((k : Int) + 1) = ((k + 1 : Nat) : Int) := wrap_succ (by omega)

/-- F counts n. -/
def Mks {α : Type} (F : α × Int → Option Int) (n : α → Nat) : Prop := ∀ x (k : Nat), k + n x ≤ 100000000000000000 → F (x, (k : Int)) = some ((k + n x : Nat) : Int)

theorem len_nL {α : Type} {n : α → Nat} (h : ∀ a, 1 ≤ n a) (l : List α) : l.length ≤ nL n l := by
  induction l with
  | nil => simp
  | cons a l ih => have := h a; rw [nL_cons, List.length_cons]; omega


theorem mk_bytes : Mks lmarkByteSM (nL fun _ => 1) := by
  intro x k hk
  have hl := len_nL (n := fun _ => 1) (fun _ => by omega) x
  simp only [lmarkByteSM]
  have := loop0 x (by omega) (fun q i s => lmarkByteSM_L2 Int q (x, s, i) (fun k5 => (some k5)) some) (fun _ a s cont => cont (IntKind.wrap .i64 (s + 1))) some
    (fun q i hi s => by simp only [lmarkByteSM_L2]; simp [hi, wrap_succ (show i < 4611686018427387904 by omega)]) (fun q s => by simp [lmarkByteSM_L2]) (k : Int)
  rw [this, runL_mk (n := fun _ => 1) (fun i a k cont h => by rw [w1 (by omega)]) some x 0 k hk]

theorem mk_ents : Mks lmarkEntrySM (nL fun _ => 2) := by
  intro x k hk
  have hl := len_nL (n := fun _ => 2) (fun _ => by omega) x
  simp only [lmarkEntrySM]
  have := loop0 x (by omega) (fun q i s => lmarkEntrySM_L2 Int q (x, s, i) (fun k5 => (some k5)) some) (fun _ a s cont => (lmarkText s).bind fun _ => cont (IntKind.wrap .i64 (IntKind.wrap .i64 (s + 1) + 1))) some
    (fun q i hi s => by simp only [lmarkEntrySM_L2]; simp [hi, wrap_succ (show i < 4611686018427387904 by omega)]) (fun q s => by simp [lmarkEntrySM_L2]) (k : Int)
  rw [this, runL_mk (n := fun _ => 2) (fun i a k cont h => by rw [w1 (by omega), w1 (by omega), mt_eq (by omega)]; rfl) some x 0 k hk]

theorem mk_mets : Mks lmarkMetaSM (nL fun _ => 4) := by
  intro x k hk
  have hl := len_nL (n := fun _ => 4) (fun _ => by omega) x
  simp only [lmarkMetaSM]
  have := loop0 x (by omega) (fun q i s => lmarkMetaSM_L2 Int q (x, s, i) (fun k5 => (some k5)) some) (fun _ a s cont =>
      let t := IntKind.wrap .i64 (IntKind.wrap .i64 (s + 1) + 1)
      (lmarkText t).bind fun _ => (lmarkText (IntKind.wrap .i64 (t + 1))).bind fun _ => cont (IntKind.wrap .i64 (IntKind.wrap .i64 (t + 1) + 1))) some
    (fun q i hi s => by simp only [lmarkMetaSM_L2]; simp [hi, wrap_succ (show i < 4611686018427387904 by omega)]) (fun q s => by simp [lmarkMetaSM_L2]) (k : Int)
  rw [this, runL_mk (n := fun _ => 4) (fun i a k cont h => by
    dsimp only
    rw [w1 (by omega), w1 (by omega), w1 (by omega), w1 (by omega), mt_eq (by omega), mt_eq (by omega)]; rfl) some x 0 k hk]

abbrev InoS := Unit × List Unit × Unit
def nIno (c : InoS) : Nat := 2 + nL (fun _ => 1) c.2.1
theorem mk_inos : Mks lmarkInodeSM (nL nIno) := by
  intro x k hk
  have hl := len_nL (n := nIno) (fun _ => by unfold nIno; omega) x
  simp only [lmarkInodeSM]
  have := loop0 x (by omega) (fun q i s => lmarkInodeSM_L2 Int q (x, s, i) (fun k5 => (some k5)) some) (fun _ a s cont =>
      (lmarkByteSM (a.2.1, IntKind.wrap .i64 (s + 1))).bind fun r => cont (IntKind.wrap .i64 (r + 1))) some
    (fun q i hi s => by simp only [lmarkInodeSM_L2]; simp [hi, nth_nat _ _ hi, wrap_succ (show i < 4611686018427387904 by omega)]) (fun q s => by simp [lmarkInodeSM_L2]) (k : Int)
  rw [this, runL_mk (n := nIno) (fun i a k cont h => by
    unfold nIno at h ⊢
    rw [w1 (by omega), mk_bytes _ _ (by omega)]
    simp only [Option.bind_some]
    rw [w1 (by omega)]
    congr 2; omega) some x 0 k hk]

def sByte (c : Int) : Unit := (Ty.int .u8).shapeVal c
def sIno (c : InoT) : InoS := inoTy.shapeVal c
def sEnt (c : EntT) : Unit × Unit := entTy.shapeVal c
theorem n_ino (c : InoT) (h : InoP c) : nIno (sIno c) ≤ 2000000 := by
  have : nIno (sIno c) = 2 + nL (fun _ => 1) (List.map sByte c.2.1) := rfl
  unfold InoP at h
  rw [this, nL_map, nL_const]
  omega

theorem mark_disk_k (d : DiskT) (h : DiskIn d) (k : Nat) (hk : k ≤ 10000000000000000) : ∃ n : Nat, n ≤ k + 3000000000000 ∧ lmarkDiskM (diskTy.shapeVal d, (k : Int)) = some (n : Int) := by
  obtain ⟨a, b, c, e⟩ := d
  obtain ⟨b1, b2, b3, b4, _, _⟩ := h
  simp only at b1 b2 b3 b4
  have h1 := nL_le (n := fun x => nIno (sIno x)) a fun x hx => n_ino x (b4 x hx)
  have h2 : a.length * 2000000 ≤ 1048576 * 2000000 := Nat.mul_le_mul_right _ b1
  have e0 : lmarkDiskM (diskTy.shapeVal (a, b, c, e), (k : Int)) = ((lmarkInodeSM (List.map sIno a, (k : Int))).bind fun r4 => ((lmarkEntrySM (List.map sEnt b, r4)).bind fun r5 => ((lmarkEntrySM (List.map sEnt c, r5)).bind fun r6 => (some r6)))) := rfl
  rw [e0, mk_inos _ _ (by rw [nL_map]; omega), Option.bind_some, mk_ents _ _ (by rw [nL_map, nL_map, nL_const]; omega), Option.bind_some, mk_ents _ _ (by rw [nL_map, nL_map, nL_map, nL_const, nL_const]; omega)]
  rw [nL_map, nL_map, nL_map, nL_const, nL_const]
  exact ⟨_, by omega, rfl⟩
end Go.Rx
/- Scan: the law, plain. -/
namespace Go.Rx

theorem chain_asc : ∀ {l : List PairT}, chainB lessK l = true → l.Pairwise fun a b => Op.bytesLess a.1 b.1 = true
  | [], _ => List.Pairwise.nil
  | [a], _ => by simp
  | a :: b :: l, h => by
    simp only [chainB, Bool.and_eq_true] at h
    have h2 := chain_asc h.2
    refine List.pairwise_cons.2 ⟨fun x hx => ?_, h2⟩
    rcases List.mem_cons.1 hx with rfl | hx
    · exact h.1
    · exact less_trans (b := b.1) h.1 ((List.pairwise_cons.1 h2).1 x hx)


/-! ### Both scan to the same -/
theorem valid_asc {l : List PairT} (h : validL l) : Asc l := by
  have := h.2.2
  unfold risingB at this
  simp only [Bool.and_eq_true] at this
  exact chain_asc this.2

theorem mem_asc {l : List NodT} (h : memB l = true) : Asc (l.map (·.1)) := by
  unfold memB at h
  simp only [Bool.and_eq_true] at h
  have hall := (allI_iff (nodB l) l 0).1 h.1
  have hch : ∀ (i : Nat) (h1 : i + 1 < l.length), Op.bytesLess l[i].1.1 l[i + 1].1.1 = true := by
    intro i h1
    have := hall (i + 1) h1
    unfold nodB at this
    simp only [Bool.and_eq_true, Bool.or_eq_true, decide_eq_true_eq] at this
    rcases this.2.2 with h0 | h0
    · omega
    · rw [show (0 + (i + 1) - 1 : Nat) = i from by omega, nth_nat l i (by omega)] at h0
      exact h0
  refine List.pairwise_iff_getElem.2 ?_
  intro i j hi hj hij
  rw [List.length_map] at hi hj
  rw [List.getElem_map, List.getElem_map]
  have key : ∀ d (h2 : i + d + 1 < l.length), Op.bytesLess l[i].1.1 l[i + d + 1].1.1 = true := by
    intro d
    induction d with
    | zero => intro h2; exact hch i (by omega)
    | succ d ih => intro h2; exact less_trans (ih (by omega)) (hch (i + d + 1) (by omega))
  have := key (j - i - 1) (by omega)
  have e : i + (j - i - 1) + 1 = j := by omega
  simp only [e] at this
  exact this

theorem table_valid {d : DiskT} (h : DiskIn d) (hb : dByteIn d) {x : MetT} {l : List PairT} (hv : validL l) (hy : byt d (tabN x.1) = some (tableB l)) : iTablePairs (tableB l) = some (l, true) ∧ sTablePairs (tableB l) = some (l, true) := by
  have hs := stablePairs_ok l hv
  obtain ⟨hl, y, hy1, hy2⟩ := byt_len h hy
  have hB : ByteL (tableB l) := by rw [← hy2]; exact hb y hy1
  rcases table_both (tableB l) hB hl with ⟨l', _, h1, h2⟩ | ⟨_, _, _, h2⟩
  · rw [hs] at h2
    cases h2
    exact ⟨h1, hs⟩
  · rw [hs] at h2
    cases h2

/-- The tables of rows. -/
structure Tabl (d : DiskT) (L : List MetT) (Ts : List (List PairU)) : Prop where
  len : Ts.length = L.length
  row : ∀ i (h1 : i < L.length) (h2 : i < Ts.length), RowR L[i] ∧ validL Ts[i] ∧ byt d (tabN L[i].1) = some (tableB Ts[i])

theorem tabl_of {d : DiskT} (h : DiskIn d) (hb : dByteIn d) {L : List MetT} (hr : ∀ x ∈ L, RowR x ∧ rowC d x = true) : ∃ Ts, Tabl d L Ts := by
  have := @pick_list noTabs (List PairU) (fun i (l : List PairU) => ∀ h1 : i < L.length, validL l ∧ byt d (tabN L[i].1) = some (tableB l)) L.length (fun i hi => by
    obtain ⟨l, h1, h2⟩ := row_table h hb (hr _ (List.getElem_mem hi)).2
    exact ⟨l, fun _ => ⟨h1, h2⟩⟩)
  obtain ⟨Ts, h1, h2⟩ := this
  exact ⟨Ts, h1, fun i k1 k2 => ⟨(hr _ (List.getElem_mem k1)).1, h2 i k2 k1⟩⟩

section
variable {d : DiskT} (h : DiskIn d) (hb : dByteIn d) {L : List MetT} (hL : L.length ≤ 1000) {Ts : List (List PairU)} (hT : Tabl d L Ts)
include h hb hL hT

theorem iscan_loop {O : Type} (ml : List NodT) (n lg : Int) (tl : List MetT) (x : List (List PairU) → Option O) (r) : ∀ (m q i : Nat) (out : List (List PairU)), i + m = L.length → m < q → out.length ≤ i + 1 →
    iScan_L5 O q (((L.length : Nat) : Int), (i : Int), d.1, d.2.1, d.2.2.1, d.2.2.2, ml, n, lg, tl, out, L) x r = x (out ++ Ts.drop i)
  | 0, q + 1, i, out, hi, _, ho => by
    have c : decide ((i : Int) < ((L.length : Nat) : Int)) = false := decide_eq_false (by omega)
    rw [iScan_L5, List.drop_eq_nil_of_le (by rw [hT.len]; omega)]
    simp only [c, cond_false, List.append_nil]
  | m + 1, q + 1, i, out, hi, hq, ho => by
    have h1 : i < L.length := by omega
    have h2 : i < Ts.length := by rw [hT.len]; exact h1
    obtain ⟨hrow, hv, hy⟩ := hT.row i h1 h2
    have c : decide ((i : Int) < ((L.length : Nat) : Int)) = true := decide_eq_true (by omega)
    have p1 : decide ((0 : Int) ≤ (i : Int)) = true := decide_eq_true (by omega)
    have w := wrap_succ (show i < 4611686018427387904 by omega)
    have n1 := tab_i hrow.1
    have b1 := bytes_i d h (tabN L[i].1)
    rw [hy] at b1
    have b1' : iBytes ((d.1, d.2.1, d.2.2.1, d.2.2.2), tabN L[i].1) = some (tableB Ts[i], true) := b1
    have t1 := (table_valid h hb hv hy).1
    have e1 : itabPairs ((d.1, d.2.1, d.2.2.1, d.2.2.2), L[i].1) = some Ts[i] := by simp only [itabPairs, n1, b1', t1, Option.bind_some]
    have r0 : decide (out.length + [Ts[i]].length ≤ lenBound) = true := decide_eq_true (by simp only [List.length_cons, List.length_nil, lenBound]; omega)
    have ih := iscan_loop ml n lg tl x r m q (i + 1) (out ++ [Ts[i]]) (by omega) (by omega) (by simp; omega)
    rw [iScan_L5, List.drop_eq_getElem_cons h2]
    simp only [c, p1, Bool.and_self, cond_true, nth_nat L i h1, e1, Option.bind_some, r0, w]
    rw [ih, List.append_assoc]
    rfl
  | _, 0, _, _, _, h, _ => absurd h (Nat.not_lt_zero _)

theorem sall_loop {O : Type} (ml : List NodT) (n lg : Int) (tl : List MetT) (x : List PairU → Option O) (r) : ∀ (m q i : Nat) (out : List PairU), i + m = L.length → m < q → out.length ≤ 200 * i + 200 →
    sl7All_L4 O q ((i : Int), d.1, d.2.1, d.2.2.1, d.2.2.2, ml, n, lg, tl, out, L) x r = x ((Ts.drop i).foldl merge2 out)
  | 0, q + 1, i, out, hi, _, ho => by
    have c : decide ((i : Int) < ((L.length : Nat) : Int)) = false := decide_eq_false (by omega)
    rw [sl7All_L4, List.drop_eq_nil_of_le (by rw [hT.len]; omega)]
    simp only [c, cond_false, List.foldl_nil]
  | m + 1, q + 1, i, out, hi, hq, ho => by
    have h1 : i < L.length := by omega
    have h2 : i < Ts.length := by rw [hT.len]; exact h1
    obtain ⟨hrow, hv, hy⟩ := hT.row i h1 h2
    have c : decide ((i : Int) < ((L.length : Nat) : Int)) = true := decide_eq_true (by omega)
    have p1 : decide ((0 : Int) ≤ (i : Int)) = true := decide_eq_true (by omega)
    have w := wrap_succ (show i < 4611686018427387904 by omega)
    have n1 := tab_s hrow.1
    have b1 := bytes_s d h (tabN L[i].1) (tabN_ok hrow.1).1 (tabN_ok hrow.1).2
    rw [hy] at b1
    have b1' : sBytes ((d.1, d.2.1, d.2.2.1, d.2.2.2), tabN L[i].1) = some (tableB Ts[i], true) := b1
    have t1 := (table_valid h hb hv hy).2
    have hvl := hv.2.1
    have e1 := sMerge_ok out Ts[i] (by omega) (by omega)
    have hml := merge2_len out Ts[i]
    have ih := sall_loop ml n lg tl x r m q (i + 1) (merge2 out Ts[i]) (by omega) (by omega) (by omega)
    rw [sl7All_L4, List.drop_eq_getElem_cons h2, List.foldl_cons]
    simp only [c, p1, Bool.and_self, cond_true, nth_nat L i h1, n1, b1', t1, e1, Option.bind_some, w]
    exact ih
  | _, 0, _, _, _, h, _ => absurd h (Nat.not_lt_zero _)

theorem tabl_tot : tot Ts ≤ 200000 := by
  have key : ∀ (Rs : List (List PairU)), (∀ R ∈ Rs, R.length ≤ 200) → tot Rs ≤ 200 * Rs.length := by
    intro Rs
    induction Rs with
    | nil => intro _; exact Nat.le_refl _
    | cons R Rs ih =>
      intro hR
      have h1 := hR R (by simp)
      have h2 := ih fun x hx => hR x (List.mem_cons_of_mem _ hx)
      unfold tot at *
      rw [List.map_cons, List.sum_cons, List.length_cons]
      omega
  have := key Ts fun R hR => by
    obtain ⟨i, hi, rfl⟩ := List.getElem_of_mem hR
    exact (hT.row i (by rw [← hT.len]; exact hi) hi).2.1.2.1
  have e := hT.len
  omega
theorem tabl_asc : ∀ R ∈ Ts, Asc R := fun R hR => by
  obtain ⟨i, hi, rfl⟩ := List.getElem_of_mem hR
  exact valid_asc (hT.row i (by rw [← hT.len]; exact hi) hi).2.1
theorem tabl_len : ∀ R ∈ Ts, R.length ≤ 200 := fun R hR => by
  obtain ⟨i, hi, rfl⟩ := List.getElem_of_mem hR
  exact (hT.row i (by rw [← hT.len]; exact hi) hi).2.1.2.1
end

theorem fold_len : ∀ (Ts : List (List PairU)) (P : List PairU), (Ts.foldl merge2 P).length ≤ P.length + tot Ts
  | [], P => by simp [tot]
  | T :: Ts, P => by
    have h1 := fold_len Ts (merge2 P T)
    have h2 := merge2_len P T
    rw [List.foldl_cons]
    unfold tot at *
    rw [List.map_cons, List.sum_cons]
    omega

theorem scan_both (s : StoreT) (h : StoreIn s) : ∃ p : List PairU, p.length ≤ 1048576 ∧ iScan s = some p ∧ sScan s = some p := by
  obtain ⟨r, i1, s1, hr⟩ := store_both3 s h
  obtain ⟨d, ml, n, lg, tl⟩ := s
  obtain ⟨hd, hb, hm, ht⟩ := h
  simp only at hd hb hm ht hr
  cases r with
  | false =>
    obtain ⟨d0, d1, d2, d3⟩ := d
    exact ⟨[], by simp, by simp only [iScan, i1, Option.bind_some, Bool.not_false, cond_true], by simp only [sScan, s1, Option.bind_some, Bool.not_false, cond_true]⟩
  | true =>
    obtain ⟨hM, _, hN, hC⟩ := hr rfl
    obtain ⟨_, _, r3, r4⟩ := man_right hN
    simp only at r3 r4
    obtain ⟨L, o1, o2, o3, o4⟩ := order_both (l := tl) r3 n lg
    obtain ⟨Ts, hT⟩ := tabl_of hd hb (L := L) (fun x hx => ⟨r4 x (o4 x hx), List.all_eq_true.1 hC x (o4 x hx)⟩)
    have hml := memB_len hM
    have ip := imempairs_ok ml (by omega)
    have sp := smempairs_ok ml (by omega)
    have il := iscan_loop hd hb o3 hT (O := List PairU) ml n lg tl (fun lists24 => ((imerge (lists24, true)).bind fun r25 => (some r25))) some L.length fuel 0 [ml.map (·.1)] (by omega) (by rw [fuel_eq]; omega) (by simp)
    have sl := sall_loop hd hb o3 hT (O := List PairU) ml n lg tl (fun out27 => (some out27)) some L.length fuel 0 (ml.map (·.1)) (by omega) (by rw [fuel_eq]; omega) (by simp; omega)
    rw [List.drop_zero] at il sl
    have htot := tabl_tot hd hb o3 hT
    have hasc := tabl_asc hd hb o3 hT
    have hlen := tabl_len hd hb o3 hT
    have hP := mem_asc hM
    have hpl : (ml.map (·.1)).length ≤ 60 := by rw [List.length_map]; exact hml
    have htt : tot (ml.map (·.1) :: Ts) ≤ 300000 := by
      unfold tot at *
      rw [List.map_cons, List.sum_cons]
      omega
    have hms := merge_same (ml.map (·.1)) Ts hP hasc 300000 htt
    have im := imerge_ok ([ml.map (·.1)] ++ Ts) (by simp; have := hT.len; omega) (fun l hl => by
      rcases List.mem_cons.1 hl with e | e
      · rw [e]; omega
      · have := hlen l e; omega) 300000 htt (by omega)
    have hfl := fold_len Ts (ml.map (·.1))
    have st := sThere_ok (Ts.foldl merge2 (ml.map (·.1))) (by omega)
    have hkm : km 300000 ([ml.map (·.1)] ++ Ts) = Ts.foldl merge2 (ml.map (·.1)) := hms
    rw [hkm] at im
    obtain ⟨d0, d1, d2, d3⟩ := d
    refine ⟨(Ts.foldl merge2 (ml.map (·.1))).filter fun p => !p.2.2, Nat.le_trans (List.length_filter_le _ _) (by omega), ?_, ?_⟩
    · simp only [iScan, i1, ip, o1, Option.bind_some, Bool.not_true, cond_false]
      refine Eq.trans il ?_
      rw [im]
      rfl
    · have sa : sl7All ((d0, d1, d2, d3), ml, n, lg, tl) = some (Ts.foldl merge2 (ml.map (·.1))) := by
        simp only [sl7All, sp, o2, Option.bind_some]
        exact sl
      simp only [sScan, s1, sa, st, Option.bind_some, Bool.not_true, cond_false]

/-! ### The marks on what was made -/
noncomputable def mkP (k : Nat) : PairT := (mt k, mt (k + 1), ((Int.tmod ((k + 2 : Nat) : Int) 3) == 0))
noncomputable def marksP (k : Nat) : Nat → List PairT
  | 0 => []
  | d + 1 => mkP k :: marksP (k + 3) d
theorem setP (pre rest : List PairT) (v w : PairT) : List.set (pre ++ v :: rest) (Int.toNat (pre.length : Int)) w = pre ++ w :: rest := by
  rw [Int.toNat_natCast, List.set_append_right _ _ (Nat.le_refl _), Nat.sub_self]
  rfl
theorem nthP (pre rest : List PairT) (v : PairT) : nth (pre ++ v :: rest) (pre.length : Int) = v := by
  unfold nth
  rw [Int.toNat_natCast, List.getD_eq_getElem?_getD, List.getElem?_append_right (Nat.le_refl _), Nat.sub_self]
  rfl
theorem ltP (pre rest : List PairT) (v : PairT) : decide ((pre.length : Int) < (((pre ++ v :: rest).length : Nat) : Int)) = true := decide_eq_true (by simp; omega)

theorem markP_step {O : Type} (q k : Nat) (pre rest : List PairT) (v : PairT) (hk : k ≤ 10000000) (hp : pre.length ≤ 10000000) (x) (r : (Int × List PairT) → Option O) :
    lmarkPairS_L2 O (q + 1) ((k : Int), (pre.length : Int), pre ++ v :: rest) x r = lmarkPairS_L2 O q (((k + 3 : Nat) : Int), ((pre.length + 1 : Nat) : Int), pre ++ mkP k :: rest) x r := by
  have w1 := wrap_succ (show k < 4611686018427387904 by omega)
  have w2 := wrap_succ (show k + 1 < 4611686018427387904 by omega)
  have w3 := wrap_succ (show k + 1 + 1 < 4611686018427387904 by omega)
  have w5 := wrap_succ (show pre.length < 4611686018427387904 by omega)
  have e0 : decide ((0 : Int) ≤ (pre.length : Int)) = true := decide_eq_true (by omega)
  have t1 := mt_eq (k := k) (by omega)
  have t2 := mt_eq (k := k + 1) (by omega)
  rw [lmarkPairS_L2]
  simp only [ltP, e0, Bool.and_true, cond_true, setP, nthP, w1, w2, w3, w5, t1, t2, Option.bind_some]
  rfl

theorem markP_run {O : Type} (x) (r : (Int × List PairT) → Option O) : ∀ (rest pre : List PairT) (q k : Nat), k + 3 * rest.length ≤ 10000000 → pre.length + rest.length ≤ 10000000 →
    lmarkPairS_L2 O (q + rest.length + 1) ((k : Int), (pre.length : Int), pre ++ rest) x r = x (((k + 3 * rest.length : Nat) : Int), pre ++ marksP k rest.length)
  | [], pre, q, k, hk, hp => by
    rw [lmarkPairS_L2]
    simp [marksP]
  | v :: rest, pre, q, k, hk, hp => by
    simp only [List.length_cons] at hk hp ⊢
    rw [show q + (rest.length + 1) + 1 = (q + rest.length + 1) + 1 from by omega, markP_step _ _ _ _ _ (by omega) (by omega)]
    have := markP_run x r rest (pre ++ [mkP k]) q (k + 3) (by omega) (by simp; omega)
    rw [List.length_append, List.length_singleton, List.append_assoc, List.append_assoc] at this
    rw [show pre ++ mkP k :: rest = pre ++ ([mkP k] ++ rest) from rfl, this]
    rw [show k + 3 + 3 * rest.length = k + 3 * (rest.length + 1) from by omega]
    rfl

theorem heldP_run {O : Type} (x) (r : Int → Option O) : ∀ (d : Nat) (pre : List PairT) (q k : Nat), k + 3 * d ≤ 10000000 → pre.length + d ≤ 10000000 →
    lheldPairS_L2 O (q + d + 1) (pre ++ marksP k d, (k : Int), (pre.length : Int)) x r = x ((k + 3 * d : Nat) : Int)
  | 0, pre, q, k, _, _ => by
    rw [lheldPairS_L2]
    simp [marksP]
  | d + 1, pre, q, k, hk, hp => by
    have w1 := wrap_succ (show k < 4611686018427387904 by omega)
    have w2 := wrap_succ (show k + 1 < 4611686018427387904 by omega)
    have w3 := wrap_succ (show k + 1 + 1 < 4611686018427387904 by omega)
    have w5 := wrap_succ (show pre.length < 4611686018427387904 by omega)
    have e0 : decide ((0 : Int) ≤ (pre.length : Int)) = true := decide_eq_true (by omega)
    have t1 := mt_eq (k := k) (by omega)
    have t2 := mt_eq (k := k + 1) (by omega)
    have b1 : (mkP k).1 = mt k := rfl
    have b2 : (mkP k).2.1 = mt (k + 1) := rfl
    have b3 : (mkP k).2.2 = ((Int.tmod ((k + 1 + 1 : Nat) : Int) 3) == 0) := rfl
    rw [show q + (d + 1) + 1 = (q + d + 1) + 1 from by omega, marksP, lheldPairS_L2]
    simp only [ltP, e0, Bool.and_true, cond_true, nthP, w1, w2, w3, w5, t1, t2, Option.bind_some, b1, b2, b3, cond_false, beq_self_eq_true, Bool.not_true]
    have := heldP_run x r d (pre ++ [mkP k]) q (k + 3) (by omega) (by simp; omega)
    rw [List.length_append, List.length_singleton, List.append_assoc] at this
    rw [show k + 3 * (d + 1) = k + 3 + 3 * d from by omega]
    exact this

theorem fuelP (n : Nat) (h : n ≤ 1048576) : ∃ q, fuel = q + n + 1 := ⟨fuel - n - 1, by have := fuel_eq; omega⟩
theorem mark_pairs (l : List PairT) (h : l.length ≤ 1048576) : lmarkPairS (l, 1) = some (((1 + 3 * l.length : Nat) : Int), marksP 1 l.length) := by
  obtain ⟨q, hq⟩ := fuelP l.length h
  have := markP_run (O := Int × List PairT) (fun z => some z) some l [] q 1 (by omega) (by simp; omega)
  simp only [lmarkPairS, hq]
  exact this
theorem held_pairs (d : Nat) (h : d ≤ 1048576) : lheldPairS (marksP 1 d, 1) = some ((1 + 3 * d : Nat) : Int) := by
  obtain ⟨q, hq⟩ := fuelP d h
  have := heldP_run (O := Int) (fun z => some z) some d [] q 1 (by omega) (by simp; omega)
  simp only [lheldPairS, hq]
  exact this


theorem eq_prs (l : List PairU) (hl : l.length ≤ 1048576) : leqPairS (l, l) = some true := by
  simp only [leqPairS, bne_self_eq_false, cond_false]
  exact eq_gen l.length hl (fun q i => leqPairS_L4 Bool q (l, l, i) (fun _ => some true) some)
    (fun q i hi => by
      have e1 : decide ((i : Int) < ((l.length : Nat) : Int)) = true := decide_eq_true (by omega)
      have e2 : decide ((0 : Int) ≤ (i : Int)) = true := decide_eq_true (by omega)
      simp only [leqPairS_L4, leqPair, e1, e2, Option.bind_some, Bool.and_self, cond_true, beq_self_eq_true, cond_false, Bool.not_true, wrap_succ (show i < 4611686018427387904 by omega)])
    (fun q => by
      have e1 : decide (((l.length : Nat) : Int) < ((l.length : Nat) : Int)) = false := decide_eq_false (by omega)
      simp only [leqPairS_L4, e1, cond_false])

theorem mk_nods : Mks lmarkNodeSM (nL fun _ => 4) := by
  intro x k hk
  have hl := len_nL (n := fun _ => 4) (fun _ => by omega) x
  simp only [lmarkNodeSM]
  have := loop0 x (by omega) (fun q i s => lmarkNodeSM_L2 Int q (x, s, i) (fun k5 => (some k5)) some) (fun _ a s cont =>
      (lmarkText s).bind fun _ => (lmarkText (IntKind.wrap .i64 (s + 1))).bind fun _ => cont (IntKind.wrap .i64 (IntKind.wrap .i64 (IntKind.wrap .i64 (IntKind.wrap .i64 (s + 1) + 1) + 1) + 1))) some
    (fun q i hi s => by simp only [lmarkNodeSM_L2]; simp [hi, wrap_succ (show i < 4611686018427387904 by omega)]) (fun q s => by simp [lmarkNodeSM_L2]) (k : Int)
  rw [this, runL_mk (n := fun _ => 4) (fun i a k cont h => by
    rw [w1 (by omega), w1 (by omega), w1 (by omega), w1 (by omega), mt_eq (by omega), mt_eq (by omega)]; rfl) some x 0 k hk]

def sNod (c : NodT) : (Unit × Unit × Unit) × Unit := nodTy.shapeVal c
def sMet (c : MetT) : Unit × Unit × Unit × Unit := metTy.shapeVal c
theorem mark_store_k (s : StoreT) (h : StoreIn s) : ∃ n : Nat, lmarkStoreM (storeTy.shapeVal s, 1) = some (n : Int) := by
  obtain ⟨d, ml, a, b, tl⟩ := s
  obtain ⟨hd, _, hm, ht⟩ := h
  simp only at hd hm ht
  obtain ⟨n, hn, e⟩ := mark_disk_k d hd 1 (by omega)
  obtain ⟨d0, d1, d2, d3⟩ := d
  have e0 : lmarkStoreM (storeTy.shapeVal ((d0, d1, d2, d3), ml, a, b, tl), 1) = ((lmarkDiskM (diskTy.shapeVal (d0, d1, d2, d3), ((1 : Nat) : Int))).bind fun r6 => (((lmarkNodeSM (List.map sNod ml, r6)).bind fun r2 => (some r2)).bind fun r7 => (((lmarkMetaSM (List.map sMet tl, r7)).bind fun r2 => (some r2)).bind fun r8 => (some r8)))) := rfl
  rw [e0, e, Option.bind_some, mk_nods _ _ (by rw [nL_map, nL_const]; omega), Option.bind_some, Option.bind_some, mk_mets _ _ (by rw [nL_map, nL_map, nL_const, nL_const]; omega)]
  exact ⟨_, rfl⟩

/-- **The law.** -/
theorem law_scan (s : StoreT) (h : StoreG s) : lFnExactScan s = some true := by
  obtain ⟨r, e, k⟩ := sz_store s h
  have t := to_store s
  have q := eq_store s
  have b := scan_both s
  have md := mark_store_k s
  obtain ⟨⟨d0, d1, d2, d3⟩, ml, n, lg, tl⟩ := s
  simp only [lFnExactScan, e, Option.bind_some]
  rcases k with k | ⟨k, hin⟩
  · rw [decide_eq_true k]; rfl
  · obtain ⟨p, hp, b1, b2⟩ := b hin
    have t := t hin
    have q := q hin
    obtain ⟨c, hc⟩ := md hin
    simp only at t
    have hm : lmarkStoreM (Ty.shapeVal storeTy ((d0, d1, d2, d3), ml, n, lg, tl), 1) = some (c : Int) := hc
    have hc0 : decide ((c : Int) < 0) = false := decide_eq_false (by omega)
    have hn1 : decide (((1 + 3 * p.length : Nat) : Int) < 0) = false := decide_eq_false (by omega)
    have e1 := eq_prs p hp
    simp only [decide_eq_false (show ¬ r < 0 by omega), cond_false, t, Option.bind_some, b1, b2, q, e1, hm, hc0, mark_pairs p hp, held_pairs p.length hp, hn1, bne_self_eq_false, Bool.not_true]
theorem law_scan_good (s : StoreT) (h : GoodD storeTyO s) : lFnExactScan s = some true := law_scan s (good_store s h)
end Go.Rx
