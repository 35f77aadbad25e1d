import Derived.Test.YtecdihlfbncedaaGreatDoorFScan1
import Derived.Lib.ItoaLen
import Derived.Lib.SplitLaws
import Derived.Lib.AtoiAll
set_option linter.all false
/- The manifest's text, by both: plain. -/
namespace Go.Rx

abbrev MetT := Int × Int × List UInt8 × List UInt8
abbrev ManT := Int × Int × List MetT

/-! ### Numbers as texts -/
theorem text_ok : ∀ (q n : Nat), n < 10 ^ (q + 1) → n ≤ 1000000000 → sl6TextN (q + 1) (n : Int) = some (Lib.decDigits n) := by
  intro q
  induction q with
  | zero =>
    intro n h hn
    have h10 : n < 10 := by simpa using h
    have e1 : decide ((n : Int) < 10) = true := decide_eq_true (by omega)
    have w1 : IntKind.wrap .i64 (48 + (n : Int)) = ((48 + n : Nat) : Int) := by rw [wrap64 (by omega) (by omega)]; omega
    have w2 : IntKind.wrap .u8 ((48 + n : Nat) : Int) = ((48 + n : Nat) : Int) := IntWalk.u8_in _ (by omega)
    rw [Lib.decDigits_one h10]
    simp only [sl6TextN, e1, cond_true, w1, w2, strOf, List.map_cons, List.map_nil, Int.toNat_natCast]
  | succ q ih =>
    intro n h hn
    by_cases h10 : n < 10
    · have e1 : decide ((n : Int) < 10) = true := decide_eq_true (by omega)
      have w1 : IntKind.wrap .i64 (48 + (n : Int)) = ((48 + n : Nat) : Int) := by rw [wrap64 (by omega) (by omega)]; omega
      have w2 : IntKind.wrap .u8 ((48 + n : Nat) : Int) = ((48 + n : Nat) : Int) := IntWalk.u8_in _ (by omega)
      rw [Lib.decDigits_one h10, sl6TextN]
      simp only [e1, cond_true, w1, w2, strOf, List.map_cons, List.map_nil, Int.toNat_natCast]
    · have e1 : decide ((n : Int) < 10) = false := decide_eq_false (by omega)
      have d1 : Int.tdiv (n : Int) 10 = ((n / 10 : Nat) : Int) := by rw [Int.tdiv_eq_ediv_of_nonneg (by omega)]; omega
      have d2 : Int.tmod (n : Int) 10 = ((n % 10 : Nat) : Int) := by rw [Int.tmod_eq_emod_of_nonneg (by omega)]; omega
      have w0 : IntKind.wrap .i64 ((n / 10 : Nat) : Int) = ((n / 10 : Nat) : Int) := wrap64 (by omega) (by omega)
      have w1 : IntKind.wrap .i64 (48 + ((n % 10 : Nat) : Int)) = ((48 + n % 10 : Nat) : Int) := by rw [wrap64 (by omega) (by omega)]; omega
      have w2 : IntKind.wrap .u8 ((48 + n % 10 : Nat) : Int) = ((48 + n % 10 : Nat) : Int) := IntWalk.u8_in _ (by omega)
      have ih := ih (n / 10) (by rw [Nat.pow_succ] at h; omega) (by omega)
      have hl : (Lib.decDigits (n / 10)).length ≤ 21 := by
        have := Lib.itoa_length_le ((n / 10 : Nat) : Int) (by omega) (by omega)
        unfold Lib.itoa at this
        rwa [if_neg (by omega), Int.toNat_natCast] at this
      have e2 : decide ((Lib.decDigits (n / 10)).length + (strOf [((48 + n % 10 : Nat) : Int)]).length ≤ lenBound) = true := decide_eq_true (by simp [strOf, lenBound]; omega)
      rw [Lib.decDigits, dif_neg h10, sl6TextN]
      simp only [e1, cond_false, d1, d2, w0, ih, Option.bind_some, w1, w2, e2, cond_true]
      simp only [strOf, List.map_cons, List.map_nil, Int.toNat_natCast]

theorem itoa_len {n : Int} (h : 0 ≤ n ∧ n ≤ 100000) : (Lib.itoa n).length ≤ 21 := Lib.itoa_length_le n (by omega) (by omega)
theorem text_itoa {n : Int} (h : 0 ≤ n ∧ n ≤ 100000) : sl6Text n = some (Lib.itoa n) ∧ xItoa n = some (Lib.itoa n) := by
  obtain ⟨k, rfl⟩ : ∃ k : Nat, n = (k : Int) := ⟨n.toNat, by omega⟩
  refine ⟨?_, by unfold xItoa; rw [if_pos (by omega)]⟩
  have : Lib.itoa (k : Int) = Lib.decDigits k := by unfold Lib.itoa; rw [if_neg (by omega), Int.toNat_natCast]
  rw [this]
  have hp : k < 10 ^ 30 := Nat.lt_of_lt_of_le (show k < 10 ^ 6 by omega) (Nat.pow_le_pow_right (by omega) (by omega))
  exact text_ok 29 k hp (by omega)

/-! ### Digits of bytes -/
def hexD : List UInt8 := [48, 49, 50, 51, 52, 53, 54, 55, 56, 57, 97, 98, 99, 100, 101, 102]
def hexP (b : UInt8) : List Int := [(((UInt8.toNat (nth hexD (Int.fdiv ((b.toNat : Nat) : Int) 16))) : Nat) : Int), (((UInt8.toNat (nth hexD (bits .and .u8 ((b.toNat : Nat) : Int) 15))) : Nat) : Int)]
def hexL (s : List UInt8) : List Int := (s.map hexP).flatten

theorem nib (b : UInt8) : (0 ≤ Int.fdiv ((b.toNat : Nat) : Int) 16 ∧ Int.fdiv ((b.toNat : Nat) : Int) 16 < 16) ∧ (0 ≤ bits .and .u8 ((b.toNat : Nat) : Int) 15 ∧ bits .and .u8 ((b.toNat : Nat) : Int) 15 < 16) := by
  have hb := b.toNat_lt
  constructor
  · rw [Int.fdiv_eq_ediv_of_nonneg _ (by omega)]
    omega
  · have h1 : (BitVec.ofInt 8 ((b.toNat : Nat) : Int) &&& BitVec.ofInt 8 15).toNat ≤ 15 := by
      rw [BitVec.toNat_and]
      exact Nat.le_trans Nat.and_le_right (by decide)
    have h2 : bits .and .u8 ((b.toNat : Nat) : Int) 15 = (((BitVec.ofInt 8 ((b.toNat : Nat) : Int) &&& BitVec.ofInt 8 15).toNat : Nat) : Int) := by
      show IntKind.wrap .u8 (((BitVec.ofInt 8 ((b.toNat : Nat) : Int) &&& BitVec.ofInt 8 15).toNat : Nat) : Int) = _
      exact IntWalk.u8_in _ (by omega)
    rw [h2]
    omega

theorem hexL_len : ∀ s : List UInt8, (hexL s).length = 2 * s.length
  | [] => rfl
  | a :: s => by
    have := hexL_len s
    unfold hexL at *
    simp only [List.map_cons, List.flatten_cons, List.length_append, List.length_cons, this]
    simp [hexP]
    omega

theorem hexL_snoc (s : List UInt8) (a : UInt8) : hexL (s ++ [a]) = hexL s ++ hexP a := by simp [hexL]

theorem hex_s (s : List UInt8) (h : s.length ≤ 1000) : sl6Hex s = some (strOf (hexL s)) := by
  simp only [sl6Hex]
  have key : ∀ (m q i : Nat), i + m = s.length → m < q → sl6Hex_L4 (List UInt8) q (s, hexD, (i : Int), hexL (s.take i)) (fun out5 => (some (strOf out5))) some = some (strOf (hexL s)) := by
    intro m
    induction m with
    | zero =>
      intro q i he hq
      obtain ⟨q, rfl⟩ : ∃ q', q = q' + 1 := ⟨q - 1, by omega⟩
      have : i = s.length := by omega
      subst this
      have e1 : decide (((s.length : Nat) : Int) < ((s.length : Nat) : Int)) = false := decide_eq_false (by omega)
      simp only [sl6Hex_L4, e1, cond_false, List.take_length]
    | succ m ih =>
      intro q i he hq
      obtain ⟨q, rfl⟩ : ∃ q', q = q' + 1 := ⟨q - 1, by omega⟩
      have hi : i < s.length := by omega
      obtain ⟨⟨n1, n2⟩, n3, n4⟩ := nib s[i]
      have e1 : decide ((i : Int) < ((s.length : Nat) : Int)) = true := decide_eq_true (by omega)
      have e2 : decide ((0 : Int) ≤ (i : Int)) = true := decide_eq_true (by omega)
      have e3 : (decide ((0 : Int) ≤ Int.fdiv ((s[i].toNat : Nat) : Int) 16) && decide (Int.fdiv ((s[i].toNat : Nat) : Int) 16 < ((hexD.length : Nat) : Int))) = true := by rw [decide_eq_true n1, decide_eq_true (show _ < ((hexD.length : Nat) : Int) from n2)]; rfl
      have e4 : (decide ((0 : Int) ≤ bits .and .u8 ((s[i].toNat : Nat) : Int) 15) && decide (bits .and .u8 ((s[i].toNat : Nat) : Int) 15 < ((hexD.length : Nat) : Int))) = true := by rw [decide_eq_true n3, decide_eq_true (show _ < ((hexD.length : Nat) : Int) from n4)]; rfl
      have hlen := hexL_len (s.take i)
      rw [List.length_take] at hlen
      have e5 : ∀ y z : Int, decide ((hexL (s.take i)).length + [y, z].length ≤ lenBound) = true := fun y z => decide_eq_true (by rw [hlen]; simp [lenBound]; omega)
      have ih := ih q (i + 1) (by omega) (by omega)
      rw [List.take_succ_eq_append_getElem hi, hexL_snoc] at ih
      simp only [sl6Hex_L4, e1, e2, Bool.and_self, cond_true, nth_nat s i hi, e3, e4, e5, wrap_succ (show i < 4611686018427387904 by omega)]
      exact ih
  exact key s.length fuel 0 (by omega) (by rw [fuel_eq]; omega)

theorem hex_i (s : List UInt8) (h : s.length ≤ 1000) : ihex s = some (strOf (hexL s)) := by
  simp only [ihex]
  have key : ∀ (m q i : Nat), i + m = s.length → m < q → ihex_L3 (List UInt8) q (s, (i : Int), hexL (s.take i)) (fun out5 => (some (strOf out5))) some = some (strOf (hexL s)) := by
    intro m
    induction m with
    | zero =>
      intro q i he hq
      obtain ⟨q, rfl⟩ : ∃ q', q = q' + 1 := ⟨q - 1, by omega⟩
      have : i = s.length := by omega
      subst this
      have e1 : decide (((s.length : Nat) : Int) < ((s.length : Nat) : Int)) = false := decide_eq_false (by omega)
      simp only [ihex_L3, e1, cond_false, List.take_length]
    | succ m ih =>
      intro q i he hq
      obtain ⟨q, rfl⟩ : ∃ q', q = q' + 1 := ⟨q - 1, by omega⟩
      have hi : i < s.length := by omega
      obtain ⟨⟨n1, n2⟩, n3, n4⟩ := nib s[i]
      have e1 : decide ((i : Int) < ((s.length : Nat) : Int)) = true := decide_eq_true (by omega)
      have e2 : decide ((0 : Int) ≤ (i : Int)) = true := decide_eq_true (by omega)
      have e3 : (decide ((0 : Int) ≤ Int.fdiv ((s[i].toNat : Nat) : Int) 16) && decide (Int.fdiv ((s[i].toNat : Nat) : Int) 16 < 16)) = true := by rw [decide_eq_true n1, decide_eq_true n2]; rfl
      have e4 : (decide ((0 : Int) ≤ bits .and .u8 ((s[i].toNat : Nat) : Int) 15) && decide (bits .and .u8 ((s[i].toNat : Nat) : Int) 15 < 16)) = true := by rw [decide_eq_true n3, decide_eq_true n4]; rfl
      have hlen := hexL_len (s.take i)
      rw [List.length_take] at hlen
      have e5 : ∀ y z : Int, decide ((hexL (s.take i)).length + [y, z].length ≤ lenBound) = true := fun y z => decide_eq_true (by rw [hlen]; simp [lenBound]; omega)
      have ih := ih q (i + 1) (by omega) (by omega)
      rw [List.take_succ_eq_append_getElem hi, hexL_snoc] at ih
      simp only [ihex_L3, e1, e2, Bool.and_self, cond_true, nth_nat s i hi, e3, e4, e5, wrap_succ (show i < 4611686018427387904 by omega)]
      exact ih
  exact key s.length fuel 0 (by omega) (by rw [fuel_eq]; omega)

/-! ### Right manifests -/
theorem sIn (x a b : Int) : sl1In (x, a, b) = some (decide (x ≥ a) && decide (x ≤ b)) := by
  simp only [sl1In]; cases decide (x ≥ a) <;> rfl
theorem iIn (x a b : Int) : iin (x, a, b) = some (decide (x ≥ a) && decide (x ≤ b)) := by
  simp only [iin]; cases decide (x ≥ a) <;> rfl

def inZ (x a b : Int) : Bool := decide (x ≥ a) && decide (x ≤ b)
def leK (a b : List UInt8) : Bool := Op.bytesLess a b || a == b
def metB (m0 : Int) (x : MetT) : Bool := inZ x.1 1 (IntKind.wrap .i64 (m0 - 1)) && (inZ x.2.1 0 3 && (inZ ((x.2.2.1.length : Nat) : Int) 1 20 && (inZ ((x.2.2.2.length : Nat) : Int) 1 20 && leK x.2.2.1 x.2.2.2)))

theorem met_s (m : ManT) (x : MetT) : sl6Meta (m, x) = some (metB m.1 x) := by
  obtain ⟨m0, m1, m2⟩ := m
  obtain ⟨a, b, c, d⟩ := x
  simp only [sl6Meta, sl6Key, sIn, Option.bind_some, metB, inZ, leK]
  cases (decide (a ≥ 1) && decide (a ≤ IntKind.wrap .i64 (m0 - 1))) <;> cases (decide (b ≥ 0) && decide (b ≤ 3)) <;> cases (decide (((c.length : Nat) : Int) ≥ 1) && decide (((c.length : Nat) : Int) ≤ 20)) <;> cases (decide (((d.length : Nat) : Int) ≥ 1) && decide (((d.length : Nat) : Int) ≤ 20)) <;> rfl
theorem met_i (m : ManT) (x : MetT) : imetaOk (m, x) = some (metB m.1 x) := by
  obtain ⟨m0, m1, m2⟩ := m
  obtain ⟨a, b, c, d⟩ := x
  simp only [imetaOk, ikeyOk, iIn, Option.bind_some, metB, inZ, leK]
  cases (decide (a ≥ 1) && decide (a ≤ IntKind.wrap .i64 (m0 - 1))) <;> cases (decide (b ≥ 0) && decide (b ≤ 3)) <;> cases (decide (((c.length : Nat) : Int) ≥ 1) && decide (((c.length : Nat) : Int) ≤ 20)) <;> cases (decide (((d.length : Nat) : Int) ≥ 1) && decide (((d.length : Nat) : Int) ≤ 20)) <;> rfl

/-- Two of one level that meet. -/
def clash (x y : MetT) : Bool := decide (x.2.1 > 0) && ((y.2.1 == x.2.1) && (leK y.2.2.1 x.2.2.2 && leK x.2.2.1 y.2.2.2))

theorem clash_s {O : Type} (m0 m1 : Int) (l : List MetT) (hl : l.length ≤ 1048576) (i : Nat) (hi : i < l.length) (v1 : Int) (v2 v3 v4 : Bool) (x) (r : Bool → Option O) :
    sManOk_L10 O fuel ((i : Int), 0, v1, v2, v3, v4, m0, m1, l, l[i]) x r = cond ((l.take i).all fun y => !(clash l[i] y)) (x ((i : Int), v1, v2, v3, v4, m0, m1, l)) (r false) := by
  have := loop0 (l.take i) (by rw [List.length_take]; omega) (fun q k (_ : Unit) => sManOk_L10 O q ((i : Int), k, v1, v2, v3, v4, m0, m1, l, l[i]) x r) (fun _ y s k => cond (!(clash l[i] y)) (k s) (r false)) (fun _ => x ((i : Int), v1, v2, v3, v4, m0, m1, l))
    (fun q k hk s => by
      rw [List.length_take] at hk
      have hkl : k < l.length := by omega
      have e1 : decide ((k : Int) < (i : Int)) = true := decide_eq_true (by omega)
      have e2 : decide ((0 : Int) ≤ (k : Int)) = true := decide_eq_true (by omega)
      have e3 : decide ((k : Int) < ((l.length : Nat) : Int)) = true := decide_eq_true (by omega)
      rw [List.getElem_take]
      simp only [sManOk_L10, e1, e2, e3, Bool.and_self, cond_true, nth_nat l k hkl, wrap_succ (show k < 4611686018427387904 by omega), clash, leK]
      cases decide (l[i].2.1 > 0) <;> cases (l[k].2.1 == l[i].2.1) <;> cases (Op.bytesLess l[k].2.2.1 l[i].2.2.2 || l[k].2.2.1 == l[i].2.2.2) <;> cases (Op.bytesLess l[i].2.2.1 l[k].2.2.2 || l[i].2.2.1 == l[k].2.2.2) <;> rfl)
    (fun q s => by
      have e0 : (l.take i).length = i := by rw [List.length_take]; omega
      rw [e0]
      have e1 : decide ((i : Int) < (i : Int)) = false := decide_eq_false (by omega)
      simp only [sManOk_L10, e1, cond_false]) ()
  rw [this, runL_all]

theorem beq_swap (a b : Int) : (a == b) = (b == a) := by rw [Bool.eq_iff_iff, beq_iff_eq, beq_iff_eq]; exact eq_comm

theorem clash_i {O : Type} (m0 m1 : Int) (l : List MetT) (xx : MetT) (u : List MetT) (hu : u.length ≤ 1048576) (v1 : List MetT) (v2 v3 v4 : Int) (v5 v6 v7 : Bool) (x) (r : Bool → Option O) :
    iManOk_L7 O fuel (v1, v2, v3, v4, v5, v6, v7, u, ((u.length : Nat) : Int), 0, m0, m1, l, xx) x r = cond (u.all fun y => !(clash xx y)) (x (v1, v2, v3, v4, v5, v6, v7, m0, m1, l)) (r false) := by
  have := loop0 u (by omega) (fun q k (_ : Unit) => iManOk_L7 O q (v1, v2, v3, v4, v5, v6, v7, u, ((u.length : Nat) : Int), k, m0, m1, l, xx) x r) (fun _ y s k => cond (!(clash xx y)) (k s) (r false)) (fun _ => x (v1, v2, v3, v4, v5, v6, v7, m0, m1, l))
    (fun q k hk s => by
      have e1 : decide ((k : Int) < ((u.length : Nat) : Int)) = true := decide_eq_true (by omega)
      have e2 : decide ((0 : Int) ≤ (k : Int)) = true := decide_eq_true (by omega)
      simp only [iManOk_L7, e1, e2, Bool.and_self, cond_true, nth_nat u k hk, wrap_succ (show k < 4611686018427387904 by omega), clash, leK, imeets, beq_swap xx.2.1]
      cases decide (xx.2.1 > 0) <;> cases (u[k].2.1 == xx.2.1) <;> cases (Op.bytesLess u[k].2.2.1 xx.2.2.2 || u[k].2.2.1 == xx.2.2.2) <;> cases (Op.bytesLess xx.2.2.1 u[k].2.2.2 || xx.2.2.1 == u[k].2.2.2) <;> rfl)
    (fun q s => by
      have e1 : decide (((u.length : Nat) : Int) < ((u.length : Nat) : Int)) = false := decide_eq_false (by omega)
      simp only [iManOk_L7, e1, cond_false]) ()
  rw [this, runL_all]

/-- One row of a manifest. -/
def rowOk (m0 : Int) (l : List MetT) (i : Nat) (x : MetT) : Bool := metB m0 x && ((decide (i = 0) || !(decide ((nth l ((i - 1 : Nat) : Int)).1 ≥ x.1))) && ((l.take i).all fun y => !(clash x y)))

theorem rows_s (m0 m1 : Int) (l : List MetT) (hl : l.length ≤ 1048576) : sManOk_L4 Bool fuel (0, m0, m1, l) (fun _ => some true) some = some (allI (rowOk m0 l) 0 l) := by
  have := loop0 l (by omega) (fun q i (_ : Unit) => sManOk_L4 Bool q (i, m0, m1, l) (fun _ => some true) some) (fun i x s k => cond (rowOk m0 l i x) (k s) (some false)) (fun _ => some true)
    (fun q i hi s => by
      have e1 : decide ((i : Int) < ((l.length : Nat) : Int)) = true := decide_eq_true (by omega)
      have e2 : decide ((0 : Int) ≤ (i : Int)) = true := decide_eq_true (by omega)
      have e3 : sl6Meta ((m0, m1, l), (nth l (i : Int)).1, (nth l (i : Int)).2.1, (nth l (i : Int)).2.2.1, (nth l (i : Int)).2.2.2) = some (metB m0 l[i]) := by rw [nth_nat l i hi]; exact met_s (m0, m1, l) l[i]
      simp only [sManOk_L4, e1, e2, e3, Bool.and_self, cond_true, Option.bind_some]
      unfold rowOk
      cases metB m0 l[i] with
      | false => rfl
      | true =>
        rcases Nat.eq_zero_or_pos i with h0 | h0
        · subst h0
          have c1 : decide (((0 : Nat) : Int) > 0) = false := rfl
          simp only [Bool.not_true, cond_false, c1, Option.bind_some, nth_nat l 0 hi]
          rw [clash_s m0 m1 l hl 0 hi]
          simp only [wrap_succ (show 0 < 4611686018427387904 by omega)]
          simp
        · have c1 : decide ((i : Int) > 0) = true := decide_eq_true (by omega)
          have c2 : decide ((0 : Int) ≤ ((i - 1 : Nat) : Int)) = true := decide_eq_true (by omega)
          have c3 : decide (((i - 1 : Nat) : Int) < ((l.length : Nat) : Int)) = true := decide_eq_true (by omega)
          have c4 : decide (i = 0) = false := decide_eq_false (by omega)
          simp only [Bool.not_true, cond_false, c1, cond_true, wrap_pred (show i < 4611686018427387904 by omega) h0, c2, c3, Bool.and_self, nth_nat l i hi, c4, Bool.false_or, Bool.true_and]
          cases decide ((nth l ((i - 1 : Nat) : Int)).1 ≥ l[i].1) with
          | true => rfl
          | false =>
            simp only [cond_false, Option.bind_some]
            rw [clash_s m0 m1 l hl i hi]
            simp only [wrap_succ (show i < 4611686018427387904 by omega), Bool.not_false, Bool.true_and]) (fun q s => by simp [sManOk_L4]) ()
  refine this.trans ?_
  rw [runL_allI]
  cases allI (rowOk m0 l) 0 l <;> rfl

theorem rows_i {x : (Int × Int × List MetT) → Option Bool} (m0 m1 : Int) (l : List MetT) (hl : l.length ≤ 1048576) : iManOk_L2 Bool fuel (l, ((l.length : Nat) : Int), 0, m0, m1, l) x some = cond (allI (rowOk m0 l) 0 l) (x (m0, m1, l)) (some false) := by
  have := loop0 l (by omega) (fun q i (_ : Unit) => iManOk_L2 Bool q (l, ((l.length : Nat) : Int), i, m0, m1, l) x some) (fun i y s k => cond (rowOk m0 l i y) (k s) (some false)) (fun _ => x (m0, m1, l))
    (fun q i hi s => by
      have e1 : decide ((i : Int) < ((l.length : Nat) : Int)) = true := decide_eq_true (by omega)
      have e2 : decide ((0 : Int) ≤ (i : Int)) = true := decide_eq_true (by omega)
      have e3 : imetaOk ((m0, m1, l), (nth l (i : Int)).1, (nth l (i : Int)).2.1, (nth l (i : Int)).2.2.1, (nth l (i : Int)).2.2.2) = some (metB m0 l[i]) := by rw [nth_nat l i hi]; exact met_i (m0, m1, l) l[i]
      have e4 : decide ((i : Int) ≤ ((l.length : Nat) : Int)) = true := decide_eq_true (by omega)
      have e5 : cut l 0 (i : Int) = l.take i := by simp [cut]
      have e6 : (l.take i).length ≤ 1048576 := by rw [List.length_take]; omega
      simp only [iManOk_L2, e1, e2, e3, Bool.and_self, cond_true, Option.bind_some]
      unfold rowOk
      cases metB m0 l[i] with
      | false => rfl
      | true =>
        rcases Nat.eq_zero_or_pos i with h0 | h0
        · subst h0
          have c1 : decide (((0 : Nat) : Int) > 0) = false := rfl
          simp only [Bool.not_true, cond_false, c1, Option.bind_some, nth_nat l 0 hi, e2, e4, Bool.and_self, cond_true, e5]
          rw [clash_i m0 m1 l l[0] (l.take 0) e6]
          simp only [wrap_succ (show 0 < 4611686018427387904 by omega)]
          simp
        · have c1 : decide ((i : Int) > 0) = true := decide_eq_true (by omega)
          have c2 : decide ((0 : Int) ≤ ((i - 1 : Nat) : Int)) = true := decide_eq_true (by omega)
          have c3 : decide (((i - 1 : Nat) : Int) < ((l.length : Nat) : Int)) = true := decide_eq_true (by omega)
          have c4 : decide (i = 0) = false := decide_eq_false (by omega)
          simp only [Bool.not_true, cond_false, c1, cond_true, wrap_pred (show i < 4611686018427387904 by omega) h0, c2, c3, Bool.and_self, nth_nat l i hi, c4, Bool.false_or, Bool.true_and]
          cases decide ((nth l ((i - 1 : Nat) : Int)).1 ≥ l[i].1) with
          | true => rfl
          | false =>
            simp only [cond_false, Option.bind_some, e2, e4, Bool.and_self, cond_true, e5]
            rw [clash_i m0 m1 l l[i] (l.take i) e6]
            simp only [wrap_succ (show i < 4611686018427387904 by omega), Bool.not_false, Bool.true_and]) (fun q s => by simp [iManOk_L2]) ()
  refine this.trans ?_
  rw [runL_allI]

def manB (m : ManT) : Bool := inZ m.1 1 100000 && (inZ m.2.1 0 (IntKind.wrap .i64 (m.1 - 1)) && (decide (m.2.2.length ≤ 20) && allI (rowOk m.1 m.2.2) 0 m.2.2))

theorem man_s (m : ManT) (hl : m.2.2.length ≤ 1048576) : sManOk m = some (manB m) := by
  obtain ⟨m0, m1, l⟩ := m
  have e20 : decide (((l.length : Nat) : Int) > 20) = !decide (l.length ≤ 20) := by rw [Bool.eq_iff_iff]; simp; omega
  simp only [sManOk, sIn, Option.bind_some, manB, inZ, e20, rows_s m0 m1 l hl]
  cases (decide (m0 ≥ 1) && decide (m0 ≤ 100000)) <;> cases (decide (m1 ≥ 0) && decide (m1 ≤ IntKind.wrap .i64 (m0 - 1))) <;> cases decide (l.length ≤ 20) <;> rfl

theorem man_i (m : ManT) (hl : m.2.2.length ≤ 1048576) : iManOk m = some (manB m) := by
  obtain ⟨m0, m1, l⟩ := m
  have e20 : decide (((l.length : Nat) : Int) ≤ 20) = decide (l.length ≤ 20) := by rw [Bool.eq_iff_iff]; simp; omega
  simp only [iManOk, rows_i m0 m1 l hl, iIn, Option.bind_some, manB, inZ, e20]
  cases allI (rowOk m0 l) 0 l <;> cases (decide (m0 ≥ 1) && decide (m0 ≤ 100000)) <;> cases (decide (m1 ≥ 0) && decide (m1 ≤ IntKind.wrap .i64 (m0 - 1))) <;> cases decide (l.length ≤ 20) <;> rfl
end Go.Rx
/- The manifest's law: plain. -/
namespace Go.Rx

abbrev metTy : Ty := .pair (.int .i64) (.pair (.int .i64) (.pair .str .str))
abbrev manTy : Ty := .pair (.int .i64) (.pair (.int .i64) (.sl metTy))

/-- what lies in memory -/
def memOk {α : Type} (l : List α) : Prop := l.length ≤ 9223372036854775807
theorem mem_of {α : Type} {l : List α} (h : l.length ≤ maxLen) : memOk l := h

/-! ### Sizes -/
/-! ### Copies and likeness -/
theorem runL_skip {α : Type} {σ : Type} {ρ : Type} (fin : σ → ρ) : ∀ (l : List α) (i : Nat) (s : σ), runL (fun _ _ s k => k s) fin i l s = fin s
  | [], _, _ => rfl
  | _ :: l, i, s => runL_skip fin l (i + 1) s

theorem eq_meta (x : MetT) : leqMeta (x, x) = some true := by obtain ⟨a, b, c, d⟩ := x; simp [leqMeta]
theorem eq_metas (l : List MetT) (h : l.length ≤ 1048576) : leqMetaS (l, l) = some true := by
  simp only [leqMetaS]
  have := loop0 l (by omega) (fun q i (_ : Unit) => leqMetaS_L4 Bool q (l, l, i) (fun _ => some true) some) (fun _ _ s k => k s) (fun _ => some true)
    (fun q i hi s => by simp only [leqMetaS_L4]; simp [hi, nth_nat _ _ hi, wrap_succ (show i < 4611686018427387904 by omega), eq_meta l[i]]) (fun q s => by simp [leqMetaS_L4]) ()
  simp [this, runL_skip]
theorem eq_man (a : ManT) (h : a.2.2.length ≤ 1048576) : leqManifest (a, a) = some true := by
  obtain ⟨a0, a1, l⟩ := a
  simp [leqManifest, eq_metas l h]

/-! ### The text -/
/-- What a right row needs. -/
def RowR (x : MetT) : Prop := (0 ≤ x.1 ∧ x.1 ≤ 100000) ∧ (0 ≤ x.2.1 ∧ x.2.1 ≤ 100000) ∧ x.2.2.1.length ≤ 20 ∧ x.2.2.2.length ≤ 20
def hexS (s : List UInt8) : List UInt8 := strOf (hexL s)
theorem hexS_len (s : List UInt8) : (hexS s).length = 2 * s.length := by unfold hexS strOf; rw [List.length_map, hexL_len]
def rowT (x : MetT) : List UInt8 := [116, 97, 98, 32] ++ (Lib.itoa x.1 ++ ([32] ++ (Lib.itoa x.2.1 ++ ([32] ++ (hexS x.2.2.1 ++ ([32] ++ (hexS x.2.2.2 ++ [10])))))))
theorem rowT_len {x : MetT} (h : RowR x) : (rowT x).length ≤ 200 := by
  obtain ⟨h1, h2, h3, h4⟩ := h
  have l1 := itoa_len h1
  have l2 := itoa_len h2
  have l3 := hexS_len x.2.2.1
  have l4 := hexS_len x.2.2.2
  simp only [rowT, List.length_append, List.length_cons, List.length_nil]
  omega

/-- A loop that adds rows, as long as what is there is short. -/
theorem add_run {O : Type} (T : MetT → List UInt8) (l : List MetT) (hl : l.length ≤ 20) (hT : ∀ x ∈ l, (T x).length ≤ 200) (g : Nat → Int → List UInt8 → Option O) (fin : List UInt8 → Option O)
    (h1 : ∀ q (i : Nat) (hi : i < l.length) s, s.length ≤ 10000 → g (q + 1) (i : Int) s = g q ((i + 1 : Nat) : Int) (s ++ T l[i]))
    (h2 : ∀ q s, g (q + 1) ((l.length : Nat) : Int) s = fin s) (s : List UInt8) (hs : s.length ≤ 1000) : g fuel 0 s = fin (s ++ (l.map T).flatten) := by
  have key : ∀ (m q i : Nat) (s : List UInt8), i + m = l.length → m < q → s.length ≤ 1000 + 200 * i → g q (i : Int) s = fin (s ++ ((l.drop i).map T).flatten) := by
    intro m
    induction m with
    | zero =>
      intro q i s he hq hs
      obtain ⟨q, rfl⟩ : ∃ q', q = q' + 1 := ⟨q - 1, by omega⟩
      have : i = l.length := by omega
      subst this
      rw [h2, List.drop_length]
      simp
    | succ m ih =>
      intro q i s he hq hs
      obtain ⟨q, rfl⟩ : ∃ q', q = q' + 1 := ⟨q - 1, by omega⟩
      have hi : i < l.length := by omega
      have hx := hT l[i] (List.getElem_mem hi)
      rw [h1 q i hi s (by omega), ih q (i + 1) (s ++ T l[i]) (by omega) (by omega) (by rw [List.length_append]; omega), List.drop_eq_getElem_cons hi]
      simp only [List.map_cons, List.flatten_cons, List.append_assoc]
  have := key l.length fuel 0 s (by omega) (by rw [fuel_eq]; omega) (by omega)
  simpa using this

theorem okLen {n : Nat} (h : n ≤ 100000) : decide (n ≤ lenBound) = true := decide_eq_true (by unfold lenBound; omega)

theorem rows_text_s (m0 m1 : Int) (l : List MetT) (hl : l.length ≤ 20) (hr : ∀ x ∈ l, RowR x) (x : List UInt8 → Option (List UInt8)) (s : List UInt8) (hs : s.length ≤ 1000) :
    sManText_L5 (List UInt8) fuel (s, 0, m0, m1, l) x some = x (s ++ (l.map rowT).flatten) := by
  refine add_run rowT l hl (fun y hy => rowT_len (hr y hy)) (fun q i s => sManText_L5 (List UInt8) q (s, i, m0, m1, l) x some) x (fun q i hi s hs => ?_) (fun q s => by simp [sManText_L5]) s hs
  have e1 : decide ((i : Int) < ((l.length : Nat) : Int)) = true := decide_eq_true (by omega)
  have e2 : decide ((0 : Int) ≤ (i : Int)) = true := decide_eq_true (by omega)
  obtain ⟨g1, g2, g3, g4⟩ := hr l[i] (List.getElem_mem hi)
  have l1 := itoa_len g1
  have l2 := itoa_len g2
  have l3 := hexS_len l[i].2.2.1
  have l4 := hexS_len l[i].2.2.2
  have t1 := (text_itoa g1).1
  have t2 := (text_itoa g2).1
  have t3 : sl6Hex l[i].2.2.1 = some (hexS l[i].2.2.1) := hex_s _ (by omega)
  have t4 : sl6Hex l[i].2.2.2 = some (hexS l[i].2.2.2) := hex_s _ (by omega)
  simp only [sManText_L5, rowT, e1, e2, Bool.and_self, cond_true, nth_nat l i hi, t1, t2, t3, t4, Option.bind_some, wrap_succ (show i < 4611686018427387904 by omega)]
  generalize Lib.itoa l[i].1 = a at *
  generalize Lib.itoa l[i].2.1 = b at *
  generalize hexS l[i].2.2.1 = c at *
  generalize hexS l[i].2.2.2 = d at *
  have k1 : decide (s.length + 4 ≤ lenBound) = true := okLen (by omega)
  have k2 : decide ((s ++ [116, 97, 98, 32]).length + a.length ≤ lenBound) = true := okLen (by simp only [List.length_append, List.length_cons, List.length_nil]; omega)
  have k3 : decide ((s ++ [116, 97, 98, 32] ++ a).length + 1 ≤ lenBound) = true := okLen (by simp only [List.length_append, List.length_cons, List.length_nil]; omega)
  have k4 : decide ((s ++ [116, 97, 98, 32] ++ a ++ [32]).length + b.length ≤ lenBound) = true := okLen (by simp only [List.length_append, List.length_cons, List.length_nil]; omega)
  have k5 : decide ((s ++ [116, 97, 98, 32] ++ a ++ [32] ++ b).length + 1 ≤ lenBound) = true := okLen (by simp only [List.length_append, List.length_cons, List.length_nil]; omega)
  have k6 : decide ((s ++ [116, 97, 98, 32] ++ a ++ [32] ++ b ++ [32]).length + c.length ≤ lenBound) = true := okLen (by simp only [List.length_append, List.length_cons, List.length_nil]; omega)
  have k7 : decide ((s ++ [116, 97, 98, 32] ++ a ++ [32] ++ b ++ [32] ++ c).length + 1 ≤ lenBound) = true := okLen (by simp only [List.length_append, List.length_cons, List.length_nil]; omega)
  have k8 : decide ((s ++ [116, 97, 98, 32] ++ a ++ [32] ++ b ++ [32] ++ c ++ [32]).length + d.length ≤ lenBound) = true := okLen (by simp only [List.length_append, List.length_cons, List.length_nil]; omega)
  have k9 : decide ((s ++ [116, 97, 98, 32] ++ a ++ [32] ++ b ++ [32] ++ c ++ [32] ++ d).length + 1 ≤ lenBound) = true := okLen (by simp only [List.length_append, List.length_cons, List.length_nil]; omega)
  simp only [k1, k2, k3, k4, k5, k6, k7, k8, k9, cond_true]
  simp only [List.append_assoc]

theorem rows_text_i (l : List MetT) (hl : l.length ≤ 20) (hr : ∀ x ∈ l, RowR x) (x : List UInt8 → Option (List UInt8)) (s : List UInt8) (hs : s.length ≤ 1000) :
    iManText_L5 (List UInt8) fuel (s, l, ((l.length : Nat) : Int), 0) x some = x (s ++ (l.map rowT).flatten) := by
  refine add_run rowT l hl (fun y hy => rowT_len (hr y hy)) (fun q i s => iManText_L5 (List UInt8) q (s, l, ((l.length : Nat) : Int), i) x some) x (fun q i hi s hs => ?_) (fun q s => by simp [iManText_L5]) s hs
  have e1 : decide ((i : Int) < ((l.length : Nat) : Int)) = true := decide_eq_true (by omega)
  have e2 : decide ((0 : Int) ≤ (i : Int)) = true := decide_eq_true (by omega)
  obtain ⟨g1, g2, g3, g4⟩ := hr l[i] (List.getElem_mem hi)
  have l1 := itoa_len g1
  have l2 := itoa_len g2
  have l3 := hexS_len l[i].2.2.1
  have l4 := hexS_len l[i].2.2.2
  have t1 := (text_itoa g1).2
  have t2 := (text_itoa g2).2
  have t3 : ihex l[i].2.2.1 = some (hexS l[i].2.2.1) := hex_i _ (by omega)
  have t4 : ihex l[i].2.2.2 = some (hexS l[i].2.2.2) := hex_i _ (by omega)
  simp only [iManText_L5, rowT, e1, e2, Bool.and_self, cond_true, nth_nat l i hi, t1, t2, t3, t4, Option.bind_some, wrap_succ (show i < 4611686018427387904 by omega)]
  generalize Lib.itoa l[i].1 = a at *
  generalize Lib.itoa l[i].2.1 = b at *
  generalize hexS l[i].2.2.1 = c at *
  generalize hexS l[i].2.2.2 = d at *
  have k1 : decide (4 + a.length ≤ lenBound) = true := okLen (by omega)
  have k3 : decide (([116, 97, 98, 32] ++ a).length + 1 ≤ lenBound) = true := okLen (by simp only [List.length_append, List.length_cons, List.length_nil]; omega)
  have k4 : decide (([116, 97, 98, 32] ++ a ++ [32]).length + b.length ≤ lenBound) = true := okLen (by simp only [List.length_append, List.length_cons, List.length_nil]; omega)
  have k5 : decide (([116, 97, 98, 32] ++ a ++ [32] ++ b).length + 1 ≤ lenBound) = true := okLen (by simp only [List.length_append, List.length_cons, List.length_nil]; omega)
  have k6 : decide (([116, 97, 98, 32] ++ a ++ [32] ++ b ++ [32]).length + c.length ≤ lenBound) = true := okLen (by simp only [List.length_append, List.length_cons, List.length_nil]; omega)
  have k7 : decide (([116, 97, 98, 32] ++ a ++ [32] ++ b ++ [32] ++ c).length + 1 ≤ lenBound) = true := okLen (by simp only [List.length_append, List.length_cons, List.length_nil]; omega)
  have k8 : decide (([116, 97, 98, 32] ++ a ++ [32] ++ b ++ [32] ++ c ++ [32]).length + d.length ≤ lenBound) = true := okLen (by simp only [List.length_append, List.length_cons, List.length_nil]; omega)
  have k9 : decide (([116, 97, 98, 32] ++ a ++ [32] ++ b ++ [32] ++ c ++ [32] ++ d).length + 1 ≤ lenBound) = true := okLen (by simp only [List.length_append, List.length_cons, List.length_nil]; omega)
  have k10 : decide (s.length + ([116, 97, 98, 32] ++ a ++ [32] ++ b ++ [32] ++ c ++ [32] ++ d ++ [10]).length ≤ lenBound) = true := okLen (by simp only [List.length_append, List.length_cons, List.length_nil]; omega)
  simp only [k1, k3, k4, k5, k6, k7, k8, k9, k10, cond_true]
  simp only [List.append_assoc]

/-- Of a right manifest. -/
theorem man_right {m : ManT} (h : manB m = true) : (0 ≤ m.1 ∧ m.1 ≤ 100000) ∧ (0 ≤ m.2.1 ∧ m.2.1 ≤ 100000) ∧ m.2.2.length ≤ 20 ∧ ∀ x ∈ m.2.2, RowR x := by
  obtain ⟨m0, m1, l⟩ := m
  simp only [manB, inZ, Bool.and_eq_true, decide_eq_true_eq] at h
  obtain ⟨⟨a1, a2⟩, ⟨b1, b2⟩, c, d⟩ := h
  rw [wrap64 (by omega) (by omega)] at b2
  refine ⟨⟨by omega, by omega⟩, ⟨b1, by show m1 ≤ _; omega⟩, c, fun x hx => ?_⟩
  change x ∈ l at hx
  obtain ⟨j, hj, rfl⟩ := List.getElem_of_mem hx
  have := (allI_iff _ _ _).1 d j hj
  simp only [rowOk, metB, inZ, Bool.and_eq_true, decide_eq_true_eq] at this
  obtain ⟨⟨⟨e1, e2⟩, ⟨f1, f2⟩, ⟨_, g⟩, ⟨_, g'⟩, _⟩, _⟩ := this
  rw [wrap64 (by omega) (by omega)] at e2
  exact ⟨⟨by omega, by omega⟩, ⟨by omega, by omega⟩, by omega, by omega⟩

def manT (m : ManT) : List UInt8 := cond (manB m) ([110, 101, 120, 116, 32] ++ (Lib.itoa m.1 ++ ([32, 108, 111, 103, 32] ++ (Lib.itoa m.2.1 ++ ([10] ++ ((m.2.2.map rowT).flatten ++ [101, 110, 100, 10])))))) []

theorem rowsT_len (l : List MetT) (hr : ∀ x ∈ l, RowR x) : ((l.map rowT).flatten).length ≤ 200 * l.length := by
  induction l with
  | nil => simp
  | cons a l ih =>
    have := ih fun x hx => hr x (by simp [hx])
    have h1 := rowT_len (hr a (by simp))
    simp only [List.map_cons, List.flatten_cons, List.length_append, List.length_cons]
    omega

theorem text_s (m : ManT) (hl : m.2.2.length ≤ 1048576) : sManText m = some (manT m) := by
  obtain ⟨m0, m1, l⟩ := m
  simp only [sManText, man_s (m0, m1, l) hl, Option.bind_some, manT]
  cases hb : manB (m0, m1, l) with
  | false => rfl
  | true =>
    obtain ⟨g1, g2, g3, g4⟩ := man_right hb
    dsimp only at g1 g2 g3 g4
    have l1 := itoa_len g1
    have l2 := itoa_len g2
    have l3 := rowsT_len l g4
    simp only [(text_itoa g1).1, (text_itoa g2).1, Option.bind_some, Bool.not_true, cond_false, cond_true]
    generalize Lib.itoa m0 = a at *
    generalize Lib.itoa m1 = b at *
    have k1 : decide (5 + a.length ≤ lenBound) = true := okLen (by omega)
    have k2 : decide (([110, 101, 120, 116, 32] ++ a).length + 5 ≤ lenBound) = true := okLen (by simp only [List.length_append, List.length_cons, List.length_nil]; omega)
    have k3 : decide (([110, 101, 120, 116, 32] ++ a ++ [32, 108, 111, 103, 32]).length + b.length ≤ lenBound) = true := okLen (by simp only [List.length_append, List.length_cons, List.length_nil]; omega)
    have k4 : decide (([110, 101, 120, 116, 32] ++ a ++ [32, 108, 111, 103, 32] ++ b).length + 1 ≤ lenBound) = true := okLen (by simp only [List.length_append, List.length_cons, List.length_nil]; omega)
    simp only [k1, k2, k3, k4, cond_true]
    rw [rows_text_s m0 m1 l g3 g4 _ _ (by simp only [List.length_append, List.length_cons, List.length_nil]; omega)]
    have k5 : decide (([110, 101, 120, 116, 32] ++ a ++ [32, 108, 111, 103, 32] ++ b ++ [10] ++ (l.map rowT).flatten).length + 4 ≤ lenBound) = true := okLen (by simp only [List.length_append, List.length_cons, List.length_nil]; omega)
    simp only [k5, cond_true]
    simp only [List.append_assoc]

theorem text_i (m : ManT) (hl : m.2.2.length ≤ 1048576) : iManText m = some (manT m) := by
  obtain ⟨m0, m1, l⟩ := m
  simp only [iManText, man_i (m0, m1, l) hl, Option.bind_some, manT]
  cases hb : manB (m0, m1, l) with
  | false => rfl
  | true =>
    obtain ⟨g1, g2, g3, g4⟩ := man_right hb
    dsimp only at g1 g2 g3 g4
    have l1 := itoa_len g1
    have l2 := itoa_len g2
    have l3 := rowsT_len l g4
    simp only [(text_itoa g1).2, (text_itoa g2).2, Option.bind_some, Bool.not_true, cond_false, cond_true]
    generalize Lib.itoa m0 = a at *
    generalize Lib.itoa m1 = b at *
    have k1 : decide (5 + a.length ≤ lenBound) = true := okLen (by omega)
    have k2 : decide (([110, 101, 120, 116, 32] ++ a).length + 5 ≤ lenBound) = true := okLen (by simp only [List.length_append, List.length_cons, List.length_nil]; omega)
    have k3 : decide (([110, 101, 120, 116, 32] ++ a ++ [32, 108, 111, 103, 32]).length + b.length ≤ lenBound) = true := okLen (by simp only [List.length_append, List.length_cons, List.length_nil]; omega)
    have k4 : decide (([110, 101, 120, 116, 32] ++ a ++ [32, 108, 111, 103, 32] ++ b).length + 1 ≤ lenBound) = true := okLen (by simp only [List.length_append, List.length_cons, List.length_nil]; omega)
    simp only [k1, k2, k3, k4, cond_true]
    rw [rows_text_i l g3 g4 _ _ (by simp only [List.length_append, List.length_cons, List.length_nil]; omega)]
    have k5 : decide (([110, 101, 120, 116, 32] ++ a ++ [32, 108, 111, 103, 32] ++ b ++ [10] ++ (l.map rowT).flatten).length + 4 ≤ lenBound) = true := okLen (by simp only [List.length_append, List.length_cons, List.length_nil]; omega)
    simp only [k5, cond_true]
    simp only [List.append_assoc]

/-! ### The law -/
end Go.Rx
/- Splitting at a byte; numbers as texts and back: plain. -/
namespace Go.Rx
open Go.Lib

def spl (c : UInt8) : List UInt8 → List (List UInt8)
  | [] => [[]]
  | b :: l => if b = c then [] :: spl c l else match spl c l with
    | [] => [[b]]
    | w :: ws => (b :: w) :: ws

theorem spl_none (c : UInt8) : ∀ a : List UInt8, (∀ b ∈ a, b ≠ c) → spl c a = [a]
  | [], _ => rfl
  | b :: a, h => by
    have ih := spl_none c a (fun x hx => h x (by simp [hx]))
    simp [spl, ih, h b (by simp)]

theorem spl_app (c : UInt8) (s : List UInt8) : ∀ a : List UInt8, (∀ b ∈ a, b ≠ c) → spl c (a ++ c :: s) = a :: spl c s
  | [], _ => by simp [spl]
  | b :: a, h => by
    have ih := spl_app c s a (fun x hx => h x (by simp [hx]))
    simp [spl, ih, h b (by simp)]

theorem spl_len (c : UInt8) : ∀ l : List UInt8, (spl c l).length ≤ l.length + 1
  | [] => by simp [spl]
  | b :: l => by
    have ih := spl_len c l
    unfold spl
    split
    · simp; omega
    · split
      · simp
      · rename_i h; rw [h] at ih; simp at ih ⊢; omega

theorem spl_part (c : UInt8) : ∀ (l : List UInt8) (w : List UInt8), w ∈ spl c l → w.length ≤ l.length
  | [], w, h => by simp [spl] at h; simp [h]
  | b :: l, w, h => by
    have ih := spl_part c l
    unfold spl at h
    split at h
    · rcases List.mem_cons.1 h with rfl | h
      · simp
      · have := ih w h; simp; omega
    · split at h
      · simp at h; simp [h]
      · rename_i w0 ws e
        rcases List.mem_cons.1 h with rfl | h
        · have := ih w0 (by rw [e]; simp); simp; omega
        · have := ih w (by rw [e]; simp [h]); simp; omega

theorem split_spl (c : UInt8) : ∀ s : List UInt8, Lib.split s [c] = spl c s
  | [] => by unfold Lib.split; rw [count_one]; rfl
  | b :: l => by
    have ih := split_spl c l
    unfold Lib.split at ih ⊢
    rw [count_one] at ih ⊢
    by_cases h : b = c
    · subst h
      have hix : index (b :: l) [b] = ((0 : Nat) : Int) := by rw [index]; simp [List.isPrefixOf]
      rw [List.count_cons_self, splitK, hix]
      simp [spl, ih]
    · have hp : ([c] : List UInt8).isPrefixOf (b :: l) = false := by simp [List.isPrefixOf, Ne.symm h]
      have hix : index (b :: l) [c] = if index l [c] == -1 then -1 else index l [c] + 1 := by rw [index, hp]; simp
      rw [List.count_cons_of_ne (by simpa using h)]
      simp only [spl, if_neg h]
      rw [← ih]
      cases hk : l.count c with
      | zero => simp [splitK]
      | succ k =>
        have hm : index l [c] ≠ -1 := by
          intro hm
          have := count_miss hm
          rw [count_one] at this
          omega
        have hge := index_ge l [c]
        obtain ⟨j, hj⟩ : ∃ j : Nat, index l [c] = j := ⟨(index l [c]).toNat, by omega⟩
        have hix' : index (b :: l) [c] = ((j + 1 : Nat) : Int) := by rw [hix, if_neg (fun e => hm (beq_iff_eq.1 e)), hj]; omega
        have e1 : (((j + 1 : Nat) : Int) == -1) = false := by simp; omega
        have e2 : ((j : Int) == -1) = false := by simp
        rw [splitK, splitK, hix', hj, e1, e2]
        simp

/-! ### Numbers -/
def numV (acc : Nat) (l : List UInt8) : Nat := l.foldl (fun a b => a * 10 + (b.toNat - 48)) acc
def allDig (l : List UInt8) : Prop := ∀ b ∈ l, 48 ≤ b.toNat ∧ b.toNat ≤ 57

theorem ofNat_dig {d : Nat} (h : d < 10) : (UInt8.ofNat (48 + d)).toNat = 48 + d := by rw [UInt8.toNat_ofNat']; omega

theorem dec_digits : ∀ u : Nat, allDig (decDigits u)
  | u => by
    rw [decDigits]
    split
    · rename_i h
      intro b hb
      simp only [List.mem_singleton] at hb
      subst hb
      rw [ofNat_dig h]; omega
    · intro b hb
      rcases List.mem_append.1 hb with hb | hb
      · exact dec_digits (u / 10) b hb
      · simp only [List.mem_singleton] at hb
        subst hb
        rw [ofNat_dig (Nat.mod_lt _ (by omega))]
        omega
termination_by u => u
decreasing_by omega

theorem dec_val : ∀ u : Nat, numV 0 (decDigits u) = u
  | u => by
    rw [decDigits]
    split
    · rename_i h
      simp only [numV, List.foldl_cons, List.foldl_nil, ofNat_dig h]
      omega
    · have ih := dec_val (u / 10)
      unfold numV at ih ⊢
      rw [List.foldl_append, ih]
      simp only [List.foldl_cons, List.foldl_nil]
      rw [ofNat_dig (Nat.mod_lt _ (by omega))]
      omega
termination_by u => u
decreasing_by omega

theorem dec_ne (u : Nat) : decDigits u ≠ [] := by
  rw [decDigits]
  split <;> simp

theorem dec_len : ∀ (k u : Nat), u < 10 ^ (k + 1) → (decDigits u).length ≤ k + 1
  | 0, u, h => by
    rw [decDigits, dif_pos (by simpa using h)]
    simp
  | k + 1, u, h => by
    rw [decDigits]
    split
    · simp
    · have := dec_len k (u / 10) (by rw [Nat.pow_succ] at h; omega)
      simp
      omega

theorem parse_dig : ∀ (l : List UInt8) (acc : Nat), allDig l → (acc + 1) * 10 ^ l.length ≤ 10 ^ 18 → parseUint10 acc l = .ok (numV acc l)
  | [], acc, _, _ => rfl
  | c :: r, acc, h, hb => by
    have hc := h c (by simp)
    have hpow : 1 ≤ 10 ^ r.length := Nat.one_le_pow _ _ (by omega)
    have hb2 : ((acc * 10 + (c.toNat - 48)) + 1) * 10 ^ r.length ≤ 10 ^ 18 := by
      refine Nat.le_trans (Nat.mul_le_mul_right _ (show _ ≤ (acc + 1) * 10 by omega)) ?_
      rw [List.length_cons, Nat.pow_succ] at hb
      rw [Nat.mul_assoc, Nat.mul_comm 10]
      exact hb
    have hsm : acc * 10 + (c.toNat - 48) + 1 ≤ 10 ^ 18 := Nat.le_trans (Nat.le_mul_of_pos_right _ (by omega)) hb2
    have ih := parse_dig r (acc * 10 + (c.toNat - 48)) (fun b hb => h b (by simp [hb])) hb2
    rw [parseUint10, if_pos hc, if_neg (by omega), if_neg (by omega), ih]
    rfl

theorem itoa_nat (k : Nat) : Lib.itoa (k : Int) = decDigits k := by unfold Lib.itoa; rw [if_neg (by omega), Int.toNat_natCast]
theorem itoa_dig {n : Int} (h : 0 ≤ n) : allDig (Lib.itoa n) := by
  obtain ⟨k, rfl⟩ : ∃ k : Nat, n = (k : Int) := ⟨n.toNat, by omega⟩
  rw [itoa_nat]; exact dec_digits k
theorem itoa_len6 {n : Int} (h : 0 ≤ n ∧ n ≤ 100000) : 1 ≤ (Lib.itoa n).length ∧ (Lib.itoa n).length ≤ 6 := by
  obtain ⟨k, rfl⟩ : ∃ k : Nat, n = (k : Int) := ⟨n.toNat, by omega⟩
  rw [itoa_nat]
  refine ⟨?_, dec_len 5 k (by omega)⟩
  have := dec_ne k
  cases hd : decDigits k with
  | nil => exact absurd hd this
  | cons a l => simp
theorem itoa_val {n : Int} (h : 0 ≤ n) : ((numV 0 (Lib.itoa n) : Nat) : Int) = n := by
  obtain ⟨k, rfl⟩ : ∃ k : Nat, n = (k : Int) := ⟨n.toNat, by omega⟩
  rw [itoa_nat, dec_val]

theorem atoi_itoa {n : Int} (h : 0 ≤ n ∧ n ≤ 100000) : Lib.atoiAll (Lib.itoa n) = .ok n := by
  have hd := itoa_dig h.1
  have hl := itoa_len6 h
  have hv := itoa_val h.1
  cases hi : Lib.itoa n with
  | nil => rw [hi] at hl; simp at hl
  | cons c r =>
    rw [hi] at hd hv hl
    have hc := hd c (by simp)
    have hp : 10 ^ (c :: r).length ≤ 10 ^ 6 := Nat.pow_le_pow_right (by omega) hl.2
    have hb : (0 + 1) * 10 ^ (c :: r).length ≤ 10 ^ 18 := by omega
    have := parse_dig (c :: r) 0 hd hb
    simp only [atoiAll, parseMag]
    rw [if_neg (show ¬ (c.toNat = 43 ∨ c.toNat = 45) by omega), if_neg (by simp), this]
    simp only [show ¬ (c.toNat = 45) by omega, not_false_eq_true, true_and, false_and, if_false]
    rw [if_neg (by omega), hv]
end Go.Rx
/- Words, numbers, bytes in digits: what the two readers' helpers compute. -/
namespace Go.Rx

theorem nth_mid {p cur rest : List UInt8} {b : UInt8} {i : Nat} (h : i = p.length + cur.length) : nth (p ++ (cur ++ b :: rest)) (i : Int) = b := by
  subst h
  unfold nth
  rw [Int.toNat_natCast, List.getD_eq_getElem?_getD, ← List.append_assoc, List.getElem?_append_right (by simp)]
  simp
theorem cut_mid {p cur rest : List UInt8} : cut (p ++ (cur ++ rest)) (p.length : Int) ((p.length + cur.length : Nat) : Int) = cur := by
  unfold cut
  rw [Int.toNat_natCast, Int.toNat_natCast, ← List.append_assoc, ← List.length_append, List.take_left, List.drop_left]

theorem sp_run {O : Type} (c : UInt8) (x : (List (List UInt8)) → Option O) (r) : ∀ (rest p cur : List UInt8) (out : List (List UInt8)) (q : Nat), (∀ b ∈ cur, b ≠ c) → p.length + cur.length + rest.length ≤ 1048576 → out.length + rest.length ≤ 1048576 →
    sl6Split_L4 O (q + rest.length + 2) (p ++ (cur ++ rest), ((c.toNat : Nat) : Int), (p.length : Int), ((p.length + cur.length : Nat) : Int), out) x r = x (out ++ spl c (cur ++ rest))
  | [], p, cur, out, q, hc, hl, ho => by
    rw [List.length_nil, Nat.add_zero, sl6Split_L4]
    have hlen : (p ++ (cur ++ [])).length = p.length + cur.length := by simp
    have e1 : decide (((p.length + cur.length : Nat) : Int) ≤ (((p ++ (cur ++ [])).length : Nat) : Int)) = true := by rw [hlen]; simp
    have e2 : (((p.length + cur.length : Nat) : Int) == (((p ++ (cur ++ [])).length : Nat) : Int)) = true := by rw [hlen]; simp
    have d1 : decide ((0 : Int) ≤ (p.length : Int)) = true := decide_eq_true (by omega)
    have d2 : decide ((p.length : Int) ≤ ((p.length + cur.length : Nat) : Int)) = true := decide_eq_true (by omega)
    have e4 : decide (out.length + [cur].length ≤ lenBound) = true := decide_eq_true (by simp only [lenBound, List.length_cons, List.length_nil]; simp at ho; omega)
    have e5 : decide (((p.length + cur.length + 1 : Nat) : Int) ≤ (((p ++ (cur ++ [])).length : Nat) : Int)) = false := by rw [hlen]; simp; omega
    simp only [e1, e2, cond_true, Option.bind_some, d1, d2, Bool.and_true, e4, wrap_succ (show p.length + cur.length < 4611686018427387904 by omega), cut_mid]
    rw [sl6Split_L4]
    simp only [e5, cond_false]
    rw [spl_none c (cur ++ []) (by simpa using hc), List.append_nil]
  | b :: rest, p, cur, out, q, hc, hl, ho => by
    simp only [List.length_cons] at hl ho
    rw [show q + (b :: rest).length + 2 = (q + rest.length + 2) + 1 from by simp; omega, sl6Split_L4]
    have hlen : (p ++ (cur ++ b :: rest)).length = p.length + cur.length + 1 + rest.length := by simp; omega
    have e1 : decide (((p.length + cur.length : Nat) : Int) ≤ (((p ++ (cur ++ b :: rest)).length : Nat) : Int)) = true := by rw [hlen]; simp; omega
    have e2 : (((p.length + cur.length : Nat) : Int) == (((p ++ (cur ++ b :: rest)).length : Nat) : Int)) = false := by rw [hlen]; simp; omega
    have e3 : (decide ((0 : Int) ≤ ((p.length + cur.length : Nat) : Int)) && decide (((p.length + cur.length : Nat) : Int) < (((p ++ (cur ++ b :: rest)).length : Nat) : Int))) = true := by rw [hlen]; simp; omega
    simp only [e1, e2, cond_true, cond_false, e3, nth_mid rfl, Option.bind_some]
    by_cases hb : b = c
    · subst hb
      have e4 : (((b.toNat : Nat) : Int) == ((b.toNat : Nat) : Int)) = true := by simp
      have d1 : decide ((0 : Int) ≤ (p.length : Int)) = true := decide_eq_true (by omega)
      have d2 : decide ((p.length : Int) ≤ ((p.length + cur.length : Nat) : Int)) = true := decide_eq_true (by omega)
      have e6 : decide (out.length + [cur].length ≤ lenBound) = true := decide_eq_true (by simp only [lenBound, List.length_cons, List.length_nil]; omega)
      simp only [e4, cond_true, d1, d2, Bool.and_true, e6, cut_mid, wrap_succ (show p.length + cur.length < 4611686018427387904 by omega)]
      have ih := sp_run (O := O) b x r rest (p ++ cur ++ [b]) [] (out ++ [cur]) q (by simp) (by simp; omega) (by simp; omega)
      have h1 : p ++ cur ++ [b] ++ ([] ++ rest) = p ++ (cur ++ b :: rest) := by simp
      have h2 : (p ++ cur ++ [b]).length = p.length + cur.length + 1 := by simp; omega
      rw [h1, h2, List.length_nil, Nat.add_zero] at ih
      rw [ih, spl_app b rest cur hc, List.nil_append, List.append_assoc]
      rfl
    · have e4 : (((b.toNat : Nat) : Int) == ((c.toNat : Nat) : Int)) = false := by
        rw [beq_eq_false_iff_ne]
        intro h
        exact hb (UInt8.toNat_inj.1 (by omega))
      simp only [e4, cond_false, wrap_succ (show p.length + cur.length < 4611686018427387904 by omega)]
      have ih := sp_run (O := O) c x r rest p (cur ++ [b]) out q (by intro d hd; rcases List.mem_append.1 hd with hd | hd; exact hc d hd; simp at hd; subst hd; exact hb) (by simp; omega) (by omega)
      have h1 : p ++ (cur ++ [b] ++ rest) = p ++ (cur ++ b :: rest) := by simp
      have h2 : cur ++ [b] ++ rest = cur ++ b :: rest := by simp
      rw [h1, h2, List.length_append] at ih
      exact ih

theorem split_s (c : UInt8) (s : List UInt8) (h : s.length ≤ 1048576) : sl6Split (s, ((c.toNat : Nat) : Int)) = some (spl c s) := by
  unfold sl6Split
  have := sp_run (O := List (List UInt8)) c (fun out13 => some out13) some s [] [] [] (fuel - s.length - 2) (by simp) (by simpa using h) (by simpa using h)
  have hf : fuel - s.length - 2 + s.length + 2 = fuel := by rw [fuel_eq]; omega
  rw [hf] at this
  simpa using this

theorem split_i (c : UInt8) (s : List UInt8) (h : s.length ≤ 1048576) : xSplit (s, [c]) = some (spl c s) := by
  unfold xSplit
  rw [if_pos ⟨by simp only; omega, by simp⟩, split_spl]

/-! ### Numbers -/
theorem byteIn (b : UInt8) : IntKind.wrap .i64 ((b.toNat : Nat) : Int) = ((b.toNat : Nat) : Int) := by
  have := b.toNat_lt
  exact wrap64 (by omega) (by omega)

theorem num_tot (s : List UInt8) (hs : s.length ≤ 6) : ∀ (m q i : Nat) (n : Int), i + m = s.length → m < q → ∃ v, sl6Number_L5 Int q (s, n, (i : Int)) (fun n6 => some n6) some = some v
  | 0, q + 1, i, n, he, _ => by
    have : decide ((i : Int) < ((s.length : Nat) : Int)) = false := by simp; omega
    rw [sl6Number_L5]
    simp only [this, cond_false]
    exact ⟨_, rfl⟩
  | m + 1, q + 1, i, n, he, hq => by
    have e1 : decide ((i : Int) < ((s.length : Nat) : Int)) = true := by simp; omega
    have e2 : (decide ((0 : Int) ≤ (i : Int)) && decide ((i : Int) < ((s.length : Nat) : Int))) = true := by simp; omega
    rw [sl6Number_L5]
    simp only [e1, e2, cond_true, sIn, Option.bind_some, wrap_succ (show i < 4611686018427387904 by omega)]
    cases (!(decide (IntKind.wrap .i64 ((UInt8.toNat (nth s (i : Int)) : Nat) : Int) ≥ 48) && decide (IntKind.wrap .i64 ((UInt8.toNat (nth s (i : Int)) : Nat) : Int) ≤ 57))) with
    | true => exact ⟨_, rfl⟩
    | false => exact num_tot s hs m q (i + 1) _ (by omega) (by omega)
  | _, 0, _, _, _, h => absurd h (Nat.not_lt_zero _)

theorem number_tot (s : List UInt8) : ∃ v, sl6Number s = some v := by
  unfold sl6Number
  simp only [sIn, Option.bind_some]
  by_cases h : ((s.length : Nat) : Int) ≥ 1 ∧ ((s.length : Nat) : Int) ≤ 6
  · have hb : (!(decide (((s.length : Nat) : Int) ≥ 1) && decide (((s.length : Nat) : Int) ≤ 6))) = false := by simp only [h.1, h.2, decide_true, Bool.and_true, Bool.not_true]
    rw [hb]
    exact num_tot s (by omega) s.length fuel 0 0 (by omega) (by rw [fuel_eq]; omega)
  · have hb : (!(decide (((s.length : Nat) : Int) ≥ 1) && decide (((s.length : Nat) : Int) ≤ 6))) = true := by
      simp only [Bool.not_eq_true', Bool.and_eq_false_iff, decide_eq_false_iff_not]
      by_cases h1 : ((s.length : Nat) : Int) ≥ 1
      · exact .inr fun h2 => h ⟨h1, h2⟩
      · exact .inl h1
    rw [hb]
    exact ⟨_, rfl⟩

theorem num_dig (s : List UInt8) (hd : allDig s) (hs : s.length ≤ 6) : ∀ (m q i n : Nat), i + m = s.length → m < q → (n + 1) * 10 ^ m ≤ 10 ^ 18 → sl6Number_L5 Int q (s, (n : Int), (i : Int)) (fun n6 => some n6) some = some ((numV n (s.drop i) : Nat) : Int)
  | 0, q + 1, i, n, he, _, _ => by
    have : decide ((i : Int) < ((s.length : Nat) : Int)) = false := by simp; omega
    rw [sl6Number_L5]
    simp only [this, cond_false, List.drop_eq_nil_of_le (show s.length ≤ i by omega)]
    rfl
  | m + 1, q + 1, i, n, he, hq, hb => by
    have hi : i < s.length := by omega
    have e1 : decide ((i : Int) < ((s.length : Nat) : Int)) = true := by simp; omega
    have e2 : (decide ((0 : Int) ≤ (i : Int)) && decide ((i : Int) < ((s.length : Nat) : Int))) = true := by simp; omega
    have hc := hd s[i] (List.getElem_mem hi)
    have hpow : 1 ≤ 10 ^ m := Nat.one_le_pow _ _ (by omega)
    have hb2 : ((n * 10 + (s[i].toNat - 48)) + 1) * 10 ^ m ≤ 10 ^ 18 := by
      refine Nat.le_trans (Nat.mul_le_mul_right _ (show _ ≤ (n + 1) * 10 by omega)) ?_
      rw [Nat.pow_succ] at hb
      rw [Nat.mul_assoc, Nat.mul_comm 10]
      exact hb
    have hsm : n * 10 + (s[i].toNat - 48) + 1 ≤ 10 ^ 18 := Nat.le_trans (Nat.le_mul_of_pos_right _ (by omega)) hb2
    have w1 : IntKind.wrap .u8 (((s[i].toNat : Nat) : Int) - 48) = ((s[i].toNat - 48 : Nat) : Int) := by rw [IntWalk.u8_in _ (by omega)]; omega
    have w2 : IntKind.wrap .i64 ((s[i].toNat - 48 : Nat) : Int) = ((s[i].toNat - 48 : Nat) : Int) := wrap64 (by omega) (by omega)
    have w3 : IntKind.wrap .i64 ((n : Int) * 10) = ((n * 10 : Nat) : Int) := by rw [wrap64 (by omega) (by omega)]; omega
    have w4 : IntKind.wrap .i64 (((n * 10 : Nat) : Int) + ((s[i].toNat - 48 : Nat) : Int)) = ((n * 10 + (s[i].toNat - 48) : Nat) : Int) := by rw [wrap64 (by omega) (by omega)]; omega
    have hb1 : (!(decide (((s[i].toNat : Nat) : Int) ≥ 48) && decide (((s[i].toNat : Nat) : Int) ≤ 57))) = false := by simp; omega
    rw [sl6Number_L5]
    simp only [e1, e2, cond_true, sIn, Option.bind_some, nth_nat s i hi, byteIn, hb1, cond_false, w1, w2, w3, w4, wrap_succ (show i < 4611686018427387904 by omega)]
    rw [num_dig s hd hs m q (i + 1) _ (by omega) (by omega) hb2, List.drop_eq_getElem_cons hi]
    rfl
  | _, 0, _, _, _, h, _ => absurd h (Nat.not_lt_zero _)

theorem number_itoa {n : Int} (h : 0 ≤ n ∧ n ≤ 100000) : sl6Number (Lib.itoa n) = some n := by
  have hd := itoa_dig h.1
  have hl := itoa_len6 h
  have hv := itoa_val h.1
  unfold sl6Number
  have hb : (!(decide ((((Lib.itoa n).length : Nat) : Int) ≥ 1) && decide ((((Lib.itoa n).length : Nat) : Int) ≤ 6))) = false := by simp; omega
  simp only [sIn, Option.bind_some, hb, cond_false]
  have hp : 10 ^ (Lib.itoa n).length ≤ 10 ^ 6 := Nat.pow_le_pow_right (by omega) hl.2
  have := num_dig (Lib.itoa n) hd hl.2 (Lib.itoa n).length fuel 0 0 (by omega) (by rw [fuel_eq]; omega) (by omega)
  rw [List.drop_zero, hv] at this
  exact this

theorem atoi_tot {s : List UInt8} (h : s.length ≤ 1048576) : xAtoi s = some (atoiV s, ()) := by
  unfold xAtoi
  rw [if_pos (by omega)]
end Go.Rx
/- Bytes in digits, read back. -/
namespace Go.Rx

def pairsL (f : UInt8 → UInt8 → Int) : List UInt8 → List Int
  | a :: b :: l => f a b :: pairsL f l
  | _ => []

theorem pairs_short (f : UInt8 → UInt8 → Int) (l : List UInt8) (h : l.length ≤ 1) : pairsL f l = [] := by
  match l with
  | [] => rfl
  | [_] => rfl
  | _ :: _ :: _ => simp at h

def digS (c : Int) : Int := (if 48 ≤ c ∧ c ≤ 57 then IntKind.wrap .i64 (IntKind.wrap .u8 (c - 48)) else if 97 ≤ c ∧ c ≤ 102 then IntKind.wrap .i64 ((IntKind.wrap .i64 (IntKind.wrap .u8 (c - 97))) + 10) else 99)
theorem digit_s (b : UInt8) : sl6Digit ((b.toNat : Nat) : Int) = some (digS ((b.toNat : Nat) : Int)) := by
  unfold sl6Digit digS
  simp only [sIn, Option.bind_some, byteIn]
  by_cases h1 : (48 : Int) ≤ ((b.toNat : Nat) : Int) ∧ ((b.toNat : Nat) : Int) ≤ 57
  · rw [if_pos h1, show (decide (((b.toNat : Nat) : Int) ≥ 48) && decide (((b.toNat : Nat) : Int) ≤ 57)) = true from by simp; omega]
    rfl
  · rw [if_neg h1, show (decide (((b.toNat : Nat) : Int) ≥ 48) && decide (((b.toNat : Nat) : Int) ≤ 57)) = false from by simp; omega]
    by_cases h2 : (97 : Int) ≤ ((b.toNat : Nat) : Int) ∧ ((b.toNat : Nat) : Int) ≤ 102
    · rw [if_pos h2, show (decide (((b.toNat : Nat) : Int) ≥ 97) && decide (((b.toNat : Nat) : Int) ≤ 102)) = true from by simp; omega]
      rfl
    · rw [if_neg h2, show (decide (((b.toNat : Nat) : Int) ≥ 97) && decide (((b.toNat : Nat) : Int) ≤ 102)) = false from by simp; omega]
      rfl

def fS (a b : UInt8) : Int := IntKind.wrap .u8 (IntKind.wrap .i64 ((IntKind.wrap .i64 ((digS ((a.toNat : Nat) : Int)) * 16)) + digS ((b.toNat : Nat) : Int)))
def ixI (b : UInt8) : Int := if (0 : Int) > Lib.indexByte hexD b then 0 else Lib.indexByte hexD b
def fI (a b : UInt8) : Int := IntKind.wrap .u8 (bits .or .i64 (IntKind.wrap .i64 (ixI a * 16)) (ixI b))

theorem index_x (b : UInt8) : xIndexByte ([48, 49, 50, 51, 52, 53, 54, 55, 56, 57, 97, 98, 99, 100, 101, 102], ((b.toNat : Nat) : Int)) = some (Lib.indexByte hexD b) := by
  unfold xIndexByte
  simp only [Int.toNat_natCast]
  rw [show b.toNat.toUInt8 = b from UInt8.ofNat_toNat]
  rfl

section
variable {s : List UInt8} (hs : s.length ≤ 1048576)
include hs
theorem two_wrap {k : Nat} (hk : 2 * k + 1 ≤ s.length) : IntKind.wrap .i64 (((2 * k : Nat) : Int) + 1) = ((2 * k + 1 : Nat) : Int) ∧ IntKind.wrap .i64 (((2 * k : Nat) : Int) + 2) = ((2 * (k + 1) : Nat) : Int) := by
  constructor
  · rw [wrap64 (by omega) (by omega)]; omega
  · rw [wrap64 (by omega) (by omega)]; omega
theorem uhs_run {O : Type} (x : List Int → Option O) (r) : ∀ (m q k : Nat) (out : List Int), k + m = s.length / 2 → m < q → out.length = k → sl6UnHex_L3 O q (s, ((2 * k : Nat) : Int), out) x r = x (out ++ pairsL fS (s.drop (2 * k)))
  | 0, q + 1, k, out, he, _, ho => by
    have w : IntKind.wrap .i64 (((2 * k : Nat) : Int) + 1) = ((2 * k + 1 : Nat) : Int) := by rw [wrap64 (by omega) (by omega)]; omega
    have e1 : decide (((2 * k + 1 : Nat) : Int) < ((s.length : Nat) : Int)) = false := decide_eq_false (by omega)
    rw [sl6UnHex_L3]
    simp only [w, e1, cond_false]
    rw [pairs_short _ _ (by simp; omega), List.append_nil]
  | m + 1, q + 1, k, out, he, hq, ho => by
    have h1 : 2 * k + 1 < s.length := by omega
    have h0 : 2 * k < s.length := by omega
    obtain ⟨w1, w2⟩ := two_wrap hs (k := k) (by omega)
    have e1 : decide (((2 * k + 1 : Nat) : Int) < ((s.length : Nat) : Int)) = true := decide_eq_true (by omega)
    have e2 : decide (((2 * k : Nat) : Int) < ((s.length : Nat) : Int)) = true := decide_eq_true (by omega)
    have e3 : decide ((0 : Int) ≤ ((2 * k : Nat) : Int)) = true := decide_eq_true (by omega)
    have e4 : decide ((0 : Int) ≤ ((2 * k + 1 : Nat) : Int)) = true := decide_eq_true (by omega)
    have e5 : ∀ v : Int, decide (out.length + [v].length ≤ lenBound) = true := fun v => decide_eq_true (by simp only [lenBound, List.length_cons, List.length_nil]; omega)
    rw [sl6UnHex_L3]
    simp only [w1, w2, e1, e2, e3, e4, e5, Bool.and_true, cond_true, digit_s, Option.bind_some, nth_nat s _ h0, nth_nat s _ h1]
    rw [uhs_run x r m q (k + 1) _ (by omega) (by omega) (by simp [ho]), List.drop_eq_getElem_cons h0, List.drop_eq_getElem_cons h1]
    simp only [pairsL, List.append_assoc, List.cons_append, List.nil_append]
    rfl
  | _, 0, _, _, _, h, _ => absurd h (Nat.not_lt_zero _)

theorem uhi_run {O : Type} (x : List Int → Option O) (r) : ∀ (m q k : Nat) (out : List Int), k + m = s.length / 2 → m < q → out.length = k → iunhex_L3 O q (s, ((2 * k : Nat) : Int), out) x r = x (out ++ pairsL fI (s.drop (2 * k)))
  | 0, q + 1, k, out, he, _, ho => by
    have w : IntKind.wrap .i64 (((2 * k : Nat) : Int) + 1) = ((2 * k + 1 : Nat) : Int) := by rw [wrap64 (by omega) (by omega)]; omega
    have e1 : decide (((2 * k + 1 : Nat) : Int) < ((s.length : Nat) : Int)) = false := decide_eq_false (by omega)
    rw [iunhex_L3]
    simp only [w, e1, cond_false]
    rw [pairs_short _ _ (by simp; omega), List.append_nil]
  | m + 1, q + 1, k, out, he, hq, ho => by
    have h1 : 2 * k + 1 < s.length := by omega
    have h0 : 2 * k < s.length := by omega
    obtain ⟨w1, w2⟩ := two_wrap hs (k := k) (by omega)
    have e1 : decide (((2 * k + 1 : Nat) : Int) < ((s.length : Nat) : Int)) = true := decide_eq_true (by omega)
    have e2 : decide (((2 * k : Nat) : Int) < ((s.length : Nat) : Int)) = true := decide_eq_true (by omega)
    have e3 : decide ((0 : Int) ≤ ((2 * k : Nat) : Int)) = true := decide_eq_true (by omega)
    have e4 : decide ((0 : Int) ≤ ((2 * k + 1 : Nat) : Int)) = true := decide_eq_true (by omega)
    have e5 : ∀ v : Int, decide (out.length + [v].length ≤ lenBound) = true := fun v => decide_eq_true (by simp only [lenBound, List.length_cons, List.length_nil]; omega)
    rw [iunhex_L3]
    simp only [w1, w2, e1, e2, e3, e4, e5, Bool.and_true, cond_true, index_x, Option.bind_some, nth_nat s _ h0, nth_nat s _ h1]
    rw [uhi_run x r m q (k + 1) _ (by omega) (by omega) (by simp [ho]), List.drop_eq_getElem_cons h0, List.drop_eq_getElem_cons h1]
    simp only [pairsL, List.append_assoc, List.cons_append, List.nil_append]
    rfl
  | _, 0, _, _, _, h, _ => absurd h (Nat.not_lt_zero _)

theorem unhex_s : sl6UnHex s = some (strOf (pairsL fS s)) := by
  have := uhs_run hs (O := List UInt8) (fun out6 => some (strOf out6)) some (s.length / 2) fuel 0 [] (by omega) (by rw [fuel_eq]; omega) rfl
  simpa [sl6UnHex] using this
theorem unhex_i : iunhex s = some (strOf (pairsL fI s)) := by
  have := uhi_run hs (O := List UInt8) (fun out6 => some (strOf out6)) some (s.length / 2) fuel 0 [] (by omega) (by rw [fuel_eq]; omega) rfl
  simpa [iunhex] using this
end

/-! ### Back again -/
def backB (f : UInt8 → UInt8 → Int) (b : UInt8) : Bool := match strOf (hexP b) with
  | [x, y] => f x y == ((b.toNat : Nat) : Int)
  | _ => false
theorem back_all {f : UInt8 → UInt8 → Int} (h : ((List.range 256).all fun n => backB f n.toUInt8) = true) (b : UInt8) : ∃ x y, strOf (hexP b) = [x, y] ∧ f x y = ((b.toNat : Nat) : Int) := by
  have h1 := List.all_eq_true.1 h b.toNat (List.mem_range.2 b.toNat_lt)
  rw [show b.toNat.toUInt8 = b from UInt8.ofNat_toNat] at h1
  unfold backB at h1
  split at h1
  · rename_i x y e
    exact ⟨x, y, e, by simpa using h1⟩
  · cases h1
theorem back_s : ((List.range 256).all fun n => backB fS n.toUInt8) = true := by kernel_rfl
theorem back_i : ((List.range 256).all fun n => backB fI n.toUInt8) = true := by kernel_rfl

theorem hex_back {f : UInt8 → UInt8 → Int} (h : ((List.range 256).all fun n => backB f n.toUInt8) = true) : ∀ s : List UInt8, strOf (pairsL f (hexS s)) = s
  | [] => rfl
  | b :: s => by
    obtain ⟨x, y, e1, e2⟩ := back_all h b
    have ih := hex_back h s
    have e3 : hexS (b :: s) = x :: y :: hexS s := by
      unfold hexS hexL at *
      simp only [List.map_cons, List.flatten_cons]
      have : strOf (hexP b ++ (s.map hexP).flatten) = strOf (hexP b) ++ strOf (s.map hexP).flatten := by simp [strOf]
      rw [this, e1]
      rfl
    rw [e3, pairsL, e2]
    have : strOf (((b.toNat : Nat) : Int) :: pairsL f (hexS s)) = b :: strOf (pairsL f (hexS s)) := by
      simp [strOf]
    rw [this, ih]
end Go.Rx
/- Loops that keep something. -/
namespace Go.Rx
universe u v w

theorem loop_up {σ : Type v} {ρ : Type w} (n : Nat) (g : Nat → Int → σ → ρ) (fin : σ → ρ) (I : Nat → σ → Prop)
    (h1 : ∀ q (i : Nat) s, i < n → I i s → ∃ s', I (i + 1) s' ∧ g (q + 1) (i : Int) s = g q ((i + 1 : Nat) : Int) s') (h2 : ∀ q s, I n s → g (q + 1) (n : Int) s = fin s) :
    ∀ (m q i : Nat) (s : σ), i + m = n → m < q → I i s → ∃ s', I n s' ∧ g q (i : Int) s = fin s'
  | 0, q + 1, i, s, he, _, hI => by
    have : i = n := by omega
    subst this
    exact ⟨s, hI, h2 q s hI⟩
  | m + 1, q + 1, i, s, he, hq, hI => by
    obtain ⟨s', k1, k2⟩ := h1 q i s (by omega) hI
    obtain ⟨s'', k3, k4⟩ := loop_up n g fin I h1 h2 m q (i + 1) s' (by omega) (by omega) k1
    exact ⟨s'', k3, by rw [k2, k4]⟩
  | _, 0, _, _, _, h, _ => absurd h (Nat.not_lt_zero _)

theorem loop_upF {σ : Type v} {ρ : Type w} (a n : Nat) (ha : a ≤ n) (hn : n < 1152921504606846976) (g : Nat → Int → σ → ρ) (fin : σ → ρ) (I : Nat → σ → Prop)
    (h1 : ∀ q (i : Nat) s, i < n → I i s → ∃ s', I (i + 1) s' ∧ g (q + 1) (i : Int) s = g q ((i + 1 : Nat) : Int) s') (h2 : ∀ q s, I n s → g (q + 1) (n : Int) s = fin s) (s : σ) (hs : I a s) :
    ∃ s', I n s' ∧ g fuel (a : Int) s = fin s' := loop_up n g fin I h1 h2 (n - a) fuel a s (by omega) (by rw [fuel_eq]; omega) hs

end Go.Rx
/- The manifest's lines and words. -/
namespace Go.Rx

def bigL (l : List UInt8) : Prop := ∀ b ∈ l, 48 ≤ b.toNat
theorem big_ne {l : List UInt8} (h : bigL l) {c : UInt8} (hc : c.toNat < 48) : ∀ b ∈ l, b ≠ c := by
  intro b hb e
  have := h b hb
  rw [e] at this
  omega
theorem big_itoa {n : Int} (h : 0 ≤ n) : bigL (Lib.itoa n) := fun b hb => (itoa_dig h b hb).1
theorem hex_big_t : ((List.range 256).all fun n => (strOf (hexP n.toUInt8)).all fun x => decide (48 ≤ x.toNat)) = true := by kernel_rfl
theorem big_hex : ∀ s : List UInt8, bigL (hexS s)
  | [] => by intro b hb; simp [hexS, hexL, strOf] at hb
  | a :: s => by
    have ih := big_hex s
    have h1 := List.all_eq_true.1 hex_big_t a.toNat (List.mem_range.2 a.toNat_lt)
    rw [show a.toNat.toUInt8 = a from UInt8.ofNat_toNat] at h1
    intro b hb
    have e : hexS (a :: s) = strOf (hexP a) ++ hexS s := by simp [hexS, hexL, strOf]
    rw [e] at hb
    rcases List.mem_append.1 hb with hb | hb
    · simpa using List.all_eq_true.1 h1 b hb
    · exact ih b hb

def headL (m : ManT) : List UInt8 := [110, 101, 120, 116] ++ 32 :: (Lib.itoa m.1 ++ 32 :: ([108, 111, 103] ++ 32 :: Lib.itoa m.2.1))
def rowL (x : MetT) : List UInt8 := [116, 97, 98] ++ 32 :: (Lib.itoa x.1 ++ 32 :: (Lib.itoa x.2.1 ++ 32 :: (hexS x.2.2.1 ++ 32 :: hexS x.2.2.2)))
theorem rowT_row (x : MetT) : rowT x = rowL x ++ [10] := by simp [rowT, rowL]
theorem manT_lines {m : ManT} (h : manB m = true) : manT m = headL m ++ 10 :: ((m.2.2.map fun x => rowL x ++ [10]).flatten ++ ([101, 110, 100] ++ 10 :: [])) := by
  have : m.2.2.map rowT = m.2.2.map fun x => rowL x ++ [10] := List.map_congr_left fun x _ => rowT_row x
  simp [manT, h, headL, this]

theorem head_words {m : ManT} (h0 : 0 ≤ m.1) (h1 : 0 ≤ m.2.1) : spl 32 (headL m) = [[110, 101, 120, 116], Lib.itoa m.1, [108, 111, 103], Lib.itoa m.2.1] := by
  unfold headL
  rw [spl_app 32 _ _ (by decide), spl_app 32 _ _ (big_ne (big_itoa h0) (by decide)), spl_app 32 _ _ (by decide), spl_none 32 _ (big_ne (big_itoa h1) (by decide))]
theorem row_words {x : MetT} (h : RowR x) : spl 32 (rowL x) = [[116, 97, 98], Lib.itoa x.1, Lib.itoa x.2.1, hexS x.2.2.1, hexS x.2.2.2] := by
  obtain ⟨h1, h2, _⟩ := h
  unfold rowL
  rw [spl_app 32 _ _ (by decide), spl_app 32 _ _ (big_ne (big_itoa h1.1) (by decide)), spl_app 32 _ _ (big_ne (big_itoa h2.1) (by decide)), spl_app 32 _ _ (big_ne (big_hex _) (by decide)), spl_none 32 _ (big_ne (big_hex _) (by decide))]
theorem no_app {a b : List UInt8} {c : UInt8} (ha : ∀ x ∈ a, x ≠ c) (hb : ∀ x ∈ b, x ≠ c) : ∀ x ∈ a ++ b, x ≠ c := fun x hx => (List.mem_append.1 hx).elim (ha x) (hb x)
theorem no_cons {a : UInt8} {b : List UInt8} {c : UInt8} (ha : a ≠ c) (hb : ∀ x ∈ b, x ≠ c) : ∀ x ∈ a :: b, x ≠ c := fun x hx => (List.mem_cons.1 hx).elim (fun e => e ▸ ha) (hb x)
theorem head_no {m : ManT} (h0 : 0 ≤ m.1) (h1 : 0 ≤ m.2.1) : ∀ b ∈ headL m, b ≠ 10 :=
  no_app (by decide) (no_cons (by decide) (no_app (big_ne (big_itoa h0) (by decide)) (no_cons (by decide) (no_app (by decide) (no_cons (by decide) (big_ne (big_itoa h1) (by decide)))))))
theorem row_no {x : MetT} (h : RowR x) : ∀ b ∈ rowL x, b ≠ 10 :=
  no_app (by decide) (no_cons (by decide) (no_app (big_ne (big_itoa h.1.1) (by decide)) (no_cons (by decide) (no_app (big_ne (big_itoa h.2.1.1) (by decide)) (no_cons (by decide) (no_app (big_ne (big_hex _) (by decide)) (no_cons (by decide) (big_ne (big_hex _) (by decide)))))))))

theorem rows_lines (t : List UInt8) : ∀ l : List MetT, (∀ x ∈ l, RowR x) → spl 10 ((l.map fun x => rowL x ++ [10]).flatten ++ t) = l.map rowL ++ spl 10 t
  | [], _ => rfl
  | x :: l, h => by
    have ih := rows_lines t l fun y hy => h y (by simp [hy])
    simp only [List.map_cons, List.flatten_cons, List.append_assoc, List.cons_append, List.nil_append]
    rw [spl_app 10 _ _ (row_no (h x (by simp))), ih]
def linesOf (m : ManT) : List (List UInt8) := headL m :: (m.2.2.map rowL ++ [[101, 110, 100], []])
theorem man_lines {m : ManT} (h : manB m = true) : spl 10 (manT m) = linesOf m := by
  obtain ⟨h0, h1, _, hr⟩ := man_right h
  rw [manT_lines h, spl_app 10 _ _ (head_no h0.1 h1.1), rows_lines _ _ hr, spl_app 10 _ _ (by decide)]
  rfl

/-! ### One line read -/
noncomputable def numS (s : List UInt8) : Int := (sl6Number s).getD 0
theorem num_s (s : List UInt8) : sl6Number s = some (numS s) := by
  obtain ⟨v, e⟩ := number_tot s
  unfold numS
  rw [e]
  rfl
def stepI (i : Nat) (line : List UInt8) (st : ManT) : ManT :=
  if i = 0 ∧ (spl 32 line).length = 4 then (atoiV ((spl 32 line).getD 1 []), atoiV ((spl 32 line).getD 3 []), st.2.2)
  else if (spl 32 line).length = 5 ∧ st.2.2.length ≤ 20 then
    (st.1, st.2.1, st.2.2 ++ [(atoiV ((spl 32 line).getD 1 []), atoiV ((spl 32 line).getD 2 []), strOf (pairsL fI ((spl 32 line).getD 3 [])), strOf (pairsL fI ((spl 32 line).getD 4 [])))])
  else st
noncomputable def stepS (i : Nat) (line : List UInt8) (st : ManT) : ManT :=
  if i = 0 ∧ (spl 32 line).length = 4 then (numS ((spl 32 line).getD 1 []), numS ((spl 32 line).getD 3 []), st.2.2)
  else if 0 < i ∧ (spl 32 line).length = 5 then
    (st.1, st.2.1, st.2.2 ++ [(numS ((spl 32 line).getD 1 []), numS ((spl 32 line).getD 2 []), strOf (pairsL fS ((spl 32 line).getD 3 [])), strOf (pairsL fS ((spl 32 line).getD 4 [])))])
  else st
def runI (f : Nat → List UInt8 → ManT → ManT) (l : List (List UInt8)) : Nat → ManT
  | 0 => (0, 0, [])
  | i + 1 => f i (l.getD i []) (runI f l i)

theorem runI_man (f : Nat → List UInt8 → ManT → ManT) (m : ManT) (hh : f 0 (headL m) (0, 0, []) = (m.1, m.2.1, []))
    (hr : ∀ (i : Nat) (x : MetT) (pre : List MetT), x ∈ m.2.2 → 0 < i → pre.length < m.2.2.length → f i (rowL x) (m.1, m.2.1, pre) = (m.1, m.2.1, pre ++ [x]))
    (he : ∀ i st, 0 < i → f i [101, 110, 100] st = st) (hn : ∀ i st, 0 < i → f i [] st = st) : runI f (linesOf m) (linesOf m).length = m := by
  have rows : ∀ k, k ≤ m.2.2.length → runI f (linesOf m) (k + 1) = (m.1, m.2.1, m.2.2.take k) := by
    intro k
    induction k with
    | zero => intro _; show f 0 (headL m) (0, 0, []) = _; rw [hh]; rfl
    | succ k ih =>
      intro hk
      have hk' : k < m.2.2.length := by omega
      have e : (linesOf m).getD (k + 1) [] = rowL m.2.2[k] := by
        unfold linesOf
        rw [List.getD_cons_succ, List.getD_eq_getElem?_getD, List.getElem?_append_left (by simpa using hk')]
        simp [hk']
      show f (k + 1) ((linesOf m).getD (k + 1) []) (runI f (linesOf m) (k + 1)) = _
      rw [ih (by omega), e, hr (k + 1) _ _ (List.getElem_mem hk') (by omega) (by simp; omega), List.take_succ_eq_append_getElem hk']
  have hlen : (linesOf m).length = m.2.2.length + 1 + 1 + 1 := by simp [linesOf]
  rw [hlen]
  have e1 : (linesOf m).getD (m.2.2.length + 1) [] = [101, 110, 100] := by
    unfold linesOf
    rw [List.getD_cons_succ, List.getD_eq_getElem?_getD, List.getElem?_append_right (by simp)]
    simp
  have e2 : (linesOf m).getD (m.2.2.length + 1 + 1) [] = [] := by
    unfold linesOf
    rw [List.getD_cons_succ, List.getD_eq_getElem?_getD, List.getElem?_append_right (by simp)]
    simp
  show f (m.2.2.length + 1 + 1) ((linesOf m).getD (m.2.2.length + 1 + 1) []) (f (m.2.2.length + 1) ((linesOf m).getD (m.2.2.length + 1) []) (runI f (linesOf m) (m.2.2.length + 1))) = m
  rw [e1, e2, rows _ (Nat.le_refl _), hn _ _ (by omega), he _ _ (by omega), List.take_length]

theorem end_words : spl 32 [101, 110, 100] = [[101, 110, 100]] := by decide
theorem nil_words : spl 32 [] = [[]] := rfl
theorem atoi_v {n : Int} (h : 0 ≤ n ∧ n ≤ 100000) : atoiV (Lib.itoa n) = n := by unfold atoiV; rw [atoi_itoa h]
theorem num_v {n : Int} (h : 0 ≤ n ∧ n ≤ 100000) : numS (Lib.itoa n) = n := by unfold numS; rw [number_itoa h]; rfl

theorem read_i {m : ManT} (h : manB m = true) : runI stepI (spl 10 (manT m)) (spl 10 (manT m)).length = m := by
  obtain ⟨h0, h1, hl, hr⟩ := man_right h
  rw [man_lines h]
  refine runI_man stepI m ?_ ?_ ?_ ?_
  · unfold stepI
    rw [head_words h0.1 h1.1, if_pos ⟨rfl, rfl⟩]
    simp [atoi_v h0, atoi_v h1]
  · intro i x pre hx hi hp
    obtain ⟨n, l, lo, hi'⟩ := x
    have hrow := hr _ hx
    unfold stepI
    rw [row_words hrow, if_neg (by omega), if_pos ⟨rfl, by show pre.length ≤ 20; omega⟩]
    have a1 := atoi_v hrow.1
    have a2 := atoi_v hrow.2.1
    simp only at a1 a2
    simp [a1, a2, hex_back back_i]
  · intro i st hi
    unfold stepI
    rw [end_words, if_neg (by simp), if_neg (by simp)]
  · intro i st hi
    unfold stepI
    rw [nil_words, if_neg (by simp), if_neg (by simp)]

theorem read_s {m : ManT} (h : manB m = true) : runI stepS (spl 10 (manT m)) (spl 10 (manT m)).length = m := by
  obtain ⟨h0, h1, hl, hr⟩ := man_right h
  rw [man_lines h]
  refine runI_man stepS m ?_ ?_ ?_ ?_
  · unfold stepS
    rw [head_words h0.1 h1.1, if_pos ⟨rfl, rfl⟩]
    simp [num_v h0, num_v h1]
  · intro i x pre hx hi hp
    obtain ⟨n, l, lo, hi'⟩ := x
    have hrow := hr _ hx
    unfold stepS
    rw [row_words hrow, if_neg (by omega), if_pos ⟨hi, rfl⟩]
    have a1 := num_v hrow.1
    have a2 := num_v hrow.2.1
    simp only at a1 a2
    simp [a1, a2, hex_back back_s]
  · intro i st hi
    unfold stepS
    rw [end_words, if_neg (by simp), if_neg (by simp)]
  · intro i st hi
    unfold stepS
    rw [nil_words, if_neg (by simp), if_neg (by simp)]

theorem lines_few {m : ManT} (h : manB m = true) : (spl 10 (manT m)).length ≤ 30 := by
  obtain ⟨_, _, hl, _⟩ := man_right h
  rw [man_lines h]
  simp [linesOf]
  omega
end Go.Rx
/- Both readers: what they hand back. -/
namespace Go.Rx

theorem getD_len {ws : List (List UInt8)} {n : Nat} (h : ∀ w ∈ ws, w.length ≤ n) (j : Nat) : (ws.getD j []).length ≤ n := by
  rw [List.getD_eq_getElem?_getD]
  cases e : ws[j]? with
  | none => simp
  | some w => exact h w (List.mem_of_getElem? e)

theorem nth_list (l : List (List UInt8)) (i : Nat) : nth l (i : Int) = l.getD i [] := by
  unfold nth
  rw [Int.toNat_natCast]
  rfl

section
variable {s : List UInt8} {ls : List (List UInt8)} (hl : ls.length ≤ 1048577) (hw : ∀ w ∈ ls, w.length ≤ 1048576)
include hl hw

theorem step_i {O : Type} (x : (List UInt8 × Int × Int × Int × Int × List MetT) → Option O) (r) (q i : Nat) (st : ManT) (hi : i < ls.length) (ht : st.2.2.length ≤ 21) :
    (stepI i (ls.getD i []) st).2.2.length ≤ 21 ∧
    iParseMan_L3 O (q + 1) (s, ((ls.length : Nat) : Int), (i : Int), 0, 0, st.1, st.2.1, ls, st.2.2) x r =
      iParseMan_L3 O q (s, ((ls.length : Nat) : Int), ((i + 1 : Nat) : Int), 0, 0, (stepI i (ls.getD i []) st).1, (stepI i (ls.getD i []) st).2.1, ls, (stepI i (ls.getD i []) st).2.2) x r := by
  obtain ⟨m0, m1, l⟩ := st
  have e1 : decide ((i : Int) < ((ls.length : Nat) : Int)) = true := decide_eq_true (by omega)
  have e2 : decide ((0 : Int) ≤ (i : Int)) = true := decide_eq_true (by omega)
  have hwr := wrap_succ (show i < 4611686018427387904 by omega)
  have hwi : (ls.getD i []).length ≤ 1048576 := getD_len hw i
  have hws : ∀ w ∈ spl 32 (ls.getD i []), w.length ≤ 1048576 := fun w h => Nat.le_trans (spl_part 32 _ w h) hwi
  have hj := getD_len hws
  have hsp := split_i 32 (ls.getD i []) hwi
  unfold stepI
  generalize spl 32 (ls.getD i []) = ws at hj hsp ⊢
  rw [iParseMan_L3]
  simp only [e1, e2, Bool.and_true, cond_true, nth_list, hsp, Option.bind_some, hwr]
  by_cases hA : i = 0 ∧ ws.length = 4
  · obtain ⟨rfl, h4⟩ := hA
    have f1 : (((0 : Nat) : Int) == 0) = true := rfl
    have f2 : (((ws.length : Nat) : Int) == 4) = true := by rw [h4]; rfl
    have f3 : decide ((1 : Int) < ((ws.length : Nat) : Int)) = true := decide_eq_true (by omega)
    have f4 : decide ((3 : Int) < ((ws.length : Nat) : Int)) = true := decide_eq_true (by omega)
    rw [if_pos ⟨rfl, h4⟩]
    refine ⟨ht, ?_⟩
    simp only [f1, f2, f3, f4, cond_true, Option.bind_some, atoi_tot (hj 1), atoi_tot (hj 3), hwr]
  · have f0 : ∀ (α : Type) (A B : α), cond (((i : Nat) : Int) == 0) (A) (B) = if i = 0 then A else B := by
      intro α A B
      by_cases h : i = 0
      · subst h; rfl
      · rw [if_neg h, show (((i : Nat) : Int) == 0) = false from by simp; omega]; rfl
    rw [if_neg hA]
    have f1 : (if i = 0 then some (s, ((ls.length : Nat) : Int), (i : Int), (((ws.length : Nat) : Int) == 4), (0 : Int), (0 : Int), m0, m1, ws, ls, l) else some (s, ((ls.length : Nat) : Int), (i : Int), false, (0 : Int), (0 : Int), m0, m1, ws, ls, l)) = some (s, ((ls.length : Nat) : Int), (i : Int), false, (0 : Int), (0 : Int), m0, m1, ws, ls, l) := by
      by_cases h : i = 0
      · rw [if_pos h, show (((ws.length : Nat) : Int) == 4) = false from by
          rw [beq_eq_false_iff_ne]
          intro h4
          exact hA ⟨h, by omega⟩]
      · rw [if_neg h]
    rw [f0, f1]
    simp only [Option.bind_some, cond_false]
    by_cases hB : ws.length = 5 ∧ l.length ≤ 20
    · have f2 : (((ws.length : Nat) : Int) == 5) = true := by rw [hB.1]; rfl
      have f3 : decide ((1 : Int) < ((ws.length : Nat) : Int)) = true := decide_eq_true (by omega)
      have f4 : decide ((3 : Int) < ((ws.length : Nat) : Int)) = true := decide_eq_true (by omega)
      have f5 : decide ((2 : Int) < ((ws.length : Nat) : Int)) = true := decide_eq_true (by omega)
      have f6 : decide ((4 : Int) < ((ws.length : Nat) : Int)) = true := decide_eq_true (by omega)
      have f7 : decide (((l.length : Nat) : Int) ≤ 20) = true := decide_eq_true (by omega)
      have f8 : ∀ v : MetT, decide (l.length + [v].length ≤ lenBound) = true := fun v => decide_eq_true (by simp only [lenBound, List.length_cons, List.length_nil]; omega)
      rw [if_pos hB]
      refine ⟨by simp only [List.length_append, List.length_cons, List.length_nil]; omega, ?_⟩
      simp only [f2, f3, f4, f5, f6, f7, f8, cond_true, Option.bind_some, atoi_tot (hj 1), atoi_tot (hj 2), unhex_i (hj 3), unhex_i (hj 4), hwr]
    · rw [if_neg hB]
      refine ⟨ht, ?_⟩
      by_cases h5 : ws.length = 5
      · have f2 : (((ws.length : Nat) : Int) == 5) = true := by rw [h5]; rfl
        have f7 : decide (((l.length : Nat) : Int) ≤ 20) = false := decide_eq_false (fun h => hB ⟨h5, by omega⟩)
        simp only [f2, f7, cond_true, cond_false, Option.bind_some, hwr]
      · have f2 : (((ws.length : Nat) : Int) == 5) = false := by rw [beq_eq_false_iff_ne]; omega
        simp only [f2, cond_false, Option.bind_some, hwr]

theorem loop_i {O : Type} (x : (List UInt8 × Int × Int × Int × Int × List MetT) → Option O) (r) :
    (runI stepI ls ls.length).2.2.length ≤ 21 ∧ iParseMan_L3 O fuel (s, ((ls.length : Nat) : Int), 0, 0, 0, 0, 0, ls, []) x r = x (s, 0, 0, (runI stepI ls ls.length).1, (runI stepI ls ls.length).2.1, (runI stepI ls ls.length).2.2) := by
  obtain ⟨s', ⟨h1, h2⟩, h3⟩ := loop_upF (σ := ManT) 0 ls.length (by omega) (by omega) (fun q i st => iParseMan_L3 O q (s, ((ls.length : Nat) : Int), i, 0, 0, st.1, st.2.1, ls, st.2.2) x r) (fun st => x (s, 0, 0, st.1, st.2.1, st.2.2))
    (fun i st => st = runI stepI ls i ∧ st.2.2.length ≤ 21)
    (fun q i st hi ⟨e, ht⟩ => by
      obtain ⟨k1, k2⟩ := step_i hl hw (s := s) x r q i st hi ht
      exact ⟨_, ⟨by rw [e]; rfl, k1⟩, k2⟩)
    (fun q st _ => by
      have : decide (((ls.length : Nat) : Int) < ((ls.length : Nat) : Int)) = false := decide_eq_false (by omega)
      simp only [iParseMan_L3, this, cond_false]) (0, 0, []) ⟨rfl, by simp⟩
  subst h1
  exact ⟨h2, h3⟩

theorem step_s {O : Type} (x : (List UInt8 × Int × Int × Int × Int × List MetT) → Option O) (r) (q i : Nat) (st : ManT) (hi : i < ls.length) (h30 : i < 30) (ht : st.2.2.length ≤ i) :
    (stepS i (ls.getD i []) st).2.2.length ≤ i + 1 ∧
    sParseMan_L4 O (q + 1) (s, (i : Int), 0, 0, st.1, st.2.1, ls, st.2.2) x r =
      sParseMan_L4 O q (s, ((i + 1 : Nat) : Int), 0, 0, (stepS i (ls.getD i []) st).1, (stepS i (ls.getD i []) st).2.1, ls, (stepS i (ls.getD i []) st).2.2) x r := by
  obtain ⟨m0, m1, l⟩ := st
  have e1 : decide ((i : Int) < ((ls.length : Nat) : Int)) = true := decide_eq_true (by omega)
  have e2 : decide ((0 : Int) ≤ (i : Int)) = true := decide_eq_true (by omega)
  have hwr := wrap_succ (show i < 4611686018427387904 by omega)
  have e3 : decide ((i : Int) < 30) = true := decide_eq_true (by omega)
  have hwi : (ls.getD i []).length ≤ 1048576 := getD_len hw i
  have hws : ∀ w ∈ spl 32 (ls.getD i []), w.length ≤ 1048576 := fun w h => Nat.le_trans (spl_part 32 _ w h) hwi
  have hj := getD_len hws
  have hsp : sl6Split (ls.getD i [], 32) = some (spl 32 (ls.getD i [])) := split_s 32 (ls.getD i []) hwi
  unfold stepS
  generalize spl 32 (ls.getD i []) = ws at hj hsp ⊢
  rw [sParseMan_L4]
  simp only [e1, e2, e3, Bool.and_true, cond_true, nth_list, hsp, Option.bind_some, hwr]
  by_cases h0 : i = 0
  · subst h0
    have f1 : (((0 : Nat) : Int) == 0) = true := rfl
    have f9 : decide (((0 : Nat) : Int) > 0) = false := rfl
    simp only [f1, cond_true, Option.bind_some, hwr]
    by_cases h4 : ws.length = 4
    · have f2 : (((ws.length : Nat) : Int) == 4) = true := by rw [h4]; rfl
      have f3 : decide ((1 : Int) < ((ws.length : Nat) : Int)) = true := decide_eq_true (by omega)
      have f4 : decide ((3 : Int) < ((ws.length : Nat) : Int)) = true := decide_eq_true (by omega)
      rw [if_pos ⟨trivial, h4⟩]
      refine ⟨by show l.length ≤ _; simp only at ht; omega, ?_⟩
      simp only [f2, f3, f4, cond_true, Option.bind_some, num_s, hwr]
    · have f2 : (((ws.length : Nat) : Int) == 4) = false := by rw [beq_eq_false_iff_ne]; omega
      rw [if_neg (by simp [h4]), if_neg (by simp)]
      refine ⟨by show l.length ≤ _; simp only at ht; omega, ?_⟩
      simp only [f2, cond_false, f9, hwr]
  · have f1 : (((i : Nat) : Int) == 0) = false := by rw [beq_eq_false_iff_ne]; omega
    have f9 : decide (((i : Nat) : Int) > 0) = true := decide_eq_true (by omega)
    rw [if_neg (by simp [h0])]
    simp only [f1, cond_false, Option.bind_some, f9, cond_true]
    by_cases h5 : ws.length = 5
    · have f2 : (((ws.length : Nat) : Int) == 5) = true := by rw [h5]; rfl
      have f3 : decide ((1 : Int) < ((ws.length : Nat) : Int)) = true := decide_eq_true (by omega)
      have f4 : decide ((3 : Int) < ((ws.length : Nat) : Int)) = true := decide_eq_true (by omega)
      have f5 : decide ((2 : Int) < ((ws.length : Nat) : Int)) = true := decide_eq_true (by omega)
      have f6 : decide ((4 : Int) < ((ws.length : Nat) : Int)) = true := decide_eq_true (by omega)
      have f8 : ∀ v : MetT, decide (l.length + [v].length ≤ lenBound) = true := fun v => decide_eq_true (by simp only at ht; simp only [lenBound, List.length_cons, List.length_nil]; omega)
      rw [if_pos ⟨by omega, h5⟩]
      refine ⟨by simp only at ht; simp only [List.length_append, List.length_cons, List.length_nil]; omega, ?_⟩
      simp only [f2, f3, f4, f5, f6, f8, cond_true, Option.bind_some, num_s, unhex_s (hj 3), unhex_s (hj 4), hwr]
    · have f2 : (((ws.length : Nat) : Int) == 5) = false := by rw [beq_eq_false_iff_ne]; omega
      rw [if_neg (by simp [h5])]
      refine ⟨by show l.length ≤ _; simp only at ht; omega, ?_⟩
      simp only [f2, cond_false, hwr]

theorem loop_s {O : Type} (x : (List UInt8 × Int × Int × Int × Int × List MetT) → Option O) (r) :
    (runI stepS ls (min ls.length 30)).2.2.length ≤ 30 ∧ sParseMan_L4 O fuel (s, 0, 0, 0, 0, 0, ls, []) x r = x (s, 0, 0, (runI stepS ls (min ls.length 30)).1, (runI stepS ls (min ls.length 30)).2.1, (runI stepS ls (min ls.length 30)).2.2) := by
  obtain ⟨s', ⟨h1, h2⟩, h3⟩ := loop_upF (σ := ManT) 0 (min ls.length 30) (by omega) (by omega) (fun q i st => sParseMan_L4 O q (s, i, 0, 0, st.1, st.2.1, ls, st.2.2) x r) (fun st => x (s, 0, 0, st.1, st.2.1, st.2.2))
    (fun i st => st = runI stepS ls i ∧ st.2.2.length ≤ i)
    (fun q i st hi ⟨e, ht⟩ => by
      obtain ⟨k1, k2⟩ := step_s hl hw (s := s) x r q i st (by omega) (by omega) ht
      exact ⟨_, ⟨by rw [e]; rfl, k1⟩, k2⟩)
    (fun q st _ => by
      by_cases h : ls.length ≤ 30
      · have e : decide (((min ls.length 30 : Nat) : Int) < ((ls.length : Nat) : Int)) = false := decide_eq_false (by omega)
        simp only [sParseMan_L4, e, cond_false]
      · have e : decide (((min ls.length 30 : Nat) : Int) < ((ls.length : Nat) : Int)) = true := decide_eq_true (by omega)
        have e2 : decide (((min ls.length 30 : Nat) : Int) < 30) = false := decide_eq_false (by omega)
        simp only [sParseMan_L4, e, e2, cond_true, cond_false]) (0, 0, []) ⟨rfl, by simp⟩
  subst h1
  exact ⟨by omega, h3⟩
end

/-! ### What comes back -/
def ansOf (m : ManT) (s : List UInt8) : ManT × Bool := cond (manB m && (manT m == s)) (m, true) ((0, 0, []), false)

theorem man_ne {m : ManT} (h : manB m = true) : manT m ≠ [] := by
  rw [manT_lines h]
  simp [headL]
theorem man_nil {m : ManT} (h : manB m = false) : manT m = [] := by simp [manT, h]

theorem parse_i {s : List UInt8} (h : s.length ≤ 1048576) : iParseMan s = some (ansOf (runI stepI (spl 10 s) (spl 10 s).length) s) := by
  have hl := spl_len 10 s
  have hw : ∀ w ∈ spl 10 s, w.length ≤ 1048576 := fun w hm => Nat.le_trans (spl_part 10 s w hm) h
  unfold iParseMan
  simp only [split_i 10 s h, Option.bind_some]
  obtain ⟨h1, h2⟩ := loop_i (O := ManT × Bool) (s := s) (show (spl 10 s).length ≤ 1048577 by omega) hw (fun (s40, v41, v42, m43, m44, m45) => ((iManText (m43, m44, m45)).bind fun r46 => (cond (r46 == []) (some (((0 : Int), (0 : Int), []), false)) (cond (!(r46 == s40)) (some (((0 : Int), (0 : Int), []), false)) (some ((m43, m44, m45), true)))))) some
  rw [h2]
  generalize runI stepI (spl 10 s) (spl 10 s).length = m at h1
  obtain ⟨m0, m1, l⟩ := m
  simp only at h1
  simp only [text_i (m0, m1, l) (show l.length ≤ 1048576 by omega), Option.bind_some]
  unfold ansOf
  cases hb : manB (m0, m1, l) with
  | false =>
    rw [man_nil hb]
    rfl
  | true =>
    have hne : (manT (m0, m1, l) == []) = false := by rw [beq_eq_false_iff_ne]; exact man_ne hb
    rw [hne]
    cases hs : manT (m0, m1, l) == s <;> rfl

theorem parse_s {s : List UInt8} (h : s.length ≤ 1048576) : sParseMan s = some (ansOf (runI stepS (spl 10 s) (min (spl 10 s).length 30)) s) := by
  have hl := spl_len 10 s
  have hw : ∀ w ∈ spl 10 s, w.length ≤ 1048576 := fun w hm => Nat.le_trans (spl_part 10 s w hm) h
  unfold sParseMan
  have hsp : sl6Split (s, 10) = some (spl 10 s) := split_s 10 s h
  simp only [hsp, Option.bind_some]
  obtain ⟨h1, h2⟩ := loop_s (O := ManT × Bool) (s := s) (show (spl 10 s).length ≤ 1048577 by omega) hw (fun (s29, v30, v31, m32, m33, m34) => ((sManOk (m32, m33, m34)).bind fun r35 => (cond (!r35) (some (((0 : Int), (0 : Int), []), false)) ((sManText (m32, m33, m34)).bind fun r36 => (cond (!(r36 == s29)) (some (((0 : Int), (0 : Int), []), false)) (some ((m32, m33, m34), true))))))) some
  rw [h2]
  generalize runI stepS (spl 10 s) (min (spl 10 s).length 30) = m at h1
  obtain ⟨m0, m1, l⟩ := m
  simp only at h1
  simp only [text_s (m0, m1, l) (show l.length ≤ 1048576 by omega), man_s (m0, m1, l) (show l.length ≤ 1048576 by omega), Option.bind_some]
  unfold ansOf
  cases hb : manB (m0, m1, l) with
  | false => rfl
  | true => cases hs : manT (m0, m1, l) == s <;> rfl

/-- **Both read the same.** -/
theorem parse_same {s : List UInt8} (h : s.length ≤ 1048576) : ∃ m b, sParseMan s = some (m, b) ∧ iParseMan s = some (m, b) ∧ m.2.2.length ≤ 20 := by
  rw [parse_i h, parse_s h]
  have key : ∀ m : ManT, manB m = true → manT m = s → runI stepI (spl 10 s) (spl 10 s).length = m ∧ runI stepS (spl 10 s) (min (spl 10 s).length 30) = m := by
    intro m hm e
    subst e
    have hf := lines_few hm
    rw [Nat.min_eq_left hf]
    exact ⟨read_i hm, read_s hm⟩
  by_cases hi : manB (runI stepI (spl 10 s) (spl 10 s).length) = true ∧ manT (runI stepI (spl 10 s) (spl 10 s).length) = s
  · obtain ⟨_, k2⟩ := key _ hi.1 hi.2
    rw [k2]
    generalize runI stepI (spl 10 s) (spl 10 s).length = m at hi
    refine ⟨m, true, ?_, ?_, (man_right hi.1).2.2.1⟩ <;> simp [ansOf, hi.1, hi.2]
  · have n1 : ansOf (runI stepI (spl 10 s) (spl 10 s).length) s = ((0, 0, []), false) := by
      unfold ansOf
      cases hb : manB (runI stepI (spl 10 s) (spl 10 s).length) with
      | false => rfl
      | true =>
        have : (manT (runI stepI (spl 10 s) (spl 10 s).length) == s) = false := by rw [beq_eq_false_iff_ne]; exact fun e => hi ⟨hb, e⟩
        rw [this]; rfl
    have n2 : ansOf (runI stepS (spl 10 s) (min (spl 10 s).length 30)) s = ((0, 0, []), false) := by
      unfold ansOf
      cases hb : manB (runI stepS (spl 10 s) (min (spl 10 s).length 30)) with
      | false => rfl
      | true =>
        have : (manT (runI stepS (spl 10 s) (min (spl 10 s).length 30)) == s) = false := by
          rw [beq_eq_false_iff_ne]
          intro e
          obtain ⟨k1, k2⟩ := key _ hb e
          exact hi ⟨by rw [k1]; exact hb, by rw [k1]; exact e⟩
        rw [this]; rfl
    rw [n1, n2]
    exact ⟨_, _, rfl, rfl, by simp⟩
end Go.Rx
