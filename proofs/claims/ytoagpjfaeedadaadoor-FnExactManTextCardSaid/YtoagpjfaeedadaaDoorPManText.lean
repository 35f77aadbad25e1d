import Derived.Test.YtoagpjfaeedadaaDoorFManText0
import Derived.Lib.ItoaLen
set_option linter.all false
/- The manifest's text, by both: plain. -/
namespace Go.Rx

abbrev MetT := Int × Int × List UInt8 × List UInt8
abbrev ManT := Int × Int × List MetT

/-! ### Numbers as texts -/
theorem text_ok : ∀ (q n : Nat), n < 10 ^ (q + 1) → n ≤ 1000000000 → sl6TextN (q + 1) (n : Int) = some (Lib.decDigits n) := by
  intro q
  induction q with
  | zero =>
    intro n h hn
    have h10 : n < 10 := by simpa using h
    have e1 : decide ((n : Int) < 10) = true := decide_eq_true (by omega)
    have w1 : IntKind.wrap .i64 (48 + (n : Int)) = ((48 + n : Nat) : Int) := by rw [wrap64 (by omega) (by omega)]; omega
    have w2 : IntKind.wrap .u8 ((48 + n : Nat) : Int) = ((48 + n : Nat) : Int) := IntWalk.u8_in _ (by omega)
    rw [Lib.decDigits_one h10]
    simp only [sl6TextN, e1, cond_true, w1, w2, strOf, List.map_cons, List.map_nil, Int.toNat_natCast]
  | succ q ih =>
    intro n h hn
    by_cases h10 : n < 10
    · have e1 : decide ((n : Int) < 10) = true := decide_eq_true (by omega)
      have w1 : IntKind.wrap .i64 (48 + (n : Int)) = ((48 + n : Nat) : Int) := by rw [wrap64 (by omega) (by omega)]; omega
      have w2 : IntKind.wrap .u8 ((48 + n : Nat) : Int) = ((48 + n : Nat) : Int) := IntWalk.u8_in _ (by omega)
      rw [Lib.decDigits_one h10, sl6TextN]
      simp only [e1, cond_true, w1, w2, strOf, List.map_cons, List.map_nil, Int.toNat_natCast]
    · have e1 : decide ((n : Int) < 10) = false := decide_eq_false (by omega)
      have d1 : Int.tdiv (n : Int) 10 = ((n / 10 : Nat) : Int) := by rw [Int.tdiv_eq_ediv_of_nonneg (by omega)]; omega
      have d2 : Int.tmod (n : Int) 10 = ((n % 10 : Nat) : Int) := by rw [Int.tmod_eq_emod_of_nonneg (by omega)]; omega
      have w0 : IntKind.wrap .i64 ((n / 10 : Nat) : Int) = ((n / 10 : Nat) : Int) := wrap64 (by omega) (by omega)
      have w1 : IntKind.wrap .i64 (48 + ((n % 10 : Nat) : Int)) = ((48 + n % 10 : Nat) : Int) := by rw [wrap64 (by omega) (by omega)]; omega
      have w2 : IntKind.wrap .u8 ((48 + n % 10 : Nat) : Int) = ((48 + n % 10 : Nat) : Int) := IntWalk.u8_in _ (by omega)
      have ih := ih (n / 10) (by rw [Nat.pow_succ] at h; omega) (by omega)
      have hl : (Lib.decDigits (n / 10)).length ≤ 21 := by
        have := Lib.itoa_length_le ((n / 10 : Nat) : Int) (by omega) (by omega)
        unfold Lib.itoa at this
        rwa [if_neg (by omega), Int.toNat_natCast] at this
      have e2 : decide ((Lib.decDigits (n / 10)).length + (strOf [((48 + n % 10 : Nat) : Int)]).length ≤ lenBound) = true := decide_eq_true (by simp [strOf, lenBound]; omega)
      rw [Lib.decDigits, dif_neg h10, sl6TextN]
      simp only [e1, cond_false, d1, d2, w0, ih, Option.bind_some, w1, w2, e2, cond_true]
      simp only [strOf, List.map_cons, List.map_nil, Int.toNat_natCast]

theorem itoa_len {n : Int} (h : 0 ≤ n ∧ n ≤ 100000) : (Lib.itoa n).length ≤ 21 := Lib.itoa_length_le n (by omega) (by omega)
theorem text_itoa {n : Int} (h : 0 ≤ n ∧ n ≤ 100000) : sl6Text n = some (Lib.itoa n) ∧ xItoa n = some (Lib.itoa n) := by
  obtain ⟨k, rfl⟩ : ∃ k : Nat, n = (k : Int) := ⟨n.toNat, by omega⟩
  refine ⟨?_, by unfold xItoa; rw [if_pos (by omega)]⟩
  have : Lib.itoa (k : Int) = Lib.decDigits k := by unfold Lib.itoa; rw [if_neg (by omega), Int.toNat_natCast]
  rw [this]
  have hp : k < 10 ^ 30 := Nat.lt_of_lt_of_le (show k < 10 ^ 6 by omega) (Nat.pow_le_pow_right (by omega) (by omega))
  exact text_ok 29 k hp (by omega)

/-! ### Digits of bytes -/
def hexD : List UInt8 := [48, 49, 50, 51, 52, 53, 54, 55, 56, 57, 97, 98, 99, 100, 101, 102]
def hexP (b : UInt8) : List Int := [(((UInt8.toNat (nth hexD (Int.fdiv ((b.toNat : Nat) : Int) 16))) : Nat) : Int), (((UInt8.toNat (nth hexD (bits .and .u8 ((b.toNat : Nat) : Int) 15))) : Nat) : Int)]
def hexL (s : List UInt8) : List Int := (s.map hexP).flatten

theorem nib (b : UInt8) : (0 ≤ Int.fdiv ((b.toNat : Nat) : Int) 16 ∧ Int.fdiv ((b.toNat : Nat) : Int) 16 < 16) ∧ (0 ≤ bits .and .u8 ((b.toNat : Nat) : Int) 15 ∧ bits .and .u8 ((b.toNat : Nat) : Int) 15 < 16) := by
  have hb := b.toNat_lt
  constructor
  · rw [Int.fdiv_eq_ediv_of_nonneg _ (by omega)]
    omega
  · have h1 : (BitVec.ofInt 8 ((b.toNat : Nat) : Int) &&& BitVec.ofInt 8 15).toNat ≤ 15 := by
      rw [BitVec.toNat_and]
      exact Nat.le_trans Nat.and_le_right (by decide)
    have h2 : bits .and .u8 ((b.toNat : Nat) : Int) 15 = (((BitVec.ofInt 8 ((b.toNat : Nat) : Int) &&& BitVec.ofInt 8 15).toNat : Nat) : Int) := by
      show IntKind.wrap .u8 (((BitVec.ofInt 8 ((b.toNat : Nat) : Int) &&& BitVec.ofInt 8 15).toNat : Nat) : Int) = _
      exact IntWalk.u8_in _ (by omega)
    rw [h2]
    omega

theorem hexL_len : ∀ s : List UInt8, (hexL s).length = 2 * s.length
  | [] => rfl
  | a :: s => by
    have := hexL_len s
    unfold hexL at *
    simp only [List.map_cons, List.flatten_cons, List.length_append, List.length_cons, this]
    simp [hexP]
    omega

theorem hexL_snoc (s : List UInt8) (a : UInt8) : hexL (s ++ [a]) = hexL s ++ hexP a := by simp [hexL]

theorem hex_s (s : List UInt8) (h : s.length ≤ 1000) : sl6Hex s = some (strOf (hexL s)) := by
  simp only [sl6Hex]
  have key : ∀ (m q i : Nat), i + m = s.length → m < q → sl6Hex_L4 (List UInt8) q (s, hexD, (i : Int), hexL (s.take i)) (fun out5 => (some (strOf out5))) some = some (strOf (hexL s)) := by
    intro m
    induction m with
    | zero =>
      intro q i he hq
      obtain ⟨q, rfl⟩ : ∃ q', q = q' + 1 := ⟨q - 1, by omega⟩
      have : i = s.length := by omega
      subst this
      have e1 : decide (((s.length : Nat) : Int) < ((s.length : Nat) : Int)) = false := decide_eq_false (by omega)
      simp only [sl6Hex_L4, e1, cond_false, List.take_length]
    | succ m ih =>
      intro q i he hq
      obtain ⟨q, rfl⟩ : ∃ q', q = q' + 1 := ⟨q - 1, by omega⟩
      have hi : i < s.length := by omega
      obtain ⟨⟨n1, n2⟩, n3, n4⟩ := nib s[i]
      have e1 : decide ((i : Int) < ((s.length : Nat) : Int)) = true := decide_eq_true (by omega)
      have e2 : decide ((0 : Int) ≤ (i : Int)) = true := decide_eq_true (by omega)
      have e3 : (decide ((0 : Int) ≤ Int.fdiv ((s[i].toNat : Nat) : Int) 16) && decide (Int.fdiv ((s[i].toNat : Nat) : Int) 16 < ((hexD.length : Nat) : Int))) = true := by rw [decide_eq_true n1, decide_eq_true (show _ < ((hexD.length : Nat) : Int) from n2)]; rfl
      have e4 : (decide ((0 : Int) ≤ bits .and .u8 ((s[i].toNat : Nat) : Int) 15) && decide (bits .and .u8 ((s[i].toNat : Nat) : Int) 15 < ((hexD.length : Nat) : Int))) = true := by rw [decide_eq_true n3, decide_eq_true (show _ < ((hexD.length : Nat) : Int) from n4)]; rfl
      have hlen := hexL_len (s.take i)
      rw [List.length_take] at hlen
      have e5 : ∀ y z : Int, decide ((hexL (s.take i)).length + [y, z].length ≤ lenBound) = true := fun y z => decide_eq_true (by rw [hlen]; simp [lenBound]; omega)
      have ih := ih q (i + 1) (by omega) (by omega)
      rw [List.take_succ_eq_append_getElem hi, hexL_snoc] at ih
      simp only [sl6Hex_L4, e1, e2, Bool.and_self, cond_true, nth_nat s i hi, e3, e4, e5, wrap_succ (show i < 4611686018427387904 by omega)]
      exact ih
  exact key s.length fuel 0 (by omega) (by rw [fuel_eq]; omega)

theorem hex_i (s : List UInt8) (h : s.length ≤ 1000) : ihex s = some (strOf (hexL s)) := by
  simp only [ihex]
  have key : ∀ (m q i : Nat), i + m = s.length → m < q → ihex_L3 (List UInt8) q (s, (i : Int), hexL (s.take i)) (fun out5 => (some (strOf out5))) some = some (strOf (hexL s)) := by
    intro m
    induction m with
    | zero =>
      intro q i he hq
      obtain ⟨q, rfl⟩ : ∃ q', q = q' + 1 := ⟨q - 1, by omega⟩
      have : i = s.length := by omega
      subst this
      have e1 : decide (((s.length : Nat) : Int) < ((s.length : Nat) : Int)) = false := decide_eq_false (by omega)
      simp only [ihex_L3, e1, cond_false, List.take_length]
    | succ m ih =>
      intro q i he hq
      obtain ⟨q, rfl⟩ : ∃ q', q = q' + 1 := ⟨q - 1, by omega⟩
      have hi : i < s.length := by omega
      obtain ⟨⟨n1, n2⟩, n3, n4⟩ := nib s[i]
      have e1 : decide ((i : Int) < ((s.length : Nat) : Int)) = true := decide_eq_true (by omega)
      have e2 : decide ((0 : Int) ≤ (i : Int)) = true := decide_eq_true (by omega)
      have e3 : (decide ((0 : Int) ≤ Int.fdiv ((s[i].toNat : Nat) : Int) 16) && decide (Int.fdiv ((s[i].toNat : Nat) : Int) 16 < 16)) = true := by rw [decide_eq_true n1, decide_eq_true n2]; rfl
      have e4 : (decide ((0 : Int) ≤ bits .and .u8 ((s[i].toNat : Nat) : Int) 15) && decide (bits .and .u8 ((s[i].toNat : Nat) : Int) 15 < 16)) = true := by rw [decide_eq_true n3, decide_eq_true n4]; rfl
      have hlen := hexL_len (s.take i)
      rw [List.length_take] at hlen
      have e5 : ∀ y z : Int, decide ((hexL (s.take i)).length + [y, z].length ≤ lenBound) = true := fun y z => decide_eq_true (by rw [hlen]; simp [lenBound]; omega)
      have ih := ih q (i + 1) (by omega) (by omega)
      rw [List.take_succ_eq_append_getElem hi, hexL_snoc] at ih
      simp only [ihex_L3, e1, e2, Bool.and_self, cond_true, nth_nat s i hi, e3, e4, e5, wrap_succ (show i < 4611686018427387904 by omega)]
      exact ih
  exact key s.length fuel 0 (by omega) (by rw [fuel_eq]; omega)

/-! ### Right manifests -/
theorem sIn (x a b : Int) : sl1In (x, a, b) = some (decide (x ≥ a) && decide (x ≤ b)) := by
  simp only [sl1In]; cases decide (x ≥ a) <;> rfl
theorem iIn (x a b : Int) : iin (x, a, b) = some (decide (x ≥ a) && decide (x ≤ b)) := by
  simp only [iin]; cases decide (x ≥ a) <;> rfl

def inZ (x a b : Int) : Bool := decide (x ≥ a) && decide (x ≤ b)
def leK (a b : List UInt8) : Bool := Op.bytesLess a b || a == b
def metB (m0 : Int) (x : MetT) : Bool := inZ x.1 1 (IntKind.wrap .i64 (m0 - 1)) && (inZ x.2.1 0 3 && (inZ ((x.2.2.1.length : Nat) : Int) 1 20 && (inZ ((x.2.2.2.length : Nat) : Int) 1 20 && leK x.2.2.1 x.2.2.2)))

theorem met_s (m : ManT) (x : MetT) : sl6Meta (m, x) = some (metB m.1 x) := by
  obtain ⟨m0, m1, m2⟩ := m
  obtain ⟨a, b, c, d⟩ := x
  simp only [sl6Meta, sl6Key, sIn, Option.bind_some, metB, inZ, leK]
  cases (decide (a ≥ 1) && decide (a ≤ IntKind.wrap .i64 (m0 - 1))) <;> cases (decide (b ≥ 0) && decide (b ≤ 3)) <;> cases (decide (((c.length : Nat) : Int) ≥ 1) && decide (((c.length : Nat) : Int) ≤ 20)) <;> cases (decide (((d.length : Nat) : Int) ≥ 1) && decide (((d.length : Nat) : Int) ≤ 20)) <;> rfl
theorem met_i (m : ManT) (x : MetT) : imetaOk (m, x) = some (metB m.1 x) := by
  obtain ⟨m0, m1, m2⟩ := m
  obtain ⟨a, b, c, d⟩ := x
  simp only [imetaOk, ikeyOk, iIn, Option.bind_some, metB, inZ, leK]
  cases (decide (a ≥ 1) && decide (a ≤ IntKind.wrap .i64 (m0 - 1))) <;> cases (decide (b ≥ 0) && decide (b ≤ 3)) <;> cases (decide (((c.length : Nat) : Int) ≥ 1) && decide (((c.length : Nat) : Int) ≤ 20)) <;> cases (decide (((d.length : Nat) : Int) ≥ 1) && decide (((d.length : Nat) : Int) ≤ 20)) <;> rfl

/-- Two of one level that meet. -/
def clash (x y : MetT) : Bool := decide (x.2.1 > 0) && ((y.2.1 == x.2.1) && (leK y.2.2.1 x.2.2.2 && leK x.2.2.1 y.2.2.2))

theorem clash_s {O : Type} (m0 m1 : Int) (l : List MetT) (hl : l.length ≤ 1048576) (i : Nat) (hi : i < l.length) (v1 : Int) (v2 v3 v4 : Bool) (x) (r : Bool → Option O) :
    sManOk_L10 O fuel ((i : Int), 0, v1, v2, v3, v4, m0, m1, l, l[i]) x r = cond ((l.take i).all fun y => !(clash l[i] y)) (x ((i : Int), v1, v2, v3, v4, m0, m1, l)) (r false) := by
  have := loop0 (l.take i) (by rw [List.length_take]; omega) (fun q k (_ : Unit) => sManOk_L10 O q ((i : Int), k, v1, v2, v3, v4, m0, m1, l, l[i]) x r) (fun _ y s k => cond (!(clash l[i] y)) (k s) (r false)) (fun _ => x ((i : Int), v1, v2, v3, v4, m0, m1, l))
    (fun q k hk s => by
      rw [List.length_take] at hk
      have hkl : k < l.length := by omega
      have e1 : decide ((k : Int) < (i : Int)) = true := decide_eq_true (by omega)
      have e2 : decide ((0 : Int) ≤ (k : Int)) = true := decide_eq_true (by omega)
      have e3 : decide ((k : Int) < ((l.length : Nat) : Int)) = true := decide_eq_true (by omega)
      rw [List.getElem_take]
      simp only [sManOk_L10, e1, e2, e3, Bool.and_self, cond_true, nth_nat l k hkl, wrap_succ (show k < 4611686018427387904 by omega), clash, leK]
      cases decide (l[i].2.1 > 0) <;> cases (l[k].2.1 == l[i].2.1) <;> cases (Op.bytesLess l[k].2.2.1 l[i].2.2.2 || l[k].2.2.1 == l[i].2.2.2) <;> cases (Op.bytesLess l[i].2.2.1 l[k].2.2.2 || l[i].2.2.1 == l[k].2.2.2) <;> rfl)
    (fun q s => by
      have e0 : (l.take i).length = i := by rw [List.length_take]; omega
      rw [e0]
      have e1 : decide ((i : Int) < (i : Int)) = false := decide_eq_false (by omega)
      simp only [sManOk_L10, e1, cond_false]) ()
  rw [this, runL_all]

theorem beq_swap (a b : Int) : (a == b) = (b == a) := by rw [Bool.eq_iff_iff, beq_iff_eq, beq_iff_eq]; exact eq_comm

theorem clash_i {O : Type} (m0 m1 : Int) (l : List MetT) (xx : MetT) (u : List MetT) (hu : u.length ≤ 1048576) (v1 : List MetT) (v2 v3 v4 : Int) (v5 v6 v7 : Bool) (x) (r : Bool → Option O) :
    iManOk_L7 O fuel (v1, v2, v3, v4, v5, v6, v7, u, ((u.length : Nat) : Int), 0, m0, m1, l, xx) x r = cond (u.all fun y => !(clash xx y)) (x (v1, v2, v3, v4, v5, v6, v7, m0, m1, l)) (r false) := by
  have := loop0 u (by omega) (fun q k (_ : Unit) => iManOk_L7 O q (v1, v2, v3, v4, v5, v6, v7, u, ((u.length : Nat) : Int), k, m0, m1, l, xx) x r) (fun _ y s k => cond (!(clash xx y)) (k s) (r false)) (fun _ => x (v1, v2, v3, v4, v5, v6, v7, m0, m1, l))
    (fun q k hk s => by
      have e1 : decide ((k : Int) < ((u.length : Nat) : Int)) = true := decide_eq_true (by omega)
      have e2 : decide ((0 : Int) ≤ (k : Int)) = true := decide_eq_true (by omega)
      simp only [iManOk_L7, e1, e2, Bool.and_self, cond_true, nth_nat u k hk, wrap_succ (show k < 4611686018427387904 by omega), clash, leK, imeets, beq_swap xx.2.1]
      cases decide (xx.2.1 > 0) <;> cases (u[k].2.1 == xx.2.1) <;> cases (Op.bytesLess u[k].2.2.1 xx.2.2.2 || u[k].2.2.1 == xx.2.2.2) <;> cases (Op.bytesLess xx.2.2.1 u[k].2.2.2 || xx.2.2.1 == u[k].2.2.2) <;> rfl)
    (fun q s => by
      have e1 : decide (((u.length : Nat) : Int) < ((u.length : Nat) : Int)) = false := decide_eq_false (by omega)
      simp only [iManOk_L7, e1, cond_false]) ()
  rw [this, runL_all]

/-- One row of a manifest. -/
def rowOk (m0 : Int) (l : List MetT) (i : Nat) (x : MetT) : Bool := metB m0 x && ((decide (i = 0) || !(decide ((nth l ((i - 1 : Nat) : Int)).1 ≥ x.1))) && ((l.take i).all fun y => !(clash x y)))

theorem rows_s (m0 m1 : Int) (l : List MetT) (hl : l.length ≤ 1048576) : sManOk_L4 Bool fuel (0, m0, m1, l) (fun _ => some true) some = some (allI (rowOk m0 l) 0 l) := by
  have := loop0 l (by omega) (fun q i (_ : Unit) => sManOk_L4 Bool q (i, m0, m1, l) (fun _ => some true) some) (fun i x s k => cond (rowOk m0 l i x) (k s) (some false)) (fun _ => some true)
    (fun q i hi s => by
      have e1 : decide ((i : Int) < ((l.length : Nat) : Int)) = true := decide_eq_true (by omega)
      have e2 : decide ((0 : Int) ≤ (i : Int)) = true := decide_eq_true (by omega)
      have e3 : sl6Meta ((m0, m1, l), (nth l (i : Int)).1, (nth l (i : Int)).2.1, (nth l (i : Int)).2.2.1, (nth l (i : Int)).2.2.2) = some (metB m0 l[i]) := by rw [nth_nat l i hi]; exact met_s (m0, m1, l) l[i]
      simp only [sManOk_L4, e1, e2, e3, Bool.and_self, cond_true, Option.bind_some]
      unfold rowOk
      cases metB m0 l[i] with
      | false => rfl
      | true =>
        rcases Nat.eq_zero_or_pos i with h0 | h0
        · subst h0
          have c1 : decide (((0 : Nat) : Int) > 0) = false := rfl
          simp only [Bool.not_true, cond_false, c1, Option.bind_some, nth_nat l 0 hi]
          rw [clash_s m0 m1 l hl 0 hi]
          simp only [wrap_succ (show 0 < 4611686018427387904 by omega)]
          simp
        · have c1 : decide ((i : Int) > 0) = true := decide_eq_true (by omega)
          have c2 : decide ((0 : Int) ≤ ((i - 1 : Nat) : Int)) = true := decide_eq_true (by omega)
          have c3 : decide (((i - 1 : Nat) : Int) < ((l.length : Nat) : Int)) = true := decide_eq_true (by omega)
          have c4 : decide (i = 0) = false := decide_eq_false (by omega)
          simp only [Bool.not_true, cond_false, c1, cond_true, wrap_pred (show i < 4611686018427387904 by omega) h0, c2, c3, Bool.and_self, nth_nat l i hi, c4, Bool.false_or, Bool.true_and]
          cases decide ((nth l ((i - 1 : Nat) : Int)).1 ≥ l[i].1) with
          | true => rfl
          | false =>
            simp only [cond_false, Option.bind_some]
            rw [clash_s m0 m1 l hl i hi]
            simp only [wrap_succ (show i < 4611686018427387904 by omega), Bool.not_false, Bool.true_and]) (fun q s => by simp [sManOk_L4]) ()
  refine this.trans ?_
  rw [runL_allI]
  cases allI (rowOk m0 l) 0 l <;> rfl

theorem rows_i {x : (Int × Int × List MetT) → Option Bool} (m0 m1 : Int) (l : List MetT) (hl : l.length ≤ 1048576) : iManOk_L2 Bool fuel (l, ((l.length : Nat) : Int), 0, m0, m1, l) x some = cond (allI (rowOk m0 l) 0 l) (x (m0, m1, l)) (some false) := by
  have := loop0 l (by omega) (fun q i (_ : Unit) => iManOk_L2 Bool q (l, ((l.length : Nat) : Int), i, m0, m1, l) x some) (fun i y s k => cond (rowOk m0 l i y) (k s) (some false)) (fun _ => x (m0, m1, l))
    (fun q i hi s => by
      have e1 : decide ((i : Int) < ((l.length : Nat) : Int)) = true := decide_eq_true (by omega)
      have e2 : decide ((0 : Int) ≤ (i : Int)) = true := decide_eq_true (by omega)
      have e3 : imetaOk ((m0, m1, l), (nth l (i : Int)).1, (nth l (i : Int)).2.1, (nth l (i : Int)).2.2.1, (nth l (i : Int)).2.2.2) = some (metB m0 l[i]) := by rw [nth_nat l i hi]; exact met_i (m0, m1, l) l[i]
      have e4 : decide ((i : Int) ≤ ((l.length : Nat) : Int)) = true := decide_eq_true (by omega)
      have e5 : cut l 0 (i : Int) = l.take i := by simp [cut]
      have e6 : (l.take i).length ≤ 1048576 := by rw [List.length_take]; omega
      simp only [iManOk_L2, e1, e2, e3, Bool.and_self, cond_true, Option.bind_some]
      unfold rowOk
      cases metB m0 l[i] with
      | false => rfl
      | true =>
        rcases Nat.eq_zero_or_pos i with h0 | h0
        · subst h0
          have c1 : decide (((0 : Nat) : Int) > 0) = false := rfl
          simp only [Bool.not_true, cond_false, c1, Option.bind_some, nth_nat l 0 hi, e2, e4, Bool.and_self, cond_true, e5]
          rw [clash_i m0 m1 l l[0] (l.take 0) e6]
          simp only [wrap_succ (show 0 < 4611686018427387904 by omega)]
          simp
        · have c1 : decide ((i : Int) > 0) = true := decide_eq_true (by omega)
          have c2 : decide ((0 : Int) ≤ ((i - 1 : Nat) : Int)) = true := decide_eq_true (by omega)
          have c3 : decide (((i - 1 : Nat) : Int) < ((l.length : Nat) : Int)) = true := decide_eq_true (by omega)
          have c4 : decide (i = 0) = false := decide_eq_false (by omega)
          simp only [Bool.not_true, cond_false, c1, cond_true, wrap_pred (show i < 4611686018427387904 by omega) h0, c2, c3, Bool.and_self, nth_nat l i hi, c4, Bool.false_or, Bool.true_and]
          cases decide ((nth l ((i - 1 : Nat) : Int)).1 ≥ l[i].1) with
          | true => rfl
          | false =>
            simp only [cond_false, Option.bind_some, e2, e4, Bool.and_self, cond_true, e5]
            rw [clash_i m0 m1 l l[i] (l.take i) e6]
            simp only [wrap_succ (show i < 4611686018427387904 by omega), Bool.not_false, Bool.true_and]) (fun q s => by simp [iManOk_L2]) ()
  refine this.trans ?_
  rw [runL_allI]

def manB (m : ManT) : Bool := inZ m.1 1 100000 && (inZ m.2.1 0 (IntKind.wrap .i64 (m.1 - 1)) && (decide (m.2.2.length ≤ 20) && allI (rowOk m.1 m.2.2) 0 m.2.2))

theorem man_s (m : ManT) (hl : m.2.2.length ≤ 1048576) : sManOk m = some (manB m) := by
  obtain ⟨m0, m1, l⟩ := m
  have e20 : decide (((l.length : Nat) : Int) > 20) = !decide (l.length ≤ 20) := by rw [Bool.eq_iff_iff]; simp; omega
  simp only [sManOk, sIn, Option.bind_some, manB, inZ, e20, rows_s m0 m1 l hl]
  cases (decide (m0 ≥ 1) && decide (m0 ≤ 100000)) <;> cases (decide (m1 ≥ 0) && decide (m1 ≤ IntKind.wrap .i64 (m0 - 1))) <;> cases decide (l.length ≤ 20) <;> rfl

theorem man_i (m : ManT) (hl : m.2.2.length ≤ 1048576) : iManOk m = some (manB m) := by
  obtain ⟨m0, m1, l⟩ := m
  have e20 : decide (((l.length : Nat) : Int) ≤ 20) = decide (l.length ≤ 20) := by rw [Bool.eq_iff_iff]; simp; omega
  simp only [iManOk, rows_i m0 m1 l hl, iIn, Option.bind_some, manB, inZ, e20]
  cases allI (rowOk m0 l) 0 l <;> cases (decide (m0 ≥ 1) && decide (m0 ≤ 100000)) <;> cases (decide (m1 ≥ 0) && decide (m1 ≤ IntKind.wrap .i64 (m0 - 1))) <;> cases decide (l.length ≤ 20) <;> rfl
end Go.Rx
/- The manifest's law: plain. -/
namespace Go.Rx

abbrev metTy : Ty := .pair (.int .i64) (.pair (.int .i64) (.pair .str .str))
abbrev manTy : Ty := .pair (.int .i64) (.pair (.int .i64) (.sl metTy))

/-- what lies in memory -/
def memOk {α : Type} (l : List α) : Prop := l.length ≤ 9223372036854775807
theorem mem_of {α : Type} {l : List α} (h : l.length ≤ maxLen) : memOk l := h

def MetIn (x : MetT) : Prop := memOk x.2.2.1 ∧ memOk x.2.2.2

/-! ### Sizes -/
theorem sz_meta (x : MetT) (left : Int) (hx : MetIn x) (h0 : 0 ≤ left) (h1 : left ≤ 1048576) : ∃ r, lszMeta (x, left) = some r ∧ (r < 0 ∨ (0 ≤ r ∧ r ≤ left)) := by
  obtain ⟨k, n, a, b⟩ := x
  obtain ⟨h2, h3⟩ := hx
  unfold memOk at h2 h3
  dsimp only at h2 h3
  simp only [lszMeta]
  rw [wrap64 (by omega) (by omega)]
  by_cases h : left - (a.length : Int) < 0
  · exact ⟨-1, by simp [h], .inl (by omega)⟩
  · rw [wrap64 (by omega) (by omega)]
    by_cases h' : left - (a.length : Int) - (b.length : Int) < 0
    · exact ⟨-1, by simp [h, h'], .inl (by omega)⟩
    · exact ⟨_, by simp [h, h']; rfl, .inr ⟨by omega, by omega⟩⟩

theorem sz_list : ∀ (l : List MetT) (i : Nat) (left : Int), (∀ a ∈ l, MetIn a) → 0 ≤ left → left ≤ 1048576 →
    ∃ r', runL (fun _ a s k => (lszMeta (a, s)).bind fun r5 => cond (decide (r5 < 0)) (some (-1)) (k r5)) some i l left = some r' ∧ (r' < 0 ∨ (0 ≤ r' ∧ r' ≤ left))
  | [], i, left, _, h0, h1 => ⟨left, by simp [runL], .inr ⟨h0, by omega⟩⟩
  | a :: l, i, left, hi, h0, h1 => by
    simp only [runL]
    obtain ⟨r5, e, h⟩ := sz_meta a left (hi a (by simp)) h0 h1
    rw [e]
    rcases h with h | ⟨h2, h3⟩
    · exact ⟨-1, by simp [h], .inl (by omega)⟩
    · obtain ⟨r', e', h5⟩ := sz_list l (i + 1) r5 (fun a ha => hi a (by simp [ha])) h2 (by omega)
      refine ⟨r', by simp only [Option.bind_some, show ¬ r5 < 0 from by omega, decide_false, cond_false]; exact e', ?_⟩
      rcases h5 with h5 | ⟨h5, h6⟩
      · exact .inl h5
      · exact .inr ⟨h5, by omega⟩

theorem sz_metas (a : List MetT) (left : Int) (hm : memOk a) (hi : ∀ c ∈ a, MetIn c) (h0 : 0 ≤ left) (h1 : left ≤ 1048576) : ∃ r, lszMetaS (a, left) = some r ∧ (r < 0 ∨ (0 ≤ r ∧ (a.length : Int) ≤ left)) := by
  unfold memOk at hm
  simp only [lszMetaS]
  rw [wrap64 (by omega) (by omega)]
  by_cases h : left - (a.length : Int) < 0
  · exact ⟨-1, by simp [h], .inl (by omega)⟩
  · have := loop0 a (by omega) (fun q i s => lszMetaS_L5 Int q (a, s, i) (fun left6 => (some left6)) some) (fun _ a s k => (lszMeta (a, s)).bind fun r5 => cond (decide (r5 < 0)) (some (-1)) (k r5)) some
      (fun q i hi s => by simp only [lszMetaS_L5]; simp [hi, nth_nat _ _ hi, wrap_succ (show i < 4611686018427387904 by omega)]) (fun q s => by simp [lszMetaS_L5]) (left - a.length)
    simp only [h, decide_false, cond_false]
    rw [this]
    obtain ⟨r, e, h5⟩ := sz_list a 0 (left - a.length) hi (by omega) (by omega)
    refine ⟨r, e, ?_⟩
    rcases h5 with h5 | ⟨h5, h6⟩
    · exact .inl h5
    · exact .inr ⟨h5, by omega⟩

theorem sz_man (a : ManT) (hm : memOk a.2.2) (hi : ∀ c ∈ a.2.2, MetIn c) : ∃ r, lszManifest (a, 1048576) = some r ∧ (r < 0 ∨ (0 ≤ r ∧ a.2.2.length ≤ 1048576)) := by
  obtain ⟨a0, a1, l⟩ := a
  obtain ⟨r, e, h⟩ := sz_metas l 1048576 hm hi (by omega) (by omega)
  simp only [lszManifest, e, Option.bind_some]
  rcases h with h | ⟨h0, h1⟩
  · exact ⟨-1, by simp [h], .inl (by omega)⟩
  · exact ⟨r, by simp [show ¬ r < 0 from by omega], .inr ⟨h0, by simpa using Int.ofNat_le.1 h1⟩⟩

/-! ### Copies and likeness -/
theorem to_metas (l : List MetT) (h : l.length ≤ 1048576) : ltoMetaS l = some l := by
  simp only [ltoMetaS]
  have := copy_run l (by omega) id (0, 0, [], []) (fun q i out => ltoMetaS_L3 (List MetT) q (l, i, out) some some) some
    (fun q i hi out ho => by simp only [ltoMetaS_L3]; simp [hi, ho, nth_nat _ _ hi, wrap_succ (show i < 4611686018427387904 by omega), ltoMeta]) (fun q out => by simp [ltoMetaS_L3])
  simp only [List.map_id] at this
  rw [← this]
  have hle : (l.length : Int) ≤ 4294967296 := by omega
  simp [hle]

theorem to_man (a : ManT) (h : a.2.2.length ≤ 1048576) : ltoManifest a = some a := by
  obtain ⟨a0, a1, l⟩ := a
  simp only [ltoManifest]
  rw [to_metas l h]
  rfl

theorem runL_skip {α : Type} {σ : Type} {ρ : Type} (fin : σ → ρ) : ∀ (l : List α) (i : Nat) (s : σ), runL (fun _ _ s k => k s) fin i l s = fin s
  | [], _, _ => rfl
  | _ :: l, i, s => runL_skip fin l (i + 1) s

theorem eq_meta (x : MetT) : leqMeta (x, x) = some true := by obtain ⟨a, b, c, d⟩ := x; simp [leqMeta]
theorem eq_metas (l : List MetT) (h : l.length ≤ 1048576) : leqMetaS (l, l) = some true := by
  simp only [leqMetaS]
  have := loop0 l (by omega) (fun q i (_ : Unit) => leqMetaS_L4 Bool q (l, l, i) (fun _ => some true) some) (fun _ _ s k => k s) (fun _ => some true)
    (fun q i hi s => by simp only [leqMetaS_L4]; simp [hi, nth_nat _ _ hi, wrap_succ (show i < 4611686018427387904 by omega), eq_meta l[i]]) (fun q s => by simp [leqMetaS_L4]) ()
  simp [this, runL_skip]
theorem eq_man (a : ManT) (h : a.2.2.length ≤ 1048576) : leqManifest (a, a) = some true := by
  obtain ⟨a0, a1, l⟩ := a
  simp [leqManifest, eq_metas l h]

/-! ### The text -/
/-- What a right row needs. -/
def RowR (x : MetT) : Prop := (0 ≤ x.1 ∧ x.1 ≤ 100000) ∧ (0 ≤ x.2.1 ∧ x.2.1 ≤ 100000) ∧ x.2.2.1.length ≤ 20 ∧ x.2.2.2.length ≤ 20
def hexS (s : List UInt8) : List UInt8 := strOf (hexL s)
theorem hexS_len (s : List UInt8) : (hexS s).length = 2 * s.length := by unfold hexS strOf; rw [List.length_map, hexL_len]
def rowT (x : MetT) : List UInt8 := [116, 97, 98, 32] ++ (Lib.itoa x.1 ++ ([32] ++ (Lib.itoa x.2.1 ++ ([32] ++ (hexS x.2.2.1 ++ ([32] ++ (hexS x.2.2.2 ++ [10])))))))
theorem rowT_len {x : MetT} (h : RowR x) : (rowT x).length ≤ 200 := by
  obtain ⟨h1, h2, h3, h4⟩ := h
  have l1 := itoa_len h1
  have l2 := itoa_len h2
  have l3 := hexS_len x.2.2.1
  have l4 := hexS_len x.2.2.2
  simp only [rowT, List.length_append, List.length_cons, List.length_nil]
  omega

theorem runL_app {α ρ : Type} (fin : List UInt8 → ρ) (T : α → List UInt8) : ∀ (l : List α) (i : Nat) (s : List UInt8), runL (fun _ a s k => k (s ++ T a)) fin i l s = fin (s ++ (l.map T).flatten)
  | [], _, s => by simp [runL]
  | a :: l, i, s => by
    simp only [runL]
    rw [runL_app fin T l (i + 1)]
    simp

/-- A loop that adds rows, as long as what is there is short. -/
theorem add_run {O : Type} (T : MetT → List UInt8) (l : List MetT) (hl : l.length ≤ 20) (hT : ∀ x ∈ l, (T x).length ≤ 200) (g : Nat → Int → List UInt8 → Option O) (fin : List UInt8 → Option O)
    (h1 : ∀ q (i : Nat) (hi : i < l.length) s, s.length ≤ 10000 → g (q + 1) (i : Int) s = g q ((i + 1 : Nat) : Int) (s ++ T l[i]))
    (h2 : ∀ q s, g (q + 1) ((l.length : Nat) : Int) s = fin s) (s : List UInt8) (hs : s.length ≤ 1000) : g fuel 0 s = fin (s ++ (l.map T).flatten) := by
  have key : ∀ (m q i : Nat) (s : List UInt8), i + m = l.length → m < q → s.length ≤ 1000 + 200 * i → g q (i : Int) s = fin (s ++ ((l.drop i).map T).flatten) := by
    intro m
    induction m with
    | zero =>
      intro q i s he hq hs
      obtain ⟨q, rfl⟩ : ∃ q', q = q' + 1 := ⟨q - 1, by omega⟩
      have : i = l.length := by omega
      subst this
      rw [h2, List.drop_length]
      simp
    | succ m ih =>
      intro q i s he hq hs
      obtain ⟨q, rfl⟩ : ∃ q', q = q' + 1 := ⟨q - 1, by omega⟩
      have hi : i < l.length := by omega
      have hx := hT l[i] (List.getElem_mem hi)
      rw [h1 q i hi s (by omega), ih q (i + 1) (s ++ T l[i]) (by omega) (by omega) (by rw [List.length_append]; omega), List.drop_eq_getElem_cons hi]
      simp only [List.map_cons, List.flatten_cons, List.append_assoc]
  have := key l.length fuel 0 s (by omega) (by rw [fuel_eq]; omega) (by omega)
  simpa using this

theorem okLen {n : Nat} (h : n ≤ 100000) : decide (n ≤ lenBound) = true := decide_eq_true (by unfold lenBound; omega)

theorem rows_text_s (m0 m1 : Int) (l : List MetT) (hl : l.length ≤ 20) (hr : ∀ x ∈ l, RowR x) (x : List UInt8 → Option (List UInt8)) (s : List UInt8) (hs : s.length ≤ 1000) :
    sManText_L5 (List UInt8) fuel (s, 0, m0, m1, l) x some = x (s ++ (l.map rowT).flatten) := by
  refine add_run rowT l hl (fun y hy => rowT_len (hr y hy)) (fun q i s => sManText_L5 (List UInt8) q (s, i, m0, m1, l) x some) x (fun q i hi s hs => ?_) (fun q s => by simp [sManText_L5]) s hs
  have e1 : decide ((i : Int) < ((l.length : Nat) : Int)) = true := decide_eq_true (by omega)
  have e2 : decide ((0 : Int) ≤ (i : Int)) = true := decide_eq_true (by omega)
  obtain ⟨g1, g2, g3, g4⟩ := hr l[i] (List.getElem_mem hi)
  have l1 := itoa_len g1
  have l2 := itoa_len g2
  have l3 := hexS_len l[i].2.2.1
  have l4 := hexS_len l[i].2.2.2
  have t1 := (text_itoa g1).1
  have t2 := (text_itoa g2).1
  have t3 : sl6Hex l[i].2.2.1 = some (hexS l[i].2.2.1) := hex_s _ (by omega)
  have t4 : sl6Hex l[i].2.2.2 = some (hexS l[i].2.2.2) := hex_s _ (by omega)
  simp only [sManText_L5, rowT, e1, e2, Bool.and_self, cond_true, nth_nat l i hi, t1, t2, t3, t4, Option.bind_some, wrap_succ (show i < 4611686018427387904 by omega)]
  generalize Lib.itoa l[i].1 = a at *
  generalize Lib.itoa l[i].2.1 = b at *
  generalize hexS l[i].2.2.1 = c at *
  generalize hexS l[i].2.2.2 = d at *
  have k1 : decide (s.length + 4 ≤ lenBound) = true := okLen (by omega)
  have k2 : decide ((s ++ [116, 97, 98, 32]).length + a.length ≤ lenBound) = true := okLen (by simp only [List.length_append, List.length_cons, List.length_nil]; omega)
  have k3 : decide ((s ++ [116, 97, 98, 32] ++ a).length + 1 ≤ lenBound) = true := okLen (by simp only [List.length_append, List.length_cons, List.length_nil]; omega)
  have k4 : decide ((s ++ [116, 97, 98, 32] ++ a ++ [32]).length + b.length ≤ lenBound) = true := okLen (by simp only [List.length_append, List.length_cons, List.length_nil]; omega)
  have k5 : decide ((s ++ [116, 97, 98, 32] ++ a ++ [32] ++ b).length + 1 ≤ lenBound) = true := okLen (by simp only [List.length_append, List.length_cons, List.length_nil]; omega)
  have k6 : decide ((s ++ [116, 97, 98, 32] ++ a ++ [32] ++ b ++ [32]).length + c.length ≤ lenBound) = true := okLen (by simp only [List.length_append, List.length_cons, List.length_nil]; omega)
  have k7 : decide ((s ++ [116, 97, 98, 32] ++ a ++ [32] ++ b ++ [32] ++ c).length + 1 ≤ lenBound) = true := okLen (by simp only [List.length_append, List.length_cons, List.length_nil]; omega)
  have k8 : decide ((s ++ [116, 97, 98, 32] ++ a ++ [32] ++ b ++ [32] ++ c ++ [32]).length + d.length ≤ lenBound) = true := okLen (by simp only [List.length_append, List.length_cons, List.length_nil]; omega)
  have k9 : decide ((s ++ [116, 97, 98, 32] ++ a ++ [32] ++ b ++ [32] ++ c ++ [32] ++ d).length + 1 ≤ lenBound) = true := okLen (by simp only [List.length_append, List.length_cons, List.length_nil]; omega)
  simp only [k1, k2, k3, k4, k5, k6, k7, k8, k9, cond_true]
  simp only [List.append_assoc]

theorem rows_text_i (l : List MetT) (hl : l.length ≤ 20) (hr : ∀ x ∈ l, RowR x) (x : List UInt8 → Option (List UInt8)) (s : List UInt8) (hs : s.length ≤ 1000) :
    iManText_L5 (List UInt8) fuel (s, l, ((l.length : Nat) : Int), 0) x some = x (s ++ (l.map rowT).flatten) := by
  refine add_run rowT l hl (fun y hy => rowT_len (hr y hy)) (fun q i s => iManText_L5 (List UInt8) q (s, l, ((l.length : Nat) : Int), i) x some) x (fun q i hi s hs => ?_) (fun q s => by simp [iManText_L5]) s hs
  have e1 : decide ((i : Int) < ((l.length : Nat) : Int)) = true := decide_eq_true (by omega)
  have e2 : decide ((0 : Int) ≤ (i : Int)) = true := decide_eq_true (by omega)
  obtain ⟨g1, g2, g3, g4⟩ := hr l[i] (List.getElem_mem hi)
  have l1 := itoa_len g1
  have l2 := itoa_len g2
  have l3 := hexS_len l[i].2.2.1
  have l4 := hexS_len l[i].2.2.2
  have t1 := (text_itoa g1).2
  have t2 := (text_itoa g2).2
  have t3 : ihex l[i].2.2.1 = some (hexS l[i].2.2.1) := hex_i _ (by omega)
  have t4 : ihex l[i].2.2.2 = some (hexS l[i].2.2.2) := hex_i _ (by omega)
  simp only [iManText_L5, rowT, e1, e2, Bool.and_self, cond_true, nth_nat l i hi, t1, t2, t3, t4, Option.bind_some, wrap_succ (show i < 4611686018427387904 by omega)]
  generalize Lib.itoa l[i].1 = a at *
  generalize Lib.itoa l[i].2.1 = b at *
  generalize hexS l[i].2.2.1 = c at *
  generalize hexS l[i].2.2.2 = d at *
  have k1 : decide (4 + a.length ≤ lenBound) = true := okLen (by omega)
  have k3 : decide (([116, 97, 98, 32] ++ a).length + 1 ≤ lenBound) = true := okLen (by simp only [List.length_append, List.length_cons, List.length_nil]; omega)
  have k4 : decide (([116, 97, 98, 32] ++ a ++ [32]).length + b.length ≤ lenBound) = true := okLen (by simp only [List.length_append, List.length_cons, List.length_nil]; omega)
  have k5 : decide (([116, 97, 98, 32] ++ a ++ [32] ++ b).length + 1 ≤ lenBound) = true := okLen (by simp only [List.length_append, List.length_cons, List.length_nil]; omega)
  have k6 : decide (([116, 97, 98, 32] ++ a ++ [32] ++ b ++ [32]).length + c.length ≤ lenBound) = true := okLen (by simp only [List.length_append, List.length_cons, List.length_nil]; omega)
  have k7 : decide (([116, 97, 98, 32] ++ a ++ [32] ++ b ++ [32] ++ c).length + 1 ≤ lenBound) = true := okLen (by simp only [List.length_append, List.length_cons, List.length_nil]; omega)
  have k8 : decide (([116, 97, 98, 32] ++ a ++ [32] ++ b ++ [32] ++ c ++ [32]).length + d.length ≤ lenBound) = true := okLen (by simp only [List.length_append, List.length_cons, List.length_nil]; omega)
  have k9 : decide (([116, 97, 98, 32] ++ a ++ [32] ++ b ++ [32] ++ c ++ [32] ++ d).length + 1 ≤ lenBound) = true := okLen (by simp only [List.length_append, List.length_cons, List.length_nil]; omega)
  have k10 : decide (s.length + ([116, 97, 98, 32] ++ a ++ [32] ++ b ++ [32] ++ c ++ [32] ++ d ++ [10]).length ≤ lenBound) = true := okLen (by simp only [List.length_append, List.length_cons, List.length_nil]; omega)
  simp only [k1, k3, k4, k5, k6, k7, k8, k9, k10, cond_true]
  simp only [List.append_assoc]

/-- Of a right manifest. -/
theorem man_right {m : ManT} (h : manB m = true) : (0 ≤ m.1 ∧ m.1 ≤ 100000) ∧ (0 ≤ m.2.1 ∧ m.2.1 ≤ 100000) ∧ m.2.2.length ≤ 20 ∧ ∀ x ∈ m.2.2, RowR x := by
  obtain ⟨m0, m1, l⟩ := m
  simp only [manB, inZ, Bool.and_eq_true, decide_eq_true_eq] at h
  obtain ⟨⟨a1, a2⟩, ⟨b1, b2⟩, c, d⟩ := h
  rw [wrap64 (by omega) (by omega)] at b2
  refine ⟨⟨by omega, by omega⟩, ⟨b1, by show m1 ≤ _; omega⟩, c, fun x hx => ?_⟩
  change x ∈ l at hx
  obtain ⟨j, hj, rfl⟩ := List.getElem_of_mem hx
  have := (allI_iff _ _ _).1 d j hj
  simp only [rowOk, metB, inZ, Bool.and_eq_true, decide_eq_true_eq] at this
  obtain ⟨⟨⟨e1, e2⟩, ⟨f1, f2⟩, ⟨_, g⟩, ⟨_, g'⟩, _⟩, _⟩ := this
  rw [wrap64 (by omega) (by omega)] at e2
  exact ⟨⟨by omega, by omega⟩, ⟨by omega, by omega⟩, by omega, by omega⟩

def manT (m : ManT) : List UInt8 := cond (manB m) ([110, 101, 120, 116, 32] ++ (Lib.itoa m.1 ++ ([32, 108, 111, 103, 32] ++ (Lib.itoa m.2.1 ++ ([10] ++ ((m.2.2.map rowT).flatten ++ [101, 110, 100, 10])))))) []

theorem rowsT_len (l : List MetT) (hr : ∀ x ∈ l, RowR x) : ((l.map rowT).flatten).length ≤ 200 * l.length := by
  induction l with
  | nil => simp
  | cons a l ih =>
    have := ih fun x hx => hr x (by simp [hx])
    have h1 := rowT_len (hr a (by simp))
    simp only [List.map_cons, List.flatten_cons, List.length_append, List.length_cons]
    omega

theorem text_s (m : ManT) (hl : m.2.2.length ≤ 1048576) : sManText m = some (manT m) := by
  obtain ⟨m0, m1, l⟩ := m
  simp only [sManText, man_s (m0, m1, l) hl, Option.bind_some, manT]
  cases hb : manB (m0, m1, l) with
  | false => rfl
  | true =>
    obtain ⟨g1, g2, g3, g4⟩ := man_right hb
    dsimp only at g1 g2 g3 g4
    have l1 := itoa_len g1
    have l2 := itoa_len g2
    have l3 := rowsT_len l g4
    simp only [(text_itoa g1).1, (text_itoa g2).1, Option.bind_some, Bool.not_true, cond_false, cond_true]
    generalize Lib.itoa m0 = a at *
    generalize Lib.itoa m1 = b at *
    have k1 : decide (5 + a.length ≤ lenBound) = true := okLen (by omega)
    have k2 : decide (([110, 101, 120, 116, 32] ++ a).length + 5 ≤ lenBound) = true := okLen (by simp only [List.length_append, List.length_cons, List.length_nil]; omega)
    have k3 : decide (([110, 101, 120, 116, 32] ++ a ++ [32, 108, 111, 103, 32]).length + b.length ≤ lenBound) = true := okLen (by simp only [List.length_append, List.length_cons, List.length_nil]; omega)
    have k4 : decide (([110, 101, 120, 116, 32] ++ a ++ [32, 108, 111, 103, 32] ++ b).length + 1 ≤ lenBound) = true := okLen (by simp only [List.length_append, List.length_cons, List.length_nil]; omega)
    simp only [k1, k2, k3, k4, cond_true]
    rw [rows_text_s m0 m1 l g3 g4 _ _ (by simp only [List.length_append, List.length_cons, List.length_nil]; omega)]
    have k5 : decide (([110, 101, 120, 116, 32] ++ a ++ [32, 108, 111, 103, 32] ++ b ++ [10] ++ (l.map rowT).flatten).length + 4 ≤ lenBound) = true := okLen (by simp only [List.length_append, List.length_cons, List.length_nil]; omega)
    simp only [k5, cond_true]
    simp only [List.append_assoc]

theorem text_i (m : ManT) (hl : m.2.2.length ≤ 1048576) : iManText m = some (manT m) := by
  obtain ⟨m0, m1, l⟩ := m
  simp only [iManText, man_i (m0, m1, l) hl, Option.bind_some, manT]
  cases hb : manB (m0, m1, l) with
  | false => rfl
  | true =>
    obtain ⟨g1, g2, g3, g4⟩ := man_right hb
    dsimp only at g1 g2 g3 g4
    have l1 := itoa_len g1
    have l2 := itoa_len g2
    have l3 := rowsT_len l g4
    simp only [(text_itoa g1).2, (text_itoa g2).2, Option.bind_some, Bool.not_true, cond_false, cond_true]
    generalize Lib.itoa m0 = a at *
    generalize Lib.itoa m1 = b at *
    have k1 : decide (5 + a.length ≤ lenBound) = true := okLen (by omega)
    have k2 : decide (([110, 101, 120, 116, 32] ++ a).length + 5 ≤ lenBound) = true := okLen (by simp only [List.length_append, List.length_cons, List.length_nil]; omega)
    have k3 : decide (([110, 101, 120, 116, 32] ++ a ++ [32, 108, 111, 103, 32]).length + b.length ≤ lenBound) = true := okLen (by simp only [List.length_append, List.length_cons, List.length_nil]; omega)
    have k4 : decide (([110, 101, 120, 116, 32] ++ a ++ [32, 108, 111, 103, 32] ++ b).length + 1 ≤ lenBound) = true := okLen (by simp only [List.length_append, List.length_cons, List.length_nil]; omega)
    simp only [k1, k2, k3, k4, cond_true]
    rw [rows_text_i l g3 g4 _ _ (by simp only [List.length_append, List.length_cons, List.length_nil]; omega)]
    have k5 : decide (([110, 101, 120, 116, 32] ++ a ++ [32, 108, 111, 103, 32] ++ b ++ [10] ++ (l.map rowT).flatten).length + 4 ≤ lenBound) = true := okLen (by simp only [List.length_append, List.length_cons, List.length_nil]; omega)
    simp only [k5, cond_true]
    simp only [List.append_assoc]

/-! ### The law -/
theorem law_manText (a : ManT) (hm : memOk a.2.2) (hi : ∀ c ∈ a.2.2, MetIn c) : lFnExactManText a = some true := by
  obtain ⟨r, e, h⟩ := sz_man a hm hi
  have t1 := to_man a
  have t2 := text_s a
  have t3 := text_i a
  have t4 := eq_man a
  obtain ⟨a0, a1, l⟩ := a
  simp only [lFnExactManText, e, Option.bind_some]
  rcases h with h | ⟨h0, h1⟩
  · simp [h]
  · simp only [show decide (r < 0) = false from decide_eq_false (by omega), cond_false, t1 h1, t2 h1, t3 h1, t4 h1, Option.bind_some, beq_self_eq_true, Bool.not_true]

theorem law_manText_good (a : ManT) (h : GoodD manTy a) : lFnExactManText a = some true :=
  law_manText a (mem_of h.2.2.1) fun c hc => have g := h.2.2.2 c hc; ⟨mem_of g.2.2.1, mem_of g.2.2.2⟩
end Go.Rx
