import Derived.Test.YtecdihlfbncedaaGreatDoorPScan0
import Derived.Orders
set_option linter.all false
/- The sum of bytes, in plain words: one byte that differs is seen. -/
namespace Go.Rx

def crcBit (r : BitVec 32) : BitVec 32 := if r.toNat % 2 = 1 then (r >>> 1) ^^^ 2197175160#32 else r >>> 1

def crcBits : Nat → BitVec 32 → BitVec 32
  | 0, r => r
  | n + 1, r => crcBits n (crcBit r)

def crcByte (r : BitVec 32) (x : Int) : BitVec 32 := crcBits 8 (r ^^^ BitVec.ofInt 32 x)
def crcL (l : List Int) (r : BitVec 32) : BitVec 32 := l.foldl crcByte r
def sumL (l : List Int) : Int := ((~~~ (crcL l 4294967295#32)).toNat : Int)

end Go.Rx
/- Numbers in bytes, and lists within lists, in plain words. -/
namespace Go.Rx

/-- 'l' stands in 'b' from the place k on. -/
def At {α : Type} (b : List α) (k : Nat) (l : List α) : Prop := ∃ pre post, b = pre ++ (l ++ post) ∧ pre.length = k

theorem At.len {α : Type} {b : List α} {k : Nat} {l : List α} (h : At b k l) : k + l.length ≤ b.length := by
  obtain ⟨pre, post, rfl, rfl⟩ := h
  simp

theorem At.left {α : Type} {b : List α} {k : Nat} {l m : List α} (h : At b k (l ++ m)) : At b k l := by
  obtain ⟨pre, post, rfl, rfl⟩ := h
  exact ⟨pre, m ++ post, by simp, rfl⟩

theorem At.right {α : Type} {b : List α} {k : Nat} {l m : List α} (h : At b k (l ++ m)) : At b (k + l.length) m := by
  obtain ⟨pre, post, rfl, rfl⟩ := h
  exact ⟨pre ++ l, post, by simp, by simp⟩

theorem At.get {α : Type} {b : List α} {k : Nat} {l : List α} (h : At b k l) (i : Nat) (hi : i < l.length) : b[k + i]? = some l[i] := by
  obtain ⟨pre, post, rfl, rfl⟩ := h
  rw [List.getElem?_append_right (by omega), show pre.length + i - pre.length = i from by omega, List.getElem?_append_left hi, List.getElem?_eq_getElem hi]

theorem At.cut {α : Type} {b : List α} {k : Nat} {l : List α} (h : At b k l) : (b.take (k + l.length)).drop k = l := by
  obtain ⟨pre, post, rfl, rfl⟩ := h
  rw [← List.append_assoc, List.take_append_of_le_length (by simp)]
  rw [List.take_of_length_le (by simp)]
  simp

theorem At.whole {α : Type} (l : List α) : At l 0 l := ⟨[], [], by simp, rfl⟩
theorem At.inside {α : Type} {b m : List α} {k j : Nat} {l : List α} (h : At b k m) (h2 : At m j l) : At b (k + j) l := by
  obtain ⟨pre, post, rfl, rfl⟩ := h
  obtain ⟨p2, q2, rfl, rfl⟩ := h2
  exact ⟨pre ++ p2, q2 ++ post, by simp, by simp⟩

/-- A number's bytes. -/
def numB (n : Nat) : List Int :=
  if n < 128 then [(n : Int)]
  else if n < 16384 then [((n / 128 + 128 : Nat) : Int), ((n % 128 : Nat) : Int)]
  else if n < 2097152 then [((n / 16384 + 128 : Nat) : Int), ((n / 128 % 128 + 128 : Nat) : Int), ((n % 128 : Nat) : Int)]
  else if n < 268435456 then [((n / 2097152 + 128 : Nat) : Int), ((n / 16384 % 128 + 128 : Nat) : Int), ((n / 128 % 128 + 128 : Nat) : Int), ((n % 128 : Nat) : Int)]
  else [((n / 268435456 + 128 : Nat) : Int), ((n / 2097152 % 128 + 128 : Nat) : Int), ((n / 16384 % 128 + 128 : Nat) : Int), ((n / 128 % 128 + 128 : Nat) : Int), ((n % 128 : Nat) : Int)]

theorem numB_len (n : Nat) : 1 ≤ (numB n).length ∧ (numB n).length ≤ 5 := by
  unfold numB
  split
  · simp
  · split
    · simp
    · split
      · simp
      · split <;> simp

def ByteL (l : List Int) : Prop := ∀ x ∈ l, 0 ≤ x ∧ x < 256

theorem numB_bytes {n : Nat} (h : n ≤ 1000000000) : ByteL (numB n) := by
  unfold numB ByteL
  split
  · intro x hx; simp at hx; omega
  · split
    · intro x hx; simp only [List.mem_cons, List.not_mem_nil, or_false] at hx; omega
    · split
      · intro x hx; simp only [List.mem_cons, List.not_mem_nil, or_false] at hx; omega
      · split
        · intro x hx; simp only [List.mem_cons, List.not_mem_nil, or_false] at hx; omega
        · intro x hx; simp only [List.mem_cons, List.not_mem_nil, or_false] at hx; omega

theorem ByteL.append {l m : List Int} (h : ByteL l) (k : ByteL m) : ByteL (l ++ m) := fun x hx => by
  rcases List.mem_append.1 hx with hx | hx
  · exact h x hx
  · exact k x hx
end Go.Rx
/- Tables: numbers, texts, sums and frames, as the program writes them. -/
namespace Go.Rx

theorem fdiv_nat (n k : Nat) : Int.fdiv (n : Int) (k : Int) = ((n / k : Nat) : Int) := by
  rw [Int.fdiv_eq_ediv_of_nonneg _ (Int.natCast_nonneg k)]
  exact (Int.natCast_ediv n k).symm

theorem shr_nat (n : Nat) (k : Nat) (h : k ≤ 64) : Int.fdiv (n : Int) ((2 : Int) ^ (min (Int.toNat ((k : Nat) : Int)) 64)) = ((n / 2 ^ k : Nat) : Int) := by
  rw [Int.toNat_natCast, Nat.min_eq_left h, show ((2 : Int) ^ k) = ((2 ^ k : Nat) : Int) from by simp, fdiv_nat]

theorem and127 (n : Nat) (h : n < 2 ^ 62) : bits .and .i64 (n : Int) 127 = ((n % 128 : Nat) : Int) := by
  have h1 : (BitVec.ofInt 64 (n : Int) &&& BitVec.ofInt 64 127).toNat = n % 128 := by
    rw [BitVec.toNat_and]
    have e1 : (BitVec.ofInt 64 (n : Int)).toNat = n := by
      rw [BitVec.toNat_ofInt]
      omega
    have e2 : (BitVec.ofInt 64 (127 : Int)).toNat = 2 ^ 7 - 1 := rfl
    rw [e1, e2, Nat.and_two_pow_sub_one_eq_mod]
  show IntKind.wrap .i64 (((BitVec.ofInt 64 (n : Int) &&& BitVec.ofInt 64 127).toNat : Nat) : Int) = _
  rw [h1, wrap64 (by omega) (by omega)]

theorem wrap8 {x : Int} (h1 : 0 ≤ x) (h2 : x < 256) : IntKind.wrap .u8 x = x := IntWalk.u8_in _ (by omega)

section
variable {O : Type} (n : Nat) (hn : n ≤ 1000000000) (out : List Int) (ho : out.length ≤ 1073741824)

theorem num_more (q k : Nat) (hk : k ≤ 8) (h : 127 < n / 2 ^ (7 * k)) (x) (r) : iaddNum_L3 O (q + 1) ((n : Int), ((7 * k : Nat) : Int), out) x r = iaddNum_L3 O q ((n : Int), ((7 * (k + 1) : Nat) : Int), out) x r := by
  have e1 : decide (((7 * k : Nat) : Int) < 0) = false := decide_eq_false (by omega)
  have e2 : decide (((n / 2 ^ (7 * k) : Nat) : Int) > 127) = true := decide_eq_true (by omega)
  simp only [iaddNum_L3, e1, cond_false, shr_nat n (7 * k) (by omega), e2, cond_true]
  rw [wrap64 (by omega) (by omega), show (((7 * k : Nat) : Int) + 7) = ((7 * (k + 1) : Nat) : Int) from by omega]

theorem num_stop (q k : Nat) (hk : k ≤ 8) (h : n / 2 ^ (7 * k) ≤ 127) (x) (r) : iaddNum_L3 O (q + 1) ((n : Int), ((7 * k : Nat) : Int), out) x r = x ((n : Int), ((7 * k : Nat) : Int), out) := by
  have e1 : decide (((7 * k : Nat) : Int) < 0) = false := decide_eq_false (by omega)
  have e2 : decide (((n / 2 ^ (7 * k) : Nat) : Int) > 127) = false := decide_eq_false (by omega)
  simp only [iaddNum_L3, e1, cond_false, shr_nat n (7 * k) (by omega), e2]

theorem num_put (q k : Nat) (hk : k ≤ 8) (hn : n ≤ 1000000000) (o : List Int) (ho : o.length ≤ 1073741840) (x) (r) : iaddNum_L5 O (q + 1) ((n : Int), ((7 * (k + 1) : Nat) : Int), o) x r = iaddNum_L5 O q ((n : Int), ((7 * k : Nat) : Int), o ++ [((n / 2 ^ (7 * (k + 1)) % 128 + 128 : Nat) : Int)]) x r := by
  have e1 : decide (((7 * (k + 1) : Nat) : Int) < 0) = false := decide_eq_false (by omega)
  have e2 : decide (((7 * (k + 1) : Nat) : Int) > 0) = true := decide_eq_true (by omega)
  have hle : n / 2 ^ (7 * (k + 1)) ≤ n := Nat.div_le_self _ _
  have e3 : IntKind.wrap .u8 (IntKind.wrap .i64 ((((n / 2 ^ (7 * (k + 1))) % 128 : Nat) : Int) + 128)) = ((n / 2 ^ (7 * (k + 1)) % 128 + 128 : Nat) : Int) := by
    rw [wrap64 (by omega) (by omega), wrap8 (by omega) (by omega)]
    omega
  have e4 : ∀ y : Int, decide (o.length + [y].length ≤ lenBound) = true := fun y => decide_eq_true (by simp [lenBound]; omega)
  simp only [iaddNum_L5, e1, e2, cond_false, cond_true, shr_nat n (7 * (k + 1)) (by omega), and127 _ (show n / 2 ^ (7 * (k + 1)) < 2 ^ 62 by omega), e3, e4]
  rw [wrap64 (by omega) (by omega), show (((7 * (k + 1) : Nat) : Int) - 7) = ((7 * k : Nat) : Int) from by omega]

theorem num_end (q : Nat) (o : List Int) (x) (r) : iaddNum_L5 O (q + 1) ((n : Int), ((7 * 0 : Nat) : Int), o) x r = x ((n : Int), o) := by
  simp [iaddNum_L5]
end

/-- **A number is put.** -/
theorem addNum_ok (out : List Int) (n : Nat) (hn : n ≤ 1000000000) (ho : out.length ≤ 1073741824) : iaddNum (out, (n : Int)) = some (out ++ numB n) := by
  obtain ⟨q, hq⟩ : ∃ q, fuel = q + 12 := ⟨fuel - 12, by rw [fuel_eq]⟩
  have hc : (if (if (1000000000 : Int) < (n : Int) then (1000000000 : Int) else (n : Int)) > 0 then (if (1000000000 : Int) < (n : Int) then (1000000000 : Int) else (n : Int)) else 0) = (n : Int) := by
    rw [if_neg (show ¬ (1000000000 : Int) < (n : Int) by omega)]
    split <;> omega
  have last : ∀ o : List Int, o.length ≤ 1073741840 → (cond (decide ((o.length + [(IntKind.wrap .u8 (bits .and .i64 (n : Int) (127 : Int)))].length) ≤ lenBound)) (some (o ++ [(IntKind.wrap .u8 (bits .and .i64 (n : Int) (127 : Int)))])) none) = some (o ++ [((n % 128 : Nat) : Int)]) := fun o h => by
    rw [and127 n (by omega), wrap8 (by omega) (by omega), decide_eq_true (by simp [lenBound]; omega)]
    rfl
  simp only [iaddNum]
  rw [hc, hq]
  unfold numB
  split
  · refine (num_stop n out _ 0 (by omega) (by simp; omega) _ _).trans ?_
    refine (num_end n _ _ _ _).trans ?_
    refine (last _ (by dsimp only; omega)).trans ?_
    rw [Nat.mod_eq_of_lt (by omega)]
  · split
    · refine (num_more n out _ 0 (by omega) (by simp; omega) _ _).trans ?_
      refine (num_stop n out _ 1 (by omega) (by simp; omega) _ _).trans ?_
      refine (num_put n _ 0 (by omega) hn _ (by dsimp only; omega) _ _).trans ?_
      refine (num_end n _ _ _ _).trans ?_
      refine (last _ (by simp; omega)).trans ?_
      congr 1
      simp
      omega
    · split
      · refine (num_more n out _ 0 (by omega) (by simp; omega) _ _).trans ?_
        refine (num_more n out _ 1 (by omega) (by simp; omega) _ _).trans ?_
        refine (num_stop n out _ 2 (by omega) (by simp; omega) _ _).trans ?_
        refine (num_put n _ 1 (by omega) hn _ (by dsimp only; omega) _ _).trans ?_
        refine (num_put n _ 0 (by omega) hn _ (by simp; omega) _ _).trans ?_
        refine (num_end n _ _ _ _).trans ?_
        refine (last _ (by simp; omega)).trans ?_
        congr 1
        simp
        omega
      · split
        · refine (num_more n out _ 0 (by omega) (by simp; omega) _ _).trans ?_
          refine (num_more n out _ 1 (by omega) (by simp; omega) _ _).trans ?_
          refine (num_more n out _ 2 (by omega) (by simp; omega) _ _).trans ?_
          refine (num_stop n out _ 3 (by omega) (by simp; omega) _ _).trans ?_
          refine (num_put n _ 2 (by omega) hn _ (by dsimp only; omega) _ _).trans ?_
          refine (num_put n _ 1 (by omega) hn _ (by simp; omega) _ _).trans ?_
          refine (num_put n _ 0 (by omega) hn _ (by simp; omega) _ _).trans ?_
          refine (num_end n _ _ _ _).trans ?_
          refine (last _ (by simp; omega)).trans ?_
          congr 1
          simp
          omega
        · refine (num_more n out _ 0 (by omega) (by simp; omega) _ _).trans ?_
          refine (num_more n out _ 1 (by omega) (by simp; omega) _ _).trans ?_
          refine (num_more n out _ 2 (by omega) (by simp; omega) _ _).trans ?_
          refine (num_more n out _ 3 (by omega) (by simp; omega) _ _).trans ?_
          refine (num_stop n out _ 4 (by omega) (by simp; omega) _ _).trans ?_
          refine (num_put n _ 3 (by omega) hn _ (by dsimp only; omega) _ _).trans ?_
          refine (num_put n _ 2 (by omega) hn _ (by simp; omega) _ _).trans ?_
          refine (num_put n _ 1 (by omega) hn _ (by simp; omega) _ _).trans ?_
          refine (num_put n _ 0 (by omega) hn _ (by simp; omega) _ _).trans ?_
          refine (num_end n _ _ _ _).trans ?_
          refine (last _ (by simp; omega)).trans ?_
          congr 1
          simp
          omega

def textB (s : List UInt8) : List Int := numB s.length ++ bytesOf s

theorem bytesOf_len (s : List UInt8) : (bytesOf s).length = s.length := by simp [bytesOf]

theorem addText_ok (out : List Int) (s : List UInt8) (hs : s.length ≤ 1000000000) (ho : out.length ≤ 1000000000) : iaddText (out, s) = some (out ++ textB s) := by
  have := numB_len s.length
  simp only [iaddText, addNum_ok out s.length hs (by omega), Option.bind_some]
  rw [decide_eq_true (by rw [bytesOf_len, List.length_append]; unfold lenBound; omega)]
  simp [textB]

/-! ### Sums -/
theorem ofInt32 (v : BitVec 32) : BitVec.ofInt 32 (v.toNat : Int) = v := by
  rw [BitVec.ofInt_natCast, BitVec.ofNat_toNat, BitVec.setWidth_eq]

theorem and1 (v : BitVec 32) : bits .and .u32 (v.toNat : Int) 1 = ((v.toNat % 2 : Nat) : Int) := by
  have h1 : (BitVec.ofInt 32 (v.toNat : Int) &&& BitVec.ofInt 32 1).toNat = v.toNat % 2 := by
    rw [ofInt32, BitVec.toNat_and]
    have e2 : (BitVec.ofInt 32 (1 : Int)).toNat = 2 ^ 1 - 1 := rfl
    rw [e2, Nat.and_two_pow_sub_one_eq_mod]
  show IntKind.wrap .u32 (((BitVec.ofInt 32 (v.toNat : Int) &&& BitVec.ofInt 32 1).toNat : Nat) : Int) = _
  rw [h1]
  exact IntWalk.u32_in _ (by omega)

theorem xor32 (a b : BitVec 32) : bits .xor .u32 (a.toNat : Int) (b.toNat : Int) = ((a ^^^ b).toNat : Int) := by
  have := (a ^^^ b).isLt
  show IntKind.wrap .u32 (((BitVec.ofInt 32 (a.toNat : Int) ^^^ BitVec.ofInt 32 (b.toNat : Int)).toNat : Nat) : Int) = _
  rw [ofInt32, ofInt32]
  exact IntWalk.u32_in _ (by omega)

theorem sum_bit {O : Type} (v6 : List Int) (v7 v8 : Int) (x) (r) : ∀ (m q i : Nat) (v : BitVec 32), i + m = 8 → m < q → iSum_L7 O q ((v.toNat : Int), v6, v7, v8, (i : Int)) x r = x (((crcBits m v).toNat : Int), v6, v7, v8)
  | 0, q + 1, i, v, he, _ => by
    have : i = 8 := by omega
    subst this
    simp [iSum_L7, crcBits]
  | m + 1, q + 1, i, v, he, hq => by
    have e1 : decide ((i : Int) < 8) = true := by simp; omega
    have hf : Int.fdiv (v.toNat : Int) 2 = (((v >>> 1).toNat : Nat) : Int) := by
      rw [BitVec.toNat_ushiftRight, Nat.shiftRight_eq_div_pow]
      exact fdiv_nat v.toNat 2
    simp only [iSum_L7, e1, cond_true, and1, hf, wrap_succ (show i < 4611686018427387904 by omega)]
    rw [crcBits, ← sum_bit v6 v7 v8 x r m q (i + 1) (crcBit v) (by omega) (by omega)]
    unfold crcBit
    by_cases h : v.toNat % 2 = 1
    · rw [if_pos h, h]
      have : bits .xor .u32 (((v >>> 1).toNat : Nat) : Int) 2197175160 = (((v >>> 1 ^^^ 2197175160#32).toNat : Nat) : Int) := xor32 (v >>> 1) 2197175160#32
      rw [this]
      rfl
    · have h0 : v.toNat % 2 = 0 := by omega
      rw [if_neg h, h0]
      rfl
  | _, 0, _, _, _, h => absurd h (Nat.not_lt_zero _)

theorem sum_ok (b : List Int) (hb : ByteL b) (hl : b.length ≤ 1073741824) : iSum b = some (sumL b) := by
  simp only [iSum]
  have := loop0 b (by omega) (fun q i (v : BitVec 32) => iSum_L3 Int q ((v.toNat : Int), b, ((b.length : Nat) : Int), i) (fun r14 => (some (IntKind.wrap .i64 (bits .xor .u32 (if false then (-1 : Int) else (if false then (2147483647 : Int) else (4294967295 : Int))) r14)))) some)
    (fun _ a v k => k (crcByte v a)) (fun v => (some (IntKind.wrap .i64 (bits .xor .u32 (if false then (-1 : Int) else (if false then (2147483647 : Int) else (4294967295 : Int))) (v.toNat : Int)))))
    (fun q i hi v => by
      have e1 : decide ((i : Int) < ((b.length : Nat) : Int)) = true := by simp; omega
      have e2 : decide ((0 : Int) ≤ (i : Int)) = true := by simp
      have hx := hb _ (List.getElem_mem hi)
      have e3 : IntKind.wrap .u32 (nth b (i : Int)) = ((BitVec.ofInt 32 b[i]).toNat : Int) := by
        rw [nth_nat _ _ hi, IntWalk.u32_in _ (by omega), BitVec.toNat_ofInt]
        omega
      simp only [iSum_L3, e1, e2, e3, Bool.and_self, cond_true, xor32]
      have := sum_bit (O := Int) b ((b.length : Nat) : Int) (i : Int) (fun (r10, v11, v12, v13) => (iSum_L3 Int q (r10, v11, v12, (IntKind.wrap .i64 (v13 + (1 : Int)))) (fun r14 => (some (IntKind.wrap .i64 (bits .xor .u32 (if false then (-1 : Int) else (if false then (2147483647 : Int) else (4294967295 : Int))) r14)))) some)) some 8 fuel 0 (v ^^^ BitVec.ofInt 32 b[i]) (by omega) (by rw [fuel_eq]; omega)
      refine this.trans ?_
      dsimp only
      rw [wrap_succ (show i < 4611686018427387904 by omega)]
      rfl) (fun q v => by simp [iSum_L3]) 4294967295#32
  refine this.trans ?_
  have key : ∀ (l : List Int) (i : Nat) (v : BitVec 32), runL (fun _ a v k => k (crcByte v a)) (fun v : BitVec 32 => (some (IntKind.wrap .i64 (bits .xor .u32 (if false then (-1 : Int) else (if false then (2147483647 : Int) else (4294967295 : Int))) (v.toNat : Int))))) i l v = some ((~~~ (crcL l v)).toNat : Int) := by
    intro l
    induction l with
    | nil =>
      intro i v
      simp only [runL, crcL, List.foldl_nil]
      have e : bits .xor .u32 (if false then (-1 : Int) else (if false then (2147483647 : Int) else (4294967295 : Int))) (v.toNat : Int) = ((4294967295#32 ^^^ v).toNat : Int) := xor32 4294967295#32 v
      have e2 : 4294967295#32 ^^^ v = ~~~ v := by
        rw [show (4294967295#32) = BitVec.allOnes 32 from rfl, BitVec.allOnes_xor]
      have := (~~~ v).isLt
      rw [e, e2, wrap64 (by omega) (by omega)]
    | cons a l ih => intro i v; exact ih (i + 1) (crcByte v a)
  exact key b 0 _
end Go.Rx
/- Tables: numbers, texts and frames, as the program reads them. -/
namespace Go.Rx

/-! ### Numbers -/
def gN (b : List Int) (k : Nat) : Nat → Nat → Nat → Option (Nat × Nat)
  | 0, _, _ => none
  | m + 1, j, acc => match b[k + j]? with
    | none => none
    | some x => if j = 0 ∧ x = 128 then none else
        if 128 ≤ x then gN b k m (j + 1) (acc * 128 + x.toNat % 128) else
          if 1000000000 < acc * 128 + x.toNat % 128 then none else some (acc * 128 + x.toNat % 128, k + j + 1)

def getN (b : List Int) (k : Nat) : Option (Nat × Nat) := gN b k 5 0 0

theorem gN_spec {b : List Int} {k : Nat} : ∀ {m j acc n nx : Nat}, gN b k m j acc = some (n, nx) → n ≤ 1000000000 ∧ k < nx ∧ nx ≤ b.length
  | 0, _, _, _, _, h => by simp [gN] at h
  | m + 1, j, acc, n, nx, h => by
    unfold gN at h
    split at h
    · cases h
    · rename_i x hx
      have := (List.getElem?_eq_some_iff.1 hx).1
      split at h
      · cases h
      · split at h
        · exact gN_spec h
        · split at h
          · cases h
          · simp only [Option.some.injEq, Prod.mk.injEq] at h
            omega

theorem num_loop {O : Type} {b : List Int} (hb : ByteL b) (hl : b.length ≤ 1073741824) (k : Nat) (hk : k ≤ 8589934592) (x : Unit → Option O) (r) : ∀ (m q j acc : Nat), j + m = 5 → m < q → acc < 128 ^ j →
    iGetNum_L3 O q (b, (k : Int), (acc : Int), (j : Int)) x r = match gN b k m j acc with
      | none => x ()
      | some p => r ((p.1 : Int), (p.2 : Int), true)
  | 0, q + 1, j, acc, he, _, _ => by
    have : j = 5 := by omega
    subst this
    simp [iGetNum_L3, gN]
  | m + 1, q + 1, j, acc, he, hq, ha => by
    have hj : j < 5 := by omega
    have hpw : 128 ^ j ≤ 128 ^ 4 := Nat.pow_le_pow_right (by omega) (by omega)
    have hp4 : 128 ^ 4 = 268435456 := by decide
    have hps : 128 ^ (j + 1) = 128 ^ j * 128 := Nat.pow_succ _ _
    have e1 : decide ((j : Int) < 5) = true := decide_eq_true (by omega)
    have e2 : decide ((k : Int) ≥ 0) = true := decide_eq_true (by omega)
    have e3 : IntKind.wrap .i64 (((b.length : Nat) : Int) - (j : Int)) = ((b.length : Nat) : Int) - (j : Int) := wrap64 (by omega) (by omega)
    have e4 : IntKind.wrap .i64 ((k : Int) + (j : Int)) = ((k + j : Nat) : Int) := by rw [wrap64 (by omega) (by omega)]; omega
    simp only [iGetNum_L3, e1, e2, e3, e4, cond_true]
    unfold gN
    by_cases hkj : k + j < b.length
    · have hx := hb _ (List.getElem_mem hkj)
      have e5 : decide ((k : Int) < ((b.length : Nat) : Int) - (j : Int)) = true := decide_eq_true (by omega)
      have e6 : decide ((0 : Int) ≤ ((k + j : Nat) : Int)) = true := decide_eq_true (by omega)
      have e7 : decide (((k + j : Nat) : Int) < ((b.length : Nat) : Int)) = true := decide_eq_true (by omega)
      have e8 : IntKind.wrap .i64 (nth b ((k + j : Nat) : Int)) = b[k + j] := by rw [nth_nat _ _ hkj, wrap64 (by omega) (by omega)]
      have e9 : IntKind.wrap .i64 (IntKind.wrap .i64 ((acc : Int) * 128) + Int.tmod b[k + j] 128) = ((acc * 128 + b[k + j].toNat % 128 : Nat) : Int) := by
        have ht : Int.tmod b[k + j] 128 = ((b[k + j].toNat % 128 : Nat) : Int) := by
          rw [Int.tmod_eq_emod_of_nonneg hx.1]
          omega
        rw [ht, wrap64 (x := (acc : Int) * 128) (by omega) (by omega), wrap64 (by omega) (by omega)]
        omega
      have e10 : IntKind.wrap .i64 (((k + j : Nat) : Int) + 1) = ((k + j + 1 : Nat) : Int) := by rw [wrap64 (by omega) (by omega)]; omega
      have e11 : IntKind.wrap .i64 ((j : Int) + 1) = ((j + 1 : Nat) : Int) := wrap_succ (by omega)
      rw [List.getElem?_eq_getElem hkj]
      simp only [e5, e6, e7, e8, Bool.and_self, cond_true]
      have ih := num_loop hb hl k hk x r m q (j + 1) (acc * 128 + b[k + j].toNat % 128) (by omega) (by omega) (by omega)
      have hj0 : ((j : Int) == 0) = decide (j = 0) := by rw [Bool.eq_iff_iff]; simp only [beq_iff_eq, decide_eq_true_eq]; omega
      rw [hj0]
      have tail : ∀ z : Bool, (z = false) → (cond z (x ()) (cond (decide (b[k + j] ≥ 128)) (iGetNum_L3 O q (b, (k : Int), ((acc * 128 + b[k + j].toNat % 128 : Nat) : Int), ((j + 1 : Nat) : Int)) x r)
          (cond (decide (((acc * 128 + b[k + j].toNat % 128 : Nat) : Int) > 1000000000)) (x ()) (r (((acc * 128 + b[k + j].toNat % 128 : Nat) : Int), ((k + j + 1 : Nat) : Int), true))))) =
          match (if 128 ≤ b[k + j] then gN b k m (j + 1) (acc * 128 + b[k + j].toNat % 128) else if 1000000000 < acc * 128 + b[k + j].toNat % 128 then none else some (acc * 128 + b[k + j].toNat % 128, k + j + 1)) with
          | none => x ()
          | some p => r ((p.1 : Int), (p.2 : Int), true) := by
        intro z hz
        subst hz
        simp only [cond_false, ih]
        by_cases h1 : 128 ≤ b[k + j]
        · rw [if_pos h1, decide_eq_true (show b[k + j] ≥ 128 from h1)]; rfl
        · rw [if_neg h1, decide_eq_false (show ¬ b[k + j] ≥ 128 from h1)]
          by_cases h2 : 1000000000 < acc * 128 + b[k + j].toNat % 128
          · rw [if_pos h2, decide_eq_true (by omega)]; rfl
          · rw [if_neg h2, decide_eq_false (by omega)]; rfl
      cases hd : decide (j = 0) with
      | true =>
        have hj1 : j = 0 := by simpa using hd
        cases he : (b[k + j] == 128) with
        | true =>
          have : b[k + j] = 128 := by simpa using he
          rw [if_pos ⟨hj1, this⟩]
          simp only [cond_true]
          cases x () <;> rfl
        | false =>
          have : b[k + j] ≠ 128 := by simpa using he
          rw [if_neg (fun h => this h.2)]
          simp only [cond_true, cond_false, Option.bind_some, e4, e9, e10, e11]
          exact tail false rfl
      | false =>
        have hj1 : j ≠ 0 := by simpa using hd
        rw [if_neg (fun h => hj1 h.1)]
        simp only [cond_false, Option.bind_some, e4, e9, e10, e11]
        exact tail false rfl
    · have e5 : decide ((k : Int) < ((b.length : Nat) : Int) - (j : Int)) = false := decide_eq_false (by omega)
      rw [List.getElem?_eq_none (by omega)]
      simp only [e5, cond_false]
  | _, 0, _, _, _, h, _ => absurd h (Nat.not_lt_zero _)

theorem getNum_eq {b : List Int} (hb : ByteL b) (hl : b.length ≤ 1073741824) (k : Nat) (hk : k ≤ 8589934592) : iGetNum (b, (k : Int)) = match getN b k with
    | none => some (0, 0, false)
    | some p => some ((p.1 : Int), (p.2 : Int), true) :=
  num_loop hb hl k hk (fun _ => some (0, 0, false)) some 5 fuel 0 0 (by omega) (by rw [fuel_eq]; omega) (by omega)

/-- **What was put is read.** -/
theorem getN_at {b : List Int} {k n : Nat} (hn : n ≤ 1000000000) (h : At b k (numB n)) : getN b k = some (n, k + (numB n).length) := by
  unfold numB at h ⊢
  unfold getN
  split at h
  · have h0 := h.get 0 (by simp)
    simp only [List.getElem_cons_zero] at h0
    rw [if_pos ‹_›]
    simp only [gN, h0]
    rw [if_neg (by omega), if_neg (by omega), if_neg (by omega)]
    simp
    omega
  · rw [if_neg ‹_›]
    split at h
    · have h0 := h.get 0 (by simp)
      have h1 := h.get 1 (by simp)
      simp only [List.getElem_cons_zero, List.getElem_cons_succ] at h0 h1
      rw [if_pos ‹_›]
      simp only [gN, h0, h1]
      rw [if_neg (by omega), if_pos (by omega), if_neg (by omega), if_neg (by omega), if_neg (by omega)]
      simp only [Option.some.injEq, Prod.mk.injEq, List.length_cons, List.length_nil, Int.toNat_natCast]
      exact ⟨by omega, trivial⟩
    · rw [if_neg ‹_›]
      split at h
      · have h0 := h.get 0 (by simp)
        have h1 := h.get 1 (by simp)
        have h2 := h.get 2 (by simp)
        simp only [List.getElem_cons_zero, List.getElem_cons_succ] at h0 h1 h2
        rw [if_pos ‹_›]
        simp only [gN, h0, h1, h2]
        rw [if_neg (by omega), if_pos (by omega), if_neg (by omega), if_pos (by omega), if_neg (by omega), if_neg (by omega), if_neg (by omega)]
        simp only [Option.some.injEq, Prod.mk.injEq, List.length_cons, List.length_nil, Int.toNat_natCast]
        exact ⟨by omega, trivial⟩
      · rw [if_neg ‹_›]
        split at h
        · have h0 := h.get 0 (by simp)
          have h1 := h.get 1 (by simp)
          have h2 := h.get 2 (by simp)
          have h3 := h.get 3 (by simp)
          simp only [List.getElem_cons_zero, List.getElem_cons_succ] at h0 h1 h2 h3
          rw [if_pos ‹_›]
          simp only [gN, h0, h1, h2, h3]
          rw [if_neg (by omega), if_pos (by omega), if_neg (by omega), if_pos (by omega), if_neg (by omega), if_pos (by omega), if_neg (by omega), if_neg (by omega), if_neg (by omega)]
          simp only [Option.some.injEq, Prod.mk.injEq, List.length_cons, List.length_nil, Int.toNat_natCast]
          exact ⟨by omega, trivial⟩
        · have h0 := h.get 0 (by simp)
          have h1 := h.get 1 (by simp)
          have h2 := h.get 2 (by simp)
          have h3 := h.get 3 (by simp)
          have h4 := h.get 4 (by simp)
          simp only [List.getElem_cons_zero, List.getElem_cons_succ] at h0 h1 h2 h3 h4
          rw [if_neg ‹_›]
          simp only [gN, h0, h1, h2, h3, h4]
          rw [if_neg (by omega), if_pos (by omega), if_neg (by omega), if_pos (by omega), if_neg (by omega), if_pos (by omega), if_neg (by omega), if_pos (by omega), if_neg (by omega), if_neg (by omega), if_neg (by omega)]
          simp only [Option.some.injEq, Prod.mk.injEq, List.length_cons, List.length_nil, Int.toNat_natCast]
          exact ⟨by omega, trivial⟩

/-! ### Texts -/
def getT (b : List Int) (k : Nat) : Option (List Int × Nat) := match getN b k with
  | none => none
  | some p => if p.1 ≤ b.length - p.2 then some ((b.drop p.2).take p.1, p.2 + p.1) else none

theorem getT_spec {b : List Int} {k : Nat} {t : List Int} {nx : Nat} (h : getT b k = some (t, nx)) : k < nx ∧ nx ≤ b.length ∧ t.length ≤ nx ∧ (∀ x ∈ t, x ∈ b) := by
  unfold getT at h
  split at h
  · cases h
  · rename_i p hp
    obtain ⟨h1, h2, h3⟩ := gN_spec hp
    split at h
    · simp only [Option.some.injEq, Prod.mk.injEq] at h
      obtain ⟨rfl, rfl⟩ := h
      refine ⟨by omega, by omega, ?_, fun x hx => List.mem_of_mem_drop (List.mem_of_mem_take hx)⟩
      rw [List.length_take]
      omega
    · cases h

theorem cut_eq {α : Type} (b : List α) (i n : Nat) : cut b (i : Int) ((i + n : Nat) : Int) = (b.drop i).take n := by
  unfold cut
  rw [Int.toNat_natCast, Int.toNat_natCast, List.drop_take, show i + n - i = n from by omega]

theorem getText_eq {b : List Int} (hb : ByteL b) (hl : b.length ≤ 1073741824) (k : Nat) (hk : k ≤ 8589934592) : iGetText (b, (k : Int)) = match getT b k with
    | none => some ([], 0, false)
    | some p => some (strOf p.1, (p.2 : Int), true) := by
  simp only [iGetText, getNum_eq hb hl k hk, getT]
  cases hg : getN b k with
  | none => rfl
  | some p =>
    obtain ⟨h1, h2, h3⟩ := gN_spec hg
    have e1 : IntKind.wrap .i64 (((b.length : Nat) : Int) - (p.2 : Int)) = ((b.length - p.2 : Nat) : Int) := by rw [wrap64 (by omega) (by omega)]; omega
    simp only [Option.bind_some, Bool.not_true, cond_false, e1]
    by_cases hc : p.1 ≤ b.length - p.2
    · have e2 : IntKind.wrap .i64 ((p.2 : Int) + (p.1 : Int)) = ((p.2 + p.1 : Nat) : Int) := by rw [wrap64 (by omega) (by omega)]; omega
      rw [if_pos hc, decide_eq_false (by omega)]
      simp only [cond_false, e2, cut_eq]
      rw [decide_eq_true (show (0 : Int) ≤ (p.2 : Int) by omega), decide_eq_true (show (p.2 : Int) ≤ ((p.2 + p.1 : Nat) : Int) by omega), decide_eq_true (show ((p.2 + p.1 : Nat) : Int) ≤ ((b.length : Nat) : Int) by omega)]
      rfl
    · rw [if_neg hc, decide_eq_true (by omega)]
      rfl

theorem getT_at {b : List Int} {k : Nat} {t : List Int} (ht : t.length ≤ 1000000000) (h : At b k (numB t.length ++ t)) : getT b k = some (t, k + (numB t.length ++ t).length) := by
  have h1 := getN_at ht h.left
  have h2 := h.right
  have h3 := h2.len
  unfold getT
  rw [h1]
  dsimp only
  rw [if_pos (by omega)]
  simp only [Option.some.injEq, Prod.mk.injEq, List.length_append]
  refine ⟨?_, by omega⟩
  obtain ⟨pre, post, rfl, hp⟩ := h2
  rw [← hp, List.drop_left, List.take_left]

theorem bytes_str {l : List Int} (h : ByteL l) : bytesOf (strOf l) = l := by
  unfold bytesOf strOf
  rw [List.map_map]
  conv => rhs; rw [← List.map_id l]
  refine List.map_congr_left fun x hx => ?_
  have := h x hx
  simp only [Function.comp_apply, id_eq, UInt8.toNat_ofNat']
  omega

theorem str_bytes (s : List UInt8) : strOf (bytesOf s) = s := by
  unfold bytesOf strOf
  rw [List.map_map]
  conv => rhs; rw [← List.map_id s]
  refine List.map_congr_left fun x _ => ?_
  simp only [Function.comp_apply, id_eq, Int.toNat_natCast, UInt8.ofNat_toNat]

theorem bytesOf_b (s : List UInt8) : ByteL (bytesOf s) := by
  intro x hx
  unfold bytesOf at hx
  obtain ⟨y, _, rfl⟩ := List.mem_map.1 hx
  have := y.toNat_lt
  omega
end Go.Rx
/- Tables: frames. -/
namespace Go.Rx

def wordB (n : Nat) : List Int := [((n / 16777216 : Nat) : Int), ((n / 65536 % 256 : Nat) : Int), ((n / 256 % 256 : Nat) : Int), ((n % 256 : Nat) : Int)]

theorem wordB_bytes {n : Nat} (h : n < 4294967296) : ByteL (wordB n) := by
  intro x hx
  simp only [wordB, List.mem_cons, List.not_mem_nil, or_false] at hx
  omega

theorem wrap_u8 (n : Nat) : IntKind.wrap .u8 (n : Int) = ((n % 256 : Nat) : Int) := by
  rw [IntKind.wrap_u8]
  omega

theorem word_ok (n : Nat) (h : n < 4294967296) : iword (n : Int) = some (wordB n) := by
  have e1 : Int.fdiv (n : Int) 16777216 = ((n / 16777216 : Nat) : Int) := fdiv_nat n 16777216
  have e2 : Int.fdiv (n : Int) 65536 = ((n / 65536 : Nat) : Int) := fdiv_nat n 65536
  have e3 : Int.fdiv (n : Int) 256 = ((n / 256 : Nat) : Int) := fdiv_nat n 256
  simp only [iword, e1, e2, e3, wrap_u8, wordB]
  rw [Nat.mod_eq_of_lt (show n / 16777216 < 256 by omega)]

/-- Four bytes as a number. -/
def wordV (b : List Int) (k : Nat) : Nat := (b.getD k 0).toNat * 16777216 + (b.getD (k + 1) 0).toNat * 65536 + (b.getD (k + 2) 0).toNat * 256 + (b.getD (k + 3) 0).toNat

theorem or64 (a m P c : Nat) (hP : P = 2 ^ m) (hc : c < P) (hm : a * P + c < 9223372036854775808) : bits .or .i64 ((a * P : Nat) : Int) (c : Int) = ((a * P + c : Nat) : Int) := by
  have h1 : (BitVec.ofInt 64 ((a * P : Nat) : Int) ||| BitVec.ofInt 64 (c : Int)).toNat = a * P + c := by
    rw [BitVec.toNat_or, BitVec.ofInt_natCast, BitVec.ofInt_natCast, BitVec.toNat_ofNat, BitVec.toNat_ofNat, Nat.mod_eq_of_lt (by omega), Nat.mod_eq_of_lt (by omega)]
    subst hP
    rw [Nat.mul_comm a, Nat.two_pow_add_eq_or_of_lt hc]
  show IntKind.wrap .i64 (((BitVec.ofInt 64 ((a * P : Nat) : Int) ||| BitVec.ofInt 64 (c : Int)).toNat : Nat) : Int) = _
  rw [h1, wrap64 (by omega) (by omega)]

theorem w_s1 (x y : Nat) : x * 16777216 + y * 65536 = (x * 256 + y) * 65536 := by omega
theorem w_s2 (x y : Nat) : x * 65536 + y * 256 = (x * 256 + y) * 256 := by omega

set_option maxRecDepth 10000 in
theorem wordAt_ok {b : List Int} (hb : ByteL b) (hl : b.length ≤ 1073741824) (k : Nat) (hk : k + 4 ≤ b.length) : iwordAt (b, (k : Int)) = some (wordV b k : Int) ∧ wordV b k < 4294967296 := by
  have get : ∀ j, j < 4 → 0 ≤ b.getD (k + j) 0 ∧ b.getD (k + j) 0 < 256 ∧ IntKind.wrap .i64 (nth b ((k + j : Nat) : Int)) = b.getD (k + j) 0 := fun j hj => by
    have hkj : k + j < b.length := by omega
    have hx := hb _ (List.getElem_mem hkj)
    rw [List.getD_eq_getElem?_getD, List.getElem?_eq_getElem hkj, Option.getD_some, nth_nat _ _ hkj]
    exact ⟨hx.1, hx.2, wrap64 (by omega) (by omega)⟩
  obtain ⟨a0, a1, a2⟩ := get 0 (by omega)
  obtain ⟨b0, b1, b2⟩ := get 1 (by omega)
  obtain ⟨c0, c1, c2⟩ := get 2 (by omega)
  obtain ⟨d0, d1, d2⟩ := get 3 (by omega)
  rw [Nat.add_zero] at a0 a1 a2
  refine ⟨?_, by unfold wordV; omega⟩
  have w1 : IntKind.wrap .i64 ((k : Int) + 1) = ((k + 1 : Nat) : Int) := by rw [wrap64 (by omega) (by omega)]; omega
  have w2 : IntKind.wrap .i64 ((k : Int) + 2) = ((k + 2 : Nat) : Int) := by rw [wrap64 (by omega) (by omega)]; omega
  have w3 : IntKind.wrap .i64 ((k : Int) + 3) = ((k + 3 : Nat) : Int) := by rw [wrap64 (by omega) (by omega)]; omega
  have g : ∀ j, j < 4 → (decide ((0 : Int) ≤ ((k + j : Nat) : Int)) && decide (((k + j : Nat) : Int) < ((b.length : Nat) : Int))) = true := fun j hj => by
    rw [decide_eq_true (by omega), decide_eq_true (by omega)]; rfl
  have g0 := g 0 (by omega)
  rw [Nat.add_zero] at g0
  simp only [iwordAt, w1, w2, w3, g0, g 1 (by omega), g 2 (by omega), g 3 (by omega), cond_true, a2, b2, c2, d2]
  unfold wordV
  generalize b.getD k 0 = x0 at *
  generalize b.getD (k + 1) 0 = x1 at *
  generalize b.getD (k + 2) 0 = x2 at *
  generalize b.getD (k + 3) 0 = x3 at *
  obtain ⟨n0, rfl⟩ : ∃ n : Nat, x0 = (n : Int) := ⟨x0.toNat, by omega⟩
  obtain ⟨n1, rfl⟩ : ∃ n : Nat, x1 = (n : Int) := ⟨x1.toNat, by omega⟩
  obtain ⟨n2, rfl⟩ : ∃ n : Nat, x2 = (n : Int) := ⟨x2.toNat, by omega⟩
  obtain ⟨n3, rfl⟩ : ∃ n : Nat, x3 = (n : Int) := ⟨x3.toNat, by omega⟩
  have m0 : IntKind.wrap .i64 ((n0 : Int) * 16777216) = ((n0 * 16777216 : Nat) : Int) := by rw [wrap64 (by omega) (by omega)]; omega
  have m1 : IntKind.wrap .i64 ((n1 : Int) * 65536) = ((n1 * 65536 : Nat) : Int) := by rw [wrap64 (by omega) (by omega)]; omega
  have m2 : IntKind.wrap .i64 ((n2 : Int) * 256) = ((n2 * 256 : Nat) : Int) := by rw [wrap64 (by omega) (by omega)]; omega
  have s1 := w_s1 n0 n1
  have s2 := w_s2 (n0 * 256 + n1) n2
  rw [m0, m1, m2, or64 n0 24 16777216 (n1 * 65536) (by decide) (by omega) (by omega), s1, or64 _ 16 65536 (n2 * 256) (by decide) (by omega) (by omega), s2, or64 _ 8 256 n3 (by decide) (by omega) (by omega)]
  simp only [Int.toNat_natCast]
  congr 1
  omega

set_option maxRecDepth 10000 in
theorem wordV_at {b : List Int} {k n : Nat} (hn : n < 4294967296) (h : At b k (wordB n)) : wordV b k = n := by
  have g : ∀ j (hj : j < 4), b.getD (k + j) 0 = (wordB n)[j]'(by simpa [wordB] using hj) := fun j hj => by
    rw [List.getD_eq_getElem?_getD, h.get j (by simpa [wordB] using hj)]
    rfl
  have h0 := g 0 (by omega)
  rw [Nat.add_zero] at h0
  unfold wordV
  rw [h0, g 1 (by omega), g 2 (by omega), g 3 (by omega)]
  simp only [wordB, List.getElem_cons_zero, List.getElem_cons_succ, Int.toNat_natCast]
  omega

/-! ### Frames -/
def sumN (l : List Int) : Nat := (~~~ (crcL l 4294967295#32)).toNat
theorem sumN_eq (l : List Int) : sumL l = (sumN l : Int) := rfl
theorem sumN_lt (l : List Int) : sumN l < 4294967296 := (~~~ (crcL l 4294967295#32)).isLt

def frameB (body : List Int) : List Int := wordB (sumN body) ++ (numB body.length ++ body)

theorem frameB_len (body : List Int) : body.length + 5 ≤ (frameB body).length ∧ (frameB body).length ≤ body.length + 9 := by
  have := numB_len body.length
  simp only [frameB, List.length_append, wordB, List.length_cons, List.length_nil]
  omega

theorem frameB_bytes {body : List Int} (h : ByteL body) (hl : body.length ≤ 1000000000) : ByteL (frameB body) :=
  (wordB_bytes (sumN_lt body)).append ((numB_bytes hl).append h)

theorem frame_ok (body : List Int) (hb : ByteL body) (hl : body.length ≤ 1000000000) : iFrame body = some (frameB body) := by
  have hn := numB_len body.length
  have e1 : iword (sumL body) = some (wordB (sumN body)) := word_ok _ (sumN_lt body)
  have e2 : iaddNum (wordB (sumN body), ((body.length : Nat) : Int)) = some (wordB (sumN body) ++ numB body.length) := addNum_ok _ _ hl (by simp [wordB])
  have e3 : decide ((wordB (sumN body) ++ numB body.length).length + body.length ≤ lenBound) = true := decide_eq_true (by
    simp only [List.length_append, wordB, List.length_cons, List.length_nil]; unfold lenBound; omega)
  simp only [iFrame, sum_ok body hb (by omega), e1, e2, e3, Option.bind_some, cond_true, frameB, List.append_assoc]

/-- A frame, read. -/
def getF (b : List Int) (k : Nat) : Option (List Int × Nat) :=
  if k + 4 ≤ b.length then match getT b (k + 4) with
    | none => none
    | some p => if sumN p.1 = wordV b k then some p else none
  else none

theorem getF_spec {b : List Int} {k : Nat} {t : List Int} {nx : Nat} (h : getF b k = some (t, nx)) : k < nx ∧ nx ≤ b.length ∧ t.length ≤ b.length ∧ (∀ x ∈ t, x ∈ b) := by
  unfold getF at h
  split at h
  · split at h
    · cases h
    · rename_i p hp
      split at h
      · cases h
        obtain ⟨h1, h2, h3, h4⟩ := getT_spec hp
        exact ⟨by omega, h2, by omega, h4⟩
      · cases h
  · cases h

theorem unframe_eq {b : List Int} (hb : ByteL b) (hl : b.length ≤ 1000000000) (k : Nat) (hk : k ≤ 4294967296) : iUnframe (b, (k : Int)) = match getF b k with
    | none => some ([], (k : Int), false)
    | some p => some (p.1, (p.2 : Int), true) := by
  have w0 : IntKind.wrap .i64 (((b.length : Nat) : Int) - 4) = ((b.length : Nat) : Int) - 4 := wrap64 (by omega) (by omega)
  have e0 : iin ((k : Int), 0, IntKind.wrap .i64 (((b.length : Nat) : Int) - 4)) = some (decide (k + 4 ≤ b.length)) := by
    simp only [iin, w0, decide_eq_true (show (k : Int) ≥ 0 by omega), cond_true]
    congr 1
    rw [Bool.eq_iff_iff, decide_eq_true_eq, decide_eq_true_eq]
    omega
  simp only [iUnframe, e0, Option.bind_some]
  unfold getF
  by_cases hk4 : k + 4 ≤ b.length
  · have w1 : IntKind.wrap .i64 ((k : Int) + 4) = ((k + 4 : Nat) : Int) := by rw [wrap64 (by omega) (by omega)]; omega
    rw [decide_eq_true hk4, if_pos hk4]
    simp only [Bool.not_true, cond_false, w1, getText_eq hb (by omega) (k + 4) (by omega)]
    cases hg : getT b (k + 4) with
    | none => rfl
    | some p =>
      obtain ⟨h1, h2, h3, h4⟩ := getT_spec hg
      have hpb : ByteL p.1 := fun x hx => hb x (h4 x hx)
      obtain ⟨g1, g2⟩ := wordAt_ok hb (by omega) k hk4
      simp only [Option.bind_some, Bool.not_true, cond_false, bytes_str hpb, sum_ok p.1 hpb (by omega), g1, sumN_eq]
      by_cases hs : sumN p.1 = wordV b k
      · rw [if_pos hs, hs]
        simp
      · rw [if_neg hs, show (((sumN p.1 : Nat) : Int) != ((wordV b k : Nat) : Int)) = true from by rw [bne_iff_ne]; omega]
        rfl
  · rw [decide_eq_false hk4, if_neg hk4]
    rfl

theorem getF_at {b : List Int} {k : Nat} {body : List Int} (hl : body.length ≤ 1000000000) (h : At b k (frameB body)) : getF b k = some (body, k + (frameB body).length) := by
  have h1 := h.len
  have hfl := frameB_len body
  unfold getF
  rw [if_pos (by omega)]
  unfold frameB at h ⊢
  have h2 := getT_at hl (show At b (k + 4) (numB body.length ++ body) from h.right)
  have h3 := wordV_at (sumN_lt body) h.left
  rw [h2]
  dsimp only
  rw [if_pos h3.symm]
  simp only [List.length_append, wordB, List.length_cons, List.length_nil, Option.some.injEq, Prod.mk.injEq, true_and]
  omega
end Go.Rx
/- Tables: blocks of pairs. -/
namespace Go.Rx

abbrev PairT := List UInt8 × List UInt8 × Bool

def common : List UInt8 → List UInt8 → Nat
  | a :: x, b :: y => if a = b then common x y + 1 else 0
  | _, _ => 0

theorem common_le : ∀ (a b : List UInt8), common a b ≤ a.length ∧ common a b ≤ b.length
  | [], _ => by simp [common]
  | _ :: _, [] => by simp [common]
  | a :: x, b :: y => by
    have := common_le x y
    unfold common
    split
    · simp only [List.length_cons]; omega
    · omega

theorem common_take : ∀ (a b : List UInt8), a.take (common a b) = b.take (common a b)
  | [], _ => by simp [common]
  | _ :: _, [] => by simp [common]
  | a :: x, b :: y => by
    unfold common
    split
    · rename_i h; subst h; simp [common_take x y]
    · simp

theorem common_loop (a b : List UInt8) (ha : a.length ≤ 1073741824) (x : Int → Option Int) (r) : ∀ (m q i : Nat), i + m = a.length → m < q → icommon_L2 Int q (a, b, (i : Int)) x r = x ((i + common (a.drop i) (b.drop i) : Nat) : Int)
  | 0, q + 1, i, he, _ => by
    have : i = a.length := by omega
    subst this
    rw [List.drop_length]
    simp [icommon_L2, common]
  | m + 1, q + 1, i, he, hq => by
    have hi : i < a.length := by omega
    have e1 : decide ((i : Int) < ((a.length : Nat) : Int)) = true := decide_eq_true (by omega)
    have e2 : decide ((0 : Int) ≤ (i : Int)) = true := decide_eq_true (by omega)
    rw [List.drop_eq_getElem_cons hi]
    by_cases hb : i < b.length
    · have e3 : decide ((i : Int) < ((b.length : Nat) : Int)) = true := decide_eq_true (by omega)
      rw [List.drop_eq_getElem_cons hb]
      simp only [icommon_L2, e1, e2, e3, Bool.and_self, cond_true, nth_nat a i hi, nth_nat b i hb, wrap_succ (show i < 4611686018427387904 by omega)]
      rw [common_loop a b ha x r m q (i + 1) (by omega) (by omega)]
      rw [show common (a[i] :: a.drop (i + 1)) (b[i] :: b.drop (i + 1)) = if a[i] = b[i] then common (a.drop (i + 1)) (b.drop (i + 1)) + 1 else 0 from rfl]
      by_cases h : a[i] = b[i]
      · rw [h, if_pos rfl]
        simp only [beq_self_eq_true, cond_true]
        rw [show i + 1 + common (a.drop (i + 1)) (b.drop (i + 1)) = i + (common (a.drop (i + 1)) (b.drop (i + 1)) + 1) from by omega]
      · have : (((a[i].toNat : Nat) : Int) == ((b[i].toNat : Nat) : Int)) = false := by
          rw [beq_eq_false_iff_ne]
          intro e
          exact h (UInt8.toNat_inj.1 (by omega))
        rw [if_neg h, this]
        simp
    · have e3 : decide ((i : Int) < ((b.length : Nat) : Int)) = false := decide_eq_false (by omega)
      rw [List.drop_eq_nil_of_le (show b.length ≤ i by omega)]
      simp only [icommon_L2, e1, e3, cond_true, cond_false, common, Nat.add_zero]
  | _, 0, _, _, h => absurd h (Nat.not_lt_zero _)

theorem common_ok (a b : List UInt8) (ha : a.length ≤ 1073741824) : icommon (a, b) = some (common a b : Int) := by
  have := common_loop a b ha (fun n5 => some n5) some a.length fuel 0 (by omega) (by rw [fuel_eq]; omega)
  simpa [icommon] using this

structure POk (p : PairT) : Prop where
  key : p.1.length ≤ 20
  val : p.2.1.length ≤ 20

def bitB (b : Bool) : Int := cond b 1 0
def recB (last : List UInt8) (p : PairT) : List Int := numB (common last p.1) ++ (textB (p.1.drop (common last p.1)) ++ ([bitB p.2.2] ++ textB p.2.1))
def blockL (last : List UInt8) : List PairT → List Int
  | [] => []
  | p :: l => recB last p ++ blockL p.1 l

theorem textB_len (s : List UInt8) : s.length + 1 ≤ (textB s).length ∧ (textB s).length ≤ s.length + 5 := by
  have := numB_len s.length
  unfold textB
  rw [List.length_append, bytesOf_len]
  omega

theorem textB_bytes {s : List UInt8} (h : s.length ≤ 1000000000) : ByteL (textB s) := (numB_bytes h).append (bytesOf_b s)

theorem recB_len (last : List UInt8) {p : PairT} (h : POk p) : 4 ≤ (recB last p).length ∧ (recB last p).length ≤ 56 := by
  have h1 := numB_len (common last p.1)
  have h2 := textB_len (p.1.drop (common last p.1))
  have h3 := textB_len p.2.1
  have h4 := h.key
  have h5 := h.val
  have h6 : (p.1.drop (common last p.1)).length ≤ 20 := by rw [List.length_drop]; omega
  unfold recB
  simp only [List.length_append, List.length_singleton]
  omega

theorem recB_bytes (last : List UInt8) {p : PairT} (h : POk p) : ByteL (recB last p) := by
  have h4 := h.key
  have h5 := h.val
  have hc := (common_le last p.1).2
  refine (numB_bytes (by omega)).append ((textB_bytes (by rw [List.length_drop]; omega)).append (ByteL.append ?_ (textB_bytes (by omega))))
  intro x hx
  simp only [List.mem_singleton] at hx
  subst hx
  cases p.2.2 <;> simp [bitB]

theorem blockL_len : ∀ (l : List PairT) (last : List UInt8), (∀ p ∈ l, POk p) → (blockL last l).length ≤ 56 * l.length
  | [], _, _ => by simp [blockL]
  | p :: l, last, h => by
    have h1 := (recB_len last (h p (by simp))).2
    have h2 := blockL_len l p.1 fun q hq => h q (by simp [hq])
    simp only [blockL, List.length_append, List.length_cons]
    omega

theorem blockL_bytes : ∀ (l : List PairT) (last : List UInt8), (∀ p ∈ l, POk p) → ByteL (blockL last l)
  | [], _, _ => fun x hx => by simp [blockL] at hx
  | p :: l, last, h => (recB_bytes last (h p (by simp))).append (blockL_bytes l p.1 fun q hq => h q (by simp [hq]))

theorem bit_ok (b : Bool) : ibit b = some (bitB b) := by cases b <;> rfl

theorem putBlock_ok (l : List PairT) (h : ∀ p ∈ l, POk p) (hl : l.length ≤ 1000) : iputBlock l = some (frameB (blockL [] l)) := by
  have hlen := blockL_len l [] h
  simp only [iputBlock]
  obtain ⟨s, ⟨h1, _, _⟩, h2⟩ := loop_upF 0 l.length (Nat.zero_le _) (by omega) (fun q i (s : List UInt8 × List Int) => iputBlock_L4 (List Int) q (s.1, l, ((l.length : Nat) : Int), i, s.2) (fun out11 => ((iFrame out11).bind fun r12 => (some r12))) some) (fun s => ((iFrame s.2).bind fun r12 => (some r12)))
    (fun i s => s.2 ++ blockL s.1 (l.drop i) = blockL [] l ∧ s.2.length ≤ 56 * i ∧ s.1.length ≤ 20)
    (fun q i s hi ⟨h1, h2, h3⟩ => by
      have hp := h _ (List.getElem_mem hi)
      have hk := hp.key
      have hv := hp.val
      have hc := common_le s.1 l[i].1
      have hr := recB_len s.1 hp
      have hn := numB_len (common s.1 l[i].1)
      have e1 : decide ((i : Int) < ((l.length : Nat) : Int)) = true := decide_eq_true (by omega)
      have e2 : decide ((0 : Int) ≤ (i : Int)) = true := decide_eq_true (by omega)
      have e3 : icommon (s.1, l[i].1) = some (common s.1 l[i].1 : Int) := common_ok _ _ (by omega)
      have e4 : iaddNum (s.2, (common s.1 l[i].1 : Int)) = some (s.2 ++ numB (common s.1 l[i].1)) := addNum_ok _ _ (by omega) (by omega)
      have e5 : decide ((0 : Int) ≤ (common s.1 l[i].1 : Int)) = true := decide_eq_true (by omega)
      have e6 : decide ((common s.1 l[i].1 : Int) ≤ ((l[i].1.length : Nat) : Int)) = true := decide_eq_true (by omega)
      have e7 : decide (((l[i].1.length : Nat) : Int) ≤ ((l[i].1.length : Nat) : Int)) = true := decide_eq_true (by omega)
      have e8 : cut l[i].1 (common s.1 l[i].1 : Int) ((l[i].1.length : Nat) : Int) = l[i].1.drop (common s.1 l[i].1) := by simp [cut]
      have e9 : iaddText (s.2 ++ numB (common s.1 l[i].1), l[i].1.drop (common s.1 l[i].1)) = some ((s.2 ++ numB (common s.1 l[i].1)) ++ textB (l[i].1.drop (common s.1 l[i].1))) := addText_ok _ _ (by rw [List.length_drop]; omega) (by rw [List.length_append]; omega)
      have ht := textB_len (l[i].1.drop (common s.1 l[i].1))
      rw [List.length_drop] at ht
      have e10 : decide (((s.2 ++ numB (common s.1 l[i].1)) ++ textB (l[i].1.drop (common s.1 l[i].1))).length + [bitB l[i].2.2].length ≤ lenBound) = true := decide_eq_true (by
        simp only [List.length_append, List.length_singleton]; unfold lenBound; omega)
      have e11 : iaddText (((s.2 ++ numB (common s.1 l[i].1)) ++ textB (l[i].1.drop (common s.1 l[i].1))) ++ [bitB l[i].2.2], l[i].2.1) = some ((((s.2 ++ numB (common s.1 l[i].1)) ++ textB (l[i].1.drop (common s.1 l[i].1))) ++ [bitB l[i].2.2]) ++ textB l[i].2.1) := addText_ok _ _ (by omega) (by
        simp only [List.length_append, List.length_singleton]; omega)
      have er : (((s.2 ++ numB (common s.1 l[i].1)) ++ textB (l[i].1.drop (common s.1 l[i].1))) ++ [bitB l[i].2.2]) ++ textB l[i].2.1 = s.2 ++ recB s.1 l[i] := by simp [recB]
      rw [er] at e11
      refine ⟨(l[i].1, s.2 ++ recB s.1 l[i]), ⟨?_, ?_, hk⟩, ?_⟩
      · rw [← h1, List.drop_eq_getElem_cons hi]
        simp [blockL]
      · simp only [List.length_append]; omega
      · simp only [iputBlock_L4, e1, e2, Bool.and_self, cond_true, nth_nat l i hi, e3, e4, e5, e6, e7, e8, e9, bit_ok, e10, e11, Option.bind_some, wrap_succ (show i < 4611686018427387904 by omega)])
    (fun q s _ => by simp [iputBlock_L4]) ([], []) ⟨by simp, by simp, by simp⟩
  rw [List.drop_length] at h1
  simp only [blockL, List.append_nil] at h1
  refine h2.trans ?_
  rw [h1, frame_ok _ (blockL_bytes l [] h) (by omega)]
  rfl

/-! ### The reader -/
def rdN (b : List Int) (k : Nat) (bad : Bool) : Nat × Nat × Bool := if bad then (0, k, true) else match getN b k with
  | none => (0, k, true)
  | some p => (p.1, p.2, false)
def rdT (b : List Int) (k : Nat) (bad : Bool) : List UInt8 × Nat × Bool := if bad then ([], k, true) else match getT b k with
  | none => ([], k, true)
  | some p => (strOf p.1, p.2, false)
def rdF (b : List Int) (k : Nat) (bad : Bool) : Bool × Nat × Bool := if bad then (false, k, true) else match b[k]? with
  | none => (false, k, true)
  | some x => (x == 1, k + 1, decide (x > 1))

section
variable {b : List Int} (hb : ByteL b) (hl : b.length ≤ 1000000000)

theorem rdN_eq (k : Nat) (hk : k ≤ 8589934592) (bad : Bool) (hb : ByteL b) (hl : b.length ≤ 1000000000) : ireader_num (b, (k : Int), bad) = some (((rdN b k bad).1 : Int), b, ((rdN b k bad).2.1 : Int), (rdN b k bad).2.2) := by
  simp only [ireader_num, getNum_eq hb (by omega) k hk, rdN]
  cases bad <;> cases getN b k <;> rfl

theorem rdT_eq (k : Nat) (hk : k ≤ 8589934592) (bad : Bool) (hb : ByteL b) (hl : b.length ≤ 1000000000) : ireader_text (b, (k : Int), bad) = some ((rdT b k bad).1, b, ((rdT b k bad).2.1 : Int), (rdT b k bad).2.2) := by
  simp only [ireader_text, getText_eq hb (by omega) k hk, rdT]
  cases bad <;> cases getT b k <;> rfl

theorem rdF_eq (k : Nat) (hk : k ≤ 8589934592) (bad : Bool) (hb : ByteL b) (hl : b.length ≤ 1000000000) : ireader_flag (b, (k : Int), bad) = some ((rdF b k bad).1, b, ((rdF b k bad).2.1 : Int), (rdF b k bad).2.2) := by
  simp only [ireader_flag, ireader_one, rdF]
  cases bad with
  | true => rfl
  | false =>
    simp only [cond_false, Option.bind_some, Bool.false_eq_true, if_false]
    by_cases hk' : k < b.length
    · have hx := hb _ (List.getElem_mem hk')
      have e1 : decide ((k : Int) ≥ ((b.length : Nat) : Int)) = false := decide_eq_false (by omega)
      have e2 : IntKind.wrap .i64 ((k : Int) + 1) = ((k + 1 : Nat) : Int) := by rw [wrap64 (by omega) (by omega)]; omega
      have e3 : IntKind.wrap .i64 (((k + 1 : Nat) : Int) - 1) = (k : Int) := by rw [wrap64 (by omega) (by omega)]; omega
      have e4 : decide ((0 : Int) ≤ (k : Int)) = true := decide_eq_true (by omega)
      have e5 : decide ((k : Int) < ((b.length : Nat) : Int)) = true := decide_eq_true (by omega)
      have e6 : IntKind.wrap .i64 (nth b (k : Int)) = b[k] := by rw [nth_nat _ _ hk', wrap64 (by omega) (by omega)]
      rw [List.getElem?_eq_getElem hk']
      simp only [e1, e2, e3, e4, e5, e6, Bool.and_self, cond_true, cond_false, Option.bind_some]
    · have e1 : decide ((k : Int) ≥ ((b.length : Nat) : Int)) = true := decide_eq_true (by omega)
      rw [List.getElem?_eq_none (by omega)]
      simp only [e1, cond_true, Option.bind_some]
      rfl
end

theorem rdN_spec (b : List Int) (k : Nat) (bad : Bool) (hk : k ≤ b.length) : k ≤ (rdN b k bad).2.1 ∧ (rdN b k bad).2.1 ≤ b.length ∧ (rdN b k bad).1 ≤ 1000000000 ∧ ((rdN b k bad).2.2 = false → bad = false ∧ k < (rdN b k bad).2.1) := by
  unfold rdN
  cases bad with
  | true => simp [hk]
  | false =>
    simp only [Bool.false_eq_true, if_false]
    cases hg : getN b k with
    | none => simp [hk]
    | some p =>
      obtain ⟨h1, h2, h3⟩ := gN_spec hg
      simp only
      exact ⟨by omega, h3, h1, fun _ => ⟨trivial, h2⟩⟩

theorem rdT_spec (b : List Int) (k : Nat) (bad : Bool) (hk : k ≤ b.length) : k + (rdT b k bad).1.length ≤ (rdT b k bad).2.1 ∧ (rdT b k bad).2.1 ≤ b.length ∧ ((rdT b k bad).2.2 = false → bad = false ∧ k < (rdT b k bad).2.1) := by
  unfold rdT
  cases bad with
  | true => simp [hk]
  | false =>
    simp only [Bool.false_eq_true, if_false]
    cases hg : getT b k with
    | none => simp [hk]
    | some p =>
      obtain ⟨h1, h2, _, _⟩ := getT_spec hg
      simp only
      refine ⟨?_, h2, fun _ => ⟨trivial, h1⟩⟩
      unfold getT at hg
      split at hg
      · cases hg
      · rename_i q hq
        obtain ⟨_, h4, _⟩ := gN_spec hq
        split at hg
        · cases hg
          simp only [strOf, List.length_map, List.length_take]
          omega
        · cases hg

theorem rdF_spec (b : List Int) (k : Nat) (bad : Bool) (hk : k ≤ b.length) : k ≤ (rdF b k bad).2.1 ∧ (rdF b k bad).2.1 ≤ b.length ∧ ((rdF b k bad).2.2 = false → bad = false ∧ k < (rdF b k bad).2.1) := by
  unfold rdF
  cases bad with
  | true => simp [hk]
  | false =>
    simp only [Bool.false_eq_true, if_false]
    cases hg : b[k]? with
    | none => simp [hk]
    | some x =>
      have := (List.getElem?_eq_some_iff.1 hg).1
      simp only
      exact ⟨by omega, by omega, fun _ => ⟨trivial, by omega⟩⟩
end Go.Rx
/- Tables: the pairs of a block, read. -/
namespace Go.Rx

abbrev PairsX (O : Type) := (List Int × Int × Bool × List PairT) → Option O

theorem min_cut {a n : Nat} (h : n ≤ a) : (if ((a : Nat) : Int) < ((n : Nat) : Int) then ((a : Nat) : Int) else ((n : Nat) : Int)) = ((n : Nat) : Int) := if_neg (by omega)

theorem pairs_loop {O : Type} {b : List Int} (hb : ByteL b) (hl : b.length ≤ 1000000000) (x : PairsX O) (r) : ∀ (l : List PairT) (last : List UInt8) (k q : Nat) (out : List PairT), (∀ p ∈ l, POk p) → last.length ≤ 20 → At b k (blockL last l) → k + (blockL last l).length = b.length → l.length < q → out.length + l.length ≤ 1000000 →
    ipairsAt_L7 O q (b, last, b, (k : Int), false, out) x r = x (b, (b.length : Int), false, out ++ l)
  | [], last, k, q + 1, out, _, _, _, hk, _, _ => by
    simp only [blockL, List.length_nil, Nat.add_zero] at hk
    subst hk
    simp [ipairsAt_L7]
  | p :: l, last, k, q + 1, out, hp, hlast, hat, hk, hq, ho => by
    have hp0 := hp p (by simp)
    have hkey := hp0.key
    have hval := hp0.val
    have hc := common_le last p.1
    have hr := recB_len last hp0
    simp only [blockL, List.length_append] at hk
    simp only [List.length_cons] at hq ho
    have a0 : At b k (recB last p) := At.left hat
    have a1 : At b (k + (recB last p).length) (blockL p.1 l) := At.right hat
    have n1 := getN_at (by omega) (At.left a0)
    have b1 := At.right a0
    have ht1 : (p.1.drop (common last p.1)).length = (bytesOf (p.1.drop (common last p.1))).length := (bytesOf_len _).symm
    have ct : At b (k + (numB (common last p.1)).length) (numB (bytesOf (p.1.drop (common last p.1))).length ++ bytesOf (p.1.drop (common last p.1))) := by rw [bytesOf_len]; exact At.left b1
    have n2 := getT_at (by rw [bytesOf_len, List.length_drop]; omega) ct
    have b2 := At.right b1
    have b3 := (At.left b2).get 0 (by simp)
    have b4 := At.right b2
    have ct2 : At b (k + (numB (common last p.1)).length + (textB (p.1.drop (common last p.1))).length + [bitB p.2.2].length) (numB (bytesOf p.2.1).length ++ bytesOf p.2.1) := by rw [bytesOf_len]; exact b4
    have n4 := getT_at (by rw [bytesOf_len]; omega) ct2
    have hlen0 := a0.len
    have k2 : k + (numB (common last p.1)).length + (numB (bytesOf (p.1.drop (common last p.1))).length ++ bytesOf (p.1.drop (common last p.1))).length = k + (numB (common last p.1)).length + (textB (p.1.drop (common last p.1))).length := by
      rw [bytesOf_len]; rfl
    have k4 : k + (numB (common last p.1)).length + (textB (p.1.drop (common last p.1))).length + [bitB p.2.2].length + (numB (bytesOf p.2.1).length ++ bytesOf p.2.1).length = k + (recB last p).length := by
      rw [bytesOf_len]
      simp only [recB, textB, List.length_append, List.length_singleton]
      omega
    rw [k2] at n2
    rw [k4] at n4
    simp only [List.getElem_cons_zero, Nat.add_zero] at b3
    have r1 : rdN b k false = (common last p.1, k + (numB (common last p.1)).length, false) := by simp only [rdN, n1]; rfl
    have r2 : rdT b (k + (numB (common last p.1)).length) false = (p.1.drop (common last p.1), k + (numB (common last p.1)).length + (textB (p.1.drop (common last p.1))).length, false) := by
      simp only [rdT, n2, str_bytes]; rfl
    have r3 : rdF b (k + (numB (common last p.1)).length + (textB (p.1.drop (common last p.1))).length) false = (p.2.2, k + (numB (common last p.1)).length + (textB (p.1.drop (common last p.1))).length + [bitB p.2.2].length, false) := by
      simp only [rdF, b3]
      cases p.2.2 <;> rfl
    have r4 : rdT b (k + (numB (common last p.1)).length + (textB (p.1.drop (common last p.1))).length + [bitB p.2.2].length) false = (p.2.1, k + (recB last p).length, false) := by
      simp only [rdT, n4, str_bytes]; rfl
    have t1 := textB_len (p.1.drop (common last p.1))
    have hrl : (recB last p).length = (numB (common last p.1)).length + ((textB (p.1.drop (common last p.1))).length + (1 + (textB p.2.1).length)) := by simp [recB]; omega
    have f1 := rdN_eq k (by omega) false hb hl
    have f2 := rdT_eq (k + (numB (common last p.1)).length) (by omega) false hb hl
    have f3 := rdF_eq (k + (numB (common last p.1)).length + (textB (p.1.drop (common last p.1))).length) (by omega) false hb hl
    have f4 := rdT_eq (k + (numB (common last p.1)).length + (textB (p.1.drop (common last p.1))).length + [bitB p.2.2].length) (by simp only [List.length_singleton]; omega) false hb hl
    rw [r1] at f1
    rw [r2] at f2
    rw [r3] at f3
    rw [r4] at f4
    dsimp only at f1 f2 f3 f4
    have e1 : decide ((k : Int) < ((b.length : Nat) : Int)) = true := decide_eq_true (by omega)
    have e2 := min_cut hc.1
    have e3 : decide ((0 : Int) ≤ (common last p.1 : Int)) = true := decide_eq_true (by omega)
    have e4 : decide ((common last p.1 : Int) ≤ ((last.length : Nat) : Int)) = true := decide_eq_true (by omega)
    have e5 : cut last 0 (common last p.1 : Int) = p.1.take (common last p.1) := by
      simp only [cut, Int.toNat_natCast, Int.toNat_zero, List.drop_zero]
      exact common_take last p.1
    have e6 : p.1.take (common last p.1) ++ p.1.drop (common last p.1) = p.1 := List.take_append_drop _ _
    have e7 : decide ((p.1.take (common last p.1)).length + (p.1.drop (common last p.1)).length ≤ lenBound) = true := decide_eq_true (by
      rw [← List.length_append, e6]; unfold lenBound; omega)
    have e8 : decide ((common last p.1 : Int) > ((last.length : Nat) : Int)) = false := decide_eq_false (by omega)
    have e9 : ∀ z : PairT, decide (out.length + [z].length ≤ lenBound) = true := fun z => decide_eq_true (by simp only [List.length_singleton]; unfold lenBound; omega)
    simp only [ipairsAt_L7, e1, f1, f2, f3, f4, e2, e3, e4, e5, e6, e7, e8, e9, Bool.and_self, Bool.not_false, cond_true, cond_false, Option.bind_some]
    have ih := pairs_loop hb hl x r l p.1 (k + (recB last p).length) q (out ++ [p]) (fun z hz => hp z (by simp [hz])) hkey a1 (by omega) (by omega) (by simp; omega)
    refine ih.trans ?_
    simp
  | [], _, _, 0, _, _, _, _, _, h, _ => absurd h (Nat.not_lt_zero _)
  | _ :: _, _, _, 0, _, _, _, _, _, h, _ => absurd h (Nat.not_lt_zero _)

/-- **The pairs of a block come back.** -/
theorem pairsAt_ok {b : List Int} (hb : ByteL b) (hl : b.length ≤ 1000000000) (k : Nat) (l : List PairT) (hp : ∀ p ∈ l, POk p) (hll : l.length ≤ 1000) (h : At b k (frameB (blockL [] l))) : ipairsAt (b, (k : Int)) = some (l, true) := by
  have hlen := blockL_len l [] hp
  have h1 := getF_at (by omega) h
  have h2 := h.len
  have h3 := frameB_len (blockL [] l)
  simp only [ipairsAt, unframe_eq hb hl k (by omega), h1, Option.bind_some, Bool.not_true, cond_false]
  have := pairs_loop (blockL_bytes l [] hp) (by omega) (fun (r27, r28, r29, out30) => (some (out30, (!r29)))) some l [] 0 fuel [] hp (by simp) (At.whole _) (by simp) (by rw [fuel_eq]; omega) (by simp; omega)
  exact this.trans (by simp)

/-- It always ends. -/
theorem pairs_total {O : Type} {b : List Int} (hb : ByteL b) (hl : b.length ≤ 1000000000) (x : PairsX O) (r) : ∀ (m q k : Nat) (last : List UInt8) (bad : Bool) (out : List PairT), k ≤ b.length → b.length - k + (if bad then 0 else 1) ≤ m → m < q → last.length ≤ k → out.length ≤ k + (if bad then 1 else 0) →
    ipairsAt_L7 O q (b, last, b, (k : Int), bad, out) x r = r ([], false) ∨ ∃ (k' : Nat) (bad' : Bool) (out' : List PairT), k' ≤ b.length ∧ out'.length ≤ b.length + 1 ∧ ipairsAt_L7 O q (b, last, b, (k : Int), bad, out) x r = x (b, (k' : Int), bad', out')
  | m, q + 1, k, last, bad, out, hk, hm, hq, hlast, ho => by
    by_cases hkb : k < b.length
    · have e1 : decide ((k : Int) < ((b.length : Nat) : Int)) = true := decide_eq_true (by omega)
      cases bad with
      | true =>
        right
        refine ⟨k, true, out, hk, by simp at ho; omega, ?_⟩
        simp only [ipairsAt_L7, e1, cond_true, Bool.not_true, cond_false]
      | false =>
        simp only [Bool.false_eq_true, if_false] at hm ho
        have f1 := rdN_eq k (by omega) false hb hl
        obtain ⟨s1, s2, s3, s4⟩ := rdN_spec b k false hk
        generalize rdN b k false = n1 at f1 s1 s2 s3 s4
        have f2 := rdT_eq n1.2.1 (by omega) n1.2.2 hb hl
        obtain ⟨t1, t2, t3⟩ := rdT_spec b n1.2.1 n1.2.2 s2
        generalize rdT b n1.2.1 n1.2.2 = n2 at f2 t1 t2 t3
        have f3 := rdF_eq n2.2.1 (by omega) n2.2.2 hb hl
        obtain ⟨u1, u2, u3⟩ := rdF_spec b n2.2.1 n2.2.2 t2
        generalize rdF b n2.2.1 n2.2.2 = n3 at f3 u1 u2 u3
        have f4 := rdT_eq n3.2.1 (by omega) n3.2.2 hb hl
        obtain ⟨v1, v2, v3⟩ := rdT_spec b n3.2.1 n3.2.2 u2
        generalize rdT b n3.2.1 n3.2.2 = n4 at f4 v1 v2 v3
        obtain ⟨j, hj, hjl⟩ : ∃ j : Nat, (if ((last.length : Nat) : Int) < (n1.1 : Int) then ((last.length : Nat) : Int) else (n1.1 : Int)) = (j : Int) ∧ j ≤ last.length := by
          by_cases h : ((last.length : Nat) : Int) < (n1.1 : Int)
          · exact ⟨last.length, if_pos h, Nat.le_refl _⟩
          · exact ⟨n1.1, if_neg h, by omega⟩
        have e3 : decide ((0 : Int) ≤ (j : Int)) = true := decide_eq_true (by omega)
        have e4 : decide ((j : Int) ≤ ((last.length : Nat) : Int)) = true := decide_eq_true (by omega)
        have hcl : (cut last 0 (j : Int)).length = j := by simp [cut]; omega
        have e7 : decide ((cut last 0 (j : Int)).length + n2.1.length ≤ lenBound) = true := decide_eq_true (by rw [hcl]; unfold lenBound; omega)
        have e9 : ∀ z : PairT, decide (out.length + [z].length ≤ lenBound) = true := fun z => decide_eq_true (by simp only [List.length_singleton]; unfold lenBound; omega)
        simp only [ipairsAt_L7, e1, f1, f2, f3, f4, hj, e3, e4, e7, e9, Bool.and_self, Bool.not_false, cond_true, Option.bind_some]
        cases decide ((n1.1 : Int) > ((last.length : Nat) : Int)) with
        | true => exact .inl rfl
        | false =>
          simp only [cond_false]
          have hprog : n4.2.2 = false → k < n4.2.1 := fun h => by
            have h3 := (v3 h).1
            have h2 := (u3 h3).1
            have h1 := (t3 h2).1
            have := (s4 h1).2
            omega
          exact pairs_total hb hl x r (b.length - n4.2.1 + (if n4.2.2 then 0 else 1)) q n4.2.1 (cut last 0 (j : Int) ++ n2.1) n4.2.2 _ v2 (Nat.le_refl _) (by
            cases h : n4.2.2 with
            | true => simp; omega
            | false => have := hprog h; simp; omega) (by rw [List.length_append, hcl]; omega) (by
            simp only [List.length_append, List.length_singleton]
            cases h : n4.2.2 with
            | true => simp; omega
            | false => have := hprog h; simp; omega)
    · right
      have e1 : decide ((k : Int) < ((b.length : Nat) : Int)) = false := decide_eq_false (by omega)
      refine ⟨k, bad, out, hk, by split at ho <;> omega, ?_⟩
      simp only [ipairsAt_L7, e1, cond_false]
  | _, 0, _, _, _, _, _, _, h, _, _ => absurd h (Nat.not_lt_zero _)
  termination_by m q => q

theorem pairsAt_total {b : List Int} (hb : ByteL b) (hl : b.length ≤ 1000000000) (k : Nat) (hk : k ≤ 4294967296) : ∃ l ok, ipairsAt (b, (k : Int)) = some (l, ok) ∧ l.length ≤ b.length + 1 := by
  simp only [ipairsAt, unframe_eq hb hl k hk]
  cases hg : getF b k with
  | none => exact ⟨[], false, rfl, by simp⟩
  | some p =>
    obtain ⟨_, _, h3, h4⟩ := getF_spec hg
    simp only [Option.bind_some, Bool.not_true, cond_false]
    rcases pairs_total (O := List PairT × Bool) (b := p.1) (fun x hx => hb x (h4 x hx)) (by omega) (fun (r27, r28, r29, out30) => (some (out30, (!r29)))) some (p.1.length + 1) fuel 0 [] false [] (by omega) (by simp) (by rw [fuel_eq]; omega) (by simp) (by simp) with h | ⟨k', bad', out', h5, h6, h7⟩
    · exact ⟨[], false, h, by simp⟩
    · exact ⟨out', !bad', h7, by omega⟩

end Go.Rx
/- Tables: marks and filters. -/
namespace Go.Rx

def markN (key : List UInt8) : Nat × Nat := (sumN (bytesOf key) % 64, sumN (bytesOf key) / 64 % 64)

theorem mark_ok (key : List UInt8) (h : key.length ≤ 1000000) : iMark key = some (((markN key).1 : Int), ((markN key).2 : Int)) := by
  have hs := sumN_lt (bytesOf key)
  have e1 : Int.tmod (sumN (bytesOf key) : Int) 64 = ((sumN (bytesOf key) % 64 : Nat) : Int) := by rw [Int.tmod_eq_emod_of_nonneg (by omega)]; omega
  have e2 : Int.tdiv (sumN (bytesOf key) : Int) 64 = ((sumN (bytesOf key) / 64 : Nat) : Int) := by rw [Int.tdiv_eq_ediv_of_nonneg (by omega)]; omega
  have e3 : Int.tmod ((sumN (bytesOf key) / 64 : Nat) : Int) 64 = ((sumN (bytesOf key) / 64 % 64 : Nat) : Int) := by rw [Int.tmod_eq_emod_of_nonneg (by omega)]; omega
  simp only [iMark, sum_ok _ (bytesOf_b key) (by rw [bytesOf_len]; omega), Option.bind_some, sumN_eq, e1, e2]
  rw [wrap64 (by omega) (by omega), e3]
  rfl

abbrev FB := List (BitVec 8)
def outF (f : FB) : List Int := f.map fun v => (v.toNat : Int)
def setB (f : FB) (n : Nat) : FB := f.set (n / 8) (f.getD (n / 8) 0#8 ||| 1#8 <<< (n % 8))
def fltB (keys : List (List UInt8)) (f : FB) : FB := keys.foldl (fun f key => setB (setB f (markN key).1) (markN key).2) f

theorem setB_len (f : FB) (n : Nat) : (setB f n).length = f.length := by simp [setB]
theorem fltB_len : ∀ (keys : List (List UInt8)) (f : FB), (fltB keys f).length = f.length
  | [], _ => rfl
  | key :: keys, f => by
    show (fltB keys _).length = _
    rw [fltB_len keys, setB_len, setB_len]

theorem markN_lt (key : List UInt8) : (markN key).1 < 64 ∧ (markN key).2 < 64 := ⟨Nat.mod_lt _ (by omega), Nat.mod_lt _ (by omega)⟩

theorem ofInt8 (v : BitVec 8) : BitVec.ofInt 8 (v.toNat : Int) = v := by
  rw [BitVec.ofInt_natCast, BitVec.ofNat_toNat, BitVec.setWidth_eq]

theorem or8 (a b : BitVec 8) : bits .or .u8 (a.toNat : Int) (b.toNat : Int) = ((a ||| b).toNat : Int) := by
  have := (a ||| b).isLt
  show IntKind.wrap .u8 (((BitVec.ofInt 8 (a.toNat : Int) ||| BitVec.ofInt 8 (b.toNat : Int)).toNat : Nat) : Int) = _
  rw [ofInt8, ofInt8]
  exact IntWalk.u8_in _ (by omega)

theorem pow8 (k : Nat) (hk : k < 8) : IntKind.wrap .u8 (1 * ((2 : Int) ^ (min k 8))) = ((1#8 <<< k).toNat : Int) := by
  match k, hk with
  | 0, _ => rfl
  | 1, _ => rfl
  | 2, _ => rfl
  | 3, _ => rfl
  | 4, _ => rfl
  | 5, _ => rfl
  | 6, _ => rfl
  | 7, _ => rfl

theorem outF_len (f : FB) : (outF f).length = f.length := by simp [outF]
theorem outF_nth (f : FB) (i : Nat) (hi : i < f.length) : nth (outF f) (i : Int) = ((f.getD i 0#8).toNat : Int) := by
  rw [nth_nat _ _ (by rw [outF_len]; exact hi)]
  simp only [outF, List.getElem_map, List.getD_eq_getElem?_getD, List.getElem?_eq_getElem hi, Option.getD_some]
theorem outF_b (f : FB) : ByteL (outF f) := fun x hx => by
  obtain ⟨v, _, rfl⟩ := List.mem_map.1 hx
  have := v.isLt
  omega

theorem div8 (n : Nat) (hn : n < 64) : IntKind.wrap .i64 (Int.tdiv (n : Int) 8) = ((n / 8 : Nat) : Int) := by
  have : Int.tdiv (n : Int) 8 = ((n / 8 : Nat) : Int) := by rw [Int.tdiv_eq_ediv_of_nonneg (by omega)]; omega
  rw [this, wrap64 (by omega) (by omega)]
theorem mod8 (n : Nat) : Int.tmod (n : Int) 8 = ((n % 8 : Nat) : Int) := by rw [Int.tmod_eq_emod_of_nonneg (by omega)]; omega

/-- One bit is set. -/
theorem set_step (f : FB) (hf : f.length = 8) (n : Nat) (hn : n < 64) :
    List.set (outF f) (n / 8) (bits .or .u8 (nth (outF f) ((n / 8 : Nat) : Int)) (IntKind.wrap .u8 (1 * ((2 : Int) ^ (min (n % 8) 8))))) = outF (setB f n) := by
  rw [outF_nth f (n / 8) (by omega), pow8 (n % 8) (Nat.mod_lt _ (by omega)), or8]
  unfold setB outF
  rw [List.map_set]

theorem filter_ok (keys : List (List UInt8)) (hk : ∀ k ∈ keys, k.length ≤ 1000000) (hl : keys.length ≤ 1000000) : iFilter keys = some (outF (fltB keys (List.replicate 8 0#8))) := by
  simp only [iFilter]
  obtain ⟨s, ⟨h1, _⟩, h2⟩ := loop_upF 0 keys.length (Nat.zero_le _) (by omega) (fun q i (f : FB) => iFilter_L3 (List Int) q (keys, ((keys.length : Nat) : Int), i, outF f) (fun out7 => (some out7)) some) (fun f => some (outF f))
    (fun i f => fltB (keys.drop i) f = fltB keys (List.replicate 8 0#8) ∧ f.length = 8)
    (fun q i f hi ⟨h1, h2⟩ => by
      have hm := markN_lt keys[i]
      have e1 : decide ((i : Int) < ((keys.length : Nat) : Int)) = true := decide_eq_true (by omega)
      have e2 : decide ((0 : Int) ≤ (i : Int)) = true := decide_eq_true (by omega)
      have e3 := mark_ok keys[i] (hk _ (List.getElem_mem hi))
      have g : ∀ n, n < 64 → ∀ f' : FB, f'.length = 8 → (decide ((0 : Int) ≤ ((n / 8 : Nat) : Int)) && decide (((n / 8 : Nat) : Int) < (((outF f').length : Nat) : Int))) = true := fun n hn f' hf' => by
        rw [outF_len, hf', decide_eq_true (by omega), decide_eq_true (by omega)]; rfl
      have g2 : ∀ n : Nat, decide (((n % 8 : Nat) : Int) < 0) = false := fun n => decide_eq_false (by omega)
      have s1 : (setB f (markN keys[i]).1).length = 8 := by rw [setB_len]; exact h2
      refine ⟨setB (setB f (markN keys[i]).1) (markN keys[i]).2, ⟨?_, by rw [setB_len]; exact s1⟩, ?_⟩
      · rw [← h1, List.drop_eq_getElem_cons hi]
        rfl
      · simp only [iFilter_L3, e1, e2, Bool.and_self, cond_true, nth_nat keys i hi, e3, Option.bind_some, div8 _ hm.1, div8 _ hm.2, mod8, g2, cond_false, Int.toNat_natCast, g _ hm.1 f h2, set_step f h2 _ hm.1, g _ hm.2 _ s1, set_step _ s1 _ hm.2, wrap_succ (show i < 4611686018427387904 by omega)])
    (fun q s _ => by simp [iFilter_L3]) (List.replicate 8 0#8) ⟨by simp, by simp⟩
  rw [List.drop_length] at h1
  have : fltB [] s = s := rfl
  rw [this] at h1
  rw [← h1]
  exact h2
end Go.Rx
/- Tables: a table is written. -/
namespace Go.Rx

theorem runL_chainT {α σ ρ : Type} [Inhabited α] (xs : List α) (p : α → Bool) (less : α → α → Bool) (no : ρ) (fin : σ → ρ) (s : σ) :
    runL (fun i a s k => cond (p a) (cond (decide (0 < i)) (cond (less (nth xs ((i - 1 : Nat) : Int)) a) (k s) no) (k s)) no) fin 0 xs s = cond (xs.all p && chainB less xs) (fin s) no := by
  have key : ∀ (l pre : List α), xs = pre ++ l → runL (fun i a s k => cond (p a) (cond (decide (0 < i)) (cond (less (nth xs ((i - 1 : Nat) : Int)) a) (k s) no) (k s)) no) fin pre.length l s =
      cond (l.all p && match pre.getLast? with | none => chainB less l | some b => chainB less (b :: l)) (fin s) no := by
    intro l
    induction l with
    | nil => intro pre h; simp only [runL]; cases pre.getLast? <;> simp [chainB]
    | cons a l ih =>
      intro pre h
      simp only [runL]
      have := ih (pre ++ [a]) (by rw [h]; simp)
      rw [List.length_append, List.length_singleton] at this
      rw [this]
      simp only [List.getLast?_append, List.getLast?_singleton, Option.some_or, List.all_cons]
      rcases List.eq_nil_or_concat pre with hp | ⟨q, b, hp⟩
      · subst hp
        simp
        cases p a <;> simp
      · rw [List.concat_eq_append] at hp
        subst hp
        have hn : nth xs (((q ++ [b]).length - 1 : Nat) : Int) = b := by
          rw [h, nth_nat _ _ (by simp)]
          simp
        rw [hn]
        simp [chainB]
        cases p a <;> cases less b a <;> simp
  have := key xs [] rfl
  simpa using this

def pokB (p : PairT) : Bool := (decide (((p.1.length : Nat) : Int) ≥ 1) && decide (((p.1.length : Nat) : Int) ≤ 20)) && (decide (((p.2.1.length : Nat) : Int) ≤ 20) && (!p.2.2 || p.2.1 == []))
theorem pokB_ok {p : PairT} (h : pokB p = true) : POk p := by
  unfold pokB at h
  simp only [Bool.and_eq_true, decide_eq_true_eq] at h
  exact ⟨by omega, by omega⟩

theorem iin_eq (a b c : Int) : iin (a, b, c) = some (decide (a ≥ b) && decide (a ≤ c)) := by
  simp only [iin]
  cases decide (a ≥ b) <;> rfl

theorem pair_ok (p : PairT) : iPairOk p = some (pokB p) := by
  obtain ⟨a, b, c⟩ := p
  simp only [iPairOk, ikeyOk, iin_eq, Option.bind_some, pokB]
  cases (decide (((a.length : Nat) : Int) ≥ 1) && decide (((a.length : Nat) : Int) ≤ 20)) <;> cases decide (((b.length : Nat) : Int) ≤ 20) <;> cases c <;> simp

def lessK (a b : PairT) : Bool := Op.bytesLess a.1 b.1
def risingB (l : List PairT) : Bool := l.all pokB && chainB lessK l

theorem rising_ok (l : List PairT) (hl : l.length ≤ 1073741824) : irising l = some (risingB l) := by
  simp only [irising]
  have := loop0 l (by omega) (fun q i (_ : Unit) => irising_L2 Bool q (l, l, ((l.length : Nat) : Int), i) (fun _ => some true) some)
    (fun i p s k => cond (pokB p) (cond (decide (0 < i)) (cond (lessK (nth l ((i - 1 : Nat) : Int)) p) (k s) (some false)) (k s)) (some false)) (fun _ => some true)
    (fun q i hi s => by
      have e1 : decide ((i : Int) < ((l.length : Nat) : Int)) = true := decide_eq_true (by omega)
      have e2 : decide ((0 : Int) ≤ (i : Int)) = true := decide_eq_true (by omega)
      have e3 : iPairOk (l[i].1, l[i].2.1, l[i].2.2) = some (pokB l[i]) := pair_ok l[i]
      simp only [irising_L2, e1, e2, Bool.and_self, cond_true, nth_nat l i hi, e3, Option.bind_some, wrap_succ (show i < 4611686018427387904 by omega)]
      rcases Nat.eq_zero_or_pos i with h0 | h0
      · subst h0
        cases pokB l[0] <;> rfl
      · have e4 : decide ((i : Int) > 0) = true := decide_eq_true (by omega)
        have e5 : decide ((0 : Int) ≤ ((i - 1 : Nat) : Int)) = true := decide_eq_true (by omega)
        have e6 : decide (((i - 1 : Nat) : Int) < ((l.length : Nat) : Int)) = true := decide_eq_true (by omega)
        rw [wrap_pred (show i < 4611686018427387904 by omega) h0]
        simp only [e4, e5, e6, Bool.and_self, cond_true, decide_eq_true h0]
        unfold lessK
        cases pokB l[i] <;> cases Op.bytesLess (nth l ((i - 1 : Nat) : Int)).1 l[i].1 <;> rfl) (fun q s => by simp [irising_L2]) ()
  refine this.trans ?_
  rw [runL_chainT]
  unfold risingB
  cases (l.all pokB && chainB lessK l) <;> rfl

/-! ### Blocks -/
def blk (l : List PairT) (j : Nat) : List PairT := (l.drop (4 * j)).take 4
def nbk (l : List PairT) : Nat := (l.length + 3) / 4
def lastK (l : List PairT) : List UInt8 := (l.getD (l.length - 1) default).1
def frm (l : List PairT) (j : Nat) : List Int := frameB (blockL [] (blk l j))
def outB (l : List PairT) : Nat → List Int
  | 0 => []
  | j + 1 => outB l j ++ frm l j
def entB (e : List UInt8 × Nat) : List Int := textB e.1 ++ numB e.2
def ents (l : List PairT) : Nat → List (List UInt8 × Nat)
  | 0 => []
  | j + 1 => ents l j ++ [(lastK (blk l j), (outB l j).length)]
def idxL (es : List (List UInt8 × Nat)) : List Int := (es.map entB).flatten
def keysF (l : List PairT) : FB := fltB (l.map (·.1)) (List.replicate 8 0#8)
def ibody (l : List PairT) : List Int := (numB (nbk l) ++ idxL (ents l (nbk l))) ++ outF (keysF l)
def tableB (l : List PairT) : List Int := (outB l (nbk l) ++ frameB (ibody l)) ++ wordB (outB l (nbk l)).length

theorem blk_len (l : List PairT) (j : Nat) : (blk l j).length = min 4 (l.length - 4 * j) := by simp [blk]
theorem blk_mem {l : List PairT} {j : Nat} {p : PairT} (h : p ∈ blk l j) : p ∈ l := List.mem_of_mem_drop (List.mem_of_mem_take h)

theorem frm_len (l : List PairT) (hp : ∀ p ∈ l, POk p) (j : Nat) : 5 ≤ (frm l j).length ∧ (frm l j).length ≤ 240 := by
  have h1 := blockL_len (blk l j) [] fun p h => hp p (blk_mem h)
  have h2 := frameB_len (blockL [] (blk l j))
  have h3 := blk_len l j
  unfold frm
  omega

theorem frm_bytes (l : List PairT) (hp : ∀ p ∈ l, POk p) (j : Nat) : ByteL (frm l j) := by
  have h1 := blockL_len (blk l j) [] fun p h => hp p (blk_mem h)
  have h3 := blk_len l j
  exact frameB_bytes (blockL_bytes _ _ fun p h => hp p (blk_mem h)) (by omega)

theorem outB_len (l : List PairT) (hp : ∀ p ∈ l, POk p) : ∀ j, (outB l j).length ≤ 240 * j
  | 0 => by simp [outB]
  | j + 1 => by
    have h1 := outB_len l hp j
    have h2 := frm_len l hp j
    simp only [outB, List.length_append]
    omega

theorem outB_bytes (l : List PairT) (hp : ∀ p ∈ l, POk p) : ∀ j, ByteL (outB l j)
  | 0 => fun x hx => by simp [outB] at hx
  | j + 1 => (outB_bytes l hp j).append (frm_bytes l hp j)

theorem lastK_mem {l : List PairT} (h : 0 < l.length) : ∃ p ∈ l, p.1 = lastK l := by
  refine ⟨l[l.length - 1], List.getElem_mem _, ?_⟩
  unfold lastK
  rw [List.getD_eq_getElem?_getD, List.getElem?_eq_getElem (by omega)]
  rfl

theorem nbk_lt {l : List PairT} {j : Nat} : j < nbk l ↔ 4 * j < l.length := by unfold nbk; omega

theorem lastK_len {l : List PairT} (hp : ∀ p ∈ l, POk p) {j : Nat} (hj : j < nbk l) : (lastK (blk l j)).length ≤ 20 := by
  have h1 := blk_len l j
  have h2 := nbk_lt.1 hj
  obtain ⟨p, h3, h4⟩ := lastK_mem (l := blk l j) (by omega)
  rw [← h4]
  exact (hp p (blk_mem h3)).key

theorem idxL_snoc (es : List (List UInt8 × Nat)) (e : List UInt8 × Nat) : idxL (es ++ [e]) = idxL es ++ entB e := by simp [idxL]

theorem ents_len (l : List PairT) (hp : ∀ p ∈ l, POk p) : ∀ j, j ≤ nbk l → (ents l j).length = j ∧ (idxL (ents l j)).length ≤ 30 * j ∧ (j ≤ 100 → ByteL (idxL (ents l j)))
  | 0, _ => by simp [ents, idxL, ByteL]
  | j + 1, hj => by
    obtain ⟨h1, h2, h3⟩ := ents_len l hp j (by omega)
    have h4 := lastK_len hp (show j < nbk l by omega)
    have h5 := textB_len (lastK (blk l j))
    have h6 := numB_len (outB l j).length
    have h7 := outB_len l hp j
    refine ⟨by simp [ents, h1], ?_, fun hj => ?_⟩
    · rw [ents, idxL_snoc, List.length_append, entB, List.length_append]
      dsimp only
      omega
    · rw [ents, idxL_snoc]
      exact (h3 (by omega)).append ((textB_bytes (by dsimp only; omega)).append (numB_bytes (by dsimp only; omega)))

theorem cut_blk (l : List PairT) (j : Nat) (h : 4 * j < l.length) : cut l ((4 * j : Nat) : Int) (if ((l.length : Nat) : Int) < ((4 * j + 4 : Nat) : Int) then ((l.length : Nat) : Int) else ((4 * j + 4 : Nat) : Int)) = blk l j := by
  unfold cut blk
  rw [Int.toNat_natCast]
  split
  · rw [Int.toNat_natCast, List.take_of_length_le (Nat.le_refl _), List.take_of_length_le (by rw [List.length_drop]; omega)]
  · rw [Int.toNat_natCast, List.drop_take, show 4 * j + 4 - 4 * j = 4 from by omega]

/-- **A table is put.** -/
theorem putTable_ok (l : List PairT) (hl : l.length ≤ 1073741824) : iPutTable l = some (if 1 ≤ l.length ∧ l.length ≤ 200 ∧ risingB l = true then tableB l else []) := by
  simp only [iPutTable, iin_eq, Option.bind_some, rising_ok l hl]
  by_cases h1 : 1 ≤ l.length ∧ l.length ≤ 200
  · rw [decide_eq_true (show ((l.length : Nat) : Int) ≥ 1 by omega), decide_eq_true (show ((l.length : Nat) : Int) ≤ 200 by omega)]
    simp only [Bool.and_self, Bool.not_true, cond_false]
    cases hr : risingB l with
    | false => simp
    | true =>
      simp only [Bool.not_true, cond_false]
      rw [if_pos ⟨h1.1, h1.2, trivial⟩]
      have hp : ∀ p ∈ l, POk p := fun p hp => by
        unfold risingB at hr
        simp only [Bool.and_eq_true, List.all_eq_true] at hr
        exact pokB_ok (hr.1 p hp)
      have hnb : nbk l ≤ 50 := by unfold nbk; omega
      have hol := outB_len l hp (nbk l)
      obtain ⟨hel, hil, hib⟩ := ents_len l hp (nbk l) (Nat.le_refl _)
      have hnn := numB_len (nbk l)
      have hfl : (outF (keysF l)).length = 8 := by rw [outF_len, keysF, fltB_len]; simp
      -- what is done with the keys
      have second : ∀ x : (Int × List Int × List Int × List (List UInt8)) → Option (List Int), iPutTable_L14 (List Int) fuel ((nbk l : Int), l, ((l.length : Nat) : Int), 0, outB l (nbk l), idxL (ents l (nbk l)), []) x some = x ((nbk l : Int), outB l (nbk l), idxL (ents l (nbk l)), l.map (·.1)) := fun x => by
        obtain ⟨s, h3, h4⟩ := loop_upF 0 l.length (Nat.zero_le _) (by omega) (fun q i (s : List (List UInt8)) => iPutTable_L14 (List Int) q ((nbk l : Int), l, ((l.length : Nat) : Int), i, outB l (nbk l), idxL (ents l (nbk l)), s) x some) (fun s => x ((nbk l : Int), outB l (nbk l), idxL (ents l (nbk l)), s))
          (fun i s => s = (l.take i).map (·.1))
          (fun q i s hi hs => by
            have e1 : decide ((i : Int) < ((l.length : Nat) : Int)) = true := decide_eq_true (by omega)
            have e2 : decide ((0 : Int) ≤ (i : Int)) = true := decide_eq_true (by omega)
            have hsl : s.length ≤ 200 := by rw [hs, List.length_map, List.length_take]; omega
            have e3 : decide (s.length + [l[i].1].length ≤ lenBound) = true := decide_eq_true (by rw [List.length_singleton]; unfold lenBound; omega)
            refine ⟨s ++ [l[i].1], by rw [hs, List.take_succ_eq_append_getElem hi, List.map_append]; rfl, ?_⟩
            simp only [iPutTable_L14, e1, e2, Bool.and_self, cond_true, nth_nat l i hi, e3, wrap_succ (show i < 4611686018427387904 by omega)])
          (fun q s _ => by simp [iPutTable_L14]) [] (by simp)
        rw [List.take_length] at h3
        subst h3
        exact h4
      -- the blocks
      obtain ⟨s, h3, h4⟩ := loop_upF 0 (nbk l) (Nat.zero_le _) (by omega) (fun q i (s : List Int × List Int) => iPutTable_L7 (List Int) q (l, i, 4 * i, s.1, s.2) (fun (l11, count12, out13, index14) => (iPutTable_L14 (List Int) fuel (count12, l11, ((l11.length : Nat) : Int), (0 : Int), out13, index14, []) (fun (count22, out23, index24, keys25) => ((iaddNum ([], count22)).bind fun r26 => (cond (decide ((r26.length + index24.length) ≤ lenBound)) ((iFilter keys25).bind fun r27 => (cond (decide (((r26 ++ index24).length + r27.length) ≤ lenBound)) ((iFrame ((r26 ++ index24) ++ r27)).bind fun r28 => (cond (decide ((out23.length + r28.length) ≤ lenBound)) ((iword ((out23.length : Nat) : Int)).bind fun r29 => (cond (decide (((out23 ++ r28).length + r29.length) ≤ lenBound)) (some ((out23 ++ r28) ++ r29)) none)) none)) none)) none))) some)) some)
        (fun s => (iPutTable_L14 (List Int) fuel ((nbk l : Int), l, ((l.length : Nat) : Int), (0 : Int), s.1, s.2, []) (fun (count22, out23, index24, keys25) => ((iaddNum ([], count22)).bind fun r26 => (cond (decide ((r26.length + index24.length) ≤ lenBound)) ((iFilter keys25).bind fun r27 => (cond (decide (((r26 ++ index24).length + r27.length) ≤ lenBound)) ((iFrame ((r26 ++ index24) ++ r27)).bind fun r28 => (cond (decide ((out23.length + r28.length) ≤ lenBound)) ((iword ((out23.length : Nat) : Int)).bind fun r29 => (cond (decide (((out23 ++ r28).length + r29.length) ≤ lenBound)) (some ((out23 ++ r28) ++ r29)) none)) none)) none)) none))) some))
        (fun i s => s = (outB l i, idxL (ents l i)))
        (fun q i s hi hs => by
          have hlt := nbk_lt.1 hi
          have hbl := blk_len l i
          have h5 := outB_len l hp i
          have h6 := ents_len l hp i (by omega)
          have h7 := frm_len l hp i
          have hk := lastK_len hp hi
          have ht := textB_len (lastK (blk l i))
          have w1 : IntKind.wrap .i64 (4 * (i : Int) + 4) = ((4 * i + 4 : Nat) : Int) := by rw [wrap64 (by omega) (by omega)]; omega
          have w2 : 4 * (i : Int) = ((4 * i : Nat) : Int) := by omega
          have w3 : IntKind.wrap .i64 ((((blk l i).length : Nat) : Int) - 1) = (((blk l i).length - 1 : Nat) : Int) := by rw [wrap64 (by omega) (by omega)]; omega
          have e1 : decide ((4 * (i : Int)) < ((l.length : Nat) : Int)) = true := decide_eq_true (by omega)
          have e2 : decide ((0 : Int) ≤ 4 * (i : Int)) = true := decide_eq_true (by omega)
          have e3 : decide (4 * (i : Int) ≤ (if ((l.length : Nat) : Int) < ((4 * i + 4 : Nat) : Int) then ((l.length : Nat) : Int) else ((4 * i + 4 : Nat) : Int))) = true := decide_eq_true (by split <;> omega)
          have e4 : decide ((if ((l.length : Nat) : Int) < ((4 * i + 4 : Nat) : Int) then ((l.length : Nat) : Int) else ((4 * i + 4 : Nat) : Int)) ≤ ((l.length : Nat) : Int)) = true := decide_eq_true (by split <;> omega)
          have e5 : cut l (4 * (i : Int)) (if ((l.length : Nat) : Int) < ((4 * i + 4 : Nat) : Int) then ((l.length : Nat) : Int) else ((4 * i + 4 : Nat) : Int)) = blk l i := by rw [w2]; exact cut_blk l i hlt
          have e6 : decide ((0 : Int) ≤ (((blk l i).length - 1 : Nat) : Int)) = true := decide_eq_true (by omega)
          have e7 : decide ((((blk l i).length - 1 : Nat) : Int) < (((blk l i).length : Nat) : Int)) = true := decide_eq_true (by omega)
          have e8 : (nth (blk l i) (((blk l i).length - 1 : Nat) : Int)).1 = lastK (blk l i) := by unfold nth lastK; rw [Int.toNat_natCast]
          have e9 : iaddText (idxL (ents l i), lastK (blk l i)) = some (idxL (ents l i) ++ textB (lastK (blk l i))) := addText_ok _ _ (by omega) (by omega)
          have e10 : iaddNum (idxL (ents l i) ++ textB (lastK (blk l i)), (((outB l i).length : Nat) : Int)) = some ((idxL (ents l i) ++ textB (lastK (blk l i))) ++ numB (outB l i).length) := addNum_ok _ _ (by omega) (by rw [List.length_append]; omega)
          have e11 : iputBlock (blk l i) = some (frm l i) := putBlock_ok _ (fun p h => hp p (blk_mem h)) (by omega)
          have e12 : decide ((outB l i).length + (frm l i).length ≤ lenBound) = true := decide_eq_true (by unfold lenBound; omega)
          have w4 : (((4 * i + 4 : Nat)) : Int) = 4 * ((i + 1 : Nat) : Int) := by omega
          have e13 : (idxL (ents l i) ++ textB (lastK (blk l i))) ++ numB (outB l i).length = idxL (ents l (i + 1)) := by rw [ents, idxL_snoc, entB, List.append_assoc]
          subst hs
          refine ⟨(outB l (i + 1), idxL (ents l (i + 1))), rfl, ?_⟩
          simp only [iPutTable_L7, w1, e1, e2, e3, e4, e5, w3, e6, e7, e8, e9, e10, e11, e12, e13, Bool.and_self, cond_true, Option.bind_some, wrap_succ (show i < 4611686018427387904 by omega)]
          rw [w4]
          rfl)
        (fun q s _ => by
          have e1 : decide ((4 * (nbk l : Int)) < ((l.length : Nat) : Int)) = false := decide_eq_false (by
            have := @nbk_lt l (nbk l)
            omega)
          simp only [iPutTable_L7, e1, cond_false]) ([], []) rfl
      subst h3
      refine h4.trans ?_
      dsimp only
      rw [second]
      dsimp only
      have hkl : ∀ k ∈ l.map (·.1), k.length ≤ 1000000 := fun k hk => by
        obtain ⟨p, hpm, rfl⟩ := List.mem_map.1 hk
        have := (hp p hpm).key
        omega
      have g1 : iaddNum ([], (nbk l : Int)) = some (numB (nbk l)) := addNum_ok [] _ (by omega) (by simp)
      have g2 : decide ((numB (nbk l)).length + (idxL (ents l (nbk l))).length ≤ lenBound) = true := decide_eq_true (by unfold lenBound; omega)
      have g3 : iFilter (l.map (·.1)) = some (outF (keysF l)) := filter_ok _ hkl (by rw [List.length_map]; omega)
      have g4 : decide ((numB (nbk l) ++ idxL (ents l (nbk l))).length + (outF (keysF l)).length ≤ lenBound) = true := decide_eq_true (by rw [List.length_append, hfl]; unfold lenBound; omega)
      have hibl : (ibody l).length ≤ 2000 := by unfold ibody; rw [List.length_append, List.length_append, hfl]; omega
      have g5 : iFrame ((numB (nbk l) ++ idxL (ents l (nbk l))) ++ outF (keysF l)) = some (frameB (ibody l)) := frame_ok (ibody l) (((numB_bytes (by omega)).append (hib (by omega))).append (outF_b _)) (by omega)
      have hfb := frameB_len (ibody l)
      have g6 : decide ((outB l (nbk l)).length + (frameB (ibody l)).length ≤ lenBound) = true := decide_eq_true (by unfold lenBound; omega)
      have g7 : iword (((outB l (nbk l)).length : Nat) : Int) = some (wordB (outB l (nbk l)).length) := word_ok _ (by omega)
      have g8 : decide ((outB l (nbk l) ++ frameB (ibody l)).length + (wordB (outB l (nbk l)).length).length ≤ lenBound) = true := decide_eq_true (by
        rw [List.length_append]
        simp only [wordB, List.length_cons, List.length_nil]
        unfold lenBound; omega)
      simp only [g1, g2, g3, g4, g5, g6, g7, g8, Option.bind_some, cond_true]
      rfl
  · have : (decide (((l.length : Nat) : Int) ≥ 1) && decide (((l.length : Nat) : Int) ≤ 200)) = false := by
      rw [Bool.and_eq_false_iff, decide_eq_false_iff_not, decide_eq_false_iff_not]
      omega
    rw [this, if_neg (fun h => h1 ⟨h.1, h.2.1⟩)]
    rfl
end Go.Rx
/- Tables: the index, read. -/
namespace Go.Rx

abbrev EntI := List UInt8 × Int
def entI (e : List UInt8 × Nat) : EntI := (e.1, (e.2 : Int))

theorem ents_get (l : List PairT) : ∀ (j i : Nat) (hi : i < (ents l j).length) (_ : i < j), (ents l j)[i] = (lastK (blk l i), (outB l i).length)
  | 0, i, _, h => absurd h (Nat.not_lt_zero _)
  | j + 1, i, hi, h => by
    have hl : ∀ j, (ents l j).length = j := fun j => by
      induction j with
      | zero => rfl
      | succ j ih => simp [ents, ih]
    have hjl := hl j
    by_cases hij : i < j
    · simp only [ents]
      rw [List.getElem_append_left (by omega)]
      exact ents_get l j i (by omega) hij
    · have : i = j := by omega
      subst this
      simp only [ents]
      rw [List.getElem_append_right (by omega)]
      simp [hjl]

theorem idxL_cons (e : List UInt8 × Nat) (es : List (List UInt8 × Nat)) : idxL (e :: es) = entB e ++ idxL es := rfl

abbrev IdxX (O : Type) := (List Int × List Int × Int × Bool × List EntI) → Option O

theorem idx_loop {O : Type} {b : List Int} (hb : ByteL b) (hl : b.length ≤ 1000000000) (n : Nat) (hn : n ≤ 1000000000) (x : IdxX O) (r) : ∀ (es : List (List UInt8 × Nat)) (k at' q : Nat) (out : List EntI), (∀ e ∈ es, e.1.length ≤ 20 ∧ e.2 ≤ 1000000000) → At b at' (idxL es) → k + es.length = n → es.length < q → out.length + es.length ≤ 1000000000 →
    iindexOf_L10 O q (b, (n : Int), (k : Int), b, (at' : Int), false, out) x r = x (b, b, ((at' + (idxL es).length : Nat) : Int), false, out ++ es.map entI)
  | [], k, at', q + 1, out, _, _, hk, _, _ => by
    simp only [List.length_nil, Nat.add_zero] at hk
    subst hk
    simp [iindexOf_L10, idxL]
  | e :: es, k, at', q + 1, out, he, hat, hk, hq, ho => by
    obtain ⟨h1, h2⟩ := he e (by simp)
    simp only [List.length_cons] at hk hq ho
    rw [idxL_cons] at hat
    have a0 : At b at' (entB e) := At.left hat
    have a1 : At b (at' + (entB e).length) (idxL es) := At.right hat
    have hlen := a0.len
    have ct : At b at' (numB (bytesOf e.1).length ++ bytesOf e.1) := by rw [bytesOf_len]; exact At.left a0
    have n1 := getT_at (by rw [bytesOf_len]; omega) ct
    have k1 : (numB (bytesOf e.1).length ++ bytesOf e.1).length = (textB e.1).length := by rw [bytesOf_len]; rfl
    rw [k1] at n1
    have n2 := getN_at h2 (At.right a0)
    have r1 : rdT b at' false = (e.1, at' + (textB e.1).length, false) := by simp only [rdT, n1, str_bytes]; rfl
    have r2 : rdN b (at' + (textB e.1).length) false = (e.2, at' + (textB e.1).length + (numB e.2).length, false) := by simp only [rdN, n2]; rfl
    have hel : (entB e).length = (textB e.1).length + (numB e.2).length := by simp [entB]
    have f1 := rdT_eq at' (by omega) false hb hl
    have f2 := rdN_eq (at' + (textB e.1).length) (by omega) false hb hl
    rw [r1] at f1
    rw [r2] at f2
    dsimp only at f1 f2
    have e1 : decide ((k : Int) < (n : Int)) = true := decide_eq_true (by omega)
    have e2 : ∀ z : EntI, decide (out.length + [z].length ≤ lenBound) = true := fun z => decide_eq_true (by rw [List.length_singleton]; unfold lenBound; omega)
    simp only [iindexOf_L10, e1, Bool.not_false, cond_true, f1, f2, e2, Option.bind_some, wrap_succ (show k < 4611686018427387904 by omega)]
    have ih := idx_loop hb hl n hn x r es (k + 1) (at' + (entB e).length) q (out ++ [entI e]) (fun z hz => he z (by simp [hz])) a1 (by omega) (by omega) (by simp; omega)
    rw [hel] at ih
    rw [← Nat.add_assoc] at ih
    refine ih.trans ?_
    rw [idxL_cons, List.length_append, hel, ← Nat.add_assoc, ← Nat.add_assoc]
    simp
  | [], _, _, 0, _, _, _, _, h, _ => absurd h (Nat.not_lt_zero _)
  | _ :: _, _, _, 0, _, _, _, _, h, _ => absurd h (Nat.not_lt_zero _)

theorem idx_total {O : Type} {b : List Int} (hb : ByteL b) (hl : b.length ≤ 1000000000) (n : Int) (x : IdxX O) (r) : ∀ (q m k at' : Nat) (bad : Bool) (out : List EntI), at' ≤ b.length → b.length - at' + (if bad then 0 else 1) ≤ m → m < q → k ≤ at' + (if bad then 1 else 0) → out.length ≤ at' + (if bad then 1 else 0) → (∀ e ∈ out, ∃ j : Nat, e.2 = (j : Int) ∧ j ≤ 1000000000) →
    ∃ (a2 : Nat) (bad2 : Bool) (out2 : List EntI), a2 ≤ b.length ∧ out2.length ≤ b.length + 1 ∧ (∀ e ∈ out2, ∃ j : Nat, e.2 = (j : Int) ∧ j ≤ 1000000000) ∧ iindexOf_L10 O q (b, n, (k : Int), b, (at' : Int), bad, out) x r = x (b, b, (a2 : Int), bad2, out2)
  | q + 1, m, k, at', bad, out, ha, hm, hq, hk, ho, hE => by
    have stop : ∃ (a2 : Nat) (bad2 : Bool) (out2 : List EntI), a2 ≤ b.length ∧ out2.length ≤ b.length + 1 ∧ (∀ e ∈ out2, ∃ j : Nat, e.2 = (j : Int) ∧ j ≤ 1000000000) ∧ x (b, b, (at' : Int), bad, out) = x (b, b, (a2 : Int), bad2, out2) :=
      ⟨at', bad, out, ha, by split at ho <;> omega, hE, rfl⟩
    simp only [iindexOf_L10]
    cases hc : decide ((k : Int) < n) with
    | false => simpa only [cond_false] using stop
    | true =>
      simp only [cond_true]
      cases bad with
      | true => simpa only [Bool.not_true, cond_false] using stop
      | false =>
        simp only [Bool.false_eq_true, if_false] at hm hk ho
        have f1 := rdT_eq at' (by omega) false hb hl
        obtain ⟨s1, s2, s3⟩ := rdT_spec b at' false ha
        generalize rdT b at' false = n1 at f1 s1 s2 s3
        have f2 := rdN_eq n1.2.1 (by omega) n1.2.2 hb hl
        obtain ⟨t1, t2, t3, t4⟩ := rdN_spec b n1.2.1 n1.2.2 s2
        generalize rdN b n1.2.1 n1.2.2 = n2 at f2 t1 t2 t3 t4
        have e2 : ∀ z : EntI, decide (out.length + [z].length ≤ lenBound) = true := fun z => decide_eq_true (by rw [List.length_singleton]; unfold lenBound; omega)
        simp only [Bool.not_false, cond_true, f1, f2, e2, Option.bind_some, wrap_succ (show k < 4611686018427387904 by omega)]
        have hprog : n2.2.2 = false → at' < n2.2.1 := fun h => by
          have h2 := (t4 h).1
          have h3 := (t4 h).2
          omega
        refine idx_total hb hl n x r q (b.length - n2.2.1 + (if n2.2.2 then 0 else 1)) (k + 1) n2.2.1 n2.2.2 _ t2 (Nat.le_refl _) (by
          cases h : n2.2.2 with
          | true => simp; omega
          | false => have := hprog h; simp; omega) (by
          cases h : n2.2.2 with
          | true => simp; omega
          | false => have := hprog h; simp; omega) (by
          rw [List.length_append, List.length_singleton]
          cases h : n2.2.2 with
          | true => simp; omega
          | false => have := hprog h; simp; omega) (fun e he => by
          rcases List.mem_append.1 he with he | he
          · exact hE e he
          · simp only [List.mem_singleton] at he
            subst he
            exact ⟨n2.1, rfl, t3⟩)
  | 0, _, _, _, _, _, _, _, h, _, _, _ => absurd h (Nat.not_lt_zero _)

/-- Where all of a table's index stands. -/
structure IdxAt (l : List PairT) (b : List Int) : Prop where
  by_ : ByteL b
  len : b.length ≤ 1000000000
  pok : ∀ p ∈ l, POk p
  ll : l.length ≤ 200
  fr : At b (outB l (nbk l)).length (frameB (ibody l))
  en : (outB l (nbk l)).length + (frameB (ibody l)).length + 4 = b.length
  wd : At b (b.length - 4) (wordB (outB l (nbk l)).length)

theorem ents_ok (l : List PairT) (hp : ∀ p ∈ l, POk p) (hl : l.length ≤ 200) : ∀ e ∈ ents l (nbk l), e.1.length ≤ 20 ∧ e.2 ≤ 1000000000 := by
  intro e he
  obtain ⟨i, hi, rfl⟩ := List.getElem_of_mem he
  have h1 := (ents_len l hp (nbk l) (Nat.le_refl _)).1
  have hn : nbk l ≤ 53 := by unfold nbk; omega
  rw [ents_get l (nbk l) i hi (by omega)]
  have := outB_len l hp i
  exact ⟨lastK_len hp (by omega), by dsimp only; omega⟩

theorem index_ok {l : List PairT} {b : List Int} (h : IdxAt l b) : iindexOf b = some ((ents l (nbk l)).map entI, outF (keysF l), true) := by
  have hol := outB_len l h.pok (nbk l)
  have hn : nbk l ≤ 53 := by unfold nbk; have := h.ll; omega
  have hnn := numB_len (nbk l)
  have hlen := h.len
  have hen := h.en
  have hfl := frameB_len (ibody l)
  have hf8 : (outF (keysF l)).length = 8 := by rw [outF_len, keysF, fltB_len]; simp
  obtain ⟨hel, hil, hib⟩ := ents_len l h.pok (nbk l) (Nat.le_refl _)
  have hbl : (ibody l).length = (numB (nbk l)).length + (idxL (ents l (nbk l))).length + 8 := by unfold ibody; rw [List.length_append, List.length_append, hf8]
  have hbb : ByteL (ibody l) := ((numB_bytes (by omega)).append (hib (by omega))).append (outF_b _)
  have e0 : decide (((b.length : Nat) : Int) < 4) = false := decide_eq_false (by omega)
  have w0 : IntKind.wrap .i64 (((b.length : Nat) : Int) - 4) = ((b.length - 4 : Nat) : Int) := by rw [wrap64 (by omega) (by omega)]; omega
  have w1 := (wordAt_ok h.by_ (by omega) (b.length - 4) (by omega)).1
  rw [wordV_at (by omega) h.wd] at w1
  have u1 := unframe_eq h.by_ h.len (outB l (nbk l)).length (by omega)
  rw [getF_at (by omega) h.fr] at u1
  dsimp only at u1
  have e1 : (((((outB l (nbk l)).length + (frameB (ibody l)).length : Nat)) : Int) != ((b.length - 4 : Nat) : Int)) = false := by rw [show (outB l (nbk l)).length + (frameB (ibody l)).length = b.length - 4 from by omega]; simp
  have g1 : getN (ibody l) 0 = some (nbk l, 0 + (numB (nbk l)).length) := getN_at (by omega) (show At (ibody l) 0 (numB (nbk l)) from (At.whole (ibody l)).left.left)
  have f1 := rdN_eq 0 (by omega) false hbb (by omega)
  have r1 : rdN (ibody l) 0 false = (nbk l, (numB (nbk l)).length, false) := by simp only [rdN, g1, Nat.zero_add]; rfl
  rw [r1] at f1
  dsimp only at f1
  have f1' : ireader_num (ibody l, 0, false) = some ((nbk l : Int), ibody l, ((numB (nbk l)).length : Int), false) := f1
  simp only [iindexOf, e0, cond_false, w0, w1, u1, Option.bind_some, Bool.not_true, e1, f1']
  have hat : At (ibody l) (numB (nbk l)).length (idxL (ents l (nbk l))) := by
    have := (At.whole (ibody l)).left.right
    rwa [Nat.zero_add] at this
  refine (idx_loop hbb (by omega) (nbk l) (by omega) _ _ (ents l (nbk l)) 0 (numB (nbk l)).length fuel [] (ents_ok l h.pok h.ll) hat (by omega) (by rw [fuel_eq]; omega) (by simp; omega)).trans ?_
  have w2 : IntKind.wrap .i64 ((((ibody l).length : Nat) : Int) - 8) = (((numB (nbk l)).length + (idxL (ents l (nbk l))).length : Nat) : Int) := by rw [wrap64 (by omega) (by omega)]; omega
  have c1 : cut (ibody l) (((numB (nbk l)).length + (idxL (ents l (nbk l))).length : Nat) : Int) (((ibody l).length : Nat) : Int) = outF (keysF l) := by
    unfold cut
    rw [Int.toNat_natCast, Int.toNat_natCast, List.take_length, ← List.length_append]
    exact List.drop_left
  simp only [cond_false, w2, c1]
  rw [decide_eq_true (by omega), decide_eq_true (by omega), decide_eq_true (by omega)]
  simp only [bne_self_eq_false, cond_false, Bool.and_self, cond_true, List.nil_append]

theorem idx_totalP {O : Type} {b : List Int} (P : Option O → Prop) (hb : ByteL b) (hl : b.length ≤ 1000000000) (n : Int) (x : IdxX O) (r) (q k at' : Nat) (bad : Bool) (out : List EntI) (ha : at' ≤ b.length) (hq : b.length - at' + 1 < q) (hk : k ≤ at' + (if bad then 1 else 0)) (ho : out.length ≤ at' + (if bad then 1 else 0)) (hE : ∀ e ∈ out, ∃ j : Nat, e.2 = (j : Int) ∧ j ≤ 1000000000)
    (hP : ∀ (a2 : Nat) (bad2 : Bool) (out2 : List EntI), a2 ≤ b.length → out2.length ≤ b.length + 1 → (∀ e ∈ out2, ∃ j : Nat, e.2 = (j : Int) ∧ j ≤ 1000000000) → P (x (b, b, (a2 : Int), bad2, out2))) : P (iindexOf_L10 O q (b, n, (k : Int), b, (at' : Int), bad, out) x r) := by
  obtain ⟨a2, bad2, out2, k1, k2, k3, k4⟩ := idx_total hb hl n x r q (b.length - at' + 1) k at' bad out ha (by split <;> omega) hq hk ho hE
  rw [k4]
  exact hP a2 bad2 out2 k1 k2 k3

theorem index_total (b : List Int) (hb : ByteL b) (hl : b.length ≤ 1000000000) : ∃ es f ok, iindexOf b = some (es, f, ok) ∧ es.length ≤ b.length + 1 ∧ ∀ e ∈ es, ∃ j : Nat, e.2 = (j : Int) ∧ j ≤ 1000000000 := by
  have nil : ∃ es f ok, (some (([] : List EntI), ([] : List Int), false) : Option (List EntI × List Int × Bool)) = some (es, f, ok) ∧ es.length ≤ b.length + 1 ∧ ∀ e ∈ es, ∃ j : Nat, e.2 = (j : Int) ∧ j ≤ 1000000000 := ⟨[], [], false, rfl, by simp, by simp⟩
  by_cases h4 : b.length < 4
  · simp only [iindexOf, decide_eq_true (show ((b.length : Nat) : Int) < 4 by omega), cond_true]
    exact nil
  · have w0 : IntKind.wrap .i64 (((b.length : Nat) : Int) - 4) = ((b.length - 4 : Nat) : Int) := by rw [wrap64 (by omega) (by omega)]; omega
    obtain ⟨w1, w2⟩ := wordAt_ok hb (by omega) (b.length - 4) (by omega)
    have u := unframe_eq hb hl (wordV b (b.length - 4)) (by omega)
    have e4 := decide_eq_false (show ¬ ((b.length : Nat) : Int) < 4 by omega)
    generalize wordV b (b.length - 4) = wv at w1 w2 u
    cases hg : getF b wv with
    | none =>
      rw [hg] at u
      dsimp only at u
      simp only [iindexOf, e4, cond_false, w0, w1, Option.bind_some, u, Bool.not_false, cond_true]
      exact nil
    | some p =>
      rw [hg] at u
      dsimp only at u
      simp only [iindexOf, e4, cond_false, w0, w1, Option.bind_some, u]
      obtain ⟨_, _, h3, h5⟩ := getF_spec hg
      have hpb : ByteL p.1 := fun x hx => hb x (h5 x hx)
      simp only [Bool.not_true, cond_false]
      cases ((p.2 : Int) != ((b.length - 4 : Nat) : Int)) with
      | true => exact nil
      | false =>
        have f1 := rdN_eq 0 (by omega) false hpb (by omega)
        obtain ⟨s1, s2, s3, s4⟩ := rdN_spec p.1 0 false (by omega)
        generalize rdN p.1 0 false = n1 at f1 s1 s2 s3 s4
        have f1' : ireader_num (p.1, 0, false) = some ((n1.1 : Int), p.1, (n1.2.1 : Int), n1.2.2) := f1
        simp only [cond_false, f1', Option.bind_some]
        refine idx_totalP (fun (o : Option (List EntI × List Int × Bool)) => ∃ es f ok, o = some (es, f, ok) ∧ es.length ≤ b.length + 1 ∧ ∀ e ∈ es, ∃ j : Nat, e.2 = (j : Int) ∧ j ≤ 1000000000) hpb (by omega) (n1.1 : Int) _ _ fuel 0 n1.2.1 n1.2.2 [] s2 (by rw [fuel_eq]; omega) (by omega) (by simp) (by simp) fun a2 bad2 out2 k1 k2 k3 => ?_
        dsimp only
        cases bad2 with
        | true => exact nil
        | false =>
          simp only [cond_false]
          cases ((a2 : Int) != IntKind.wrap .i64 (((p.1.length : Nat) : Int) - 8)) with
          | true => exact nil
          | false =>
            rw [decide_eq_true (show (0 : Int) ≤ (a2 : Int) by omega), decide_eq_true (show (a2 : Int) ≤ ((p.1.length : Nat) : Int) by omega), decide_eq_true (Int.le_refl _)]
            simp only [cond_false, Bool.and_self, cond_true]
            exact ⟨out2, _, true, rfl, by omega, k3⟩

end Go.Rx
/- Tables: all pairs of a table. -/
namespace Go.Rx

theorem outB_at (l : List PairT) : ∀ (j i : Nat), i < j → At (outB l j) (outB l i).length (frm l i)
  | 0, _, h => absurd h (Nat.not_lt_zero _)
  | j + 1, i, h => by
    by_cases hij : i < j
    · obtain ⟨pre, post, h1, h2⟩ := outB_at l j i hij
      exact ⟨pre, post ++ frm l j, by simp only [outB]; rw [h1]; simp, h2⟩
    · have : i = j := by omega
      subst this
      exact ⟨outB l i, [], by simp [outB], rfl⟩

theorem wordB_len (n : Nat) : (wordB n).length = 4 := rfl

theorem table_at (l : List PairT) (hp : ∀ p ∈ l, POk p) (hl : l.length ≤ 200) : IdxAt l (tableB l) ∧ ∀ i, i < nbk l → At (tableB l) (outB l i).length (frm l i) := by
  have hol := outB_len l hp (nbk l)
  have hn : nbk l ≤ 53 := by unfold nbk; omega
  have hnn := numB_len (nbk l)
  have hf8 : (outF (keysF l)).length = 8 := by rw [outF_len, keysF, fltB_len]; simp
  obtain ⟨hel, hil, hib⟩ := ents_len l hp (nbk l) (Nat.le_refl _)
  have hbl : (ibody l).length = (numB (nbk l)).length + (idxL (ents l (nbk l))).length + 8 := by unfold ibody; rw [List.length_append, List.length_append, hf8]
  have hbb : ByteL (ibody l) := ((numB_bytes (by omega)).append (hib (by omega))).append (outF_b _)
  have hfl := frameB_len (ibody l)
  have htl : (tableB l).length = (outB l (nbk l)).length + (frameB (ibody l)).length + 4 := by simp only [tableB, List.length_append, wordB_len]
  refine ⟨⟨?_, by omega, hp, hl, ?_, by omega, ?_⟩, fun i hi => ?_⟩
  · exact ((outB_bytes l hp _).append (frameB_bytes hbb (by omega))).append (wordB_bytes (by omega))
  · have := (At.whole (tableB l)).left.right
    rwa [Nat.zero_add] at this
  · have := (At.whole (tableB l)).right
    rw [Nat.zero_add, List.length_append] at this
    rw [htl]
    exact this
  · have h1 := (At.whole (tableB l)).left.left
    have := h1.inside (outB_at l (nbk l) i hi)
    rwa [Nat.zero_add] at this

theorem take_blk (l : List PairT) (i : Nat) : l.take (4 * i) ++ blk l i = l.take (4 * (i + 1)) := by
  rw [show 4 * (i + 1) = 4 * i + 4 from by omega, List.take_add, blk]

/-- **All pairs of a table come back.** -/
theorem tablePairs_ok (l : List PairT) (h1 : 1 ≤ l.length) (h2 : l.length ≤ 200) (hr : risingB l = true) (hp : ∀ p ∈ l, POk p) : iTablePairs (tableB l) = some (l, true) := by
  obtain ⟨hI, hA⟩ := table_at l hp h2
  have hn : nbk l ≤ 53 := by unfold nbk; omega
  have hel := (ents_len l hp (nbk l) (Nat.le_refl _)).1
  have hput := putTable_ok l (by omega)
  rw [if_pos ⟨h1, h2, hr⟩] at hput
  have hpos : 0 < (tableB l).length := by have := hI.en; omega
  simp only [iTablePairs, index_ok hI, Option.bind_some]
  obtain ⟨s, k1, k2⟩ := loop_upF 0 (nbk l) (Nat.zero_le _) (by omega) (fun q i (s : List PairT) => iTablePairs_L4 (List PairT × Bool) q (tableB l, true, (nbk l : Int), i, s, (ents l (nbk l)).map entI) (fun (b12, ok13, out14) => ((iPutTable out14).bind fun r15 => (cond (!ok13) (some ([], false)) (cond (((r15.length : Nat) : Int) == (0 : Int)) (some ([], false)) (cond (!((strOf r15) == (strOf b12))) (some ([], false)) (some (out14, true))))))) some)
    (fun s => ((iPutTable s).bind fun r15 => (cond (!true) (some ([], false)) (cond (((r15.length : Nat) : Int) == (0 : Int)) (some ([], false)) (cond (!((strOf r15) == (strOf (tableB l)))) (some ([], false)) (some (s, true)))))))
    (fun i s => s = l.take (4 * i))
    (fun q i s hi hs => by
      have e1 : decide ((i : Int) < (nbk l : Int)) = true := decide_eq_true (by omega)
      have e2 : decide ((0 : Int) ≤ (i : Int)) = true := decide_eq_true (by omega)
      have e3 : decide ((i : Int) < ((((ents l (nbk l)).map entI).length : Nat) : Int)) = true := decide_eq_true (by rw [List.length_map, hel]; omega)
      have e4 : (nth ((ents l (nbk l)).map entI) (i : Int)).2 = (((outB l i).length : Nat) : Int) := by
        rw [nth_nat _ _ (by rw [List.length_map, hel]; exact hi), List.getElem_map, ents_get l (nbk l) i (by rw [hel]; exact hi) hi]
        rfl
      have hbl := blk_len l i
      have e5 := pairsAt_ok hI.by_ hI.len (outB l i).length (blk l i) (fun p h => hp p (blk_mem h)) (by omega) (hA i hi)
      have hsl : s.length ≤ 200 := by rw [hs, List.length_take]; omega
      have e6 : decide (((s.length : Nat) : Int) > 200) = false := decide_eq_false (by omega)
      have e7 : decide (s.length + (blk l i).length ≤ lenBound) = true := decide_eq_true (by unfold lenBound; omega)
      refine ⟨s ++ blk l i, by rw [hs]; exact take_blk l i, ?_⟩
      simp only [iTablePairs_L4, e1, e2, e3, e4, e5, e6, e7, Bool.and_self, cond_true, cond_false, Bool.not_true, Option.bind_some, wrap_succ (show i < 4611686018427387904 by omega)])
    (fun q s _ => by
      have e1 : decide ((nbk l : Int) < (nbk l : Int)) = false := decide_eq_false (by omega)
      simp only [iTablePairs_L4, e1, cond_false]) [] (by simp)
  have hle : l.take (4 * nbk l) = l := List.take_of_length_le (by unfold nbk; omega)
  rw [hle] at k1
  subst k1
  have e0 : ((((ents s (nbk s)).map entI).length : Nat) : Int) = (nbk s : Int) := by rw [List.length_map, hel]
  rw [e0]
  refine k2.trans ?_
  rw [hput, Option.bind_some]
  have e1 : ((((tableB s).length : Nat) : Int) == 0) = false := by rw [beq_eq_false_iff_ne]; omega
  simp only [e1, Bool.not_true, cond_false, beq_self_eq_true]

/-- In any case the reading of a table ends. -/
theorem tablePairs_loop {O : Type} {b : List Int} (hb : ByteL b) (hl : b.length ≤ 1000000000) (P : Option O → Prop) (ok : Bool) (es : List EntI) (hE : ∀ e ∈ es, ∃ j : Nat, e.2 = (j : Int) ∧ j ≤ 1000000000) (hes : es.length ≤ 1000000001) (x : (List Int × Bool × List PairT) → Option O) (r : (List PairT × Bool) → Option O) (hr : P (r ([], false))) (hx : ∀ out : List PairT, out.length ≤ 1000000500 → P (x (b, ok, out))) :
    ∀ (m q i : Nat) (out : List PairT), i + m = es.length → m < q → out.length ≤ 1000000500 → P (iTablePairs_L4 O q (b, ok, ((es.length : Nat) : Int), (i : Int), out, es) x r)
  | 0, q + 1, i, out, he, _, ho => by
    have e1 : decide ((i : Int) < ((es.length : Nat) : Int)) = false := decide_eq_false (by omega)
    simp only [iTablePairs_L4, e1, cond_false]
    exact hx out ho
  | m + 1, q + 1, i, out, he, hq, ho => by
    have hi : i < es.length := by omega
    have e1 : decide ((i : Int) < ((es.length : Nat) : Int)) = true := decide_eq_true (by omega)
    have e2 : decide ((0 : Int) ≤ (i : Int)) = true := decide_eq_true (by omega)
    obtain ⟨j, hj, hjl⟩ := hE _ (List.getElem_mem hi)
    obtain ⟨l', ok', h1, h2⟩ := pairsAt_total hb hl j (by omega)
    simp only [iTablePairs_L4, e1, e2, Bool.and_self, cond_true, nth_nat es i hi, hj, h1, Option.bind_some, wrap_succ (show i < 4611686018427387904 by omega)]
    cases ok with
    | false => exact hr
    | true =>
      cases ok' with
      | false => exact hr
      | true =>
        cases hc : decide (((out.length : Nat) : Int) > 200) with
        | true => exact hr
        | false =>
          have hc' : out.length ≤ 200 := by have := of_decide_eq_false hc; omega
          have e7 : decide (out.length + l'.length ≤ lenBound) = true := decide_eq_true (by unfold lenBound; omega)
          simp only [Bool.not_true, cond_false, e7, cond_true]
          exact tablePairs_loop hb hl P true es hE hes x r hr hx m q (i + 1) _ (by omega) (by omega) (by rw [List.length_append]; omega)
  | _, 0, _, _, _, h, _ => absurd h (Nat.not_lt_zero _)

end Go.Rx
