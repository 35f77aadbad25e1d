import Derived.Test.YtnjjljnjgemkdaaFOrder0
import Derived.Orders
set_option linter.all false
/- Graphs of commands: what is reached, in plain lists. -/
namespace Go.Rx

abbrev DotG := Int × Int
abbrev Gr := List (DotG × List DotG)

def depsG (g : Gr) (d : DotG) : List DotG := match g.find? (fun x => x.1 == d) with
  | some x => x.2
  | none => []
def inG (g : Gr) (d : DotG) : Bool := g.any fun x => x.1 == d
def allD (g : Gr) : List DotG := (g.map (·.2)).flatten

theorem deps_all {g : Gr} {d x : DotG} (h : x ∈ depsG g d) : x ∈ allD g := by
  unfold depsG at h
  split at h
  · rename_i y hy
    exact List.mem_flatten.2 ⟨_, List.mem_map.2 ⟨y, List.mem_of_find?_eq_some hy, rfl⟩, h⟩
  · simp at h

/-- Over one or more steps. -/
inductive Rch (g : Gr) : DotG → DotG → Prop
  | one {d x} (h : x ∈ depsG g d) : Rch g d x
  | cons {d y x} (h : y ∈ depsG g d) (k : Rch g y x) : Rch g d x

theorem Rch.trans {g : Gr} {a b c : DotG} (h : Rch g a b) (k : Rch g b c) : Rch g a c := by
  induction h with
  | one h => exact .cons h k
  | cons h _ ih => exact .cons h (ih k)

theorem Rch.all {g : Gr} {a b : DotG} (h : Rch g a b) : b ∈ allD g := by
  induction h with
  | one h => exact deps_all h
  | cons _ _ ih => exact ih

/-- All that is reached is there. -/
def WholeG (g : Gr) (d : DotG) : Prop := inG g d = true ∧ ∀ x, Rch g d x → inG g x = true

theorem WholeG.next {g : Gr} {d x : DotG} (h : WholeG g d) (k : Rch g d x) : WholeG g x := ⟨h.2 x k, fun y hy => h.2 y (k.trans hy)⟩

theorem nodup_len {α : Type} [DecidableEq α] : ∀ {l m : List α}, l.Nodup → (∀ x ∈ l, x ∈ m) → l.length ≤ m.length
  | [], _, _, _ => Nat.zero_le _
  | a :: l, m, h, k => by
    have ha : a ∈ m := k a (by simp)
    have := nodup_len (l := l) (m := m.erase a) (List.nodup_cons.1 h).2 fun x hx =>
      (List.mem_erase_of_ne (by rintro rfl; exact (List.nodup_cons.1 h).1 hx)).2 (k x (by simp [hx]))
    rw [List.length_erase_of_mem ha] at this
    have := List.length_pos_of_mem ha
    simp only [List.length_cons]
    omega

/-! ### The program's search -/
def add1 (s : List DotG × List DotG) (x : DotG) : List DotG × List DotG := cond (s.1.any (· == x)) s (s.1 ++ [x], s.2 ++ [x])

def bfs (g : Gr) : Nat → List DotG → List DotG → Option (List DotG × Bool)
  | 0, _, _ => none
  | _ + 1, out, [] => some (out, true)
  | q + 1, out, d :: todo => if inG g d then bfs g q ((depsG g d).foldl add1 (out, todo)).1 ((depsG g d).foldl add1 (out, todo)).2 else some ([], false)

/-- What the search keeps. -/
structure Inv (g : Gr) (d0 : DotG) (out todo : List DotG) : Prop where
  nd : out.Nodup
  rch : ∀ x ∈ out, Rch g d0 x
  td : ∀ x ∈ todo, x = d0 ∨ x ∈ out
  cl : ∀ y, (y = d0 ∨ y ∈ out) → y ∈ todo ∨ (inG g y = true ∧ ∀ z ∈ depsG g y, z ∈ out)

theorem any_mem {l : List DotG} {x : DotG} : (l.any (· == x)) = true ↔ x ∈ l := by
  rw [List.any_eq_true]
  exact ⟨fun ⟨y, hy, e⟩ => by rw [beq_iff_eq] at e; exact e ▸ hy, fun h => ⟨x, h, beq_self_eq_true x⟩⟩

/-- The dots of one command. -/
theorem add_all : ∀ (l : List DotG) (s : List DotG × List DotG), s.1.Nodup → ∃ new : List DotG, (l.foldl add1 s).1 = s.1 ++ new ∧ (l.foldl add1 s).2 = s.2 ++ new ∧ (s.1 ++ new).Nodup ∧ (∀ x ∈ new, x ∈ l) ∧ ∀ x ∈ l, x ∈ s.1 ++ new
  | [], s, h => ⟨[], by simp, by simp, by simpa using h, by simp, by simp⟩
  | x :: l, s, h => by
    simp only [List.foldl_cons]
    by_cases hx : x ∈ s.1
    · have e : add1 s x = s := by unfold add1; rw [any_mem.2 hx]; rfl
      rw [e]
      obtain ⟨new, h1, h2, h3, h4, h5⟩ := add_all l s h
      refine ⟨new, h1, h2, h3, fun y hy => List.mem_cons_of_mem _ (h4 y hy), fun y hy => ?_⟩
      rcases List.mem_cons.1 hy with rfl | hy
      · exact List.mem_append_left _ hx
      · exact h5 y hy
    · have e : add1 s x = (s.1 ++ [x], s.2 ++ [x]) := by
        unfold add1
        rw [show (s.1.any (· == x)) = false from by rw [Bool.eq_false_iff]; exact fun hh => hx (any_mem.1 hh)]
        rfl
      rw [e]
      obtain ⟨new, h1, h2, h3, h4, h5⟩ := add_all l (s.1 ++ [x], s.2 ++ [x]) (by
        rw [List.nodup_append]
        exact ⟨h, by simp, by rintro a ha b hb rfl; simp at hb; exact hx (hb ▸ ha)⟩)
      refine ⟨x :: new, by simpa using h1, by simpa using h2, by simpa using h3, fun y hy => ?_, fun y hy => ?_⟩
      · rcases List.mem_cons.1 hy with rfl | hy
        · simp
        · exact List.mem_cons_of_mem _ (h4 y hy)
      · rcases List.mem_cons.1 hy with rfl | hy
        · simp
        · simpa using h5 y hy

theorem Inv.step {g : Gr} {d0 d : DotG} {out todo : List DotG} (I : Inv g d0 out (d :: todo)) (hd : inG g d = true) :
    Inv g d0 ((depsG g d).foldl add1 (out, todo)).1 ((depsG g d).foldl add1 (out, todo)).2 ∧
      ((depsG g d).foldl add1 (out, todo)).2.length + out.length = todo.length + ((depsG g d).foldl add1 (out, todo)).1.length := by
  obtain ⟨new, h1, h2, h3, h4, h5⟩ := add_all (depsG g d) (out, todo) I.nd
  rw [h1, h2]
  dsimp only at h3 h5 ⊢
  have hdr : ∀ x ∈ depsG g d, Rch g d0 x := fun x hx => by
    rcases I.td d (by simp) with rfl | h
    · exact .one hx
    · exact (I.rch d h).trans (.one hx)
  refine ⟨⟨h3, fun x hx => ?_, fun x hx => ?_, fun y hy => ?_⟩, by simp; omega⟩
  · rcases List.mem_append.1 hx with hx | hx
    · exact I.rch x hx
    · exact hdr x (h4 x hx)
  · rcases List.mem_append.1 hx with hx | hx
    · rcases I.td x (by simp [hx]) with h | h
      · exact .inl h
      · exact .inr (List.mem_append_left _ h)
    · exact .inr (List.mem_append_right _ hx)
  · have old : (y = d0 ∨ y ∈ out) → y ∈ todo ++ new ∨ (inG g y = true ∧ ∀ z ∈ depsG g y, z ∈ out ++ new) := fun hy => by
      rcases I.cl y hy with h | ⟨h, k⟩
      · rcases List.mem_cons.1 h with rfl | h
        · exact .inr ⟨hd, fun z hz => h5 z hz⟩
        · exact .inl (List.mem_append_left _ h)
      · exact .inr ⟨h, fun z hz => List.mem_append_left _ (k z hz)⟩
    rcases hy with hy | hy
    · exact old (.inl hy)
    · rcases List.mem_append.1 hy with hy | hy
      · exact old (.inr hy)
      · exact .inl (List.mem_append_right _ hy)

theorem Inv.bound {g : Gr} {d0 : DotG} {out todo : List DotG} (I : Inv g d0 out todo) : out.length ≤ (allD g).length := nodup_len I.nd fun x hx => (I.rch x hx).all

theorem Inv.done {g : Gr} {d0 : DotG} {out : List DotG} (I : Inv g d0 out []) : WholeG g d0 ∧ ∀ x, x ∈ out ↔ Rch g d0 x := by
  have hcl : ∀ y, (y = d0 ∨ y ∈ out) → inG g y = true ∧ ∀ z ∈ depsG g y, z ∈ out := fun y hy => by
    rcases I.cl y hy with h | h
    · simp at h
    · exact h
  have hr : ∀ {y x}, Rch g y x → (y = d0 ∨ y ∈ out) → x ∈ out := by
    intro y x h
    induction h with
    | one h => exact fun hy => (hcl _ hy).2 _ h
    | cons h _ ih => exact fun hy => ih (.inr ((hcl _ hy).2 _ h))
  exact ⟨⟨(hcl d0 (.inl rfl)).1, fun x hx => (hcl x (.inr (hr hx (.inl rfl)))).1⟩, fun x => ⟨I.rch x, fun h => hr h (.inl rfl)⟩⟩

/-- **The search ends, and finds what is reached.** -/
theorem bfs_spec {g : Gr} {d0 : DotG} : ∀ (q : Nat) (out todo : List DotG), Inv g d0 out todo → (allD g).length + todo.length < q + out.length →
    (∃ l, bfs g q out todo = some (l, true) ∧ WholeG g d0 ∧ l.Nodup ∧ ∀ x, x ∈ l ↔ Rch g d0 x) ∨ (bfs g q out todo = some ([], false) ∧ ¬ WholeG g d0)
  | 0, out, todo, I, h => by have := I.bound; omega
  | q + 1, out, [], I, h => .inl ⟨out, rfl, I.done.1, I.nd, I.done.2⟩
  | q + 1, out, d :: todo, I, h => by
    unfold bfs
    by_cases hd : inG g d = true
    · rw [if_pos hd]
      obtain ⟨h1, h2⟩ := I.step hd
      exact bfs_spec q _ _ h1 (by simp only [List.length_cons] at h; omega)
    · rw [if_neg hd]
      refine .inr ⟨rfl, fun hw => hd ?_⟩
      rcases I.td d (by simp) with rfl | hx
      · exact hw.1
      · exact hw.2 d (I.rch d hx)

theorem inv_start (g : Gr) (d : DotG) : Inv g d [] [d] := ⟨List.nodup_nil, by simp, by simp, fun y hy => by
  rcases hy with rfl | hy
  · simp
  · simp at hy⟩
end Go.Rx
/- Ascending lists of dots, and groups. -/
namespace Go.Rx

def lessG (a b : DotG) : Bool := decide (a.1 < b.1) || (a.1 == b.1 && decide (a.2 < b.2))

theorem lessG_irrefl (a : DotG) : lessG a a = false := by
  unfold lessG; simp
theorem lessG_trans {a b c : DotG} (h : lessG a b = true) (k : lessG b c = true) : lessG a c = true := by
  unfold lessG at *
  simp only [Bool.or_eq_true, Bool.and_eq_true, decide_eq_true_eq, beq_iff_eq] at *
  omega
theorem lessG_total {a b : DotG} (h : lessG a b = false) (k : a ≠ b) : lessG b a = true := by
  obtain ⟨a1, a2⟩ := a
  obtain ⟨b1, b2⟩ := b
  unfold lessG at *
  simp only [Bool.or_eq_true, Bool.and_eq_true, decide_eq_true_eq, beq_iff_eq, Bool.or_eq_false_iff, Bool.and_eq_false_iff, decide_eq_false_iff_not, beq_eq_false_iff_ne, ne_eq, Prod.mk.injEq] at *
  omega
theorem lessG_ne {a b : DotG} (h : lessG a b = true) : a ≠ b := by
  rintro rfl
  rw [lessG_irrefl] at h
  cases h

def Asc (l : List DotG) : Prop := l.Pairwise fun a b => lessG a b = true

theorem asc_nodup {l : List DotG} (h : Asc l) : l.Nodup := List.Pairwise.imp (fun h => lessG_ne h) h

/-- Two ascending lists with the same dots are one. -/
theorem asc_ext : ∀ {l m : List DotG}, Asc l → Asc m → (∀ x, x ∈ l ↔ x ∈ m) → l = m
  | [], [], _, _, _ => rfl
  | [], b :: m, _, _, h => by have := (h b).2 (by simp); simp at this
  | a :: l, [], _, _, h => by have := (h a).1 (by simp); simp at this
  | a :: l, b :: m, hl, hm, h => by
    have hl' := List.pairwise_cons.1 hl
    have hm' := List.pairwise_cons.1 hm
    have hab : a = b := by
      rcases List.mem_cons.1 ((h a).1 (by simp)) with e | h1
      · exact e
      · rcases List.mem_cons.1 ((h b).2 (by simp)) with e | h2
        · exact e.symm
        · have := lessG_trans (hm'.1 a h1) (hl'.1 b h2)
          rw [lessG_irrefl] at this
          cases this
    subst hab
    congr 1
    refine asc_ext hl'.2 hm'.2 fun x => ?_
    constructor
    · intro hx
      rcases List.mem_cons.1 ((h x).1 (by simp [hx])) with rfl | h1
      · exact absurd rfl (lessG_ne (hl'.1 x hx)).symm
      · exact h1
    · intro hx
      rcases List.mem_cons.1 ((h x).2 (by simp [hx])) with rfl | h1
      · exact absurd rfl (lessG_ne (hm'.1 x hx)).symm
      · exact h1

/-- One more dot. -/
def insG (d : DotG) : List DotG → List DotG
  | [] => [d]
  | a :: l => if lessG a d then a :: insG d l else if a = d then a :: l else d :: a :: l

theorem insG_mem {d x : DotG} : ∀ {l : List DotG}, x ∈ insG d l ↔ x = d ∨ x ∈ l
  | [] => by simp [insG]
  | a :: l => by
    unfold insG
    split
    · simp only [List.mem_cons, insG_mem (l := l)]
      constructor
      · rintro (h | h | h) <;> simp [h]
      · rintro (h | h | h) <;> simp [h]
    · split
      · rename_i h; subst h; simp
      · simp

theorem insG_asc {d : DotG} : ∀ {l : List DotG}, Asc l → Asc (insG d l)
  | [], _ => by simp [insG, Asc]
  | a :: l, h => by
    have h' := List.pairwise_cons.1 h
    unfold insG
    split
    · rename_i had
      refine List.pairwise_cons.2 ⟨fun x hx => ?_, insG_asc h'.2⟩
      rcases insG_mem.1 hx with rfl | hx
      · exact had
      · exact h'.1 x hx
    · rename_i had
      split
      · exact h
      · rename_i hne
        have hda := lessG_total (by simpa using had) hne
        refine List.pairwise_cons.2 ⟨fun x hx => ?_, h⟩
        rcases List.mem_cons.1 hx with rfl | hx
        · exact hda
        · exact lessG_trans hda (h'.1 x hx)

/-- How the program writes it: behind all that are less. -/
def lowG (d : DotG) : List DotG → Nat
  | [] => 0
  | a :: l => if lessG a d then lowG d l + 1 else 0

theorem insG_cut (d : DotG) : ∀ (l : List DotG), insG d l = if l[lowG d l]? = some d then l else l.take (lowG d l) ++ [d] ++ l.drop (lowG d l)
  | [] => by simp [insG, lowG]
  | a :: l => by
    unfold insG lowG
    split
    · rw [insG_cut d l]
      simp only [List.getElem?_cons_succ, List.take_succ_cons, List.drop_succ_cons]
      split <;> simp
    · simp

/-- The same group. -/
def Same (g : Gr) (d x : DotG) : Prop := x = d ∨ (Rch g d x ∧ Rch g x d)

theorem Same.symm {g : Gr} {d x : DotG} (h : Same g d x) : Same g x d := by
  rcases h with rfl | ⟨h, k⟩
  · exact .inl rfl
  · exact .inr ⟨k, h⟩
theorem Same.trans {g : Gr} {a b c : DotG} (h : Same g a b) (k : Same g b c) : Same g a c := by
  rcases h with rfl | ⟨h1, h2⟩
  · exact k
  · rcases k with rfl | ⟨k1, k2⟩
    · exact .inr ⟨h1, h2⟩
    · exact .inr ⟨h1.trans k1, k2.trans h2⟩
theorem WholeG.same {g : Gr} {d x : DotG} (h : WholeG g d) (k : Same g d x) : WholeG g x := by
  rcases k with rfl | ⟨k, _⟩
  · exact h
  · exact h.next k

/-- A group, as the program makes it: 'l' is what is reached from d. -/
theorem group_spec {g : Gr} {d : DotG} {l : List DotG} (hl : ∀ x, x ∈ l ↔ Rch g d x) (p : DotG → Bool) (hp : ∀ x ∈ l, p x = true ↔ Rch g x d) :
    Asc (l.foldl (fun out x => cond (p x) (insG x out) out) [d]) ∧ ∀ x, x ∈ l.foldl (fun out x => cond (p x) (insG x out) out) [d] ↔ Same g d x := by
  have key : ∀ (m out : List DotG), Asc out → Asc (m.foldl (fun out x => cond (p x) (insG x out) out) out) ∧
      ∀ x, x ∈ m.foldl (fun out x => cond (p x) (insG x out) out) out ↔ x ∈ out ∨ (x ∈ m ∧ p x = true) := by
    intro m
    induction m with
    | nil => intro out h; exact ⟨h, fun x => by simp⟩
    | cons a m ih =>
      intro out h
      simp only [List.foldl_cons]
      cases hpa : p a with
      | true =>
        obtain ⟨h1, h2⟩ := ih (insG a out) (insG_asc h)
        refine ⟨h1, fun x => ?_⟩
        simp only [cond_true] at *
        rw [h2 x, insG_mem, List.mem_cons]
        constructor
        · rintro ((rfl | h) | ⟨h, k⟩)
          · exact .inr ⟨.inl rfl, hpa⟩
          · exact .inl h
          · exact .inr ⟨.inr h, k⟩
        · rintro (h | ⟨rfl | h, k⟩)
          · exact .inl (.inr h)
          · exact .inl (.inl rfl)
          · exact .inr ⟨h, k⟩
      | false =>
        obtain ⟨h1, h2⟩ := ih out h
        refine ⟨h1, fun x => ?_⟩
        simp only [cond_false] at *
        rw [h2 x, List.mem_cons]
        constructor
        · rintro (h | ⟨h, k⟩)
          · exact .inl h
          · exact .inr ⟨.inr h, k⟩
        · rintro (h | ⟨rfl | h, k⟩)
          · exact .inl h
          · rw [hpa] at k; cases k
          · exact .inr ⟨h, k⟩
  obtain ⟨h1, h2⟩ := key l [d] (by simp [Asc])
  refine ⟨h1, fun x => ?_⟩
  rw [h2 x]
  constructor
  · rintro (h | ⟨h, k⟩)
    · simp at h; exact .inl h
    · exact .inr ⟨(hl x).1 h, (hp x h).1 k⟩
  · rintro (rfl | ⟨h, k⟩)
    · simp
    · exact .inr ⟨(hl x).2 h, (hp x ((hl x).2 h)).2 k⟩
end Go.Rx
/- The reference's search, in plain lists. -/
namespace Go.Rx

def nmG (g : Gr) (j : Nat) : DotG := (g.getD j default).1
def dpG (g : Gr) (j : Nat) : List DotG := (g.getD j default).2

/-- Each command has its own name. -/
def UniG (g : Gr) : Prop := ∀ i j, i < g.length → j < g.length → nmG g i = nmG g j → i = j

theorem nm_get {g : Gr} {j : Nat} (h : j < g.length) : nmG g j = g[j].1 := by unfold nmG; simp [List.getD_eq_getElem?_getD, List.getElem?_eq_getElem h]
theorem dp_get {g : Gr} {j : Nat} (h : j < g.length) : dpG g j = g[j].2 := by unfold dpG; simp [List.getD_eq_getElem?_getD, List.getElem?_eq_getElem h]

theorem find_nm {g : Gr} {x : DotG} : (∃ j, g.findIdx? (fun y => y.1 == x) = some j ∧ j < g.length ∧ nmG g j = x ∧ inG g x = true ∧ depsG g x = dpG g j) ∨ (g.findIdx? (fun y => y.1 == x) = none ∧ inG g x = false ∧ depsG g x = []) := by
  cases hf : g.findIdx? (fun y => y.1 == x) with
  | none =>
    have h0 := List.findIdx?_eq_none_iff.1 hf
    refine .inr ⟨rfl, ?_, ?_⟩
    · unfold inG
      rw [List.any_eq_false]
      intro y hy
      simpa using h0 y hy
    · unfold depsG
      have : g.find? (fun y => y.1 == x) = none := by
        rw [List.find?_eq_none]
        intro y hy
        simpa using h0 y hy
      rw [this]
  | some j =>
    obtain ⟨hj, h2, h3⟩ := List.findIdx?_eq_some_iff_getElem.1 hf
    refine .inl ⟨j, rfl, hj, by rw [nm_get hj]; simpa using h2, List.any_eq_true.2 ⟨g[j], List.getElem_mem hj, h2⟩, ?_⟩
    have : g.find? (fun x_1 => x_1.1 == x) = some g[j] := by
      rw [List.find?_eq_some_iff_getElem]
      exact ⟨h2, j, hj, rfl, fun i hi => by simpa using h3 i hi⟩
    unfold depsG
    rw [this, dp_get hj]

theorem uni_find {g : Gr} (hu : UniG g) {j : Nat} (hj : j < g.length) : g.findIdx? (fun y => y.1 == nmG g j) = some j ∧ inG g (nmG g j) = true ∧ depsG g (nmG g j) = dpG g j := by
  rcases @find_nm g (nmG g j) with ⟨i, h1, h2, h3, h4, h5⟩ | ⟨h1, h2, _⟩
  · have := hu i j h2 hj h3
    subst this
    exact ⟨h1, h4, h5⟩
  · have : inG g (nmG g j) = true := List.any_eq_true.2 ⟨g[j], List.getElem_mem hj, by rw [nm_get hj]; exact beq_self_eq_true _⟩
    rw [h2] at this; cases this

/-- One dependency, looked at by the reference. -/
def addS (g : Gr) (s : List Bool × List Nat × Bool) (x : DotG) : List Bool × List Nat × Bool :=
  match g.findIdx? (fun y => y.1 == x) with
  | none => (s.1, s.2.1, false)
  | some j => cond (s.1.getD j false) s (s.1.set j true, s.2.1 ++ [j], s.2.2)

structure RI (g : Gr) (f : Nat) (s : List Bool × List Nat × Bool) (D : List DotG) : Prop where
  len : s.1.length = g.length
  nd : s.2.1.Nodup
  lt : ∀ j ∈ s.2.1, j < g.length
  mt : ∀ j, s.1.getD j false = true ↔ j ∈ s.2.1
  rch : ∀ j ∈ s.2.1, Rch g (nmG g f) (nmG g j)
  dr : ∀ z ∈ D, Rch g (nmG g f) z
  cl : ∀ z ∈ D, inG g z = true → ∃ j ∈ s.2.1, nmG g j = z
  wh : s.2.2 = true ↔ ∀ z ∈ D, inG g z = true

theorem RI.start (g : Gr) (f : Nat) : RI g f (List.replicate g.length false, [], true) [] where
  len := by simp
  nd := by simp
  lt := by simp
  mt := fun j => by
    simp only [List.getD_eq_getElem?_getD, List.getElem?_replicate]
    split <;> simp
  rch := by simp
  dr := by simp
  cl := by simp
  wh := by simp

theorem RI.step {g : Gr} {f : Nat} {s : List Bool × List Nat × Bool} {D : List DotG} (I : RI g f s D) {x : DotG} (hx : Rch g (nmG g f) x) : RI g f (addS g s x) (D ++ [x]) := by
  obtain ⟨met, t, w⟩ := s
  obtain ⟨len, nd, lt, mt, rch, dr, cl, wh⟩ := I
  dsimp only at *
  have dr' : ∀ z ∈ D ++ [x], Rch g (nmG g f) z := fun z hz => by
    rcases List.mem_append.1 hz with h | h
    · exact dr z h
    · simp at h; subst h; exact hx
  unfold addS
  rcases @find_nm g x with ⟨j, h1, h2, h3, h4, h5⟩ | ⟨h1, h2, _⟩
  · rw [h1]
    dsimp only
    have wh' : w = true ↔ ∀ z ∈ D ++ [x], inG g z = true := by
      rw [wh]
      constructor
      · intro h z hz
        rcases List.mem_append.1 hz with hz | hz
        · exact h z hz
        · simp at hz; subst hz; exact h4
      · exact fun h z hz => h z (by simp [hz])
    cases hm : met.getD j false with
    | true =>
      refine ⟨len, nd, lt, mt, rch, dr', fun z hz hi => ?_, wh'⟩
      rcases List.mem_append.1 hz with hz | hz
      · exact cl z hz hi
      · simp at hz; subst hz; exact ⟨j, (mt j).1 hm, h3⟩
    | false =>
      have hjt : j ∉ t := fun h => by rw [(mt j).2 h] at hm; cases hm
      refine ⟨by simpa using len, ?_, fun i hi => ?_, fun i => ?_, fun i hi => ?_, dr', fun z hz hi => ?_, wh'⟩
      · dsimp only [cond_false]
        rw [List.nodup_append]
        exact ⟨nd, by simp, by rintro a ha b hb rfl; simp at hb; exact hjt (hb ▸ ha)⟩
      · rcases List.mem_append.1 hi with hi | hi
        · exact lt i hi
        · simp at hi; subst hi; exact h2
      · show (met.set j true).getD i false = true ↔ i ∈ t ++ [j]
        simp only [List.getD_eq_getElem?_getD, List.getElem?_set, List.mem_append, List.mem_singleton]
        by_cases hij : j = i
        · subst hij
          simp [len, h2]
        · have := mt i
          simp only [List.getD_eq_getElem?_getD] at this
          simp [hij, this, Ne.symm hij]
      · rcases List.mem_append.1 hi with hi | hi
        · exact rch i hi
        · simp at hi; subst hi; rw [h3]; exact hx
      · rcases List.mem_append.1 hz with hz | hz
        · obtain ⟨i, hi, e⟩ := cl z hz hi
          exact ⟨i, List.mem_append_left _ hi, e⟩
        · simp at hz; subst hz; exact ⟨j, by simp, h3⟩
  · rw [h1]
    refine ⟨len, nd, lt, mt, rch, dr', fun z hz hi => ?_, ?_⟩
    · rcases List.mem_append.1 hz with hz | hz
      · exact cl z hz hi
      · simp at hz; subst hz; rw [h2] at hi; cases hi
    · constructor
      · intro h; cases h
      · intro h
        have := h x (by simp)
        rw [h2] at this; cases this

theorem RI.fold {g : Gr} {f : Nat} : ∀ (l : List DotG) {s : List Bool × List Nat × Bool} {D : List DotG}, RI g f s D → (∀ x ∈ l, Rch g (nmG g f) x) → RI g f (l.foldl (addS g) s) (D ++ l)
  | [], s, D, I, _ => by simpa using I
  | x :: l, s, D, I, h => by
    simp only [List.foldl_cons]
    have := (I.step (h x (by simp))).fold l fun y hy => h y (by simp [hy])
    simpa using this

theorem addS_pre (g : Gr) : ∀ (l : List DotG) (s : List Bool × List Nat × Bool), ∃ new, (l.foldl (addS g) s).2.1 = s.2.1 ++ new
  | [], s => ⟨[], by simp⟩
  | x :: l, s => by
    simp only [List.foldl_cons]
    obtain ⟨new, h⟩ := addS_pre g l (addS g s x)
    unfold addS at h
    rw [show addS g s x = _ from rfl]
    cases hf : g.findIdx? (fun y => y.1 == x) with
    | none => 
      rw [hf] at h
      exact ⟨new, by unfold addS; rw [hf]; exact h⟩
    | some j =>
      rw [hf] at h
      dsimp only at h
      cases hm : s.1.getD j false with
      | true => rw [hm] at h; exact ⟨new, by unfold addS; rw [hf]; dsimp only; rw [hm]; exact h⟩
      | false => rw [hm] at h; exact ⟨j :: new, by unfold addS; rw [hf]; dsimp only; rw [hm]; simpa using h⟩

theorem RI.bound {g : Gr} {f : Nat} {s : List Bool × List Nat × Bool} {D : List DotG} (I : RI g f s D) : s.2.1.length ≤ g.length := by
  have := nodup_len (m := List.range g.length) I.nd fun j hj => List.mem_range.2 (I.lt j hj)
  simpa using this

/-- At the end. -/
theorem RI.done {g : Gr} (hu : UniG g) {f : Nat} (hf : f < g.length) {s : List Bool × List Nat × Bool} {D : List DotG} (I : RI g f s D) (hD : ∀ p ∈ f :: s.2.1, ∀ z ∈ dpG g p, z ∈ D) :
    (∀ j, j < g.length → (s.1.getD j false = true ↔ Rch g (nmG g f) (nmG g j))) ∧ (s.2.2 = true ↔ WholeG g (nmG g f)) := by
  have h1 : ∀ {y x : DotG}, Rch g y x → (∃ p ∈ f :: s.2.1, nmG g p = y) → x ∈ D := by
    intro y x h
    induction h with
    | one h =>
      rintro ⟨p, hp, rfl⟩
      have hlt : p < g.length := by
        rcases List.mem_cons.1 hp with rfl | hp
        · exact hf
        · exact I.lt p hp
      rw [(uni_find hu hlt).2.2] at h
      exact hD p hp _ h
    | @cons d y x h k ih =>
      rintro ⟨p, hp, rfl⟩
      have hlt : p < g.length := by
        rcases List.mem_cons.1 hp with rfl | hp
        · exact hf
        · exact I.lt p hp
      rw [(uni_find hu hlt).2.2] at h
      have hy := hD p hp _ h
      have hin : inG g y = true := by
        rcases @find_nm g y with ⟨_, _, _, _, h4, _⟩ | ⟨_, _, h3⟩
        · exact h4
        · cases k with
          | one k => rw [h3] at k; simp at k
          | cons k _ => rw [h3] at k; simp at k
      obtain ⟨j, hj, e⟩ := I.cl y hy hin
      exact ih ⟨j, by simp [hj], e⟩
  refine ⟨fun j hj => ?_, ?_⟩
  · rw [I.mt j]
    refine ⟨fun h => I.rch j h, fun h => ?_⟩
    obtain ⟨i, hi, e⟩ := I.cl _ (h1 h ⟨f, by simp, rfl⟩) (uni_find hu hj).2.1
    rw [← hu i j (I.lt i hi) hj e]
    exact hi
  · rw [I.wh]
    constructor
    · exact fun h => ⟨(uni_find hu hf).2.1, fun x hx => h x (h1 hx ⟨f, by simp, rfl⟩)⟩
    · exact fun h z hz => h.2 z (I.dr z hz)
end Go.Rx
/- The order of a graph's groups, in plain lists. -/
namespace Go.Rx

open Classical in
noncomputable def sameB (g : Gr) (d x : DotG) : Bool := decide (Same g d x)
open Classical in
noncomputable def readyB (g : Gr) (d : DotG) (out : List DotG) : Bool := decide (∀ y, Same g d y → ∀ x ∈ depsG g y, Same g d x ∨ x ∈ out)
theorem sameB_iff {g : Gr} {d x : DotG} : sameB g d x = true ↔ Same g d x := by unfold sameB; simp
theorem readyB_iff {g : Gr} {d : DotG} {out : List DotG} : readyB g d out = true ↔ ∀ y, Same g d y → ∀ x ∈ depsG g y, Same g d x ∨ x ∈ out := by unfold readyB; simp

noncomputable def grpL (g : Gr) (w : List DotG) (d : DotG) : List DotG := w.filter (sameB g d)
noncomputable def selG (g : Gr) (w out : List DotG) : Option DotG := w.find? fun d => !(out.any (· == d)) && readyB g d out

noncomputable def ordG (g : Gr) (w : List DotG) : Nat → List DotG → Option (List DotG)
  | 0, _ => none
  | q + 1, out => match selG g w out with
    | none => some out
    | some d => ordG g w q (out ++ grpL g w d)

structure OI (g : Gr) (w out : List DotG) : Prop where
  nd : out.Nodup
  sub : ∀ x ∈ out, x ∈ w
  cls : ∀ x ∈ out, ∀ y, Same g x y → y ∈ out
  bef : ∀ pre x post, out = pre ++ x :: post → ∀ z ∈ depsG g x, Same g x z ∨ z ∈ pre

theorem OI.start (g : Gr) (w : List DotG) : OI g w [] := ⟨by simp, by simp, by simp, fun pre x post h => by simp at h⟩

theorem sel_some {g : Gr} {w out : List DotG} {d : DotG} (h : selG g w out = some d) : d ∈ w ∧ d ∉ out ∧ readyB g d out = true := by
  unfold selG at h
  have h1 := List.find?_some h
  have h2 := List.mem_of_find?_eq_some h
  simp only [Bool.and_eq_true, Bool.not_eq_true'] at h1
  refine ⟨h2, fun hd => ?_, h1.2⟩
  rw [any_mem.2 hd] at h1
  simp at h1

theorem OI.step {g : Gr} {w out : List DotG} (hw : ∀ x, x ∈ w ↔ WholeG g x) (ha : Asc w) (I : OI g w out) {d : DotG} (hd : selG g w out = some d) : OI g w (out ++ grpL g w d) := by
  obtain ⟨h1, h2, h3⟩ := sel_some hd
  rw [readyB_iff] at h3
  have hm : ∀ x, x ∈ grpL g w d ↔ Same g d x := fun x => by
    unfold grpL
    rw [List.mem_filter, sameB_iff]
    exact ⟨fun h => h.2, fun h => ⟨(hw x).2 (((hw d).1 h1).same h), h⟩⟩
  refine ⟨?_, fun x hx => ?_, fun x hx y hy => ?_, fun pre x post he z hz => ?_⟩
  · rw [List.nodup_append]
    refine ⟨I.nd, (asc_nodup ha).filter _, ?_⟩
    rintro a ha b hb rfl
    exact h2 (I.cls a ha d ((hm a).1 hb).symm)
  · rcases List.mem_append.1 hx with hx | hx
    · exact I.sub x hx
    · exact (List.mem_filter.1 hx).1
  · rcases List.mem_append.1 hx with hx | hx
    · exact List.mem_append_left _ (I.cls x hx y hy)
    · exact List.mem_append_right _ ((hm y).2 (((hm x).1 hx).trans hy))
  · rcases List.append_eq_append_iff.1 he with ⟨a, h4, h5⟩ | ⟨a, h4, h5⟩
    · have hx : Same g d x := (hm x).1 (h5 ▸ by simp)
      rcases h3 x hx z hz with h | h
      · exact .inl (hx.symm.trans h)
      · exact .inr (h4 ▸ List.mem_append_left _ h)
    · rcases a with _ | ⟨b, a⟩
      · simp at h4 h5
        have hx : Same g d x := (hm x).1 (h5 ▸ by simp)
        rcases h3 x hx z hz with h | h
        · exact .inl (hx.symm.trans h)
        · exact .inr (h4 ▸ h)
      · simp at h5
        obtain ⟨rfl, _⟩ := h5
        exact I.bef pre x a h4 z hz

open Classical in
noncomputable def rsB (g : Gr) (d x : DotG) : Bool := decide (x = d ∨ Rch g d x)
theorem rsB_iff {g : Gr} {d x : DotG} : rsB g d x = true ↔ x = d ∨ Rch g d x := by unfold rsB; simp
noncomputable def muG (g : Gr) (w : List DotG) (d : DotG) : Nat := (w.filter (rsB g d)).length

theorem OI.more {g : Gr} {w out : List DotG} (hw : ∀ x, x ∈ w ↔ WholeG g x) (ha : Asc w) : ∀ (n : Nat) (d : DotG), muG g w d ≤ n → d ∈ w → d ∉ out → ∃ e ∈ w, e ∉ out ∧ readyB g e out = true
  | 0, d, hn, hd, _ => by
    exfalso
    unfold muG at hn
    have : d ∈ w.filter (rsB g d) := by rw [List.mem_filter]; exact ⟨hd, rsB_iff.2 (.inl rfl)⟩
    have := List.length_pos_of_mem this
    omega
  | n + 1, d, hn, hd, ho => by
    by_cases hr : readyB g d out = true
    · exact ⟨d, hd, ho, hr⟩
    · rw [readyB_iff] at hr
      have hr' : ∃ y, Same g d y ∧ ∃ x ∈ depsG g y, ¬ Same g d x ∧ x ∉ out := Classical.byContradiction fun hh => hr fun y hy x hx => Classical.byContradiction fun h5 => hh ⟨y, hy, x, hx, fun h => h5 (.inl h), fun h => h5 (.inr h)⟩
      obtain ⟨y, hy, x, hx, hs, hxo⟩ := hr'
      have hdx : Rch g d x := by
        rcases hy with rfl | ⟨h, _⟩
        · exact .one hx
        · exact h.trans (.one hx)
      have hxw : x ∈ w := (hw x).2 (((hw d).1 hd).next hdx)
      refine OI.more hw ha n x ?_ hxw hxo
      have := nodup_len (l := d :: w.filter (rsB g x)) (m := w.filter (rsB g d)) (by
        refine List.nodup_cons.2 ⟨fun h => ?_, (asc_nodup ha).filter _⟩
        rw [List.mem_filter, rsB_iff] at h
        rcases h.2 with h | h
        · exact hs (.inl h.symm)
        · exact hs (.inr ⟨hdx, h⟩)) (fun z hz => by
        rw [List.mem_filter]
        rcases List.mem_cons.1 hz with rfl | hz
        · exact ⟨hd, rsB_iff.2 (.inl rfl)⟩
        · rw [List.mem_filter, rsB_iff] at hz
          refine ⟨hz.1, rsB_iff.2 (.inr ?_)⟩
          rcases hz.2 with h | h
          · rw [h]; exact hdx
          · exact hdx.trans h)
      simp only [List.length_cons] at this
      unfold muG at hn ⊢
      omega

theorem sel_none {g : Gr} {w out : List DotG} (hw : ∀ x, x ∈ w ↔ WholeG g x) (ha : Asc w) (h : selG g w out = none) : ∀ x ∈ w, x ∈ out := fun x hx => by
  refine Classical.byContradiction fun ho => ?_
  obtain ⟨e, h1, h2, h3⟩ := OI.more hw ha (muG g w x) x (Nat.le_refl _) hx ho
  unfold selG at h
  have := List.find?_eq_none.1 h e h1
  rw [h3, show (out.any (· == e)) = false from by rw [Bool.eq_false_iff]; exact fun hh => h2 (any_mem.1 hh)] at this
  simp at this

theorem ord_spec {g : Gr} {w : List DotG} (hw : ∀ x, x ∈ w ↔ WholeG g x) (ha : Asc w) : ∀ (q : Nat) (out : List DotG), OI g w out → w.length < q + out.length → ∃ l, ordG g w q out = some l ∧ OI g w l ∧ ∀ x, x ∈ l ↔ x ∈ w
  | 0, out, I, h => by have := nodup_len I.nd I.sub; omega
  | q + 1, out, I, h => by
    unfold ordG
    cases hs : selG g w out with
    | none => exact ⟨out, rfl, I, fun x => ⟨I.sub x, sel_none hw ha hs x⟩⟩
    | some d =>
      have I' := I.step hw ha hs
      refine ord_spec hw ha q _ I' ?_
      have : d ∈ grpL g w d := by unfold grpL; rw [List.mem_filter]; exact ⟨(sel_some hs).1, sameB_iff.2 (.inl rfl)⟩
      have := List.length_pos_of_mem this
      simp only [List.length_append]
      omega

theorem ord_len {g : Gr} {w l : List DotG} (ha : Asc w) (I : OI g w l) (h : ∀ x, x ∈ l ↔ x ∈ w) : l.length = w.length :=
  Nat.le_antisymm (nodup_len I.nd I.sub) (nodup_len (asc_nodup ha) fun x hx => (h x).2 hx)
end Go.Rx
/- Loops that keep something. -/
namespace Go.Rx
universe u v w

theorem loop_up {σ : Type v} {ρ : Type w} (n : Nat) (g : Nat → Int → σ → ρ) (fin : σ → ρ) (I : Nat → σ → Prop)
    (h1 : ∀ q (i : Nat) s, i < n → I i s → ∃ s', I (i + 1) s' ∧ g (q + 1) (i : Int) s = g q ((i + 1 : Nat) : Int) s') (h2 : ∀ q s, I n s → g (q + 1) (n : Int) s = fin s) :
    ∀ (m q i : Nat) (s : σ), i + m = n → m < q → I i s → ∃ s', I n s' ∧ g q (i : Int) s = fin s'
  | 0, q + 1, i, s, he, _, hI => by
    have : i = n := by omega
    subst this
    exact ⟨s, hI, h2 q s hI⟩
  | m + 1, q + 1, i, s, he, hq, hI => by
    obtain ⟨s', k1, k2⟩ := h1 q i s (by omega) hI
    obtain ⟨s'', k3, k4⟩ := loop_up n g fin I h1 h2 m q (i + 1) s' (by omega) (by omega) k1
    exact ⟨s'', k3, by rw [k2, k4]⟩
  | _, 0, _, _, _, h, _ => absurd h (Nat.not_lt_zero _)

theorem loop_upF {σ : Type v} {ρ : Type w} (a n : Nat) (ha : a ≤ n) (hn : n < 1152921504606846976) (g : Nat → Int → σ → ρ) (fin : σ → ρ) (I : Nat → σ → Prop)
    (h1 : ∀ q (i : Nat) s, i < n → I i s → ∃ s', I (i + 1) s' ∧ g (q + 1) (i : Int) s = g q ((i + 1 : Nat) : Int) s') (h2 : ∀ q s, I n s → g (q + 1) (n : Int) s = fin s) (s : σ) (hs : I a s) :
    ∃ s', I n s' ∧ g fuel (a : Int) s = fin s' := loop_up n g fin I h1 h2 (n - a) fuel a s (by omega) (by rw [fuel_eq]; omega) hs

/-- Counting down. -/
theorem loop_down {σ : Type v} {ρ : Type w} (g : Nat → Int → σ → ρ) (fin : σ → ρ) (I : Nat → σ → Prop)
    (h1 : ∀ q (i : Nat) s, I (i + 1) s → ∃ s', I i s' ∧ g (q + 1) ((i + 1 : Nat) : Int) s = g q (i : Int) s') (h2 : ∀ q s, I 0 s → g (q + 1) 0 s = fin s) :
    ∀ (i q : Nat) (s : σ), i < q → I i s → ∃ s', I 0 s' ∧ g q (i : Int) s = fin s'
  | 0, q + 1, s, _, hI => ⟨s, hI, h2 q s hI⟩
  | i + 1, q + 1, s, hq, hI => by
    obtain ⟨s', k1, k2⟩ := h1 q i s hI
    obtain ⟨s'', k3, k4⟩ := loop_down g fin I h1 h2 i q s' (by omega) k1
    exact ⟨s'', k3, by rw [k2, k4]⟩
  | _, 0, _, h, _ => absurd h (Nat.not_lt_zero _)
end Go.Rx
/- The functions of the graph, as plain lists: the program's search. -/
namespace Go.Rx

def lenG {α : Type} (l : List α) : Prop := l.length ≤ 1048576

theorem gHas (l : List DotG) (d : DotG) (h : lenG l) : ihasDot (l, d) = some (l.any (· == d)) := by
  unfold lenG at h
  obtain ⟨a, b⟩ := d
  simp only [ihasDot]
  have := loop0 l (by omega) (fun q i (_ : Unit) => ihasDot_L2 Bool q (l, ((l.length : Nat) : Int), i, a, b) (fun _ => some false) some) (fun _ x s k => cond (x == (a, b)) (some true) (k s)) (fun _ => some false)
    (fun q i hi s => by simp only [ihasDot_L2]; simp [hi, nth_nat _ _ hi, wrap_succ (show i < 4611686018427387904 by omega)]; rfl) (fun q s => by simp [ihasDot_L2]) ()
  rw [this, runL_any]
  cases l.any (· == (a, b)) <;> rfl

/-- The place of a command. -/
def atG (g : Gr) (d : DotG) : Int := match g.findIdx? (fun x => x.1 == d) with
  | some j => (j : Int)
  | none => -1

theorem gAt (g : Gr) (d : DotG) (h : lenG g) : iitemAt (g, d) = some (atG g d) := by
  unfold lenG at h
  obtain ⟨a, b⟩ := d
  simp only [iitemAt]
  have := loop0 g (by omega) (fun q i (_ : Unit) => iitemAt_L2 Int q (g, ((g.length : Nat) : Int), i, a, b) (fun _ => some (-1 : Int)) some) (fun j x s k => cond (x.1 == (a, b)) (some (j : Int)) (k s)) (fun _ => some (-1 : Int))
    (fun q i hi s => by
      simp only [iitemAt_L2]
      have e : (g[i].1.1 == a && g[i].1.2 == b) = (g[i].1 == (a, b)) := rfl
      simp only [hi, nth_nat _ _ hi, wrap_succ (show i < 4611686018427387904 by omega), e]
      simp [hi]) (fun q s => by simp [iitemAt_L2]) ()
  rw [this, runL_find]
  unfold atG
  cases g.findIdx? (fun x => x.1 == (a, b)) <;> simp

theorem sAtG (g : Gr) (d : DotG) (h : lenG g) : sl8At (g, d) = some (atG g d) := by
  unfold lenG at h
  obtain ⟨a, b⟩ := d
  simp only [sl8At]
  have := loop0 g (by omega) (fun q i (_ : Unit) => sl8At_L2 Int q (i, g, a, b) (fun _ => some (-1 : Int)) some) (fun j x s k => cond (x.1 == (a, b)) (some (j : Int)) (k s)) (fun _ => some (-1 : Int))
    (fun q i hi s => by
      simp only [sl8At_L2]
      have e : (g[i].1.1 == a && g[i].1.2 == b) = (g[i].1 == (a, b)) := rfl
      simp only [hi, nth_nat _ _ hi, wrap_succ (show i < 4611686018427387904 by omega), e]
      simp [hi]) (fun q s => by simp [sl8At_L2]) ()
  rw [this, runL_find]
  unfold atG
  cases g.findIdx? (fun x => x.1 == (a, b)) <;> simp

theorem atG_in {g : Gr} {d : DotG} : (inG g d = true ↔ 0 ≤ atG g d) ∧ (inG g d = true → ∃ j : Nat, ∃ hj : j < g.length, atG g d = (j : Int) ∧ g[j].1 = d ∧ depsG g d = g[j].2) := by
  unfold atG inG depsG
  cases hf : g.findIdx? (fun x => x.1 == d) with
  | none =>
    have h1 : (g.any fun x => x.1 == d) = false := by
      rw [List.any_eq_false]
      intro x hx
      have := List.findIdx?_eq_none_iff.1 hf x hx
      simpa using this
    rw [h1]
    exact ⟨by simp, fun h => by cases h⟩
  | some j =>
    obtain ⟨hj, h2, h3⟩ := List.findIdx?_eq_some_iff_getElem.1 hf
    have h1 : (g.any fun x => x.1 == d) = true := List.any_eq_true.2 ⟨g[j], List.getElem_mem hj, h2⟩
    refine ⟨by simp [h1], fun _ => ⟨j, hj, rfl, by simpa using h2, ?_⟩⟩
    have : g.find? (fun x => x.1 == d) = some g[j] := by
      rw [List.find?_eq_some_iff_getElem]
      exact ⟨h2, j, hj, rfl, fun i hi => by simpa using h3 i hi⟩
    rw [this]

theorem reach_in {O : Type} (g : Gr) (l : List DotG) (hl : lenG l) (x : (Gr × List DotG × List DotG) → Option O) (r) (out todo : List DotG) (h1 : out.length + l.length ≤ 1048576) (h2 : todo.length + l.length ≤ 1048576) :
    ireached_L9 O fuel (l, ((l.length : Nat) : Int), 0, g, out, todo) x r = x (g, (l.foldl add1 (out, todo)).1, (l.foldl add1 (out, todo)).2) := by
  unfold lenG at hl
  have := loop0 l (by omega) (fun q i (s : List DotG × List DotG) => ireached_L9 O q (l, ((l.length : Nat) : Int), i, g, s.1, s.2) x r)
    (fun _ a s k => (ihasDot (s.1, a.1, a.2)).bind fun b => cond (!b) (cond (decide (s.1.length + 1 ≤ lenBound)) (cond (decide (s.2.length + 1 ≤ lenBound)) (k (s.1 ++ [a], s.2 ++ [a])) none) none) (k s)) (fun s => x (g, s.1, s.2))
    (fun q i hi s => by
      simp only [ireached_L9]
      simp only [nth_nat _ _ hi, wrap_succ (show i < 4611686018427387904 by omega)]
      simp [hi]) (fun q s => by simp [ireached_L9]) (out, todo)
  rw [this]
  clear this
  have key : ∀ (m : List DotG) (i : Nat) (s : List DotG × List DotG), s.1.length + m.length ≤ 1048576 → s.2.length + m.length ≤ 1048576 →
      runL (fun _ a s k => (ihasDot (s.1, a.1, a.2)).bind fun b => cond (!b) (cond (decide (s.1.length + 1 ≤ lenBound)) (cond (decide (s.2.length + 1 ≤ lenBound)) (k (s.1 ++ [a], s.2 ++ [a])) none) none) (k s)) (fun s => x (g, s.1, s.2)) i m s =
        x (g, (m.foldl add1 s).1, (m.foldl add1 s).2) := by
    intro m
    induction m with
    | nil => intro i s _ _; rfl
    | cons a m ih =>
      intro i s h1 h2
      simp only [List.length_cons] at h1 h2
      simp only [runL, List.foldl_cons]
      have e : ihasDot (s.1, a.1, a.2) = some (s.1.any (· == a)) := gHas s.1 a (by unfold lenG; omega)
      rw [e, Option.bind_some, show decide (s.1.length + 1 ≤ lenBound) = true from by simp [lenBound]; omega, show decide (s.2.length + 1 ≤ lenBound) = true from by simp [lenBound]; omega]
      unfold add1
      cases s.1.any (· == a) with
      | true => simp only [Bool.not_true, cond_false, cond_true]; exact ih _ _ (by omega) (by omega)
      | false => simp only [Bool.not_false, cond_false, cond_true]; exact ih _ _ (by simp; omega) (by simp; omega)
  exact key l 0 (out, todo) h1 h2

/-- A graph of bounded size. -/
structure GrOk (g : Gr) : Prop where
  len : g.length ≤ 1000
  dep : ∀ c ∈ g, c.2.length ≤ 100

theorem all_len : ∀ {g : Gr}, (∀ c ∈ g, c.2.length ≤ 100) → (allD g).length ≤ 100 * g.length
  | [], _ => by simp [allD]
  | c :: g, h => by
    have := all_len (g := g) fun c hc => h c (by simp [hc])
    have := h c (by simp)
    simp only [allD, List.map_cons, List.flatten_cons, List.length_append, List.length_cons] at *
    omega

theorem GrOk.all {g : Gr} (h : GrOk g) : (allD g).length ≤ 100000 := by
  have := all_len h.dep
  have := h.len
  omega

theorem reach_run (g : Gr) (hg : GrOk g) (d0 : DotG) {O : Type} (x : List DotG → Option O) (r : (List DotG × Bool) → Option O) : ∀ (q : Nat) (out todo : List DotG), Inv g d0 out todo → todo.length ≤ out.length + 1 →
    ireached_L3 O q (g, out, todo) x r = match bfs g q out todo with
      | some (l, true) => x l
      | some (l, false) => r (l, false)
      | none => none
  | 0, out, todo, _, _ => by simp [ireached_L3, bfs]
  | q + 1, out, [], _, _ => by simp [ireached_L3, bfs]
  | q + 1, out, d :: todo, I, ht => by
    have hb := I.bound
    have hall := hg.all
    have hlen := hg.len
    rw [ireached_L3, bfs]
    have hat : iitemAt (g, d.1, d.2) = some (atG g d) := gAt g d (by unfold lenG; omega)
    simp only [List.getD_cons_zero, hat, Option.bind_some, List.drop_succ_cons, List.drop_zero]
    by_cases hd : inG g d = true
    · obtain ⟨j, hj, h1, h2, h3⟩ := atG_in.2 hd
      rw [if_pos hd, h1, nth_nat _ _ hj]
      have hdl : (depsG g d).length ≤ 100 := by rw [h3]; exact hg.dep _ (List.getElem_mem hj)
      obtain ⟨I', hI⟩ := I.step hd
      have hb' := I'.bound
      rw [← h3]
      simp only [List.length_cons] at ht
      rw [reach_in g (depsG g d) (by unfold lenG; omega) _ _ out todo (by omega) (by omega)]
      rw [reach_run g hg d0 x r q _ _ I' (by omega)]
      have e1 : decide ((((d :: todo).length : Nat) : Int) > 0) = true := by simp
      have e3 : decide ((1 : Int) ≤ (((d :: todo).length : Nat) : Int)) = true := by simp; omega
      have e4 : decide ((j : Int) < 0) = false := by simp
      have e5 : (decide ((0 : Int) ≤ (j : Int)) && decide ((j : Int) < ((g.length : Nat) : Int))) = true := by simp; omega
      rw [e1, e3, e4, e5]
      rfl
    · have h0 : ¬ 0 ≤ atG g d := fun h => hd (atG_in.1.2 h)
      rw [if_neg hd]
      have e1 : decide ((((d :: todo).length : Nat) : Int) > 0) = true := by simp
      have e3 : decide ((1 : Int) ≤ (((d :: todo).length : Nat) : Int)) = true := by simp; omega
      have e4 : decide (atG g d < 0) = true := by simp; omega
      rw [e1, e3, e4]
      rfl

/-- **What the program's search answers.** -/
theorem reached_spec (g : Gr) (hg : GrOk g) (d : DotG) :
    (∃ l, ireached (g, d) = some (l, true) ∧ WholeG g d ∧ l.Nodup ∧ ∀ x, x ∈ l ↔ Rch g d x) ∨ (ireached (g, d) = some ([], false) ∧ ¬ WholeG g d) := by
  have hall := hg.all
  have hf : (allD g).length + 1 < fuel := by have := fuel_eq; omega
  have e : ireached (g, d) = ireached_L3 (List DotG × Bool) fuel (g, [], [d]) (fun out => some (out, true)) some := rfl
  rw [e, reach_run g hg d _ _ fuel [] [d] (inv_start g d) (by simp)]
  rcases bfs_spec fuel [] [d] (inv_start g d) (by simpa using hf) with ⟨l, h1, h2⟩ | ⟨h1, h2⟩
  · exact .inl ⟨l, by rw [h1], h2⟩
  · exact .inr ⟨by rw [h1], h2⟩
end Go.Rx
/- The functions of the graph, as plain lists: groups. -/
namespace Go.Rx

theorem gLess (a b : DotG) : iDotLess (a, b) = some (lessG a b) := by
  obtain ⟨a1, a2⟩ := a
  obtain ⟨b1, b2⟩ := b
  simp only [iDotLess, lessG]
  by_cases h : a1 < b1
  · simp [h]
  · by_cases k : a1 = b1
    · simp [h, k]
    · have k' : (a1 == b1) = false := by rw [beq_eq_false_iff_ne]; exact k
      simp [h, k']

theorem gCopy (l : List DotG) (h : lenG l) : icopyDots l = some l := by
  unfold lenG at h
  simp only [icopyDots]
  have hb : (1048576 : Nat) ≤ lenBound := by decide
  rw [decide_eq_true (Nat.le_trans h hb)]
  rfl

theorem lowG_le (d : DotG) : ∀ l, lowG d l ≤ l.length
  | [] => Nat.le_refl _
  | a :: l => by
    unfold lowG
    split
    · have := lowG_le d l; simp; omega
    · simp

theorem runL_low {ρ : Type} (d : DotG) (X : Nat → ρ) (n : Nat) : ∀ (l : List DotG) (i : Nat) (s : Unit), i + l.length = n →
    runL (fun i a s k => cond (lessG a d) (k s) (X i)) (fun _ => X n) i l s = X (i + lowG d l)
  | [], i, s, h => by simp at h; subst h; simp [runL, lowG]
  | a :: l, i, s, h => by
    simp only [List.length_cons] at h
    simp only [runL, lowG]
    cases hl : lessG a d with
    | true =>
      simp only [cond_true, if_true]
      rw [runL_low d X n l (i + 1) s (by omega), show i + (lowG d l + 1) = i + 1 + lowG d l from by omega]
    | false => simp

theorem gWith (l : List DotG) (d : DotG) (h : l.length ≤ 1000000) : iwithDot (l, d) = some (insG d l) := by
  obtain ⟨d1, d2⟩ := d
  simp only [iwithDot]
  have := loop0 l (by omega) (fun q i (_ : Unit) => iwithDot_L2 (List DotG) q (l, i, d1, d2) (fun y => (cond (decide (y.2.1 < ((y.1.length : Nat) : Int))) (cond (decide ((0 : Int) ≤ y.2.1) && decide (y.2.1 < ((y.1.length : Nat) : Int))) (cond (((nth y.1 y.2.1).1 == y.2.2.1) && ((nth y.1 y.2.1).2 == y.2.2.2)) (some y.1) (cond (decide ((0 : Int) ≤ y.2.1) && decide (y.2.1 ≤ ((y.1.length : Nat) : Int))) ((icopyDots (cut y.1 (0 : Int) y.2.1)).bind fun r12 => (cond (decide ((r12.length + [(y.2.2.1, y.2.2.2)].length) ≤ lenBound)) (cond (decide ((0 : Int) ≤ y.2.1) && (decide (y.2.1 ≤ ((y.1.length : Nat) : Int)) && decide (((y.1.length : Nat) : Int) ≤ ((y.1.length : Nat) : Int)))) (cond (decide (((r12 ++ [(y.2.2.1, y.2.2.2)]).length + (cut y.1 y.2.1 ((y.1.length : Nat) : Int)).length) ≤ lenBound)) (some ((r12 ++ [(y.2.2.1, y.2.2.2)]) ++ (cut y.1 y.2.1 ((y.1.length : Nat) : Int)))) none) none) none)) none)) none) (cond (decide ((0 : Int) ≤ y.2.1) && decide (y.2.1 ≤ ((y.1.length : Nat) : Int))) ((icopyDots (cut y.1 (0 : Int) y.2.1)).bind fun r13 => (cond (decide ((r13.length + [(y.2.2.1, y.2.2.2)].length) ≤ lenBound)) (cond (decide ((0 : Int) ≤ y.2.1) && (decide (y.2.1 ≤ ((y.1.length : Nat) : Int)) && decide (((y.1.length : Nat) : Int) ≤ ((y.1.length : Nat) : Int)))) (cond (decide (((r13 ++ [(y.2.2.1, y.2.2.2)]).length + (cut y.1 y.2.1 ((y.1.length : Nat) : Int)).length) ≤ lenBound)) (some ((r13 ++ [(y.2.2.1, y.2.2.2)]) ++ (cut y.1 y.2.1 ((y.1.length : Nat) : Int)))) none) none) none)) none))) some)
    (fun i a s k => cond (lessG a (d1, d2)) (k s) (some (if l[i]? = some (d1, d2) then l else l.take i ++ [(d1, d2)] ++ l.drop i))) (fun _ => some (if l[l.length]? = some (d1, d2) then l else l.take l.length ++ [(d1, d2)] ++ l.drop l.length))
    (fun q i hi s => by
      have e0 : iDotLess (((nth l (i : Int)).1, (nth l (i : Int)).2), d1, d2) = some (lessG l[i] (d1, d2)) := by rw [nth_nat _ _ hi]; exact gLess l[i] (d1, d2)
      have e1 : decide ((i : Int) < ((l.length : Nat) : Int)) = true := by simp; omega
      have e2 : decide ((0 : Int) ≤ (i : Int)) = true := by simp
      have e3 : decide ((i : Int) ≤ ((l.length : Nat) : Int)) = true := by simp; omega
      have c1 : cut l 0 (i : Int) = l.take i := by simp [cut]
      have c2 : cut l (i : Int) ((l.length : Nat) : Int) = l.drop i := by simp [cut]
      simp only [iwithDot_L2, e0, e1, e2, e3, Bool.and_self, cond_true, Option.bind_some, wrap_succ (show i < 4611686018427387904 by omega), c1, c2]
      cases lessG l[i] (d1, d2) with
      | true => rfl
      | false =>
        simp only [cond_false]
        have e4 : ((nth l (i : Int)).1 == d1 && (nth l (i : Int)).2 == d2) = (l[i] == (d1, d2)) := by rw [nth_nat _ _ hi]; rfl
        rw [e4, List.getElem?_eq_getElem hi, gCopy _ (by unfold lenG; simp; omega)]
        by_cases hd : l[i] = (d1, d2)
        · simp [hd]
        · have hd' : (l[i] == (d1, d2)) = false := by rw [beq_eq_false_iff_ne]; exact hd
          rw [hd']
          simp only [cond_false, Option.bind_some]
          rw [show decide ((l.take i).length + [(d1, d2)].length ≤ lenBound) = true from by simp [lenBound]; omega, show decide ((l.take i ++ [(d1, d2)]).length + (l.drop i).length ≤ lenBound) = true from by simp [lenBound]; omega]
          simp [hd]) (fun q s => by
      have c1 : cut l 0 ((l.length : Nat) : Int) = l := by simp [cut]
      have c2 : cut l ((l.length : Nat) : Int) ((l.length : Nat) : Int) = [] := by simp [cut]
      simp only [iwithDot_L2, c1, c2, gCopy l (by unfold lenG; omega), Option.bind_some]
      rw [show decide (((l.length : Nat) : Int) < ((l.length : Nat) : Int)) = false from by simp, show decide (l.length + [(d1, d2)].length ≤ lenBound) = true from by simp [lenBound]; omega, show decide ((l ++ [(d1, d2)]).length + ([] : List DotG).length ≤ lenBound) = true from by simp [lenBound]; omega]
      simp) ()
  refine this.trans ?_
  rw [runL_low (d1, d2) (fun i => some (if l[i]? = some (d1, d2) then l else l.take i ++ [(d1, d2)] ++ l.drop i)) l.length l 0 () (by simp), Nat.zero_add, insG_cut]
end Go.Rx
/- The functions of the graph, as plain lists: the program's groups. -/
namespace Go.Rx

theorem insG_len (d : DotG) : ∀ l : List DotG, (insG d l).length ≤ l.length + 1
  | [] => by simp [insG]
  | a :: l => by
    have := insG_len d l
    unfold insG
    split
    · simp; omega
    · split <;> simp

open Classical in
noncomputable def backG (g : Gr) (d x : DotG) : Bool := decide (Rch g x d)

theorem group_run (g : Gr) (hg : GrOk g) (d : DotG) {O : Type} (l : List DotG) (hl : l.length ≤ 100000) (hw : ∀ a ∈ l, WholeG g a) (x : List DotG → Option O) (r) :
    iGroup_L6 O fuel ([(d.1, d.2)], ((l.length : Nat) : Int), 0, g, d.1, d.2, l) x r = x (l.foldl (fun out a => cond (backG g d a) (insG a out) out) [d]) := by
  have := loop0 l (by omega) (fun q i (out : List DotG) => iGroup_L6 O q (out, ((l.length : Nat) : Int), i, g, d.1, d.2, l) x r)
    (fun _ a out k => (ireached (g, a.1, a.2)).bind fun y => (ihasDot (y.1, d.1, d.2)).bind fun b => cond b ((iwithDot (out, a.1, a.2)).bind fun o => k o) (k out)) (fun out => x out)
    (fun q i hi s => by
      simp only [iGroup_L6, nth_nat _ _ hi, wrap_succ (show i < 4611686018427387904 by omega)]
      simp [hi]) (fun q s => by simp [iGroup_L6]) [d]
  refine this.trans ?_
  have key : ∀ (m : List DotG) (i : Nat) (out : List DotG), (∀ a ∈ m, WholeG g a) → out.length + m.length ≤ 1000000 →
      runL (fun _ a out k => (ireached (g, a.1, a.2)).bind fun y => (ihasDot (y.1, d.1, d.2)).bind fun b => cond b ((iwithDot (out, a.1, a.2)).bind fun o => k o) (k out)) (fun out => x out) i m out =
        x (m.foldl (fun out a => cond (backG g d a) (insG a out) out) out) := by
    intro m
    induction m with
    | nil => intro i out _ _; rfl
    | cons a m ih =>
      intro i out hm ho
      simp only [List.length_cons] at ho
      simp only [runL, List.foldl_cons]
      have ha := hm a (by simp)
      rcases reached_spec g hg a with ⟨l', h1, _, h3, h4⟩ | ⟨_, h2⟩
      · have h1' : ireached (g, a.1, a.2) = some (l', true) := h1
        have hl' : l'.length ≤ 100000 := Nat.le_trans (nodup_len h3 fun y hy => ((h4 y).1 hy).all) hg.all
        have h5 : ihasDot (l', d.1, d.2) = some (backG g d a) := by
          have : ihasDot (l', d.1, d.2) = some (l'.any (· == d)) := gHas l' d (by unfold lenG; omega)
          rw [this]
          congr 1
          rw [Bool.eq_iff_iff, any_mem, h4 d]
          unfold backG
          simp
        rw [h1', Option.bind_some, h5, Option.bind_some]
        cases backG g d a with
        | true =>
          have h6 : iwithDot (out, a.1, a.2) = some (insG a out) := gWith out a (by omega)
          simp only [cond_true, h6, Option.bind_some]
          have := insG_len a out
          exact ih _ _ (fun b hb => hm b (by simp [hb])) (by omega)
        | false =>
          simp only [cond_false]
          exact ih _ _ (fun b hb => hm b (by simp [hb])) (by omega)
      · exact absurd ha h2
  exact key l 0 [d] hw (by simp; omega)

/-- **The program's group.** -/
theorem group_all (g : Gr) (hg : GrOk g) (d : DotG) (b : Bool) (hb : iGraphOk g = some b) :
    (WholeG g d ∧ b = true ∧ ∃ l, iGroup (g, d) = some l ∧ Asc l ∧ ∀ x, x ∈ l ↔ Same g d x) ∨ ((¬ WholeG g d ∨ b = false) ∧ iGroup (g, d) = some []) := by
  obtain ⟨d1, d2⟩ := d
  rcases reached_spec g hg (d1, d2) with ⟨l, h1, hw, h3, h4⟩ | ⟨h1, h2⟩
  · have hl : l.length ≤ 100000 := Nat.le_trans (nodup_len h3 fun y hy => ((h4 y).1 hy).all) hg.all
    cases b with
    | true =>
      obtain ⟨g1, g2⟩ := group_spec h4 (backG g (d1, d2)) fun x _ => by unfold backG; simp
      refine .inl ⟨hw, rfl, _, ?_, g1, g2⟩
      simp only [iGroup, h1, Option.bind_some, hb, Bool.not_true, cond_false]
      exact group_run g hg (d1, d2) l hl (fun a ha => hw.next ((h4 a).1 ha)) _ _
    | false =>
      refine .inr ⟨.inr rfl, ?_⟩
      simp only [iGroup, h1, Option.bind_some, hb, Bool.not_true, Bool.not_false, cond_false, cond_true]
  · refine .inr ⟨.inl h2, ?_⟩
    simp only [iGroup, h1, Option.bind_some, Bool.not_false, cond_true]
end Go.Rx
/- The functions of the graph, as plain lists: what is whole, of the program. -/
namespace Go.Rx

open Classical in
noncomputable def wholeB (g : Gr) (d : DotG) : Bool := decide (WholeG g d)
theorem wholeB_iff {g : Gr} {d : DotG} : wholeB g d = true ↔ WholeG g d := by unfold wholeB; simp

theorem whole_run (g : Gr) (hg : GrOk g) {O : Type} (x : List DotG → Option O) (r) :
    iWhole_L5 O fuel ([], g, ((g.length : Nat) : Int), 0, g) x r = x (g.foldl (fun out a => cond (wholeB g a.1) (insG a.1 out) out) []) := by
  have hlen := hg.len
  have := loop0 g (by omega) (fun q i (out : List DotG) => iWhole_L5 O q (out, g, ((g.length : Nat) : Int), i, g) x r)
    (fun _ a out k => (ireached (g, a.1.1, a.1.2)).bind fun y => cond y.2 ((iwithDot (out, a.1.1, a.1.2)).bind fun o => k o) (k out)) (fun out => x out)
    (fun q i hi s => by
      simp only [iWhole_L5, nth_nat _ _ hi, wrap_succ (show i < 4611686018427387904 by omega)]
      simp [hi]) (fun q s => by simp [iWhole_L5]) []
  refine this.trans ?_
  have key : ∀ (m : Gr) (i : Nat) (out : List DotG), out.length + m.length ≤ 1000000 →
      runL (fun _ a out k => (ireached (g, a.1.1, a.1.2)).bind fun y => cond y.2 ((iwithDot (out, a.1.1, a.1.2)).bind fun o => k o) (k out)) (fun out => x out) i m out =
        x (m.foldl (fun out a => cond (wholeB g a.1) (insG a.1 out) out) out) := by
    intro m
    induction m with
    | nil => intro i out _; rfl
    | cons a m ih =>
      intro i out ho
      simp only [List.length_cons] at ho
      simp only [runL, List.foldl_cons]
      rcases reached_spec g hg a.1 with ⟨l', h1, h2, _⟩ | ⟨h1, h2⟩
      · have h1' : ireached (g, a.1.1, a.1.2) = some (l', true) := h1
        have h6 : iwithDot (out, a.1.1, a.1.2) = some (insG a.1 out) := gWith out a.1 (by omega)
        have hb : wholeB g a.1 = true := wholeB_iff.2 h2
        have := insG_len a.1 out
        simp only [h1', Option.bind_some, cond_true, h6, hb]
        exact ih _ _ (by omega)
      · have h1' : ireached (g, a.1.1, a.1.2) = some ([], false) := h1
        have hb : wholeB g a.1 = false := by rw [Bool.eq_false_iff]; exact fun h => h2 (wholeB_iff.1 h)
        simp only [h1', Option.bind_some, cond_false, hb]
        exact ih _ _ (by omega)
  exact key g 0 [] (by simp; omega)

theorem fold_whole (p : DotG → Bool) : ∀ (m : Gr) (out : List DotG), Asc out → Asc (m.foldl (fun out a => cond (p a.1) (insG a.1 out) out) out) ∧
    ∀ x, x ∈ m.foldl (fun out a => cond (p a.1) (insG a.1 out) out) out ↔ x ∈ out ∨ (p x = true ∧ ∃ a ∈ m, a.1 = x)
  | [], out, h => ⟨h, fun x => by simp⟩
  | a :: m, out, h => by
    simp only [List.foldl_cons]
    cases hp : p a.1 with
    | true =>
      obtain ⟨h1, h2⟩ := fold_whole p m (insG a.1 out) (insG_asc h)
      refine ⟨h1, fun x => ?_⟩
      simp only [cond_true]
      rw [h2 x, insG_mem]
      constructor
      · rintro ((rfl | h) | ⟨h, b, hb, e⟩)
        · exact .inr ⟨hp, a, by simp, rfl⟩
        · exact .inl h
        · exact .inr ⟨h, b, by simp [hb], e⟩
      · rintro (h | ⟨h, b, hb, e⟩)
        · exact .inl (.inr h)
        · rcases List.mem_cons.1 hb with rfl | hb
          · exact .inl (.inl e.symm)
          · exact .inr ⟨h, b, hb, e⟩
    | false =>
      obtain ⟨h1, h2⟩ := fold_whole p m out h
      refine ⟨h1, fun x => ?_⟩
      simp only [cond_false]
      rw [h2 x]
      constructor
      · rintro (h | ⟨h, b, hb, e⟩)
        · exact .inl h
        · exact .inr ⟨h, b, by simp [hb], e⟩
      · rintro (h | ⟨h, b, hb, e⟩)
        · exact .inl h
        · rcases List.mem_cons.1 hb with rfl | hb
          · rw [e] at hp; rw [hp] at h; cases h
          · exact .inr ⟨h, b, hb, e⟩

/-- **What is whole, of the program.** -/
theorem whole_all (g : Gr) (hg : GrOk g) (b : Bool) (hb : iGraphOk g = some b) :
    (b = true ∧ ∃ w, iWhole g = some w ∧ Asc w ∧ ∀ x, x ∈ w ↔ WholeG g x) ∨ (b = false ∧ iWhole g = some []) := by
  cases b with
  | false => exact .inr ⟨rfl, by simp only [iWhole, hb, Option.bind_some, Bool.not_false, cond_true]⟩
  | true =>
    obtain ⟨h1, h2⟩ := fold_whole (wholeB g) g [] (by simp [Asc])
    refine .inl ⟨rfl, _, ?_, h1, fun x => ?_⟩
    · simp only [iWhole, hb, Option.bind_some, Bool.not_true, cond_false]
      exact whole_run g hg _ _
    · rw [h2 x]
      constructor
      · rintro (h | ⟨h, _⟩)
        · simp at h
        · exact wholeB_iff.1 h
      · intro h
        refine .inr ⟨wholeB_iff.2 h, ?_⟩
        have := h.1
        unfold inG at this
        rw [List.any_eq_true] at this
        obtain ⟨a, ha, e⟩ := this
        exact ⟨a, ha, by simpa using e⟩
end Go.Rx
/- The functions of the graph, as plain lists: right graphs, by both. -/
namespace Go.Rx
abbrev DotT := Int × Int
def lenOk {α : Type} (l : List α) : Prop := l.length ≤ 1048576

def inB (x a b : Int) : Bool := decide (x ≥ a) && decide (x ≤ b)
def dotOkB (d : DotT) : Bool := inB d.1 1 7 && inB d.2 1 999
def lessB (a b : DotT) : Bool := decide (a.1 < b.1) || (a.1 == b.1 && decide (a.2 < b.2))

theorem sIn (x a b : Int) : sl1In (x, a, b) = some (inB x a b) := by
  unfold inB; simp only [sl1In]; cases decide (x ≥ a) <;> rfl
theorem iIn (x a b : Int) : iin (x, a, b) = some (inB x a b) := by
  unfold inB; simp only [iin]; cases decide (x ≥ a) <;> rfl
theorem sDotOk_eq (d : DotT) : sDotOk d = some (dotOkB d) := by
  obtain ⟨a, b⟩ := d
  unfold dotOkB; simp only [sDotOk, sIn, Option.bind_some]; cases inB a 1 7 <;> rfl
theorem iDotOk_eq (d : DotT) : iDotOk d = some (dotOkB d) := by
  obtain ⟨a, b⟩ := d
  unfold dotOkB; simp only [iDotOk, iIn, Option.bind_some]; cases inB a 1 7 <;> rfl
theorem sLess (a b : DotT) : sDotLess (a, b) = some (lessB a b) := by
  obtain ⟨a0, a1⟩ := a; obtain ⟨b0, b1⟩ := b
  unfold lessB; simp only [sDotLess]; cases decide (a0 < b0) <;> cases (a0 == b0) <;> simp
theorem iLess (a b : DotT) : iDotLess (a, b) = some (lessB a b) := by
  obtain ⟨a0, a1⟩ := a; obtain ⟨b0, b1⟩ := b
  unfold lessB; simp only [iDotLess]; cases decide (a0 < b0) <;> cases (a0 == b0) <;> simp

theorem pair_beq (a b : DotT) : (a.1 == b.1 && a.2 == b.2) = (a == b) := rfl

/-- Neighbours, and each one. -/
theorem runL_chain {α σ ρ : Type} [Inhabited α] (xs : List α) (p : α → Bool) (less : α → α → Bool) (no : ρ) (fin : σ → ρ) (s : σ) :
    runL (fun i a s k => cond (p a) (cond (decide (0 < i)) (cond (less (nth xs ((i - 1 : Nat) : Int)) a) (k s) no) (k s)) no) fin 0 xs s = cond (xs.all p && chainB less xs) (fin s) no := by
  have key : ∀ (l pre : List α), xs = pre ++ l → runL (fun i a s k => cond (p a) (cond (decide (0 < i)) (cond (less (nth xs ((i - 1 : Nat) : Int)) a) (k s) no) (k s)) no) fin pre.length l s =
      cond (l.all p && match pre.getLast? with | none => chainB less l | some b => chainB less (b :: l)) (fin s) no := by
    intro l
    induction l with
    | nil => intro pre h; simp only [runL]; cases pre.getLast? <;> simp [chainB]
    | cons a l ih =>
      intro pre h
      simp only [runL]
      have := ih (pre ++ [a]) (by rw [h]; simp)
      rw [List.length_append, List.length_singleton] at this
      rw [this]
      simp only [List.getLast?_append, List.getLast?_singleton, Option.some_or, List.all_cons]
      rcases List.eq_nil_or_concat pre with hp | ⟨q, b, hp⟩
      · subst hp
        simp
        cases p a <;> simp
      · rw [List.concat_eq_append] at hp
        subst hp
        have hn : nth xs (((q ++ [b]).length - 1 : Nat) : Int) = b := by
          rw [h, nth_nat _ _ (by simp)]
          simp
        rw [hn]
        simp [chainB]
        cases p a <;> cases less b a <;> simp
  have := key xs [] rfl
  simpa using this

theorem sHas (l : List DotT) (d : DotT) (h : lenOk l) : sl8Has (l, d) = some (l.any (· == d)) := by
  unfold lenOk at h
  obtain ⟨a, b⟩ := d
  simp only [sl8Has]
  have := loop0 l (by omega) (fun q i (_ : Unit) => sl8Has_L2 Bool q (l, i, a, b) (fun _ => some false) some) (fun _ x s k => cond (x == (a, b)) (some true) (k s)) (fun _ => some false)
    (fun q i hi s => by simp only [sl8Has_L2]; simp [hi, nth_nat _ _ hi, wrap_succ (show i < 4611686018427387904 by omega)]; rfl) (fun q s => by simp [sl8Has_L2]) ()
  rw [this, runL_any]
  cases l.any (· == (a, b)) <;> rfl

def itemB (d : DotT) (l : List DotT) : Bool := dotOkB d && (decide (l.length ≤ 60) && (!(l.any (· == d)) && (l.all dotOkB && chainB lessB l)))

theorem sItem (d : DotT) (l : List DotT) (h : lenOk l) : sl8Item (d, l) = some (itemB d l) := by
  have h' := h
  unfold lenOk at h'
  obtain ⟨a, b⟩ := d
  unfold itemB
  simp only [sl8Item, sDotOk_eq, Option.bind_some, sHas l (a, b) h]
  have := loop0 l (by omega) (fun q i (_ : Unit) => sl8Item_L4 Bool q (i, a, b, l) (fun _ => some true) some) (fun i x s k => cond (dotOkB x) (cond (decide (0 < i)) (cond (lessB (nth l ((i - 1 : Nat) : Int)) x) (k s) (some false)) (k s)) (some false)) (fun _ => some true)
    (fun q i hi s => by
      simp only [sl8Item_L4]
      rcases Nat.eq_zero_or_pos i with h0 | h0
      · subst h0
        simp [hi, sDotOk_eq]
        have := nth_nat l 0 hi
        simp at this
        have w1 : IntKind.wrap .i64 1 = 1 := rfl
        rw [this]
        try rw [w1]
      · simp [hi, nth_nat _ _ hi, wrap_succ (show i < 4611686018427387904 by omega), wrap_pred (show i < 4611686018427387904 by omega) h0, sDotOk_eq, sLess, h0, show i - 1 < l.length by omega]
        try (cases dotOkB l[i] <;> cases lessB (nth l ((i - 1 : Nat) : Int)) l[i] <;> simp)) (fun q s => by simp [sl8Item_L4]) ()
  rw [this, runL_chain]
  have e60 : decide ((l.length : Int) > 60) = !decide (l.length ≤ 60) := by rw [Bool.eq_iff_iff]; simp; omega
  rw [e60]
  cases dotOkB (a, b) <;> cases decide (l.length ≤ 60) <;> cases l.any (· == (a, b)) <;> cases (l.all dotOkB && chainB lessB l) <;> rfl

theorem iDeps (d : DotT) (l : List DotT) (h : lenOk l) : idepsOk (d, l) = some (l.all (fun x => dotOkB x && !(x == d)) && (chainB lessB l && decide (l.length ≤ 60))) := by
  unfold lenOk at h
  obtain ⟨a, b⟩ := d
  simp only [idepsOk]
  have := loop0 l (by omega) (fun q i (_ : Unit) => idepsOk_L2 Bool q (l, l, ((l.length : Nat) : Int), i, a, b) (fun deps11 => some (decide (((deps11.length : Nat) : Int) ≤ (60 : Int)))) some) (fun i x s k => cond (dotOkB x && !(x == (a, b))) (cond (decide (0 < i)) (cond (lessB (nth l ((i - 1 : Nat) : Int)) x) (k s) (some false)) (k s)) (some false)) (fun _ => some (decide (((l.length : Nat) : Int) ≤ (60 : Int))))
    (fun q i hi s => by
      simp only [idepsOk_L2]
      rcases Nat.eq_zero_or_pos i with h0 | h0
      · subst h0
        simp [hi, iDotOk_eq]
        have := nth_nat l 0 hi
        simp at this
        have w1 : IntKind.wrap .i64 1 = 1 := rfl
        rw [this, w1]
        have e : (l[0].1 == a && l[0].2 == b) = (l[0] == (a, b)) := rfl
        rw [e]
        show (cond (dotOkB l[0]) _ _) = _
        cases dotOkB l[0] <;> cases (l[0] == (a, b)) <;> rfl
      · simp only [hi, nth_nat _ _ hi, wrap_succ (show i < 4611686018427387904 by omega), wrap_pred (show i < 4611686018427387904 by omega) h0, iDotOk_eq, iLess, Option.bind_some]
        have e : (l[i].1 == a && l[i].2 == b) = (l[i] == (a, b)) := rfl
        rw [e]
        simp [hi, h0, show i - 1 < l.length by omega]
        cases dotOkB l[i] <;> cases (l[i] == (a, b)) <;> cases lessB (nth l ((i - 1 : Nat) : Int)) l[i] <;> rfl) (fun q s => by simp [idepsOk_L2]) ()
  rw [this, runL_chain]
  have e60 : decide ((l.length : Int) ≤ 60) = decide (l.length ≤ 60) := by rw [Bool.eq_iff_iff]; simp; omega
  rw [e60]
  cases l.all (fun x => dotOkB x && !(x == (a, b))) <;> cases chainB lessB l <;> rfl

theorem iDeps_item (d : DotT) (l : List DotT) (h : lenOk l) (hd : dotOkB d = true) : idepsOk (d, l) = some (itemB d l) := by
  rw [iDeps d l h]
  unfold itemB
  have : l.all (fun x => dotOkB x && !(x == d)) = (l.all dotOkB && !(l.any (· == d))) := by
    induction l with
    | nil => rfl
    | cons a l ih =>
      have ih := ih (by unfold lenOk at h ⊢; simp at h; omega)
      simp only [List.all_cons, List.any_cons, ih]
      cases dotOkB a <;> cases (a == d) <;> cases l.all dotOkB <;> cases l.any (· == d) <;> rfl
  rw [this, hd]
  cases l.all dotOkB <;> cases l.any (· == d) <;> cases chainB lessB l <;> cases decide (l.length ≤ 60) <;> rfl

/-- A right graph. -/
def okB (g : Gr) : Bool := (g.all fun c => itemB c.1 c.2) && (chainB (fun a b => lessB a.1 b.1) g && decide (g.length ≤ 100))
end Go.Rx
/- The functions of the graph, as plain lists: GraphOk of both. -/
namespace Go.Rx

theorem sGraph (g : Gr) (hg : GrOk g) : sGraphOk g = some (okB g) := by
  have hlen := hg.len
  simp only [sGraphOk]
  have := loop0 g (by omega) (fun q i (_ : Unit) => sGraphOk_L2 Bool q (i, g) (fun y => some (decide (((y.length : Nat) : Int) ≤ 100))) some)
    (fun i c s k => cond (itemB c.1 c.2) (cond (decide (0 < i)) (cond (lessB (nth g ((i - 1 : Nat) : Int)).1 c.1) (k s) (some false)) (k s)) (some false)) (fun _ => some (decide (((g.length : Nat) : Int) ≤ 100)))
    (fun q i hi s => by
      have e1 : sl8Item (((nth g (i : Int)).1.1, (nth g (i : Int)).1.2), (nth g (i : Int)).2) = some (itemB g[i].1 g[i].2) := by
        rw [nth_nat _ _ hi]; exact sItem g[i].1 g[i].2 (by have := hg.dep _ (List.getElem_mem hi); unfold lenOk; omega)
      simp only [sGraphOk_L2, e1, Option.bind_some, wrap_succ (show i < 4611686018427387904 by omega)]
      rcases Nat.eq_zero_or_pos i with h0 | h0
      · subst h0
        simp [hi]
        try (cases itemB g[0].1 g[0].2 <;> rfl)
      · have e2 : sDotLess (((nth g ((i - 1 : Nat) : Int)).1.1, (nth g ((i - 1 : Nat) : Int)).1.2), (nth g (i : Int)).1.1, (nth g (i : Int)).1.2) = some (lessB (nth g ((i - 1 : Nat) : Int)).1 g[i].1) := by
          rw [nth_nat _ _ hi]; exact sLess _ _
        simp only [wrap_pred (show i < 4611686018427387904 by omega) h0, e2, Option.bind_some]
        simp [hi, h0, show i - 1 < g.length by omega]
        try (cases itemB g[i].1 g[i].2 <;> cases lessB (nth g ((i - 1 : Nat) : Int)).1 g[i].1 <;> simp)) (fun q s => by simp [sGraphOk_L2]) ()
  refine this.trans ?_
  rw [runL_chain g (fun c => itemB c.1 c.2) (fun a b => lessB a.1 b.1) (some false) (fun _ => some (decide (((g.length : Nat) : Int) ≤ 100)))]
  unfold okB
  have e : decide (((g.length : Nat) : Int) ≤ 100) = decide (g.length ≤ 100) := by rw [Bool.eq_iff_iff]; simp; omega
  rw [e]
  cases (g.all fun c => itemB c.1 c.2) <;> cases chainB (fun a b : DotG × List DotG => lessB a.1 b.1) g <;> rfl

theorem iGraph (g : Gr) (hg : GrOk g) : iGraphOk g = some (okB g) := by
  have hlen := hg.len
  simp only [iGraphOk]
  have := loop0 g (by omega) (fun q i (_ : Unit) => iGraphOk_L2 Bool q (g, ((g.length : Nat) : Int), i, g) (fun y => some (decide (((y.length : Nat) : Int) ≤ 100))) some)
    (fun i c s k => cond (itemB c.1 c.2) (cond (decide (0 < i)) (cond (lessB (nth g ((i - 1 : Nat) : Int)).1 c.1) (k s) (some false)) (k s)) (some false)) (fun _ => some (decide (((g.length : Nat) : Int) ≤ 100)))
    (fun q i hi s => by
      have hd : lenOk g[i].2 := by have := hg.dep _ (List.getElem_mem hi); unfold lenOk; omega
      have e0 : iDotOk ((nth g (i : Int)).1.1, (nth g (i : Int)).1.2) = some (dotOkB g[i].1) := by rw [nth_nat _ _ hi]; exact iDotOk_eq _
      simp only [iGraphOk_L2, e0, Option.bind_some, wrap_succ (show i < 4611686018427387904 by omega)]
      cases hdo : dotOkB g[i].1 with
      | false =>
        have : itemB g[i].1 g[i].2 = false := by unfold itemB; rw [hdo]; rfl
        simp [hi, this]
      | true =>
        have e1 : idepsOk (((nth g (i : Int)).1.1, (nth g (i : Int)).1.2), (nth g (i : Int)).2) = some (itemB g[i].1 g[i].2) := by
          rw [nth_nat _ _ hi]; exact iDeps_item g[i].1 g[i].2 hd hdo
        rcases Nat.eq_zero_or_pos i with h0 | h0
        · subst h0
          simp only [e1, Option.bind_some]
          simp [hi]
          try (cases itemB g[0].1 g[0].2 <;> rfl)
        · have e2 : iDotLess (((nth g ((i - 1 : Nat) : Int)).1.1, (nth g ((i - 1 : Nat) : Int)).1.2), (nth g (i : Int)).1.1, (nth g (i : Int)).1.2) = some (lessB (nth g ((i - 1 : Nat) : Int)).1 g[i].1) := by
            rw [nth_nat _ _ hi]; exact iLess _ _
          simp only [e1, wrap_pred (show i < 4611686018427387904 by omega) h0, e2, Option.bind_some]
          simp [hi, h0, show i - 1 < g.length by omega]
          try (cases itemB g[i].1 g[i].2 <;> cases lessB (nth g ((i - 1 : Nat) : Int)).1 g[i].1 <;> simp)) (fun q s => by simp [iGraphOk_L2]) ()
  refine this.trans ?_
  rw [runL_chain g (fun c => itemB c.1 c.2) (fun a b => lessB a.1 b.1) (some false) (fun _ => some (decide (((g.length : Nat) : Int) ≤ 100)))]
  unfold okB
  have e : decide (((g.length : Nat) : Int) ≤ 100) = decide (g.length ≤ 100) := by rw [Bool.eq_iff_iff]; simp; omega
  rw [e]
  cases (g.all fun c => itemB c.1 c.2) <;> cases chainB (fun a b : DotG × List DotG => lessB a.1 b.1) g <;> rfl
end Go.Rx
/- The functions of the graph, as plain lists: the law's own. -/
namespace Go.Rx

theorem allI_same {α : Type} [Inhabited α] [BEq α] [LawfulBEq α] (a b : List α) (h : a.length = b.length) : allI (fun i x => x == nth b (i : Int)) 0 a = (a == b) := by
  rw [Bool.eq_iff_iff, allI_iff]
  simp only [beq_iff_eq]
  constructor
  · intro h1
    refine List.ext_getElem h fun i h2 h3 => ?_
    have := h1 i h2
    rw [Nat.zero_add, nth_nat _ _ h3] at this
    exact this
  · intro h1 j hj
    subst h1
    rw [Nat.zero_add, nth_nat _ _ hj]

theorem len_ne {α : Type} [BEq α] [LawfulBEq α] {a b : List α} (hl : ¬ a.length = b.length) : (((a.length : Nat) : Int) != ((b.length : Nat) : Int)) = true ∧ (a == b) = false := by
  refine ⟨by simp [bne]; omega, ?_⟩
  rw [beq_eq_false_iff_ne]
  intro h
  exact hl (by rw [h])

theorem len_eq {α : Type} {a b : List α} (hl : a.length = b.length) : (((a.length : Nat) : Int) != ((b.length : Nat) : Int)) = false := by simp [bne, hl]

theorem gSame (a b : List DotT) (ha : lenOk a) : lsameDots (a, b) = some (a == b) := by
  unfold lenOk at ha
  simp only [lsameDots]
  by_cases hl : a.length = b.length
  · have := loop0 a (by omega) (fun q i (_ : Unit) => lsameDots_L4 Bool q (a, b, i) (fun _ => some true) some) (fun i x s k => cond (x == nth b (i : Int)) (k s) (some false)) (fun _ => some true)
      (fun q i hi s => by
        simp only [lsameDots_L4]
        have h : i < b.length := by omega
        have e : (a[i].1 == b[i].1 && a[i].2 == b[i].2) = (a[i] == b[i]) := rfl
        simp only [hi, h, nth_nat _ _ hi, nth_nat _ _ h, wrap_succ (show i < 4611686018427387904 by omega), e]
        simp [hi, h]
        try (cases a[i] == b[i] <;> rfl)) (fun q s => by simp [lsameDots_L4]) ()
    rw [len_eq hl]
    simp only [cond_false]
    rw [this, runL_allI, allI_same _ _ hl]
    cases a == b <;> rfl
  · rw [(len_ne hl).1, (len_ne hl).2]
    rfl


/-- The place in a list of dots. -/
def plG (l : List DotG) (d : DotG) : Int := match l.findIdx? (fun x => x == d) with
  | some j => (j : Int)
  | none => -1

theorem gPlace (l : List DotG) (d : DotG) (h : lenG l) : lplace (l, d) = some (plG l d) := by
  unfold lenG at h
  obtain ⟨a, b⟩ := d
  simp only [lplace]
  have := loop0 l (by omega) (fun q i (_ : Unit) => lplace_L2 Int q (l, i, a, b) (fun _ => some (-1 : Int)) some) (fun j x s k => cond (x == (a, b)) (some (j : Int)) (k s)) (fun _ => some (-1 : Int))
    (fun q i hi s => by
      simp only [lplace_L2]
      have e : (l[i].1 == a && l[i].2 == b) = (l[i] == (a, b)) := rfl
      simp only [hi, nth_nat _ _ hi, wrap_succ (show i < 4611686018427387904 by omega), e]
      simp [hi]) (fun q s => by simp [lplace_L2]) ()
  rw [this, runL_find]
  unfold plG
  cases l.findIdx? (fun x => x == (a, b)) <;> simp

theorem plG_neg {l : List DotG} {d : DotG} : decide (plG l d < 0) = !(l.any (· == d)) := by
  unfold plG
  cases hf : l.findIdx? (fun x => x == d) with
  | none =>
    have : (l.any (· == d)) = false := by
      rw [List.any_eq_false]
      intro x hx
      have := List.findIdx?_eq_none_iff.1 hf x hx
      simpa using this
    rw [this]; rfl
  | some j =>
    obtain ⟨hj, h2, _⟩ := List.findIdx?_eq_some_iff_getElem.1 hf
    have : (l.any (· == d)) = true := List.any_eq_true.2 ⟨l[j], List.getElem_mem hj, h2⟩
    rw [this]; simp
end Go.Rx
/- The functions of the graph, as plain lists: the law, given what is whole by the reference and a drawn graph of bounded size. -/
namespace Go.Rx

theorem runL_skip {α ρ : Type} (fin : Unit → ρ) : ∀ (l : List α) (i : Nat) (s : Unit), runL (fun _ _ s k => k s) fin i l s = fin ()
  | [], _, _ => rfl
  | _ :: l, i, s => by simp only [runL]; exact runL_skip fin l (i + 1) s

theorem asc_step {l : List DotG} (h : Asc l) {i : Nat} (hi : i < l.length) (h0 : 0 < i) : lessG (nth l ((i - 1 : Nat) : Int)) l[i] = true := by
  rw [nth_nat _ _ (show i - 1 < l.length by omega)]
  exact List.pairwise_iff_getElem.1 h (i - 1) i (by omega) hi (by omega)

theorem groups_run {O : Type} (g : Gr) (d : DotG) (w l : List DotG) (hw : lenG w) (hl : lenG l) (hg : ∀ a ∈ l, iGroup (g, a) = some l) (hm : ∀ a ∈ l, a ∈ w) (ha : Asc l) (x : (List DotG × Gr × Int × Int) → Option O) (r) :
    lFnGroups_L11 O fuel (w, l, 0, g, d.1, d.2) x r = x (l, g, d.1, d.2) := by
  have hl' := hl
  unfold lenG at hl'
  have := loop0 l (by omega) (fun q i (_ : Unit) => lFnGroups_L11 O q (w, l, i, g, d.1, d.2) x r) (fun _ _ s k => k s) (fun _ => x (l, g, d.1, d.2))
    (fun q i hi s => by
      have e1 : iGroup (g, (nth l (i : Int)).1, (nth l (i : Int)).2) = some l := by rw [nth_nat _ _ hi]; exact hg _ (List.getElem_mem hi)
      have e2 : lsameDots (l, l) = some true := by rw [gSame l l (by unfold lenOk; omega)]; simp
      have e3 : lplace (w, (nth l (i : Int)).1, (nth l (i : Int)).2) = some (plG w l[i]) := by rw [nth_nat _ _ hi]; exact gPlace w l[i] hw
      have e4 : decide (plG w l[i] < 0) = false := by rw [plG_neg, any_mem.2 (hm _ (List.getElem_mem hi))]; rfl
      have e5 : iDotLess (((nth l (i : Int)).1, (nth l (i : Int)).2), (nth l (i : Int)).1, (nth l (i : Int)).2) = some false := by
        rw [nth_nat _ _ hi]
        exact (gLess l[i] l[i]).trans (by rw [lessG_irrefl])
      have e6 : decide ((i : Int) < ((l.length : Nat) : Int)) = true := by simp; omega
      have e7 : decide ((0 : Int) ≤ (i : Int)) = true := by simp
      simp only [lFnGroups_L11, e1, e2, e3, e4, e5, e6, e7, Option.bind_some, Bool.and_self, Bool.not_true, cond_true, cond_false, wrap_succ (show i < 4611686018427387904 by omega)]
      rcases Nat.eq_zero_or_pos i with h0 | h0
      · subst h0
        simp
      · have e8 : iDotLess (((nth l ((i - 1 : Nat) : Int)).1, (nth l ((i - 1 : Nat) : Int)).2), (nth l (i : Int)).1, (nth l (i : Int)).2) = some true := by
          rw [nth_nat l i hi]
          exact (gLess _ l[i]).trans (by rw [asc_step ha hi h0])
        simp only [wrap_pred (show i < 4611686018427387904 by omega) h0, e8, Option.bind_some, Bool.not_true, cond_false]
        simp [h0, show i - 1 < l.length by omega]) (fun q s => by simp [lFnGroups_L11]) ()
  exact this.trans (runL_skip _ l 0 ())

/-- **The law for a graph of bounded size.** -/
theorem groups_law (g : Gr) (hg : GrOk g) (d : DotG) (hs : ∀ w, iWhole g = some w → sWhole g = some w) (code : List Int) (hc : code.length ≤ 1048576) (hd : sDrawGroup code = some (g, d.1, d.2)) :
    lFnGroups code = some true := by
  have hb := iGraph g hg
  have hbig : lbig code = some false := by
    simp only [lbig]
    congr 1
    simp; omega
  have key : ∀ w, iWhole g = some w → lenG w → ((∃ l, iGroup (g, d) = some l ∧ Asc l ∧ lenG l ∧ d ∈ w ∧ d ∈ l ∧ okB g = true ∧ (∀ a ∈ l, iGroup (g, a) = some l) ∧ ∀ a ∈ l, a ∈ w) ∨ (iGroup (g, d) = some [] ∧ d ∉ w)) → lFnGroups code = some true := by
    intro w h1 h2 h3
    have e2 : lsameDots (w, w) = some true := by rw [gSame w w h2]; simp
    have e3 : lplace (w, d.1, d.2) = some (plG w d) := gPlace w d h2
    simp only [lFnGroups, hbig, Option.bind_some, cond_false, hd, h1, hs w h1, e2, Bool.not_true, e3]
    rcases h3 with ⟨l, k1, k2, k3, k4, k5, k6, k7, k8⟩ | ⟨k1, k2⟩
    · have e4 : decide (plG w d < 0) = false := by rw [plG_neg, any_mem.2 k4]; rfl
      have k1' : iGroup (g, d.1, d.2) = some l := k1
      have e5 : lplace (l, d.1, d.2) = some (plG l d) := gPlace l d k3
      have e6 : decide (plG l d ≥ 0) = true := by
        have : decide (plG l d < 0) = false := by rw [plG_neg, any_mem.2 k5]; rfl
        simp at this ⊢; omega
      simp only [k1', Option.bind_some, e4, cond_false]
      rw [groups_run g d w l h2 k3 k7 k8 k2]
      simp only [e5, Option.bind_some, e6, cond_true, hb, k6]
    · have e4 : decide (plG w d < 0) = true := by
        rw [plG_neg, show (w.any (· == d)) = false from by rw [Bool.eq_false_iff]; exact fun h => k2 (any_mem.1 h)]
        rfl
      have k1' : iGroup (g, d.1, d.2) = some [] := k1
      simp only [k1', Option.bind_some, e4, cond_true]
      rfl
  rcases whole_all g hg (okB g) hb with ⟨hok, w, h1, h2, h3⟩ | ⟨hok, h1⟩
  · have hw : lenG w := by
      have : w.length ≤ (g.map (·.1)).length := nodup_len (asc_nodup h2) fun x hx => by
        have := ((h3 x).1 hx).1
        unfold inG at this
        rw [List.any_eq_true] at this
        obtain ⟨a, ha, e⟩ := this
        exact List.mem_map.2 ⟨a, ha, by simpa using e⟩
      have := hg.len
      unfold lenG
      simp at *
      omega
    refine key w h1 hw ?_
    rcases group_all g hg d (okB g) hb with ⟨hwd, _, l, k1, k2, k3⟩ | ⟨k1, k2⟩
    · left
      have hlw : ∀ a ∈ l, a ∈ w := fun a ha => (h3 a).2 (hwd.same ((k3 a).1 ha))
      have hll : lenG l := by
        have := nodup_len (asc_nodup k2) hlw
        unfold lenG at *
        omega
      refine ⟨l, k1, k2, hll, (h3 d).2 hwd, (k3 d).2 (.inl rfl), hok, fun a ha => ?_, hlw⟩
      have hsa := (k3 a).1 ha
      rcases group_all g hg a (okB g) hb with ⟨_, _, l', m1, m2, m3⟩ | ⟨m1, _⟩
      · rw [m1, asc_ext m2 k2 fun x => ?_]
        rw [m3 x, k3 x]
        exact ⟨fun h => hsa.trans h, fun h => hsa.symm.trans h⟩
      · rcases m1 with m1 | m1
        · exact absurd (hwd.same hsa) m1
        · rw [hok] at m1; cases m1
    · right
      refine ⟨k2, fun hd' => ?_⟩
      rcases k1 with k1 | k1
      · exact k1 ((h3 d).1 hd')
      · rw [hok] at k1; cases k1
  · refine key [] h1 (by unfold lenG; simp) (.inr ⟨?_, by simp⟩)
    rcases group_all g hg d (okB g) hb with ⟨_, hb', _⟩ | ⟨_, k2⟩
    · rw [hok] at hb'; cases hb'
    · exact k2
end Go.Rx
/- The functions of the graph, as plain lists: the reference's search, and what is whole by it. -/
namespace Go.Rx

theorem chain_pair {g : Gr} : chainB (fun a b => lessB a.1 b.1) g = true → Asc (g.map (·.1)) := by
  induction g with
  | nil => intro _; simp [Asc]
  | cons a g ih =>
    intro h
    cases g with
    | nil => simp [Asc]
    | cons b g =>
      simp only [chainB, Bool.and_eq_true] at h
      have h2 := ih h.2
      refine List.pairwise_cons.2 ⟨fun x hx => ?_, h2⟩
      rcases List.mem_cons.1 hx with rfl | hx
      · exact h.1
      · exact lessG_trans (b := b.1) h.1 ((List.pairwise_cons.1 h2).1 x hx)

theorem ok_asc {g : Gr} (h : okB g = true) : Asc (g.map (·.1)) := by
  unfold okB at h
  simp only [Bool.and_eq_true] at h
  exact chain_pair h.2.1

theorem asc_uni {g : Gr} (h : Asc (g.map (·.1))) : UniG g := by
  intro i j hi hj e
  rw [nm_get hi, nm_get hj] at e
  have key : ∀ {a b : Nat} (ha : a < g.length) (hb : b < g.length), a < b → g[a].1 = g[b].1 → False := fun {a b} ha hb hab e => by
    have := List.pairwise_iff_getElem.1 h a b (by simpa using ha) (by simpa using hb) hab
    simp only [List.getElem_map] at this
    rw [e, lessG_irrefl] at this
    cases this
  rcases Nat.lt_trichotomy i j with h1 | h1 | h1
  · exact (key hi hj h1 e).elim
  · exact h1
  · exact (key hj hi h1 e.symm).elim

def qI (f : Nat) (t : List Nat) : List Int := (f :: t).map fun (n : Nat) => (n : Int)

theorem atG_find {g : Gr} {x : DotG} : atG g x = match g.findIdx? (fun y => y.1 == x) with | some j => (j : Int) | none => -1 := rfl

theorem nth_getD {α : Type} [Inhabited α] (l : List α) (j : Nat) : nth l (j : Int) = l.getD j default := by
  unfold nth
  rw [Int.toNat_natCast]

theorem reachS_in {O : Type} (g : Gr) (hg : GrOk g) (f : Nat) (l : List DotG) (hl : lenG l) (s0 : List Bool × List Nat × Bool) (D : List DotG) (I0 : RI g f s0 D) (hr : ∀ x ∈ l, Rch g (nmG g f) x) (k : Int)
    (x : (Bool × Int × Gr × List Bool × List Int) → Option O) (r) :
    ∃ s', (RI g f s' (D ++ l) ∧ ∃ new, s'.2.1 = s0.2.1 ++ new) ∧ sl8Reach_L9 O fuel (s0.2.2, k, l, 0, g, s0.1, qI f s0.2.1) x r = x (s'.2.2, k, g, s'.1, qI f s'.2.1) := by
  unfold lenG at hl
  have hlen := hg.len
  have := loop_upF 0 l.length (Nat.zero_le _) (by omega) (fun q i (s : List Bool × List Nat × Bool) => sl8Reach_L9 O q (s.2.2, k, l, i, g, s.1, qI f s.2.1) x r) (fun s => x (s.2.2, k, g, s.1, qI f s.2.1))
    (fun i s => RI g f s (D ++ l.take i) ∧ ∃ new, s.2.1 = s0.2.1 ++ new)
    (fun q i s hi ⟨I, new, hn⟩ => by
      refine ⟨addS g s l[i], ⟨?_, ?_⟩, ?_⟩
      · have := I.step (hr _ (List.getElem_mem hi))
        rw [List.append_assoc, ← List.take_succ_eq_append_getElem hi] at this
        exact this
      · obtain ⟨n2, h2⟩ := addS_pre g [l[i]] s
        exact ⟨new ++ n2, by rw [← List.append_assoc, ← hn]; exact h2⟩
      · have e1 : decide ((i : Int) < ((l.length : Nat) : Int)) = true := by simp; omega
        have e2 : decide ((0 : Int) ≤ (i : Int)) = true := by simp
        have e3 : sl8At (g, (nth l (i : Int)).1, (nth l (i : Int)).2) = some (atG g l[i]) := by rw [nth_nat _ _ hi]; exact sAtG g l[i] (by unfold lenG; omega)
        simp only [sl8Reach_L9, e1, e2, e3, Bool.and_self, cond_true, Option.bind_some, wrap_succ (show i < 4611686018427387904 by omega)]
        unfold addS
        rcases @find_nm g l[i] with ⟨j, h1, h2, _⟩ | ⟨h1, _⟩
        · have ha : atG g l[i] = (j : Int) := by rw [atG_find, h1]
          have hm : decide ((j : Int) < ((s.1.length : Nat) : Int)) = true := by rw [I.len]; simp; omega
          have hb := I.bound
          rw [ha, h1]
          have e4 : decide ((j : Int) < 0) = false := by simp
          have e5 : decide ((0 : Int) ≤ (j : Int)) = true := by simp
          have e6 : decide ((qI f s.2.1).length + [(j : Int)].length ≤ lenBound) = true := by simp [qI, lenBound]; omega
          simp only [e4, e5, hm, e6, Bool.and_self, cond_true, cond_false, nth_getD, Int.toNat_natCast]
          have : (default : Bool) = false := rfl
          rw [this]
          cases s.1.getD j false with
          | true => rfl
          | false =>
            simp only [Bool.not_false, cond_true, cond_false]
            rw [show qI f (s.2.1 ++ [j]) = qI f s.2.1 ++ [(j : Int)] from by simp [qI]]
        · have ha : atG g l[i] = -1 := by rw [atG_find, h1]
          rw [ha, h1]
          rfl)
    (fun q s _ => by simp [sl8Reach_L9]) s0 ⟨by simpa using I0, [], by simp⟩
  obtain ⟨s', ⟨h1, h2⟩, h3⟩ := this
  exact ⟨s', ⟨by simpa using h1, h2⟩, h3⟩

theorem reachS_out {O : Type} (g : Gr) (hg : GrOk g) (hu : UniG g) (f : Nat) (hf : f < g.length) (x : (Bool × List Bool) → Option O) (r) : ∀ (q k : Nat) (s : List Bool × List Nat × Bool) (D : List DotG), RI g f s D →
    (∀ p ∈ (f :: s.2.1).take k, ∀ z ∈ dpG g p, z ∈ D) → k ≤ (f :: s.2.1).length → g.length + 1 < q + k →
    ∃ s' D', RI g f s' D' ∧ (∀ p ∈ f :: s'.2.1, ∀ z ∈ dpG g p, z ∈ D') ∧ sl8Reach_L5 O q (s.2.2, (k : Int), g, s.1, qI f s.2.1) x r = x (s'.2.2, s'.1)
  | 0, k, s, D, I, hD, hk, hq => by
    have := I.bound
    simp only [List.length_cons] at hk
    omega
  | q + 1, k, s, D, I, hD, hk, hq => by
    have hlen := hg.len
    have hb := I.bound
    have hql : (qI f s.2.1).length = (f :: s.2.1).length := by simp [qI]
    by_cases hkl : k < (f :: s.2.1).length
    · have hp : (f :: s.2.1)[k] ∈ f :: s.2.1 := List.getElem_mem hkl
      have hpl : (f :: s.2.1)[k] < g.length := by
        rcases List.mem_cons.1 hp with h | h
        · rw [h]; exact hf
        · exact I.lt _ h
      have hrp : ∀ z ∈ dpG g (f :: s.2.1)[k], Rch g (nmG g f) z := fun z hz => by
        rw [← (uni_find hu hpl).2.2] at hz
        rcases List.mem_cons.1 hp with h | h
        · rw [h] at hz; exact .one hz
        · exact (I.rch _ h).trans (.one hz)
      have e1 : decide ((k : Int) < (((qI f s.2.1).length : Nat) : Int)) = true := by rw [hql]; simp at hkl ⊢; omega
      have e2 : decide ((0 : Int) ≤ (k : Int)) = true := by simp
      have e3 : nth (qI f s.2.1) (k : Int) = (((f :: s.2.1)[k] : Nat) : Int) := by
        rw [nth_nat _ _ (by rw [hql]; exact hkl)]
        unfold qI
        rw [List.getElem_map]
      have e4 : (nth g ((((f :: s.2.1)[k] : Nat)) : Int)).2 = dpG g (f :: s.2.1)[k] := by rw [nth_nat _ _ hpl, dp_get hpl]
      have e5 : decide ((((f :: s.2.1)[k] : Nat) : Int) < ((g.length : Nat) : Int)) = true := by simp only [decide_eq_true_eq]; omega
      have e6 : decide ((0 : Int) ≤ (((f :: s.2.1)[k] : Nat) : Int)) = true := by simp only [decide_eq_true_eq]; omega
      have hdl : lenG (dpG g (f :: s.2.1)[k]) := by
        rw [dp_get hpl]
        have := hg.dep _ (List.getElem_mem hpl)
        unfold lenG; omega
      obtain ⟨s1, ⟨I1, new, hn⟩, e7⟩ := reachS_in g hg f _ hdl s D I hrp (k : Int) (fun y => sl8Reach_L5 O q (y.1, (IntKind.wrap .i64 (y.2.1 + 1)), y.2.2.1, y.2.2.2.1, y.2.2.2.2) x r) r
      obtain ⟨s2, D2, h1, h2, h3⟩ := reachS_out g hg hu f hf x r q (k + 1) s1 _ I1 (fun p hp2 z hz => by
        have ht : (f :: s1.2.1).take (k + 1) = (f :: s.2.1).take k ++ [(f :: s.2.1)[k]] := by
          rw [hn, ← List.cons_append, List.take_append_of_le_length (by omega), List.take_succ_eq_append_getElem hkl]
        rw [ht] at hp2
        rcases List.mem_append.1 hp2 with h | h
        · exact List.mem_append_left _ (hD p h z hz)
        · simp only [List.mem_singleton] at h
          rw [h] at hz
          exact List.mem_append_right _ hz) (by rw [hn]; simp at hkl ⊢; omega) (by omega)
      refine ⟨s2, D2, h1, h2, ?_⟩
      rw [← h3]
      simp only [sl8Reach_L5, e1, e2, e3, e4, e5, e6, Bool.and_self, cond_true]
      refine e7.trans ?_
      dsimp only
      rw [wrap_succ (by simp at hkl; omega)]
    · have hk' : k = (f :: s.2.1).length := by omega
      refine ⟨s, D, I, fun p hp => hD p (by rw [hk', List.take_length]; exact hp), ?_⟩
      have e1 : decide ((k : Int) < (((qI f s.2.1).length : Nat) : Int)) = false := by rw [hql]; simp at hk' ⊢; omega
      simp only [sl8Reach_L5, e1, cond_false]

open Classical in
noncomputable def rchB (g : Gr) (d x : DotG) : Bool := decide (Rch g d x)
theorem rchB_iff {g : Gr} {d x : DotG} : rchB g d x = true ↔ Rch g d x := by unfold rchB; simp

noncomputable def metG (g : Gr) (f : Nat) : List Bool := (List.range g.length).map fun j => rchB g (nmG g f) (nmG g j)

/-- **What the reference's search answers.** -/
theorem reachS (g : Gr) (hg : GrOk g) (hu : UniG g) (f : Nat) (hf : f < g.length) : sl8Reach (g, (f : Int)) = some (metG g f, wholeB g (nmG g f)) := by
  have hlen := hg.len
  obtain ⟨s, D, h1, h2, h3⟩ := reachS_out g hg hu f hf (fun y : Bool × List Bool => some (y.2, y.1)) some fuel 0 (List.replicate g.length false, [], true) [] (RI.start g f) (by simp) (by simp) (by have := fuel_eq; omega)
  obtain ⟨k1, k2⟩ := h1.done hu hf h2
  have e1 : decide ((0 : Int) ≤ ((g.length : Nat) : Int)) = true := by simp
  have e2 : decide (((g.length : Nat) : Int) ≤ 4294967296) = true := by simp; omega
  simp only [sl8Reach, e1, e2, beq_self_eq_true, Bool.and_self, cond_true, Int.toNat_natCast]
  refine h3.trans ?_
  have m1 : s.1 = metG g f := by
    refine List.ext_getElem (by rw [h1.len]; simp [metG]) fun j hj hj2 => ?_
    have hjg : j < g.length := by rw [← h1.len]; exact hj
    have := k1 j hjg
    rw [List.getD_eq_getElem?_getD, List.getElem?_eq_getElem hj, Option.getD_some] at this
    simp only [metG, List.getElem_map, List.getElem_range]
    rw [Bool.eq_iff_iff, this, rchB_iff]
  have m2 : s.2.2 = wholeB g (nmG g f) := by rw [Bool.eq_iff_iff, k2, wholeB_iff]
  rw [m1, m2]

theorem allS (g : Gr) (hg : GrOk g) (hu : UniG g) : sl8All g = some ((List.range g.length).map (metG g), (List.range g.length).map fun i => wholeB g (nmG g i)) := by
  have hlen := hg.len
  simp only [sl8All]
  obtain ⟨s, h1, h2⟩ := loop_upF 0 g.length (Nat.zero_le _) (by omega) (fun q i (s : List (List Bool) × List Bool) => sl8All_L4 (List (List Bool) × List Bool) q (i, g, s.1, s.2) (fun y => some (y.1, y.2)) some) (fun s => some (s.1, s.2))
    (fun i s => s = ((List.range i).map (metG g), (List.range i).map fun i => wholeB g (nmG g i)))
    (fun q i s hi hs => by
      refine ⟨(s.1 ++ [metG g i], s.2 ++ [wholeB g (nmG g i)]), ?_, ?_⟩
      · subst hs
        simp [List.range_succ]
      · have e1 : decide ((i : Int) < ((g.length : Nat) : Int)) = true := by simp; omega
        have l1 : s.1.length = i ∧ s.2.length = i := by subst hs; simp
        have e2 : decide (s.1.length + [metG g i].length ≤ lenBound) = true := by rw [l1.1]; simp [lenBound]; omega
        have e3 : decide (s.2.length + [wholeB g (nmG g i)].length ≤ lenBound) = true := by rw [l1.2]; simp [lenBound]; omega
        simp only [sl8All_L4, e1, reachS g hg hu i hi, Option.bind_some, e2, e3, cond_true, wrap_succ (show i < 4611686018427387904 by omega)])
    (fun q s _ => by simp [sl8All_L4]) ([], []) (by simp)
  subst h1
  exact h2

/-- **What is whole, by the reference.** -/
theorem wholeS (g : Gr) (hg : GrOk g) : sWhole g = some (if okB g then (g.map (·.1)).filter (wholeB g) else []) := by
  have hlen := hg.len
  simp only [sWhole, sGraph g hg, Option.bind_some]
  cases hok : okB g with
  | false => rfl
  | true =>
    have hu := asc_uni (ok_asc hok)
    simp only [Bool.not_true, cond_false, allS g hg hu, Option.bind_some, if_true]
    obtain ⟨s, h1, h2⟩ := loop_upF 0 g.length (Nat.zero_le _) (by omega) (fun q i (out : List DotG) => sWhole_L6 (List (Int × Int)) q (i, g, out, (List.range g.length).map fun i => wholeB g (nmG g i)) (fun y => some y) some) (fun out => some out)
      (fun i out => out = ((g.take i).map (·.1)).filter (wholeB g))
      (fun q i out hi hs => by
        have e1 : decide ((i : Int) < ((((List.range g.length).map fun i => wholeB g (nmG g i)).length : Nat) : Int)) = true := by simp; omega
        have e2 : decide ((0 : Int) ≤ (i : Int)) = true := by simp
        have e3 : nth ((List.range g.length).map fun i => wholeB g (nmG g i)) (i : Int) = wholeB g g[i].1 := by
          rw [nth_nat _ _ (by simpa using hi)]
          simp [nm_get hi]
        have e4 : decide ((i : Int) < ((g.length : Nat) : Int)) = true := by simp; omega
        have e5 : ((nth g (i : Int)).1.1, (nth g (i : Int)).1.2) = g[i].1 := by rw [nth_nat _ _ hi]
        have l1 : out.length ≤ i := by
          subst hs
          refine Nat.le_trans (List.length_filter_le _ _) ?_
          simp; omega
        have e6 : decide (out.length + [g[i].1].length ≤ lenBound) = true := by simp [lenBound]; omega
        have et : (((g.take (i + 1)).map (·.1)).filter (wholeB g)) = out ++ [g[i].1].filter (wholeB g) := by
          rw [hs, List.take_succ_eq_append_getElem hi, List.map_append, List.filter_append]
          rfl
        refine ⟨_, rfl, ?_⟩
        simp only [sWhole_L6, e1, e2, e3, e4, e5, e6, Bool.and_self, cond_true, wrap_succ (show i < 4611686018427387904 by omega)]
        rw [et]
        cases hw : wholeB g g[i].1 with
        | true => simp [hw]
        | false => simp [hw])
      (fun q s _ => by simp [sWhole_L6]) [] (by simp)
    rw [List.take_length] at h1
    subst h1
    exact h2

/-- **What is whole is the same by both.** -/
theorem whole_same (g : Gr) (hg : GrOk g) (w : List DotG) (h : iWhole g = some w) : sWhole g = some w := by
  rw [wholeS g hg]
  rcases whole_all g hg (okB g) (iGraph g hg) with ⟨hok, w', h1, h2, h3⟩ | ⟨hok, h1⟩
  · rw [h] at h1
    cases h1
    rw [hok, if_pos rfl]
    congr 1
    refine asc_ext ((ok_asc hok).filter _) h2 fun x => ?_
    rw [h3 x, List.mem_filter, wholeB_iff]
    refine ⟨fun h => h.2, fun h => ⟨?_, h⟩⟩
    have := h.1
    unfold inG at this
    rw [List.any_eq_true] at this
    obtain ⟨a, ha, e⟩ := this
    exact List.mem_map.2 ⟨a, ha, by simpa using e⟩
  · rw [h] at h1
    cases h1
    rw [hok]
    rfl
end Go.Rx
/- The draws: the cursor. -/
namespace Go.Rx

abbrev CurT := List Int × Int × Int
def CurOk (c : CurT) : Prop := 0 ≤ c.2.1 ∧ c.2.1 ≤ (c.1.length : Int) ∧ c.1.length ≤ 1048576

theorem and255 (x : Int) : 0 ≤ bits .and .i64 x 255 ∧ bits .and .i64 x 255 ≤ 255 := by
  have h : (BitVec.ofInt IntKind.i64.bits x &&& BitVec.ofInt IntKind.i64.bits 255).toNat ≤ 255 := by
    rw [BitVec.toNat_and]
    exact Nat.le_trans Nat.and_le_right (by decide)
  simp only [bits]
  rw [wrap64 (by omega) (by omega)]
  omega

theorem byte_ok (c : CurT) (h : CurOk c) : ∃ v c', sl1Byte c = some (v, c') ∧ CurOk c' ∧ 0 ≤ v ∧ v ≤ 255 := by
  obtain ⟨b, i, s⟩ := c
  obtain ⟨h0, h1, h2⟩ := h
  dsimp only at h0 h1 h2
  by_cases hi : i < (b.length : Int)
  · simp only [sl1Byte, hi, h0, decide_true, Bool.and_self, cond_true]
    refine ⟨_, _, rfl, ⟨?_, ?_, h2⟩, and255 _⟩
    · dsimp only; rw [wrap64 (by omega) (by omega)]; omega
    · dsimp only; rw [wrap64 (by omega) (by omega)]; omega
  · simp only [sl1Byte, hi, decide_false, cond_false]
    exact ⟨_, _, rfl, ⟨h0, h1, h2⟩, and255 _⟩

theorem below_ok (c : CurT) (n : Int) (h : CurOk c) : ∃ v c', sl1Below (c, n) = some (v, c') ∧ CurOk c' ∧ (0 < n → v < n) := by
  obtain ⟨b, i, s⟩ := c
  by_cases h0 : n ≤ 0
  · simp only [sl1Below, h0, decide_true, cond_true]
    exact ⟨_, _, rfl, h, fun h1 => by omega⟩
  · have hz : (n == 0) = false := by rw [beq_eq_false_iff_ne]; omega
    obtain ⟨v, c1, e1, k1, _⟩ := byte_ok (b, i, s) h
    by_cases h1 : n ≤ 256
    · simp only [sl1Below, h0, h1, decide_true, decide_false, cond_true, cond_false, e1, Option.bind_some, hz]
      exact ⟨_, _, rfl, k1, fun h2 => Int.tmod_lt_of_pos _ h2⟩
    · obtain ⟨v2, c2, e2, k2, _⟩ := byte_ok c1 k1
      obtain ⟨v3, c3, e3, k3, _⟩ := byte_ok c2 k2
      simp only [sl1Below, h0, h1, decide_false, cond_false, e1, e2, e3, Option.bind_some, hz]
      exact ⟨_, _, rfl, k3, fun h2 => Int.tmod_lt_of_pos _ h2⟩
end Go.Rx
/- The draws: numbers, dots, and a command that is put into a graph. -/
namespace Go.Rx

theorem below_small (c : CurT) (n : Int) (h : CurOk c) (h0 : 0 < n) (h1 : n ≤ 256) : ∃ v c', sl1Below (c, n) = some (v, c') ∧ CurOk c' ∧ 0 ≤ v ∧ v < n := by
  obtain ⟨b, i, s⟩ := c
  have hz : (n == 0) = false := by rw [beq_eq_false_iff_ne]; omega
  have hn : ¬ n ≤ 0 := by omega
  obtain ⟨v, c1, e1, k1, k2, _⟩ := byte_ok (b, i, s) h
  simp only [sl1Below, hn, h1, decide_true, decide_false, cond_true, cond_false, e1, Option.bind_some, hz]
  exact ⟨_, _, rfl, k1, Int.tmod_nonneg _ k2, Int.tmod_lt_of_pos _ h0⟩

theorem once_ok (c : CurT) (n : Int) (h : CurOk c) : ∃ b c', sl1Once (c, n) = some (b, c') ∧ CurOk c' := by
  obtain ⟨v, c', e, k, _⟩ := below_ok c n h
  exact ⟨v == 0, c', by simp only [sl1Once, e, Option.bind_some], k⟩

theorem int_ok (c : CurT) (l : List Int) (h : CurOk c) (h0 : 0 < l.length) (h1 : l.length ≤ 256) : ∃ v c', sl1Int (c, l) = some (v, c') ∧ CurOk c' := by
  obtain ⟨v, c', e, k, k0, k1⟩ := below_small c ((l.length : Nat) : Int) h (by omega) (by omega)
  refine ⟨nth l v, c', ?_, k⟩
  simp only [sl1Int, e, Option.bind_some, k0, k1, decide_true, Bool.and_self, cond_true]

theorem dot_ok (c : CurT) (h : CurOk c) : ∃ d c', sl8Dot c = some (d, c') ∧ CurOk c' := by
  obtain ⟨c0, c1, c2⟩ := c
  obtain ⟨v, ⟨a0, a1, a2⟩, e, k, _⟩ := below_small (c0, c1, c2) 3 h (by omega) (by omega)
  obtain ⟨v', ⟨b0, b1, b2⟩, e', k', _⟩ := below_small (a0, a1, a2) 5 k (by omega) (by omega)
  exact ⟨(IntKind.wrap .i64 (1 + v), IntKind.wrap .i64 (1 + v')), (b0, b1, b2), by simp only [sl8Dot, e, e', Option.bind_some], k'⟩

theorem code_ok (code : List Int) (hc : code.length ≤ 1048576) : ∃ c, sl1New code = some c ∧ CurOk c := by
  simp only [sl1New]
  -- a loop that may end early
  have key : ∀ (m q i : Nat) (h : Int), i + m = code.length → m < q → ∃ c, sl1New_L3 (List Int × Int × Int) q (code, h, (i : Int)) (fun y => some (y.1, 0, y.2)) some = some c ∧ CurOk c := by
    intro m
    induction m with
    | zero =>
      intro q i h he hq
      cases q with
      | zero => omega
      | succ q =>
        have e1 : decide ((i : Int) < ((code.length : Nat) : Int)) = false := by simp; omega
        simp only [sl1New_L3, e1, cond_false]
        exact ⟨_, rfl, by unfold CurOk; dsimp only; omega⟩
    | succ m ih =>
      intro q i h he hq
      cases q with
      | zero => omega
      | succ q =>
        have e1 : decide ((i : Int) < ((code.length : Nat) : Int)) = true := by simp; omega
        have e2 : decide ((0 : Int) ≤ (i : Int)) = true := by simp
        simp only [sl1New_L3, e1, e2, Bool.and_self, cond_true, wrap_succ (show i < 4611686018427387904 by omega)]
        cases decide ((i : Int) < 4000) with
        | false => exact ⟨_, rfl, by unfold CurOk; dsimp only; omega⟩
        | true => exact ih q (i + 1) _ (by omega) (by omega)
  exact key code.length fuel 0 _ (by omega) (by rw [fuel_eq]; omega)

theorem size_ok (code : List Int) (most : Nat) (hc : code.length ≤ 1048576) (hm : 3 ≤ most) : ∃ n : Nat, sl1Size (code, (most : Int)) = some (n : Int) ∧ 3 ≤ n ∧ n ≤ most := by
  have hd : 0 ≤ Int.tdiv ((code.length : Nat) : Int) 12 ∧ Int.tdiv ((code.length : Nat) : Int) 12 ≤ 1048576 := by
    rw [Int.tdiv_eq_ediv_of_nonneg (by omega)]
    omega
  simp only [sl1Size]
  generalize Int.tdiv ((code.length : Nat) : Int) 12 = x at hd ⊢
  rw [wrap64 (x := x) (by omega) (by omega), wrap64 (x := 3 + x) (by omega) (by omega)]
  by_cases h : 3 + x > (most : Int)
  · rw [decide_eq_true h]; exact ⟨most, rfl, hm, Nat.le_refl _⟩
  · rw [decide_eq_false h]; exact ⟨(3 + x).toNat, by simp only [cond_false]; congr 1; omega, by omega, by omega⟩

/-! ### A command is put into a graph -/
structure Small (m : Nat) (g : Gr) : Prop where
  len : g.length ≤ m
  dep : ∀ c ∈ g, c.2.length ≤ 60

theorem Small.ok {m : Nat} {g : Gr} (h : Small m g) (hm : m ≤ 1000) : GrOk g := ⟨by have := h.len; omega, fun c hc => by have := h.dep c hc; omega⟩

theorem copyI (d : DotG) (l : List DotG) (h : l.length ≤ 1000) : sl8CopyItem (d, l) = some (d.1, d.2, l) := by
  simp only [sl8CopyItem, Nat.zero_add, List.nil_append]
  rw [decide_eq_true (show l.length ≤ lenBound by unfold lenBound; omega)]
  rfl

theorem copyG (g : Gr) {m : Nat} (h : Small m g) (hm : m ≤ 1000) : sl8Copy g = some g := by
  have hlen := h.len
  simp only [sl8Copy]
  obtain ⟨s, h1, h2⟩ := loop_upF 0 g.length (Nat.zero_le _) (by omega) (fun q i (out : Gr) => sl8Copy_L3 (List (DotG × List DotG)) q (i, g, out) (fun y => some y) some) (fun out => some out) (fun i out => out = g.take i)
    (fun q i out hi hs => by
      have e1 : decide ((i : Int) < ((g.length : Nat) : Int)) = true := by simp; omega
      have e2 : decide ((0 : Int) ≤ (i : Int)) = true := by simp
      have e3 : sl8CopyItem (((nth g (i : Int)).1.1, (nth g (i : Int)).1.2), (nth g (i : Int)).2) = some (g[i].1.1, g[i].1.2, g[i].2) := by
        rw [nth_nat _ _ hi]; exact copyI g[i].1 g[i].2 (by have := h.dep _ (List.getElem_mem hi); omega)
      have l1 : out.length ≤ i := by rw [hs]; simp; omega
      have e4 : decide (out.length + [((g[i].1.1, g[i].1.2), g[i].2)].length ≤ lenBound) = true := by simp [lenBound]; omega
      refine ⟨out ++ [g[i]], by rw [hs, List.take_succ_eq_append_getElem hi], ?_⟩
      simp only [sl8Copy_L3, e1, e2, e3, e4, Bool.and_self, cond_true, Option.bind_some, wrap_succ (show i < 4611686018427387904 by omega)])
    (fun q s _ => by simp [sl8Copy_L3]) [] (by simp)
  rw [List.take_length] at h1
  subst h1
  exact h2

theorem put_ok (g : Gr) (d : DotG) (l : List DotG) {m : Nat} (h : Small m g) (hm : m ≤ 900) (hl : l.length ≤ 60) : ∃ g' b, sGraphPut (g, d, l) = some (g', b) ∧ Small (m + 1) g' := by
  have hlen := h.len
  obtain ⟨d1, d2⟩ := d
  have hci : sl8CopyItem ((d1, d2), l) = some (d1, d2, l) := copyI (d1, d2) l (by omega)
  simp only [sGraphPut]
  obtain ⟨⟨put, out⟩, ⟨k1, k2⟩, h2⟩ := loop_upF 0 g.length (Nat.zero_le _) (by omega)
    (fun q i (s : Bool × Gr) => sGraphPut_L4 (Gr × Bool) q (s.1, i, g, d1, d2, l, s.2) (fun (put29, g30, it31, it32, it33, out34) => ((cond (!put29) ((sl8CopyItem ((it31, it32), it33)).bind fun (r35, r36, r37) => (cond (decide ((out34.length + [((r35, r36), r37)].length) ≤ lenBound)) (some (g30, it31, it32, it33, (out34 ++ [((r35, r36), r37)]))) none)) (some (g30, it31, it32, it33, out34))).bind fun (g38, it39, it40, it41, out42) => ((sl8At (g38, it39, it40)).bind fun r43 => (cond (decide (r43 ≥ (0 : Int))) ((sl8Copy g38).bind fun r44 => (some (r44, false))) ((sGraphOk out42).bind fun r45 => (cond (!r45) ((sl8Copy g38).bind fun r46 => (some (r46, false))) (some (out42, true)))))))) some)
    (fun s => ((cond (!s.1) ((sl8CopyItem ((d1, d2), l)).bind fun (r35, r36, r37) => (cond (decide ((s.2.length + [((r35, r36), r37)].length) ≤ lenBound)) (some (g, d1, d2, l, (s.2 ++ [((r35, r36), r37)]))) none)) (some (g, d1, d2, l, s.2))).bind fun (g38, it39, it40, it41, out42) => ((sl8At (g38, it39, it40)).bind fun r43 => (cond (decide (r43 ≥ (0 : Int))) ((sl8Copy g38).bind fun r44 => (some (r44, false))) ((sGraphOk out42).bind fun r45 => (cond (!r45) ((sl8Copy g38).bind fun r46 => (some (r46, false))) (some (out42, true))))))))
    (fun i s => s.2.length ≤ i + (if s.1 then 1 else 0) ∧ ∀ c ∈ s.2, c.2.length ≤ 60)
    (fun q i s hi ⟨h1, h2⟩ => by
      obtain ⟨put, out⟩ := s
      dsimp only at h1 h2
      have hgi := h.dep _ (List.getElem_mem hi)
      have e1 : decide ((i : Int) < ((g.length : Nat) : Int)) = true := by simp; omega
      have e2 : decide ((0 : Int) ≤ (i : Int)) = true := by simp
      have e3 : sl8CopyItem (((nth g (i : Int)).1.1, (nth g (i : Int)).1.2), (nth g (i : Int)).2) = some (g[i].1.1, g[i].1.2, g[i].2) := by
        rw [nth_nat _ _ hi]; exact copyI g[i].1 g[i].2 (by omega)
      have e4 : sDotLess ((d1, d2), (nth g (i : Int)).1.1, (nth g (i : Int)).1.2) = some (lessB (d1, d2) g[i].1) := by rw [nth_nat _ _ hi]; exact sLess (d1, d2) g[i].1
      have hout : out.length ≤ i + 1 := by cases put <;> simp at h1 <;> omega
      have e5 : ∀ y : DotG × List DotG, decide (out.length + [y].length ≤ lenBound) = true := fun y => by simp [lenBound]; omega
      have e6 : ∀ y z : DotG × List DotG, decide ((out ++ [y]).length + [z].length ≤ lenBound) = true := fun y z => by simp [lenBound]; omega
      have one : ∀ c ∈ out ++ [g[i]], c.2.length ≤ 60 := fun c hc => by
        rcases List.mem_append.1 hc with hc | hc
        · exact h2 c hc
        · simp at hc; subst hc; exact hgi
      cases put with
      | true =>
        refine ⟨(true, out ++ [g[i]]), ⟨by simp at h1 ⊢; omega, one⟩, ?_⟩
        simp only [sGraphPut_L4, e1, e2, e3, e5, Bool.and_self, Bool.not_true, cond_true, cond_false, Option.bind_some, wrap_succ (show i < 4611686018427387904 by omega)]
      | false =>
        cases hb : lessB (d1, d2) g[i].1 with
        | true =>
          refine ⟨(true, (out ++ [((d1, d2), l)]) ++ [g[i]]), ⟨by simp at h1 ⊢; omega, fun c hc => ?_⟩, ?_⟩
          · rcases List.mem_append.1 hc with hc | hc
            · rcases List.mem_append.1 hc with hc | hc
              · exact h2 c hc
              · simp at hc; subst hc; exact hl
            · simp at hc; subst hc; exact hgi
          · simp only [sGraphPut_L4, e1, e2, e3, e4, hb, hci, e5, e6, Bool.and_self, Bool.not_false, cond_true, cond_false, Option.bind_some, wrap_succ (show i < 4611686018427387904 by omega)]
        | false =>
          refine ⟨(false, out ++ [g[i]]), ⟨by simp at h1 ⊢; omega, one⟩, ?_⟩
          simp only [sGraphPut_L4, e1, e2, e3, e4, hb, e5, Bool.and_self, Bool.not_false, cond_true, cond_false, Option.bind_some, wrap_succ (show i < 4611686018427387904 by omega)])
    (fun q s _ => by simp [sGraphPut_L4]) (false, []) ⟨by simp, by simp⟩
  dsimp only at k1 k2
  have hcg : sl8Copy g = some g := copyG g h (by omega)
  have hat : sl8At (g, d1, d2) = some (atG g (d1, d2)) := sAtG g (d1, d2) (by unfold lenG; omega)
  have hg1 : Small (m + 1) g := ⟨by omega, h.dep⟩
  -- what comes out
  have fin : ∀ o : Gr, Small (m + 1) o → ∃ g' b, (((sl8At (g, d1, d2)).bind fun r43 => (cond (decide (r43 ≥ (0 : Int))) ((sl8Copy g).bind fun r44 => (some (r44, false))) ((sGraphOk o).bind fun r45 => (cond (!r45) ((sl8Copy g).bind fun r46 => (some (r46, false))) (some (o, true))))))) = some (g', b) ∧ Small (m + 1) g' := by
    intro o ho
    rw [hat, Option.bind_some, hcg, sGraph o (ho.ok (by omega))]
    simp only [Option.bind_some]
    cases decide (atG g (d1, d2) ≥ 0) with
    | true => exact ⟨g, false, rfl, hg1⟩
    | false =>
      cases okB o with
      | true => exact ⟨o, true, rfl, ho⟩
      | false => exact ⟨g, false, rfl, hg1⟩
  refine Exists.imp (fun g' => Exists.imp fun b => And.imp (fun h => (h2.trans h :)) id) ?_
  cases put with
  | true =>
    obtain ⟨g', b, h3, h4⟩ := fin out ⟨by simp at k1; omega, k2⟩
    exact ⟨g', b, h3, h4⟩
  | false =>
    have hs : Small (m + 1) (out ++ [((d1, d2), l)]) := ⟨by simp at k1 ⊢; omega, fun c hc => by
      rcases List.mem_append.1 hc with hc | hc
      · exact k2 c hc
      · simp at hc; subst hc; exact hl⟩
    obtain ⟨g', b, h3, h4⟩ := fin _ hs
    refine ⟨g', b, ?_, h4⟩
    rw [← h3]
    have e5 : decide (out.length + [((d1, d2), l)].length ≤ lenBound) = true := by simp at k1 ⊢; simp [lenBound]; omega
    simp only [Bool.not_false, cond_true, hci, Option.bind_some, e5]
end Go.Rx
/- The draws: graphs. -/
namespace Go.Rx

abbrev DrT := CurT × List DotG

theorem draw_in {O : Type} (i : Int) (rr : Int) (d : DotG) (g : Gr) (x : (Int × Int × CurT × DotG × Gr × List DotG) → Option O) (r) (c : CurT) (l : List DotG) (B : Nat) (hB : B ≤ 40) (hc : CurOk c) (hl : l.length ≤ B) :
    ∃ s' : DrT, (CurOk s'.1 ∧ s'.2.length ≤ B + 5) ∧ sl8Draw_L10 O fuel (i, rr, 1, c.1, c.2.1, c.2.2, d.1, d.2, g, l) (fun y => x (y.1, y.2.1, (y.2.2.1, y.2.2.2.1, y.2.2.2.2.1), (y.2.2.2.2.2.1, y.2.2.2.2.2.2.1), y.2.2.2.2.2.2.2.1, y.2.2.2.2.2.2.2.2)) r = x (i, rr, s'.1, d, g, s'.2) := by
  obtain ⟨s', h1, h2⟩ := loop_upF 1 6 (by omega) (by omega) (fun q n (s : DrT) => sl8Draw_L10 O q (i, rr, n, s.1.1, s.1.2.1, s.1.2.2, d.1, d.2, g, s.2) (fun y => x (y.1, y.2.1, (y.2.2.1, y.2.2.2.1, y.2.2.2.2.1), (y.2.2.2.2.2.1, y.2.2.2.2.2.2.1), y.2.2.2.2.2.2.2.1, y.2.2.2.2.2.2.2.2)) r)
    (fun s => x (i, rr, s.1, d, g, s.2)) (fun n s => CurOk s.1 ∧ s.2.length + 1 ≤ B + n)
    (fun q n s hn ⟨h1, h2⟩ => by
      have e1 : decide ((n : Int) < 6) = true := by simp; omega
      have e5 : decide (s.2.length + [(rr, (n : Int))].length ≤ lenBound) = true := by simp [lenBound]; omega
      obtain ⟨b, c', e, k⟩ := once_ok s.1 5 h1
      have e' : sl1Once ((s.1.1, s.1.2.1, s.1.2.2), 5) = some (b, c') := e
      simp only [sl8Draw_L10, e1, cond_true, wrap_succ (show n < 4611686018427387904 by omega)]
      cases (!(rr == d.1 && (n : Int) == d.2)) with
      | false => exact ⟨s, ⟨h1, by omega⟩, rfl⟩
      | true =>
        simp only [cond_true, e', Option.bind_some]
        cases b with
        | true =>
          simp only [cond_true, e5]
          exact ⟨(c', s.2 ++ [(rr, (n : Int))]), ⟨k, by simp; omega⟩, rfl⟩
        | false =>
          simp only [cond_false]
          exact ⟨(c', s.2), ⟨k, by dsimp only; omega⟩, rfl⟩)
    (fun q s _ => by simp [sl8Draw_L10]) (c, l) ⟨hc, by dsimp only; omega⟩
  exact ⟨s', ⟨h1.1, by omega⟩, h2⟩

theorem draw_mid {O : Type} (i : Int) (d : DotG) (g : Gr) (x : (Int × CurT × DotG × Gr × List DotG) → Option O) (r) (c : CurT) (hc : CurOk c) :
    ∃ s' : DrT, (CurOk s'.1 ∧ s'.2.length ≤ 15) ∧ sl8Draw_L7 O fuel (i, 1, c.1, c.2.1, c.2.2, d.1, d.2, g, []) (fun y => x (y.1, (y.2.1, y.2.2.1, y.2.2.2.1), (y.2.2.2.2.1, y.2.2.2.2.2.1), y.2.2.2.2.2.2.1, y.2.2.2.2.2.2.2)) r = x (i, s'.1, d, g, s'.2) := by
  obtain ⟨s', h1, h2⟩ := loop_upF 1 4 (by omega) (by omega) (fun q n (s : DrT) => sl8Draw_L7 O q (i, n, s.1.1, s.1.2.1, s.1.2.2, d.1, d.2, g, s.2) (fun y => x (y.1, (y.2.1, y.2.2.1, y.2.2.2.1), (y.2.2.2.2.1, y.2.2.2.2.2.1), y.2.2.2.2.2.2.1, y.2.2.2.2.2.2.2)) r)
    (fun s => x (i, s.1, d, g, s.2)) (fun n s => CurOk s.1 ∧ s.2.length + 5 ≤ 5 * n)
    (fun q n s hn ⟨h1, h2⟩ => by
      have e1 : decide ((n : Int) < 4) = true := by simp; omega
      obtain ⟨s', ⟨k1, k2⟩, k3⟩ := draw_in i (n : Int) d g (fun y => sl8Draw_L7 O q (y.1, (IntKind.wrap .i64 (y.2.1 + 1)), y.2.2.1.1, y.2.2.1.2.1, y.2.2.1.2.2, y.2.2.2.1.1, y.2.2.2.1.2, y.2.2.2.2.1, y.2.2.2.2.2) (fun y => x (y.1, (y.2.1, y.2.2.1, y.2.2.2.1), (y.2.2.2.2.1, y.2.2.2.2.2.1), y.2.2.2.2.2.2.1, y.2.2.2.2.2.2.2)) r) r s.1 s.2 (5 * n - 5) (by omega) h1 (by omega)
      refine ⟨s', ⟨k1, by omega⟩, ?_⟩
      simp only [sl8Draw_L7, e1, cond_true]
      refine k3.trans ?_
      dsimp only
      rw [wrap_succ (by omega)])
    (fun q s _ => by simp [sl8Draw_L7]) (c, []) ⟨hc, by simp⟩
  exact ⟨s', ⟨h1.1, by omega⟩, h2⟩

theorem draw_ok (c : CurT) (most : Nat) (hc : CurOk c) (hm : 3 ≤ most ∧ most ≤ 16) : ∃ g c', sl8Draw (c, (most : Int)) = some (g, c') ∧ CurOk c' ∧ Small 16 g := by
  obtain ⟨c0, c1, c2⟩ := c
  obtain ⟨v, ⟨b0, b1, b2⟩, e, k, k0, k1⟩ := below_small (c0, c1, c2) (most : Int) hc (by omega) (by omega)
  obtain ⟨n, rfl⟩ : ∃ n : Nat, v = (n : Int) := ⟨v.toNat, by omega⟩
  simp only [sl8Draw, e, Option.bind_some]
  obtain ⟨s', h1, h2⟩ := loop_down (fun q i (s : CurT × Gr) => sl8Draw_L3 (Gr × List Int × Int × Int) q (i, s.1.1, s.1.2.1, s.1.2.2, s.2) (fun y => some (y.2.2.2, y.1, y.2.1, y.2.2.1)) some) (fun s => some (s.2, s.1))
    (fun i s => CurOk s.1 ∧ i ≤ 16 ∧ Small (16 - i) s.2)
    (fun q i s ⟨h1, h3, h2⟩ => by
      have e1 : decide ((((i + 1 : Nat)) : Int) > 0) = true := decide_eq_true (by omega)
      obtain ⟨d, c', e', k'⟩ := dot_ok s.1 h1
      have e2 : sl8Dot (s.1.1, s.1.2.1, s.1.2.2) = some (d, c') := e'
      obtain ⟨s', ⟨j1, j2⟩, j3⟩ := draw_mid (((i + 1 : Nat)) : Int) d s.2 (fun y => ((sGraphPut (y.2.2.2.1, (y.2.2.1.1, y.2.2.1.2), y.2.2.2.2)).bind fun z => (sl8Draw_L3 (Gr × List Int × Int × Int) q ((IntKind.wrap .i64 (y.1 - 1)), y.2.1.1, y.2.1.2.1, y.2.1.2.2, z.1) (fun y => some (y.2.2.2, y.1, y.2.1, y.2.2.1)) some))) some c' k'
      obtain ⟨g', b, j4, j5⟩ := put_ok s.2 d s'.2 h2 (by omega) (by omega)
      refine ⟨(s'.1, g'), ⟨j1, by omega, by rw [show 16 - i = 16 - (i + 1) + 1 from by omega]; exact j5⟩, ?_⟩
      simp only [sl8Draw_L3, e1, cond_true, e2, Option.bind_some]
      refine j3.trans ?_
      have j4' : sGraphPut (s.2, (d.1, d.2), s'.2) = some (g', b) := j4
      dsimp only
      rw [j4', Option.bind_some, wrap_pred (show i + 1 < 4611686018427387904 by omega) (by omega)]
      rfl)
    (fun q s _ => by simp [sl8Draw_L3]) n fuel ((b0, b1, b2), []) (by rw [fuel_eq]; omega) ⟨k, by omega, ⟨by simp, by simp⟩⟩
  exact ⟨s'.2, s'.1, h2, h1.1, by simpa using h1.2.2⟩

theorem full_in {O : Type} (kk rr nn : Int) (a : Int) (d : DotG) (g : Gr) (x : (Int × Int × Int × Int × CurT × DotG × Gr × List DotG) → Option O) (r) (c : CurT) (l : List DotG) (B : Nat) (hB : B ≤ 40) (hc : CurOk c) (hl : l.length ≤ B) :
    ∃ s' : DrT, (CurOk s'.1 ∧ s'.2.length ≤ B + 4) ∧ sl8Full_L14 O fuel (kk, rr, nn, a, 1, c.1, c.2.1, c.2.2, d.1, d.2, g, l) (fun y => x (y.1, y.2.1, y.2.2.1, y.2.2.2.1, (y.2.2.2.2.1, y.2.2.2.2.2.1, y.2.2.2.2.2.2.1), (y.2.2.2.2.2.2.2.1, y.2.2.2.2.2.2.2.2.1), y.2.2.2.2.2.2.2.2.2.1, y.2.2.2.2.2.2.2.2.2.2)) r = x (kk, rr, nn, a, s'.1, d, g, s'.2) := by
  obtain ⟨s', h1, h2⟩ := loop_upF 1 5 (by omega) (by omega) (fun q n (s : DrT) => sl8Full_L14 O q (kk, rr, nn, a, n, s.1.1, s.1.2.1, s.1.2.2, d.1, d.2, g, s.2) (fun y => x (y.1, y.2.1, y.2.2.1, y.2.2.2.1, (y.2.2.2.2.1, y.2.2.2.2.2.1, y.2.2.2.2.2.2.1), (y.2.2.2.2.2.2.2.1, y.2.2.2.2.2.2.2.2.1), y.2.2.2.2.2.2.2.2.2.1, y.2.2.2.2.2.2.2.2.2.2)) r)
    (fun s => x (kk, rr, nn, a, s.1, d, g, s.2)) (fun n s => CurOk s.1 ∧ s.2.length + 1 ≤ B + n)
    (fun q n s hn ⟨h1, h2⟩ => by
      have e1 : decide ((n : Int) < 5) = true := by simp; omega
      have e5 : decide (s.2.length + [(a, (n : Int))].length ≤ lenBound) = true := by simp [lenBound]; omega
      obtain ⟨b, c', e, k⟩ := once_ok s.1 kk h1
      have e' : sl1Once ((s.1.1, s.1.2.1, s.1.2.2), kk) = some (b, c') := e
      simp only [sl8Full_L14, e1, cond_true, wrap_succ (show n < 4611686018427387904 by omega)]
      cases (!(a == d.1 && (n : Int) == d.2)) with
      | false => exact ⟨s, ⟨h1, by omega⟩, rfl⟩
      | true =>
        simp only [cond_true, e', Option.bind_some]
        cases b with
        | true =>
          simp only [cond_true, e5]
          exact ⟨(c', s.2 ++ [(a, (n : Int))]), ⟨k, by simp; omega⟩, rfl⟩
        | false =>
          simp only [cond_false]
          exact ⟨(c', s.2), ⟨k, by dsimp only; omega⟩, rfl⟩)
    (fun q s _ => by simp [sl8Full_L14]) (c, l) ⟨hc, by dsimp only; omega⟩
  exact ⟨s', ⟨h1.1, by omega⟩, h2⟩

theorem full_mid {O : Type} (kk rr nn : Int) (d : DotG) (g : Gr) (x : (Int × Int × Int × CurT × DotG × Gr × List DotG) → Option O) (r) (c : CurT) (hc : CurOk c) :
    ∃ s' : DrT, (CurOk s'.1 ∧ s'.2.length ≤ 12) ∧ sl8Full_L11 O fuel (kk, rr, nn, 1, c.1, c.2.1, c.2.2, d.1, d.2, g, []) (fun y => x (y.1, y.2.1, y.2.2.1, (y.2.2.2.1, y.2.2.2.2.1, y.2.2.2.2.2.1), (y.2.2.2.2.2.2.1, y.2.2.2.2.2.2.2.1), y.2.2.2.2.2.2.2.2.1, y.2.2.2.2.2.2.2.2.2)) r = x (kk, rr, nn, s'.1, d, g, s'.2) := by
  obtain ⟨s', h1, h2⟩ := loop_upF 1 4 (by omega) (by omega) (fun q n (s : DrT) => sl8Full_L11 O q (kk, rr, nn, n, s.1.1, s.1.2.1, s.1.2.2, d.1, d.2, g, s.2) (fun y => x (y.1, y.2.1, y.2.2.1, (y.2.2.2.1, y.2.2.2.2.1, y.2.2.2.2.2.1), (y.2.2.2.2.2.2.1, y.2.2.2.2.2.2.2.1), y.2.2.2.2.2.2.2.2.1, y.2.2.2.2.2.2.2.2.2)) r)
    (fun s => x (kk, rr, nn, s.1, d, g, s.2)) (fun n s => CurOk s.1 ∧ s.2.length + 4 ≤ 4 * n)
    (fun q n s hn ⟨h1, h2⟩ => by
      have e1 : decide ((n : Int) < 4) = true := by simp; omega
      obtain ⟨s', ⟨k1, k2⟩, k3⟩ := full_in kk rr nn (n : Int) d g (fun y => sl8Full_L11 O q (y.1, y.2.1, y.2.2.1, (IntKind.wrap .i64 (y.2.2.2.1 + 1)), y.2.2.2.2.1.1, y.2.2.2.2.1.2.1, y.2.2.2.2.1.2.2, y.2.2.2.2.2.1.1, y.2.2.2.2.2.1.2, y.2.2.2.2.2.2.1, y.2.2.2.2.2.2.2) (fun y => x (y.1, y.2.1, y.2.2.1, (y.2.2.2.1, y.2.2.2.2.1, y.2.2.2.2.2.1), (y.2.2.2.2.2.2.1, y.2.2.2.2.2.2.2.1), y.2.2.2.2.2.2.2.2.1, y.2.2.2.2.2.2.2.2.2)) r) r s.1 s.2 (4 * n - 4) (by omega) h1 (by omega)
      refine ⟨s', ⟨k1, by omega⟩, ?_⟩
      simp only [sl8Full_L11, e1, cond_true]
      refine k3.trans ?_
      dsimp only
      rw [wrap_succ (by omega)])
    (fun q s _ => by simp [sl8Full_L11]) (c, []) ⟨hc, by simp⟩
  exact ⟨s', ⟨h1.1, by omega⟩, h2⟩

theorem full_row {O : Type} (kk rr : Int) (x : (Int × Int × CurT × Gr) → Option O) (r) (c : CurT) (g : Gr) (B : Nat) (hB : B ≤ 40) (hc : CurOk c) (hg : Small B g) :
    ∃ s' : CurT × Gr, (CurOk s'.1 ∧ Small (B + 4) s'.2) ∧ sl8Full_L7 O fuel (kk, rr, 1, c.1, c.2.1, c.2.2, g) (fun y => x (y.1, y.2.1, (y.2.2.1, y.2.2.2.1, y.2.2.2.2.1), y.2.2.2.2.2)) r = x (kk, rr, s'.1, s'.2) := by
  obtain ⟨s', h1, h2⟩ := loop_upF 1 5 (by omega) (by omega) (fun q n (s : CurT × Gr) => sl8Full_L7 O q (kk, rr, n, s.1.1, s.1.2.1, s.1.2.2, s.2) (fun y => x (y.1, y.2.1, (y.2.2.1, y.2.2.2.1, y.2.2.2.2.1), y.2.2.2.2.2)) r)
    (fun s => x (kk, rr, s.1, s.2)) (fun n s => CurOk s.1 ∧ 1 ≤ n ∧ Small (B + n - 1) s.2)
    (fun q n s hn ⟨h1, hn1, h2⟩ => by
      have e1 : decide ((n : Int) < 5) = true := by simp; omega
      obtain ⟨s', ⟨j1, j2⟩, j3⟩ := full_mid kk rr (n : Int) (rr, (n : Int)) s.2 (fun y => ((sGraphPut (y.2.2.2.2.2.1, (y.2.2.2.2.1.1, y.2.2.2.2.1.2), y.2.2.2.2.2.2)).bind fun z => (sl8Full_L7 O q (y.1, y.2.1, (IntKind.wrap .i64 (y.2.2.1 + 1)), y.2.2.2.1.1, y.2.2.2.1.2.1, y.2.2.2.1.2.2, z.1) (fun y => x (y.1, y.2.1, (y.2.2.1, y.2.2.2.1, y.2.2.2.2.1), y.2.2.2.2.2)) r))) r s.1 h1
      obtain ⟨g', b, j4, j5⟩ := put_ok s.2 (rr, (n : Int)) s'.2 h2 (by omega) (by omega)
      refine ⟨(s'.1, g'), ⟨j1, by omega, by rw [show B + (n + 1) - 1 = B + n - 1 + 1 from by omega]; exact j5⟩, ?_⟩
      simp only [sl8Full_L7, e1, cond_true]
      refine j3.trans ?_
      dsimp only
      rw [j4, Option.bind_some, wrap_succ (by omega)])
    (fun q s _ => by simp [sl8Full_L7]) (c, g) ⟨hc, by omega, hg⟩
  exact ⟨s', ⟨h1.1, by simpa using h1.2.2⟩, h2⟩

theorem full_ok (c : CurT) (hc : CurOk c) : ∃ g c', sl8Full c = some (g, c') ∧ CurOk c' ∧ Small 16 g := by
  obtain ⟨c0, c1, c2⟩ := c
  obtain ⟨v, ⟨b0, b1, b2⟩, e, k, k0, k1⟩ := below_small (c0, c1, c2) 6 hc (by omega) (by omega)
  simp only [sl8Full, e, Option.bind_some]
  generalize IntKind.wrap .i64 (2 + v) = kk
  obtain ⟨s', h1, h2⟩ := loop_upF 1 4 (by omega) (by omega) (fun q n (s : CurT × Gr) => sl8Full_L4 (Gr × List Int × Int × Int) q (kk, n, s.1.1, s.1.2.1, s.1.2.2, s.2) (fun y => some (y.2.2.2, y.1, y.2.1, y.2.2.1)) some) (fun s => some (s.2, s.1))
    (fun n s => CurOk s.1 ∧ 1 ≤ n ∧ Small (4 * n - 4) s.2)
    (fun q n s hn ⟨h1, hn1, h2⟩ => by
      have e1 : decide ((n : Int) < 4) = true := by simp; omega
      obtain ⟨s', ⟨j1, j2⟩, j3⟩ := full_row kk (n : Int) (fun y => sl8Full_L4 (Gr × List Int × Int × Int) q (y.1, (IntKind.wrap .i64 (y.2.1 + 1)), y.2.2.1.1, y.2.2.1.2.1, y.2.2.1.2.2, y.2.2.2) (fun y => some (y.2.2.2, y.1, y.2.1, y.2.2.1)) some) some s.1 s.2 (4 * n - 4) (by omega) h1 h2
      refine ⟨s', ⟨j1, by omega, by rw [show 4 * (n + 1) - 4 = 4 * n - 4 + 4 from by omega]; exact j2⟩, ?_⟩
      simp only [sl8Full_L4, e1, cond_true]
      refine j3.trans ?_
      dsimp only
      rw [wrap_succ (by omega)])
    (fun q s _ => by simp [sl8Full_L4]) ((b0, b1, b2), []) ⟨k, by omega, ⟨by simp, by simp⟩⟩
  have := h1.2.2
  exact ⟨s'.2, s'.1, h2, h1.1, ⟨by have := this.len; omega, this.dep⟩⟩

theorem any_ok (c : CurT) (most : Nat) (hc : CurOk c) (hm : 3 ≤ most ∧ most ≤ 16) : ∃ g c', sl8DrawAny (c, (most : Int)) = some (g, c') ∧ CurOk c' ∧ Small 17 g := by
  obtain ⟨c0, c1, c2⟩ := c
  obtain ⟨g0, ⟨a0, a1, a2⟩, e0, k0, m0⟩ := draw_ok (c0, c1, c2) most hc hm
  obtain ⟨b, ⟨b0, b1, b2⟩, e1, k1⟩ := once_ok (a0, a1, a2) 3 k0
  simp only [sl8DrawAny, e0, Option.bind_some, e1]
  have tail : ∀ (g : Gr) (c : CurT), CurOk c → Small 16 g → ∃ g' c', ((sl1Below ((c.1, c.2.1, c.2.2), (12 : Int))).bind fun (r20, r21, r22, r23) => (cond (r20 == (0 : Int)) ((sl8Dot (r21, r22, r23)).bind fun ((r24, r25), r26, r27, r28) => ((sl8Dot (r26, r27, r28)).bind fun ((r29, r30), r31, r32, r33) => ((sl8Dot (r31, r32, r33)).bind fun ((r34, r35), r36, r37, r38) => (cond (decide ((g.length + [((r24, r25), [(r29, r30), (r34, r35)])].length) ≤ lenBound)) (some ((g ++ [((r24, r25), [(r29, r30), (r34, r35)])]), r36, r37, r38)) none)))) (cond (r20 == (1 : Int)) (cond (decide (((g.length : Nat) : Int) > (0 : Int))) ((sl1Int ((r21, r22, r23), [(0 : Int), (8 : Int), (1 : Int)])).bind fun (r39, r40, r41, r42) => (cond (decide ((0 : Int) < ((g.length : Nat) : Int))) (some ((List.set g 0 ((r39, (List.getD g 0 (((0 : Int), (0 : Int)), [])).1.2), (List.getD g 0 (((0 : Int), (0 : Int)), [])).2)), r40, r41, r42)) none)) (some (g, r21, r22, r23))) (some (g, r21, r22, r23))))) = some (g', c') ∧ CurOk c' ∧ Small 17 g' := by
    intro g c hc hg
    have hlen := hg.len
    have hg17 : Small 17 g := ⟨by omega, hg.dep⟩
    obtain ⟨v, ⟨d0, d1, d2⟩, e2, k2, _⟩ := below_small (c.1, c.2.1, c.2.2) 12 hc (by omega) (by omega)
    simp only [e2, Option.bind_some]
    cases v == 0 with
    | true =>
      obtain ⟨⟨x0, x1⟩, ⟨f0, f1, f2⟩, e3, k3⟩ := dot_ok (d0, d1, d2) k2
      obtain ⟨⟨y0, y1⟩, ⟨g0, g1, g2⟩, e4, k4⟩ := dot_ok (f0, f1, f2) k3
      obtain ⟨⟨z0, z1⟩, ⟨h0, h1, h2⟩, e5, k5⟩ := dot_ok (g0, g1, g2) k4
      have e6 : decide (g.length + [((x0, x1), [(y0, y1), (z0, z1)])].length ≤ lenBound) = true := by simp [lenBound]; omega
      simp only [cond_true, e3, e4, e5, e6, Option.bind_some]
      refine ⟨_, _, rfl, k5, ⟨by simp; omega, fun c hc => ?_⟩⟩
      rcases List.mem_append.1 hc with hc | hc
      · exact hg.dep c hc
      · simp at hc; subst hc; simp
    | false =>
      simp only [cond_false]
      cases v == 1 with
      | false => exact ⟨g, _, rfl, k2, hg17⟩
      | true =>
        simp only [cond_true]
        cases hgl : decide (((g.length : Nat) : Int) > 0) with
        | false => exact ⟨g, _, rfl, k2, hg17⟩
        | true =>
          have hgl' : 0 < g.length := by simp at hgl; omega
          obtain ⟨u, ⟨f0, f1, f2⟩, e3, k3⟩ := int_ok (d0, d1, d2) [0, 8, 1] k2 (by simp) (by simp)
          simp only [cond_true, e3, Option.bind_some, decide_eq_true (show (0 : Int) < ((g.length : Nat) : Int) by omega)]
          refine ⟨_, _, rfl, k3, ⟨by simp; omega, fun c hc => ?_⟩⟩
          rcases List.mem_or_eq_of_mem_set hc with hc | hc
          · exact hg.dep c hc
          · subst hc
            simp only [List.getD_eq_getElem?_getD, List.getElem?_eq_getElem hgl', Option.getD_some]
            exact hg.dep _ (List.getElem_mem hgl')
  cases b with
  | true =>
    obtain ⟨g1, ⟨f0, f1, f2⟩, e2, k2, m2⟩ := full_ok (b0, b1, b2) k1
    simp only [cond_true, e2, Option.bind_some]
    exact tail g1 (f0, f1, f2) k2 m2
  | false =>
    simp only [cond_false, Option.bind_some]
    exact tail g0 (b0, b1, b2) k1 m0

theorem drawGroup_ok (code : List Int) (hc : code.length ≤ 1048576) : ∃ (g : Gr) (d : DotG), sDrawGroup code = some (g, d.1, d.2) ∧ Small 17 g := by
  obtain ⟨⟨c0, c1, c2⟩, e1, k1⟩ := code_ok code hc
  obtain ⟨n, e2, hn⟩ := size_ok code 16 hc (by omega)
  obtain ⟨g, ⟨b0, b1, b2⟩, e3, k3, m3⟩ := any_ok (c0, c1, c2) n k1 hn
  obtain ⟨d, c', e4, _⟩ := dot_ok (b0, b1, b2) k3
  have e2' : sl1Size (code, (16 : Int)) = some (n : Int) := e2
  refine ⟨g, d, ?_, m3⟩
  simp only [sDrawGroup, e1, e2', e3, e4, Option.bind_some]
end Go.Rx
/- The law of the groups: for every code. -/
namespace Go.Rx

/-- **A drawn graph's groups.** -/
theorem law_groups (code : List Int) : lFnGroups code = some true := by
  by_cases hc : code.length ≤ 1048576
  · obtain ⟨g, d, e, m⟩ := drawGroup_ok code hc
    exact groups_law g (m.ok (by omega)) d (whole_same g (m.ok (by omega))) code hc e
  · have hbig : lbig code = some true := by
      simp only [lbig]
      congr 1
      rw [decide_eq_true_eq]
      omega
    simp only [lFnGroups, hbig, Option.bind_some, cond_true]
end Go.Rx
/- The order of the graph: by the program. -/
namespace Go.Rx

theorem drawOrder_ok (code : List Int) (hc : code.length ≤ 1048576) : ∃ g : Gr, sDrawOrderOf code = some g ∧ Small 17 g := by
  obtain ⟨⟨c0, c1, c2⟩, e1, k1⟩ := code_ok code hc
  obtain ⟨n, e2, hn⟩ := size_ok code 16 hc (by omega)
  obtain ⟨g, ⟨b0, b1, b2⟩, e3, k3, m3⟩ := any_ok (c0, c1, c2) n k1 hn
  have e2' : sl1Size (code, (16 : Int)) = some (n : Int) := e2
  refine ⟨g, ?_, m3⟩
  simp only [sDrawOrderOf, e1, e2', e3, Option.bind_some]

theorem whole_len {g : Gr} (hg : GrOk g) {w : List DotG} (ha : Asc w) (hw : ∀ x, x ∈ w ↔ WholeG g x) : w.length ≤ 1000 := by
  have : w.length ≤ (g.map (·.1)).length := nodup_len (asc_nodup ha) fun x hx => by
    have := ((hw x).1 hx).1
    unfold inG at this
    rw [List.any_eq_true] at this
    obtain ⟨a, ha, e⟩ := this
    exact List.mem_map.2 ⟨a, ha, by simpa using e⟩
  have := hg.len
  simp at *
  omega

theorem grpL_len (g : Gr) (w : List DotG) (d : DotG) : (grpL g w d).length ≤ w.length := List.length_filter_le _ _

/-- What the program's group is, for what is whole. -/
theorem group_grp (g : Gr) (hg : GrOk g) (hok : okB g = true) {w : List DotG} (ha : Asc w) (hw : ∀ x, x ∈ w ↔ WholeG g x) {d : DotG} (hd : d ∈ w) : iGroup (g, d) = some (grpL g w d) := by
  rcases group_all g hg d (okB g) (iGraph g hg) with ⟨_, _, l, h1, h2, h3⟩ | ⟨h1, _⟩
  · rw [h1]
    congr 1
    refine asc_ext h2 (ha.filter _) fun x => ?_
    rw [h3 x, grpL, List.mem_filter, sameB_iff]
    exact ⟨fun h => ⟨(hw x).2 (((hw d).1 hd).same h), h⟩, fun h => h.2⟩
  · rcases h1 with h1 | h1
    · exact absurd ((hw d).1 hd) h1
    · rw [hok] at h1; cases h1

theorem whole_dep {g : Gr} {w : List DotG} (hw : ∀ x, x ∈ w ↔ WholeG g x) {d x : DotG} (hd : d ∈ w) (hx : x ∈ depsG g d) : x ∈ w := (hw x).2 (((hw d).1 hd).next (.one hx))

/-- The program's 'ready'. -/
theorem ready_i (g : Gr) (hg : GrOk g) {w : List DotG} (ha : Asc w) (hw : ∀ x, x ∈ w ↔ WholeG g x) {d : DotG} (hd : d ∈ w) (out : List DotG) (ho : out.length ≤ 1000) : iready (g, grpL g w d, out) = some (readyB g d out) := by
  have hwl := whole_len hg ha hw
  have hgl := grpL_len g w d
  have hlen := hg.len
  simp only [iready]
  generalize hG : grpL g w d = G at hgl ⊢
  have hGm : ∀ x, x ∈ G ↔ Same g d x := fun x => by
    rw [← hG]
    unfold grpL
    rw [List.mem_filter, sameB_iff]
    exact ⟨fun h => h.2, fun h => ⟨(hw x).2 (((hw d).1 hd).same h), h⟩⟩
  have inner : ∀ {O : Type} (a : DotG), a ∈ G → ∀ (v12 : List DotG) (v13 v14 : Int) (x : (List DotG × List DotG × List DotG × Int × Int × Gr) → Option O) (r : Bool → Option O),
      iready_L5 O fuel (G, out, v12, v13, v14, depsG g a, (((depsG g a).length : Nat) : Int), 0, g) x r = cond ((depsG g a).all fun z => G.any (· == z) || out.any (· == z)) (x (G, out, v12, v13, v14, g)) (r false) := by
    intro O a haG v12 v13 v14 x r
    have hin : inG g a = true := ((hw a).1 ((hw a).2 (((hw d).1 hd).same ((hGm a).1 haG)))).1
    obtain ⟨j, hj, _, _, h3⟩ := atG_in.2 hin
    have hdl : (depsG g a).length ≤ 100 := by rw [h3]; exact hg.dep _ (List.getElem_mem hj)
    have := loop0 (depsG g a) (by omega) (fun q i (_ : Unit) => iready_L5 O q (G, out, v12, v13, v14, depsG g a, (((depsG g a).length : Nat) : Int), i, g) x r)
      (fun _ z s k => cond (G.any (· == z) || out.any (· == z)) (k s) (r false)) (fun _ => x (G, out, v12, v13, v14, g))
      (fun q i hi s => by
        have e1 : decide ((i : Int) < (((depsG g a).length : Nat) : Int)) = true := by simp; omega
        have e2 : decide ((0 : Int) ≤ (i : Int)) = true := by simp
        have e3 : ihasDot (G, (nth (depsG g a) (i : Int)).1, (nth (depsG g a) (i : Int)).2) = some (G.any (· == (depsG g a)[i])) := by rw [nth_nat _ _ hi]; exact gHas G _ (by unfold lenG; omega)
        have e4 : ihasDot (out, (nth (depsG g a) (i : Int)).1, (nth (depsG g a) (i : Int)).2) = some (out.any (· == (depsG g a)[i])) := by rw [nth_nat _ _ hi]; exact gHas out _ (by unfold lenG; omega)
        simp only [iready_L5, e1, e2, e3, e4, Bool.and_self, cond_true, Option.bind_some, wrap_succ (show i < 4611686018427387904 by omega)]
        cases G.any (· == (depsG g a)[i]) <;> cases out.any (· == (depsG g a)[i]) <;> rfl) (fun q s => by simp [iready_L5]) ()
    rw [this, runL_all]
  have := loop0 G (by omega) (fun q i (_ : Unit) => iready_L2 Bool q (G, out, G, ((G.length : Nat) : Int), i, g) (fun _ => some true) some)
    (fun _ a s k => cond ((depsG g a).all fun z => G.any (· == z) || out.any (· == z)) (k s) (some false)) (fun _ => some true)
    (fun q i hi s => by
      have haG : G[i] ∈ G := List.getElem_mem hi
      have hin : inG g G[i] = true := ((hw G[i]).1 ((hw G[i]).2 (((hw d).1 hd).same ((hGm G[i]).1 haG)))).1
      obtain ⟨j, hj, h1, _, h3⟩ := atG_in.2 hin
      have e1 : decide ((i : Int) < ((G.length : Nat) : Int)) = true := by simp; omega
      have e2 : decide ((0 : Int) ≤ (i : Int)) = true := by simp
      have e3 : iitemAt (g, (nth G (i : Int)).1, (nth G (i : Int)).2) = some (j : Int) := by rw [nth_nat _ _ hi, ← h1]; exact gAt g G[i] (by unfold lenG; omega)
      have e4 : decide ((0 : Int) ≤ (j : Int)) = true := by simp
      have e5 : decide ((j : Int) < ((g.length : Nat) : Int)) = true := by simp; omega
      have e6 : (nth g (j : Int)).2 = depsG g G[i] := by rw [nth_nat _ _ hj, h3]
      simp only [iready_L2, e1, e2, e3, e4, e5, e6, Bool.and_self, cond_true, Option.bind_some]
      rw [inner G[i] haG]
      simp only [wrap_succ (show i < 4611686018427387904 by omega)]) (fun q s => by simp [iready_L2]) ()
  refine this.trans ?_
  rw [runL_all]
  have hb : (G.all fun a => (depsG g a).all fun z => G.any (· == z) || out.any (· == z)) = readyB g d out := by
    rw [Bool.eq_iff_iff, readyB_iff, List.all_eq_true]
    constructor
    · intro h y hy z hz
      have := h y ((hGm y).2 hy)
      rw [List.all_eq_true] at this
      have := this z hz
      rw [Bool.or_eq_true, any_mem, any_mem, hGm] at this
      exact this
    · intro h y hy
      rw [List.all_eq_true]
      intro z hz
      rw [Bool.or_eq_true, any_mem, any_mem, hGm]
      exact h y ((hGm y).1 hy) z hz
  rw [hb]
  cases readyB g d out <;> rfl

theorem order_in {O : Type} (g : Gr) (hg : GrOk g) (hok : okB g = true) {w : List DotG} (ha : Asc w) (hw : ∀ x, x ∈ w ↔ WholeG g x) (out : List DotG) (ho : out.length ≤ 1000) (x : (List DotG × Bool × Gr × List DotG) → Option O) (r) :
    iOrderOf_L7 O fuel (w, false, w, ((w.length : Nat) : Int), 0, g, out) x r = match selG g w out with
      | none => x (w, false, g, out)
      | some d => x (w, true, g, out ++ grpL g w d) := by
  have hwl := whole_len hg ha hw
  have := loop0 w (by omega) (fun q i (_ : Unit) => iOrderOf_L7 O q (w, false, w, ((w.length : Nat) : Int), i, g, out) x r)
    (fun _ d s k => cond (!(out.any (· == d)) && readyB g d out) (x (w, true, g, out ++ grpL g w d)) (k s)) (fun _ => x (w, false, g, out))
    (fun q i hi s => by
      have hd : w[i] ∈ w := List.getElem_mem hi
      have hgl := grpL_len g w w[i]
      have e1 : decide ((i : Int) < ((w.length : Nat) : Int)) = true := by simp; omega
      have e2 : decide ((0 : Int) ≤ (i : Int)) = true := by simp
      have e3 : ihasDot (out, (nth w (i : Int)).1, (nth w (i : Int)).2) = some (out.any (· == w[i])) := by rw [nth_nat _ _ hi]; exact gHas out _ (by unfold lenG; omega)
      have e4 : iGroup (g, (nth w (i : Int)).1, (nth w (i : Int)).2) = some (grpL g w w[i]) := by rw [nth_nat _ _ hi]; exact group_grp g hg hok ha hw hd
      have e5 := ready_i g hg ha hw hd out ho
      have e6 : decide (out.length + (grpL g w w[i]).length ≤ lenBound) = true := decide_eq_true (by unfold lenBound; omega)
      simp only [iOrderOf_L7, e1, e2, e3, e4, e5, e6, Bool.and_self, cond_true, Option.bind_some, wrap_succ (show i < 4611686018427387904 by omega)]
      cases out.any (· == w[i]) <;> cases readyB g w[i] out <;> rfl) (fun q s => by simp [iOrderOf_L7]) ()
  refine this.trans ?_
  have key : ∀ (l : List DotG) (i : Nat) (s : Unit), runL (fun _ d s k => cond (!(out.any (· == d)) && readyB g d out) (x (w, true, g, out ++ grpL g w d)) (k s)) (fun _ => x (w, false, g, out)) i l s =
      match l.find? fun d => !(out.any (· == d)) && readyB g d out with
      | none => x (w, false, g, out)
      | some d => x (w, true, g, out ++ grpL g w d) := by
    intro l
    induction l with
    | nil => intro i s; rfl
    | cons a l ih =>
      intro i s
      simp only [runL, List.find?_cons]
      cases hc : (!(out.any (· == a)) && readyB g a out) with
      | true => rfl
      | false => exact ih _ _
  exact key w 0 ()

theorem order_out (g : Gr) (hg : GrOk g) (hok : okB g = true) {w : List DotG} (ha : Asc w) (hw : ∀ x, x ∈ w ↔ WholeG g x) : ∀ (q : Nat) (out : List DotG), OI g w out →
    iOrderOf_L4 (List DotG) (q + 1) (w, true, g, out) some some = match ordG g w q out with
      | some l => some l
      | none => iOrderOf_L4 (List DotG) (q + 1) (w, true, g, out) some some
  | 0, out, I => rfl
  | q + 1, out, I => by
    have hwl := whole_len hg ha hw
    have hol := nodup_len I.nd I.sub
    have e : iOrderOf_L4 (List DotG) (q + 1 + 1) (w, true, g, out) some some = match selG g w out with
        | none => some out
        | some d => iOrderOf_L4 (List DotG) (q + 1) (w, true, g, out ++ grpL g w d) some some := by
      rw [iOrderOf_L4]
      simp only [cond_true]
      rw [order_in g hg hok ha hw out (by omega)]
      cases selG g w out with
      | none => rfl
      | some d => rfl
    rw [ordG]
    cases hs : selG g w out with
    | none => rw [hs] at e; exact e
    | some d =>
      rw [hs] at e
      dsimp only at e ⊢
      have ih := order_out g hg hok ha hw q (out ++ grpL g w d) (I.step hw ha hs)
      cases ho : ordG g w q (out ++ grpL g w d) with
      | none => rfl
      | some l =>
        rw [ho] at ih
        rw [e]
        exact ih

/-- **The program's order.** -/
theorem order_i (g : Gr) (hg : GrOk g) (hok : okB g = true) {w : List DotG} (ha : Asc w) (hw : ∀ x, x ∈ w ↔ WholeG g x) (h1 : iWhole g = some w) : ∃ l, iOrderOf g = some l ∧ ordG g w 1100 [] = some l ∧ OI g w l ∧ ∀ x, x ∈ l ↔ x ∈ w := by
  have hwl := whole_len hg ha hw
  obtain ⟨l, h2, h3, h4⟩ := ord_spec hw ha 1100 [] (OI.start g w) (by simp; omega)
  refine ⟨l, ?_, h2, h3, h4⟩
  simp only [iOrderOf, h1, Option.bind_some]
  obtain ⟨l', h2', h3', h4'⟩ := ord_spec hw ha (fuel - 1) [] (OI.start g w) (by simp; rw [fuel_eq]; omega)
  have hf : fuel = fuel - 1 + 1 := by rw [fuel_eq]
  have := order_out g hg hok ha hw (fuel - 1) [] (OI.start g w)
  rw [h2', ← hf] at this
  have hll : l' = l := by
    have mono : ∀ (q p : Nat) (o : List DotG) (y : List DotG), ordG g w q o = some y → ordG g w (q + p) o = some y := by
      intro q
      induction q with
      | zero => intro p o y h; simp [ordG] at h
      | succ q ih =>
        intro p o y h
        rw [show q + 1 + p = (q + p) + 1 from by omega]
        unfold ordG at h ⊢
        cases hs : selG g w o with
        | none => rw [hs] at h; exact h
        | some d => rw [hs] at h; exact ih p _ y h
    have := mono 1100 (fuel - 1 - 1100) [] l h2
    rw [show 1100 + (fuel - 1 - 1100) = fuel - 1 from by rw [fuel_eq]] at this
    rw [this] at h2'
    exact (Option.some.inj h2').symm
  rw [hll] at this
  exact this
end Go.Rx
/- The order of the graph: by the reference. -/
namespace Go.Rx

noncomputable def reachL (g : Gr) : List (List Bool) := (List.range g.length).map (metG g)
noncomputable def wholeL (g : Gr) : List Bool := (List.range g.length).map fun i => wholeB g (nmG g i)
def doneL (g : Gr) (out : List DotG) : List Bool := (List.range g.length).map fun i => out.any (· == nmG g i)

theorem nth_range {α : Type} [Inhabited α] (n : Nat) (f : Nat → α) (i : Nat) (h : i < n) : nth ((List.range n).map f) (i : Int) = f i := by
  rw [nth_nat _ _ (by simpa using h)]
  simp

theorem same_bool (g : Gr) (hu : UniG g) {k i : Nat} (hk : k < g.length) (hi : i < g.length) : sameB g (nmG g k) (nmG g i) = (decide (i = k) || (rchB g (nmG g k) (nmG g i) && rchB g (nmG g i) (nmG g k))) := by
  rw [Bool.eq_iff_iff, sameB_iff]
  simp only [Bool.or_eq_true, Bool.and_eq_true, decide_eq_true_eq, rchB_iff]
  unfold Same
  constructor
  · rintro (h | h)
    · exact .inl (hu i k hi hk h)
    · exact .inr h
  · rintro (rfl | h)
    · exact .inl rfl
    · exact .inr h

theorem int_ne (i k : Nat) : ((i : Int) != (k : Int)) = !decide (i = k) := by
  rw [Bool.eq_iff_iff]
  simp only [bne_iff_ne, ne_eq, Bool.not_eq_true', decide_eq_false_iff_not]
  omega
theorem int_eq (i k : Nat) : ((i : Int) == (k : Int)) = decide (i = k) := by
  rw [Bool.eq_iff_iff]
  simp only [beq_iff_eq, decide_eq_true_eq]
  omega

theorem readyS_in {O : Type} (g : Gr) (hg : GrOk g) (hu : UniG g) (out : List DotG) (k : Nat) (hk : k < g.length) (i : Int) (l : List DotG) (hl : lenG l) (hin : ∀ z ∈ l, inG g z = true) (x : (List (List Bool) × List Bool × Int × Int × Gr) → Option O) (r : Bool → Option O) :
    sl8Ready_L7 O fuel (reachL g, doneL g out, (k : Int), i, l, 0, g) x r = cond (l.all fun z => out.any (· == z) || sameB g (nmG g k) z) (x (reachL g, doneL g out, (k : Int), i, g)) (r false) := by
  unfold lenG at hl
  have hlen := hg.len
  have := loop0 l (by omega) (fun q n (_ : Unit) => sl8Ready_L7 O q (reachL g, doneL g out, (k : Int), i, l, n, g) x r) (fun _ z s c => cond (out.any (· == z) || sameB g (nmG g k) z) (c s) (r false)) (fun _ => x (reachL g, doneL g out, (k : Int), i, g))
    (fun q n hn s => by
      rcases @find_nm g l[n] with ⟨j, h1, h2, h3, _⟩ | ⟨_, h2, _⟩
      · have e1 : decide ((n : Int) < ((l.length : Nat) : Int)) = true := by simp; omega
        have e2 : decide ((0 : Int) ≤ (n : Int)) = true := by simp
        have e3 : sl8At (g, (nth l (n : Int)).1, (nth l (n : Int)).2) = some (j : Int) := by
          rw [nth_nat _ _ hn]
          have := sAtG g l[n] (by unfold lenG; omega)
          rw [atG_find, h1] at this
          exact this
        have e4 : decide ((0 : Int) ≤ (j : Int)) = true := by simp
        have e5 : decide ((j : Int) < (((doneL g out).length : Nat) : Int)) = true := by simp [doneL]; omega
        have e6 : nth (doneL g out) (j : Int) = out.any (· == l[n]) := by rw [doneL, nth_range _ _ _ h2, h3]
        have e7 : decide ((0 : Int) ≤ (k : Int)) = true := by simp
        have e8 : decide ((k : Int) < (((reachL g).length : Nat) : Int)) = true := by simp [reachL]; omega
        have e9 : nth (reachL g) (k : Int) = metG g k := by rw [reachL, nth_range _ _ _ hk]
        have e10 : nth (reachL g) (j : Int) = metG g j := by rw [reachL, nth_range _ _ _ h2]
        have e11 : decide ((j : Int) < (((metG g k).length : Nat) : Int)) = true := by simp [metG]; omega
        have e12 : decide ((k : Int) < (((metG g j).length : Nat) : Int)) = true := by simp [metG]; omega
        have e13 : decide ((j : Int) < (((reachL g).length : Nat) : Int)) = true := by simp [reachL]; omega
        have e14 : nth (metG g k) (j : Int) = rchB g (nmG g k) (nmG g j) := by rw [metG, nth_range _ _ _ h2]
        have e15 : nth (metG g j) (k : Int) = rchB g (nmG g j) (nmG g k) := by rw [metG, nth_range _ _ _ hk]
        simp only [sl8Ready_L7, e1, e2, e3, e4, e5, e6, e7, e8, e9, e10, e11, e12, e13, e14, e15, int_ne, Bool.and_self, cond_true, Option.bind_some, wrap_succ (show n < 4611686018427387904 by omega)]
        rw [← h3, same_bool g hu hk h2, h3]
        cases out.any (· == l[n]) <;> cases decide (j = k) <;> cases rchB g (nmG g k) l[n] <;> cases rchB g l[n] (nmG g k) <;> rfl
      · rw [hin _ (List.getElem_mem hn)] at h2; cases h2) (fun q s => by simp [sl8Ready_L7]) ()
  rw [this, runL_all]

theorem bind_inr {σ O : Type} (F : Option O) (f : σ → Option O) : ((F.map Sum.inr).bind fun (z : σ ⊕ O) => match z with | .inl s => f s | .inr o => some o) = F := by
  cases F <;> rfl

/-- The reference's 'ready'. -/
theorem ready_s (g : Gr) (hg : GrOk g) (hu : UniG g) (out : List DotG) (k : Nat) (hk : k < g.length) (hwk : WholeG g (nmG g k)) : sl8Ready (g, reachL g, doneL g out, (k : Int)) = some (readyB g (nmG g k) out) := by
  have hlen := hg.len
  simp only [sl8Ready]
  have hdin : ∀ i, i < g.length → sameB g (nmG g k) (nmG g i) = true → ∀ z ∈ dpG g i, inG g z = true := fun i hi hs z hz => by
    rw [← (uni_find hu hi).2.2] at hz
    exact (hwk.same (sameB_iff.1 hs)).2 z (.one hz)
  have := loop0 g (by omega) (fun q i (_ : Unit) => sl8Ready_L2 Bool q (reachL g, doneL g out, (k : Int), i, g) (fun _ => some true) some)
    (fun _ c s cont => cond (!(sameB g (nmG g k) c.1) || (c.2.all fun z => out.any (· == z) || sameB g (nmG g k) z)) (cont s) (some false)) (fun _ => some true)
    (fun q i hi s => by
      have e1 : decide ((i : Int) < (((doneL g out).length : Nat) : Int)) = true := by simp [doneL]; omega
      have e2 : decide ((0 : Int) ≤ (i : Int)) = true := by simp
      have e7 : decide ((0 : Int) ≤ (k : Int)) = true := by simp
      have e8 : decide ((k : Int) < (((reachL g).length : Nat) : Int)) = true := by simp [reachL]; omega
      have e9 : nth (reachL g) (k : Int) = metG g k := by rw [reachL, nth_range _ _ _ hk]
      have e10 : nth (reachL g) (i : Int) = metG g i := by rw [reachL, nth_range _ _ _ hi]
      have e11 : decide ((i : Int) < (((metG g k).length : Nat) : Int)) = true := by simp [metG]; omega
      have e12 : decide ((k : Int) < (((metG g i).length : Nat) : Int)) = true := by simp [metG]; omega
      have e13 : decide ((i : Int) < (((reachL g).length : Nat) : Int)) = true := by simp [reachL]; omega
      have e14 : nth (metG g k) (i : Int) = rchB g (nmG g k) (nmG g i) := by rw [metG, nth_range _ _ _ hi]
      have e15 : nth (metG g i) (k : Int) = rchB g (nmG g i) (nmG g k) := by rw [metG, nth_range _ _ _ hk]
      have e16 : decide ((i : Int) < ((g.length : Nat) : Int)) = true := by simp; omega
      have e17 : (nth g (i : Int)).2 = dpG g i := by rw [nth_nat _ _ hi, dp_get hi]
      have hsb := same_bool g hu hk hi
      have hdl : lenG (dpG g i) := by rw [dp_get hi]; have := hg.dep _ (List.getElem_mem hi); unfold lenG; omega
      simp only [sl8Ready_L2, e1, e2, e7, e8, e9, e10, e11, e12, e13, e14, e15, e16, e17, int_ne, Bool.and_self, cond_true, wrap_succ (show i < 4611686018427387904 by omega)]
      rw [← nm_get hi, ← dp_get hi]
      have hin := hdin i hi
      rw [hsb] at hin ⊢
      cases h1 : decide (i = k) <;> cases h2 : rchB g (nmG g k) (nmG g i) <;> cases h3 : rchB g (nmG g i) (nmG g k) <;> rw [h1, h2, h3] at hin <;>
        simp only [Bool.not_true, Bool.not_false, cond_true, cond_false, Option.bind_some, bind_inr, Bool.or_false, Bool.or_true, Bool.false_or, Bool.true_or, Bool.and_false, Bool.and_true, Bool.false_and, Bool.true_and] at hin ⊢ <;>
        (try simp only [e2, e16, e17, Bool.and_self, cond_true]) <;> (try rw [readyS_in g hg hu out k hk (i : Int) (dpG g i) hdl (hin trivial)]) <;> (try simp only [wrap_succ (show i < 4611686018427387904 by omega)]) <;>
        (try rfl) <;> (try (generalize sl8Ready_L2 Bool q (reachL g, doneL g out, (k : Int), (((i + 1 : Nat)) : Int), g) (fun _ => some true) some = F; cases F <;> rfl))) (fun q s => by simp [sl8Ready_L2, doneL]) ()
  refine this.trans ?_
  rw [runL_all]
  have hb : (g.all fun c => !(sameB g (nmG g k) c.1) || (c.2.all fun z => out.any (· == z) || sameB g (nmG g k) z)) = readyB g (nmG g k) out := by
    rw [Bool.eq_iff_iff, readyB_iff, List.all_eq_true]
    constructor
    · intro h y hy z hz
      have hwy := hwk.same hy
      rcases @find_nm g y with ⟨j, _, h2, h3, _, h5⟩ | ⟨_, h2, _⟩
      · have := h g[j] (List.getElem_mem h2)
        rw [← nm_get h2, h3, sameB_iff.2 hy, Bool.not_true, Bool.false_or, List.all_eq_true] at this
        have := this z (by rw [← dp_get h2, ← h5]; exact hz)
        rw [Bool.or_eq_true, any_mem, sameB_iff] at this
        exact this.symm
      · rw [hwy.1] at h2; cases h2
    · intro h c hc
      obtain ⟨j, hj, rfl⟩ := List.getElem_of_mem hc
      cases hs : sameB g (nmG g k) g[j].1 with
      | false => rfl
      | true =>
        rw [Bool.not_true, Bool.false_or, List.all_eq_true]
        intro z hz
        rw [Bool.or_eq_true, any_mem, sameB_iff]
        refine (h g[j].1 (sameB_iff.1 hs) z ?_).symm
        rw [← nm_get hj, (uni_find hu hj).2.2, dp_get hj]
        exact hz
  rw [hb]
  cases readyB g (nmG g k) out <;> rfl
end Go.Rx
/- The order of the graph: by the reference, the whole. -/
namespace Go.Rx

/-- A group, by the places. -/
noncomputable def grpN (g : Gr) (d : DotG) : List DotG := (g.map (·.1)).filter (sameB g d)

noncomputable def doneI (g : Gr) (out : List DotG) (d : DotG) (i : Nat) : List Bool := (List.range g.length).map fun j => out.any (· == nmG g j) || (decide (j < i) && sameB g d (nmG g j))

theorem doneI_zero (g : Gr) (out : List DotG) (d : DotG) : doneI g out d 0 = doneL g out := by
  unfold doneI doneL
  simp

theorem doneI_end (g : Gr) (out : List DotG) (d : DotG) : doneI g out d g.length = doneL g (out ++ grpN g d) := by
  refine List.ext_getElem (by simp [doneI, doneL]) fun j hj _ => ?_
  have hjg : j < g.length := by simpa [doneI] using hj
  simp only [doneI, doneL, List.getElem_map, List.getElem_range, decide_eq_true hjg, Bool.true_and]
  rw [Bool.eq_iff_iff, Bool.or_eq_true, any_mem, any_mem, List.mem_append, grpN, List.mem_filter]
  refine or_congr Iff.rfl ⟨fun h => ⟨?_, h⟩, fun h => h.2⟩
  rw [nm_get hjg]
  exact List.mem_map.2 ⟨g[j], List.getElem_mem hjg, rfl⟩

theorem doneI_set (g : Gr) (out : List DotG) (d : DotG) (i : Nat) (hi : i < g.length) (hs : sameB g d (nmG g i) = true) : (doneI g out d i).set i true = doneI g out d (i + 1) := by
  refine List.ext_getElem (by simp [doneI]) fun j hj _ => ?_
  have hjg : j < g.length := by simpa [doneI] using hj
  rw [List.getElem_set]
  simp only [doneI, List.getElem_map, List.getElem_range]
  by_cases hij : i = j
  · subst hij
    simp [hs]
  · rw [if_neg hij, show decide (j < i + 1) = decide (j < i) from by rw [Bool.eq_iff_iff]; simp; omega]

theorem doneI_skip (g : Gr) (out : List DotG) (d : DotG) (i : Nat) (hs : sameB g d (nmG g i) = false) : doneI g out d i = doneI g out d (i + 1) := by
  refine List.ext_getElem (by simp [doneI]) fun j hj _ => ?_
  simp only [doneI, List.getElem_map, List.getElem_range]
  by_cases hij : i = j
  · subst hij
    simp [hs]
  · rw [show decide (j < i + 1) = decide (j < i) from by rw [Bool.eq_iff_iff]; simp; omega]

theorem group_s {O : Type} (g : Gr) (hg : GrOk g) (hu : UniG g) (k : Nat) (hk : k < g.length) (out : List DotG) (ho : out.length ≤ 1000) (v1 v2 : Bool) (v3 : Int) (v4 : Bool) (v5 : Gr) (v6 : Int) (v7 v8 : Bool) (x) (r) :
    sOrderOf_L15 O fuel (true, (k : Int), 0, v1, v2, v3, v4, v5, v6, v7, v8, g, out, reachL g, wholeL g, doneL g out) x r =
      x (true, (k : Int), v1, v2, v3, v4, v5, v6, v7, v8, g, out ++ grpN g (nmG g k), reachL g, wholeL g, doneL g (out ++ grpN g (nmG g k))) := by
  have hlen := hg.len
  obtain ⟨s, ⟨h1, h2⟩, h3⟩ := loop_upF 0 g.length (Nat.zero_le _) (by omega)
    (fun q i (s : List DotG × List Bool) => sOrderOf_L15 O q (true, (k : Int), i, v1, v2, v3, v4, v5, v6, v7, v8, g, s.1, reachL g, wholeL g, s.2) x r)
    (fun s => x (true, (k : Int), v1, v2, v3, v4, v5, v6, v7, v8, g, s.1, reachL g, wholeL g, s.2))
    (fun i s => s.1 = out ++ ((g.take i).map (·.1)).filter (sameB g (nmG g k)) ∧ s.2 = doneI g out (nmG g k) i)
    (fun q i s hi ⟨h1, h2⟩ => by
      have e1 : decide ((i : Int) < (((wholeL g).length : Nat) : Int)) = true := by simp [wholeL]; omega
      have e2 : decide ((0 : Int) ≤ (i : Int)) = true := by simp
      have e7 : decide ((0 : Int) ≤ (k : Int)) = true := by simp
      have e8 : decide ((k : Int) < (((reachL g).length : Nat) : Int)) = true := by simp [reachL]; omega
      have e9 : nth (reachL g) (k : Int) = metG g k := by rw [reachL, nth_range _ _ _ hk]
      have e10 : nth (reachL g) (i : Int) = metG g i := by rw [reachL, nth_range _ _ _ hi]
      have e11 : decide ((i : Int) < (((metG g k).length : Nat) : Int)) = true := by simp [metG]; omega
      have e12 : decide ((k : Int) < (((metG g i).length : Nat) : Int)) = true := by simp [metG]; omega
      have e13 : decide ((i : Int) < (((reachL g).length : Nat) : Int)) = true := by simp [reachL]; omega
      have e14 : nth (metG g k) (i : Int) = rchB g (nmG g k) (nmG g i) := by rw [metG, nth_range _ _ _ hi]
      have e15 : nth (metG g i) (k : Int) = rchB g (nmG g i) (nmG g k) := by rw [metG, nth_range _ _ _ hk]
      have e16 : decide ((i : Int) < ((g.length : Nat) : Int)) = true := by simp; omega
      have e17 : decide ((i : Int) < ((s.2.length : Nat) : Int)) = true := by rw [h2]; simp [doneI]; omega
      have e18 : ((nth g (i : Int)).1.1, (nth g (i : Int)).1.2) = nmG g i := by rw [nth_nat _ _ hi, nm_get hi]
      have l1 : s.1.length ≤ 2000 := by
        rw [h1, List.length_append]
        have h6 := List.length_filter_le (sameB g (nmG g k)) ((g.take i).map (·.1))
        rw [List.length_map, List.length_take] at h6
        omega
      have e19 : decide (s.1.length + [nmG g i].length ≤ lenBound) = true := decide_eq_true (by unfold lenBound; simp; omega)
      have et : ((g.take (i + 1)).map (·.1)).filter (sameB g (nmG g k)) = ((g.take i).map (·.1)).filter (sameB g (nmG g k)) ++ [nmG g i].filter (sameB g (nmG g k)) := by
        rw [List.take_succ_eq_append_getElem hi, List.map_append, List.filter_append, nm_get hi]
        rfl
      have hsb := same_bool g hu hk hi
      refine ⟨(out ++ ((g.take (i + 1)).map (·.1)).filter (sameB g (nmG g k)), doneI g out (nmG g k) (i + 1)), ⟨rfl, rfl⟩, ?_⟩
      simp only [sOrderOf_L15, e1, e2, e7, e8, e9, e10, e11, e12, e13, e14, e15, int_eq, Bool.and_self, cond_true]
      rw [et, ← List.append_assoc, ← h1]
      cases hs : sameB g (nmG g k) (nmG g i) with
      | true =>
        rw [hs] at hsb
        rw [← doneI_set g out (nmG g k) i hi hs, ← h2]
        have ef : [nmG g i].filter (sameB g (nmG g k)) = [nmG g i] := by simp [hs]
        rw [ef]
        cases h4 : decide (i = k) with
        | true => simp only [cond_true, Option.bind_some, e2, e16, e17, e18, e19, Bool.and_self, Int.toNat_natCast, wrap_succ (show i < 4611686018427387904 by omega)]
        | false =>
          rw [h4, Bool.false_or] at hsb
          have h5 : rchB g (nmG g k) (nmG g i) = true ∧ rchB g (nmG g i) (nmG g k) = true := by simpa using hsb.symm
          simp only [h5.1, h5.2, cond_true, cond_false, Option.bind_some, e2, e16, e17, e18, e19, Bool.and_self, Int.toNat_natCast, wrap_succ (show i < 4611686018427387904 by omega)]
      | false =>
        rw [hs] at hsb
        rw [← doneI_skip g out (nmG g k) i hs, ← h2]
        have ef : [nmG g i].filter (sameB g (nmG g k)) = [] := by simp [hs]
        rw [ef, List.append_nil]
        have hsb := hsb.symm
        rw [Bool.or_eq_false_iff] at hsb
        rw [hsb.1]
        cases h5 : rchB g (nmG g k) (nmG g i) with
        | false => simp only [cond_false, Option.bind_some, wrap_succ (show i < 4611686018427387904 by omega)]
        | true =>
          have h6 : rchB g (nmG g i) (nmG g k) = false := by simpa [h5] using hsb.2
          simp only [h6, cond_true, cond_false, Option.bind_some, wrap_succ (show i < 4611686018427387904 by omega)])
    (fun q s _ => by simp [sOrderOf_L15, wholeL]) (out, doneL g out) ⟨by simp, (doneI_zero g out _).symm⟩
  rw [List.take_length] at h1
  rw [doneI_end] at h2
  rw [h1, h2] at h3
  exact h3

noncomputable def pickP (g : Gr) (out : List DotG) (c : DotG × List DotG) : Bool := wholeB g c.1 && (!(out.any (· == c.1)) && readyB g c.1 out)

theorem pick_s {O : Type} (g : Gr) (hg : GrOk g) (hu : UniG g) (out : List DotG) (ho : out.length ≤ 1000) (x) (r) : ∀ (m q k : Nat), k + m = g.length → m < q →
    sOrderOf_L10 O q (false, (k : Int), g, out, reachL g, wholeL g, doneL g out) x r = match (g.drop k).find? (pickP g out) with
      | none => x (false, g, out, reachL g, wholeL g, doneL g out)
      | some c => x (true, g, out ++ grpN g c.1, reachL g, wholeL g, doneL g (out ++ grpN g c.1))
  | 0, q + 1, k, he, _ => by
    have : k = g.length := by omega
    subst this
    rw [List.drop_length]
    simp [sOrderOf_L10, wholeL]
  | m + 1, q + 1, k, he, hq => by
    have hlen := hg.len
    have hk : k < g.length := by omega
    rw [List.drop_eq_getElem_cons hk, List.find?_cons]
    have ih := pick_s g hg hu out ho x r m q (k + 1) (by omega) (by omega)
    have e1 : decide ((k : Int) < (((wholeL g).length : Nat) : Int)) = true := by simp [wholeL]; omega
    have e2 : decide ((0 : Int) ≤ (k : Int)) = true := by simp
    have e3 : nth (wholeL g) (k : Int) = wholeB g g[k].1 := by rw [wholeL, nth_range _ _ _ hk, nm_get hk]
    have e4 : decide ((k : Int) < (((doneL g out).length : Nat) : Int)) = true := by simp [doneL]; omega
    have e5 : nth (doneL g out) (k : Int) = out.any (· == g[k].1) := by rw [doneL, nth_range _ _ _ hk, nm_get hk]
    simp only [sOrderOf_L10, e1, e2, e3, e4, e5, Bool.and_self, Bool.not_false, cond_true, wrap_succ (show k < 4611686018427387904 by omega), ih]
    unfold pickP
    cases hw : wholeB g g[k].1 with
    | false => rfl
    | true =>
      simp only [Bool.not_true, cond_false, Bool.true_and]
      cases ho2 : out.any (· == g[k].1) with
      | true => rfl
      | false =>
        have hwk : WholeG g (nmG g k) := by rw [nm_get hk]; exact wholeB_iff.1 hw
        have hr := ready_s g hg hu out k hk hwk
        rw [nm_get hk] at hr
        simp only [cond_false, hr, Option.bind_some, Bool.not_false, Bool.true_and]
        cases hrb : readyB g g[k].1 out with
        | false => rfl
        | true =>
          simp only [Bool.not_true, cond_false]
          rw [group_s g hg hu k hk out ho]
          dsimp only
          obtain ⟨q, rfl⟩ : ∃ q', q = q' + 1 := ⟨q - 1, by omega⟩
          rw [sOrderOf_L10, nm_get hk]
          simp only [Bool.not_true, cond_false]
          cases decide (IntKind.wrap .i64 ((k : Int) + 1) < (((wholeL g).length : Nat) : Int)) <;> rfl
  | _, 0, _, _, h => absurd h (Nat.not_lt_zero _)

theorem find_sel (g g' : Gr) (out : List DotG) : (((g'.map (·.1)).filter (wholeB g)).find? fun d => !(out.any (· == d)) && readyB g d out) = (g'.find? (pickP g out)).map (·.1) := by
  induction g' with
  | nil => rfl
  | cons c l ih =>
    rw [List.map_cons, List.filter_cons, List.find?_cons]
    have hp : pickP g out c = (wholeB g c.1 && (!(out.any (· == c.1)) && readyB g c.1 out)) := rfl
    rw [hp]
    cases wholeB g c.1 with
    | false => exact ih
    | true =>
      simp only [if_true, List.find?_cons, Bool.true_and]
      cases (!(out.any (· == c.1)) && readyB g c.1 out) with
      | true => rfl
      | false => exact ih

theorem order_outS (g : Gr) (hg : GrOk g) (hok : okB g = true) {w : List DotG} (ha : Asc w) (hw : ∀ x, x ∈ w ↔ WholeG g x) (hwe : w = (g.map (·.1)).filter (wholeB g)) : ∀ (q : Nat) (out : List DotG), OI g w out →
    sOrderOf_L7 (List DotG) (q + 1) (true, g, out, reachL g, wholeL g, doneL g out) some some = match ordG g w q out with
      | some l => some l
      | none => sOrderOf_L7 (List DotG) (q + 1) (true, g, out, reachL g, wholeL g, doneL g out) some some
  | 0, out, I => rfl
  | q + 1, out, I => by
    have hwl := whole_len hg ha hw
    have hlen := hg.len
    have hol := nodup_len I.nd I.sub
    have hu := asc_uni (ok_asc hok)
    have e : sOrderOf_L7 (List DotG) (q + 1 + 1) (true, g, out, reachL g, wholeL g, doneL g out) some some = match selG g w out with
        | none => some out
        | some d => sOrderOf_L7 (List DotG) (q + 1) (true, g, out ++ grpL g w d, reachL g, wholeL g, doneL g (out ++ grpL g w d)) some some := by
      rw [sOrderOf_L7]
      simp only [cond_true]
      have := pick_s g hg hu out (by omega) (fun (y : Bool × Gr × List DotG × List (List Bool) × List Bool × List Bool) => sOrderOf_L7 (List DotG) (q + 1) (y.1, y.2.1, y.2.2.1, y.2.2.2.1, y.2.2.2.2.1, y.2.2.2.2.2) some some) some g.length fuel 0 (by omega) (by rw [fuel_eq]; omega)
      refine this.trans ?_
      rw [List.drop_zero]
      have hsel : selG g w out = (g.find? (pickP g out)).map (·.1) := by
        unfold selG
        rw [hwe]
        exact find_sel g g out
      rw [hsel]
      cases hf : g.find? (pickP g out) with
      | none => rfl
      | some c =>
        have hd : c.1 ∈ w := (sel_some (hsel.trans (by rw [hf]; rfl))).1
        have hgrp : grpN g c.1 = grpL g w c.1 := by
          unfold grpN grpL
          rw [hwe, List.filter_filter]
          refine (List.filter_congr fun a _ => ?_)
          rw [Bool.eq_iff_iff, Bool.and_eq_true, sameB_iff, wholeB_iff]
          exact ⟨fun h => ⟨h, ((hw c.1).1 hd).same h⟩, fun h => h.1⟩
        simp only [Option.map_some]
        rw [hgrp]
    rw [ordG]
    cases hs : selG g w out with
    | none => rw [hs] at e; exact e
    | some d =>
      rw [hs] at e
      dsimp only at e ⊢
      have ih := order_outS g hg hok ha hw hwe q (out ++ grpL g w d) (I.step hw ha hs)
      cases ho : ordG g w q (out ++ grpL g w d) with
      | none => rfl
      | some l =>
        rw [ho] at ih
        rw [e]
        exact ih
end Go.Rx
/- The law of the order: for every code. -/
namespace Go.Rx

theorem order_mono {g : Gr} {w : List DotG} : ∀ (q p : Nat) (o y : List DotG), ordG g w q o = some y → ordG g w (q + p) o = some y := by
  intro q
  induction q with
  | zero => intro p o y h; simp [ordG] at h
  | succ q ih =>
    intro p o y h
    rw [show q + 1 + p = (q + p) + 1 from by omega]
    unfold ordG at h ⊢
    cases hs : selG g w o with
    | none => rw [hs] at h; exact h
    | some d => rw [hs] at h; exact ih p _ y h

/-- **The reference's order is the same.** -/
theorem order_s (g : Gr) (hg : GrOk g) (hok : okB g = true) {w : List DotG} (ha : Asc w) (hw : ∀ x, x ∈ w ↔ WholeG g x) (hwe : w = (g.map (·.1)).filter (wholeB g)) {l : List DotG} (hl : ordG g w 1100 [] = some l) : sOrderOf g = some l := by
  have hlen := hg.len
  have hu := asc_uni (ok_asc hok)
  have hf : fuel = fuel - 1 + 1 := by rw [fuel_eq]
  have h1 := order_mono 1100 (fuel - 1 - 1100) [] l hl
  rw [show 1100 + (fuel - 1 - 1100) = fuel - 1 from by rw [fuel_eq]] at h1
  have h2 := order_outS g hg hok ha hw hwe (fuel - 1) [] (OI.start g w)
  rw [h1, ← hf] at h2
  have e0 : sl8All g = some (reachL g, wholeL g) := allS g hg hu
  have e1 : decide ((0 : Int) ≤ (((wholeL g).length : Nat) : Int)) = true := by simp
  have e2 : decide ((((wholeL g).length : Nat) : Int) ≤ 4294967296) = true := by simp [wholeL]; omega
  have e3 : List.replicate (wholeL g).length false = doneL g [] := by
    unfold doneL wholeL
    refine List.ext_getElem (by simp) fun j _ _ => by simp
  simp only [sOrderOf, sGraph g hg, hok, Option.bind_some, Bool.not_true, cond_false, e0, e1, e2, e3, beq_self_eq_true, Bool.and_self, cond_true, Int.toNat_natCast]
  exact h2

theorem plG_pre {l pre post : List DotG} {d z : DotG} (hn : l.Nodup) (he : l = pre ++ d :: post) (hz : z ∈ pre) : plG l z < plG l d := by
  have hd : plG l d = (pre.length : Int) := by
    unfold plG
    have : l.findIdx? (fun x => x == d) = some pre.length := by
      rw [List.findIdx?_eq_some_iff_getElem]
      subst he
      refine ⟨by simp, by simp, fun j hj => ?_⟩
      rw [List.getElem_append_left hj]
      simp only [Bool.not_eq_true, beq_eq_false_iff_ne, ne_eq]
      intro e
      rw [List.nodup_append] at hn
      exact hn.2.2 _ (List.getElem_mem hj) _ (by simp) e
    rw [this]
  rw [hd]
  unfold plG
  cases hf : l.findIdx? (fun x => x == z) with
  | none => dsimp only; omega
  | some j =>
    dsimp only
    obtain ⟨i, hi, e⟩ := List.getElem_of_mem hz
    obtain ⟨hj, _, h3⟩ := List.findIdx?_eq_some_iff_getElem.1 hf
    have : ¬ i < j := fun hij => by
      have := h3 i hij
      subst he
      rw [List.getElem_append_left hi] at this
      simp [e] at this
    omega

theorem plG_ge {l : List DotG} {d : DotG} : decide (plG l d ≥ 0) = l.any (· == d) := by
  have := plG_neg (l := l) (d := d)
  cases h : l.any (· == d) with
  | true => rw [h] at this; simp at this ⊢; omega
  | false => rw [h] at this; simp at this ⊢; omega

theorem order_deps {O : Type} (g : Gr) (hg : GrOk g) {l grp : List DotG} (hl : lenG l) (hgr : lenG grp) (w : List DotG) (i : Nat) (hi : i < g.length) (k : Int) (hk : 0 ≤ k → ∀ z ∈ g[i].2, z ∈ grp ∨ plG l z < k) (x : (List DotG × Int × Gr × List DotG) → Option O) (r : Bool → Option O) :
    lFnOrder_L16 O fuel (w, (i : Int), k, grp, 0, g, l) x r = x (w, (i : Int), g, l) := by
  have hlen := hg.len
  have hdl := hg.dep _ (List.getElem_mem hi)
  have hlg := hl
  have hgg := hgr
  unfold lenG at hl hgr
  have e1 : decide ((0 : Int) ≤ (i : Int)) = true := by simp
  have e2 : decide ((i : Int) < ((g.length : Nat) : Int)) = true := by simp; omega
  have e3 : nth g (i : Int) = g[i] := nth_nat _ _ hi
  have stop : ∀ q, lFnOrder_L16 O (q + 1) (w, (i : Int), k, grp, ((g[i].2.length : Nat) : Int), g, l) x r = x (w, (i : Int), g, l) := fun q => by
    simp only [lFnOrder_L16, e1, e2, e3, Bool.and_self, cond_true]
    simp
  by_cases h0 : 0 ≤ k
  · have := loop0 g[i].2 (by omega) (fun q n (_ : Unit) => lFnOrder_L16 O q (w, (i : Int), k, grp, n, g, l) x r) (fun _ _ s c => c s) (fun _ => x (w, (i : Int), g, l))
      (fun q n hn s => by
        have e4 : decide ((n : Int) < ((g[i].2.length : Nat) : Int)) = true := by simp; omega
        have e5 : decide (k ≥ 0) = true := by simpa using h0
        have e6 : decide ((0 : Int) ≤ (n : Int)) = true := by simp
        have e7 : lplace (grp, (nth g[i].2 (n : Int)).1, (nth g[i].2 (n : Int)).2) = some (plG grp g[i].2[n]) := by rw [nth_nat _ _ hn]; exact gPlace grp _ hgg
        have e8 : lplace (l, (nth g[i].2 (n : Int)).1, (nth g[i].2 (n : Int)).2) = some (plG l g[i].2[n]) := by rw [nth_nat _ _ hn]; exact gPlace l _ hlg
        simp only [lFnOrder_L16, e1, e2, e3, e4, e5, e6, e7, e8, Bool.and_self, cond_true, Option.bind_some, wrap_succ (show n < 4611686018427387904 by omega)]
        rcases hk h0 _ (List.getElem_mem hn) with h | h
        · have e9 : decide (plG grp g[i].2[n] < 0) = false := by rw [plG_neg, any_mem.2 h]; rfl
          rw [e9]; rfl
        · have e9 : decide (plG l g[i].2[n] ≥ k) = false := by simp; omega
          rw [e9]
          cases decide (plG grp g[i].2[n] < 0) <;> rfl) (fun q s => stop q) ()
    exact this.trans (runL_skip _ _ 0 ())
  · have hf : fuel = (fuel - 1) + 1 := by rw [fuel_eq]
    rw [hf, lFnOrder_L16]
    have e5 : decide (k ≥ 0) = false := by simpa using h0
    simp only [e1, e2, e3, e5, Bool.and_self, cond_true, cond_false]
    cases decide ((0 : Int) < ((g[i].2.length : Nat) : Int)) <;> rfl

theorem order_items (g : Gr) (hg : GrOk g) {w l : List DotG} (hl : lenG l) (hwl : lenG w) (hm : ∀ x, x ∈ l ↔ x ∈ w) (hgr : ∀ i, (hi : i < g.length) → ∃ grp, iGroup (g, g[i].1) = some grp ∧ lenG grp ∧ (0 ≤ plG l g[i].1 → ∀ z ∈ g[i].2, z ∈ grp ∨ plG l z < plG l g[i].1)) :
    lFnOrder_L9 Bool fuel (w, 0, g, l) (fun _ => some true) some = some true := by
  have hlen := hg.len
  have := loop0 g (by omega) (fun q i (_ : Unit) => lFnOrder_L9 Bool q (w, i, g, l) (fun _ => some true) some) (fun _ _ s c => c s) (fun _ => some true)
    (fun q i hi s => by
      obtain ⟨grp, h1, h2, h3⟩ := hgr i hi
      have e1 : decide ((0 : Int) ≤ (i : Int)) = true := by simp
      have e2 : decide ((i : Int) < ((g.length : Nat) : Int)) = true := by simp; omega
      have e3 : nth g (i : Int) = g[i] := nth_nat _ _ hi
      have e4 : lplace (l, g[i].1.1, g[i].1.2) = some (plG l g[i].1) := gPlace l _ hl
      have e5 : lplace (w, g[i].1.1, g[i].1.2) = some (plG w g[i].1) := gPlace w _ hwl
      have e6 : iGroup (g, g[i].1.1, g[i].1.2) = some grp := h1
      have e7 : (decide (plG l g[i].1 ≥ 0) == decide (plG w g[i].1 ≥ 0)) = true := by
        rw [plG_ge, plG_ge, beq_iff_eq, Bool.eq_iff_iff, any_mem, any_mem]
        exact hm _
      simp only [lFnOrder_L9, e1, e2, e3, e4, e5, e6, e7, Bool.and_self, cond_true, Option.bind_some, Bool.not_true, cond_false]
      rw [order_deps g hg hl h2 w i hi (plG l g[i].1) h3]
      simp only [wrap_succ (show i < 4611686018427387904 by omega)]) (fun q s => by simp [lFnOrder_L9]) ()
  exact this.trans (runL_skip _ g 0 ())

/-- **A drawn graph's order.** -/
theorem law_order (code : List Int) : lFnOrder code = some true := by
  by_cases hc : code.length ≤ 1048576
  · obtain ⟨g, e, m⟩ := drawOrder_ok code hc
    have hg : GrOk g := m.ok (by omega)
    have hlen := hg.len
    have hbig : lbig code = some false := by
      simp only [lbig]
      congr 1
      simp; omega
    simp only [lFnOrder, hbig, Option.bind_some, cond_false, e]
    rcases whole_all g hg (okB g) (iGraph g hg) with ⟨hok, w, h1, h2, h3⟩ | ⟨hok, h1⟩
    · have hwe : w = (g.map (·.1)).filter (wholeB g) := by
        have := whole_same g hg w h1
        rw [wholeS g hg, hok, if_pos rfl] at this
        exact (Option.some.inj this).symm
      have hwl := whole_len hg h2 h3
      have hu := asc_uni (ok_asc hok)
      obtain ⟨l, k1, k2, k3, k4⟩ := order_i g hg hok h2 h3 h1
      have k5 := order_s g hg hok h2 h3 hwe k2
      have k6 := ord_len h2 k3 k4
      have e1 : (((l.length : Nat) : Int) != ((w.length : Nat) : Int)) = false := by rw [k6]; simp
      have e2 : lsameDots (l, l) = some true := by rw [gSame l l (by unfold lenOk; omega)]; simp
      simp only [k1, h1, Option.bind_some, e1, cond_false, k5, e2, Bool.not_true]
      refine order_items g hg (by unfold lenG; omega) (by unfold lenG; omega) k4 fun i hi => ?_
      by_cases hd : g[i].1 ∈ w
      · have hgl := grpL_len g w g[i].1
        refine ⟨grpL g w g[i].1, group_grp g hg hok h2 h3 hd, by unfold lenG; omega, fun _ z hz => ?_⟩
        obtain ⟨pre, post, hp⟩ := List.append_of_mem ((k4 _).2 hd)
        have hz' : z ∈ depsG g g[i].1 := by rw [← nm_get hi, (uni_find hu hi).2.2, dp_get hi]; exact hz
        rcases k3.bef pre _ post hp z hz' with h | h
        · left
          rw [grpL, List.mem_filter, sameB_iff]
          exact ⟨whole_dep h3 hd hz', h⟩
        · exact .inr (plG_pre k3.nd hp h)
      · rcases group_all g hg g[i].1 (okB g) (iGraph g hg) with ⟨j1, _⟩ | ⟨_, j2⟩
        · exact absurd ((h3 _).2 j1) hd
        · refine ⟨[], j2, by unfold lenG; simp, fun h => ?_⟩
          exfalso
          have : decide (plG l g[i].1 ≥ 0) = true := by simpa using h
          rw [plG_ge, any_mem, k4] at this
          exact hd this
    · have hf : fuel = (fuel - 2) + 1 + 1 := by rw [fuel_eq]
      have k1 : iOrderOf g = some [] := by
        simp only [iOrderOf, h1, Option.bind_some]
        rw [hf, iOrderOf_L4]
        simp only [cond_true]
        have : ∀ {O : Type} (x : (List DotG × Bool × Gr × List DotG) → Option O) (r), iOrderOf_L7 O fuel (([] : List DotG), false, [], ((([] : List DotG).length : Nat) : Int), 0, g, []) x r = x ([], false, g, []) := by
          intro O x r
          rw [hf, iOrderOf_L7]
          rfl
        rw [this]
        rw [iOrderOf_L4]
        rfl
      have k2 : sOrderOf g = some [] := by simp only [sOrderOf, sGraph g hg, hok, Option.bind_some, Bool.not_false, cond_true]
      have e2 : lsameDots (([] : List DotG), []) = some true := by rw [gSame [] [] (by unfold lenOk; simp)]; simp
      simp only [k1, h1, Option.bind_some, k2, e2, Bool.not_true, cond_false]
      rw [show (((([] : List DotG).length : Nat) : Int) != ((([] : List DotG).length : Nat) : Int)) = false from rfl]
      simp only [cond_false]
      refine order_items g hg (by unfold lenG; simp) (by unfold lenG; simp) (fun x => Iff.rfl) fun i hi => ?_
      rcases group_all g hg g[i].1 (okB g) (iGraph g hg) with ⟨_, j1, _⟩ | ⟨_, j2⟩
      · rw [hok] at j1; cases j1
      · exact ⟨[], j2, by unfold lenG; simp, fun h => by simp [plG] at h⟩
  · have hbig : lbig code = some true := by
      simp only [lbig]
      congr 1
      rw [decide_eq_true_eq]
      omega
    simp only [lFnOrder, hbig, Option.bind_some, cond_true]
end Go.Rx
