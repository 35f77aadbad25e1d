import Derived.Test.YtecdihlfbncedaaGreatDoorRxC
import Derived.Laws.StructEq
import Derived.KernelRfl
import Derived.Carry
import Derived.RowKit
import Derived.ChangeArms
import Derived.ChangeShapes
import Derived.OpenShut
import Derived.ShutString
import Derived.ChangeOld
import Derived.WideShapes
import Derived.ChangeMaps5
import Derived.IntWalk
set_option linter.all false
/- Shapes of states: what a loop begins with, what is left behind a join. -/
namespace Go.Rx
variable [Tabs]

inductive CSh where
  | val (τ : Ty) | nils | own (id : Nat) | ptr (id off : Nat) | rptr (c : Ty) | nilp | dead

inductive VSh where
  | one (c : CSh) | agg (cs : List CSh)

inductive BSh where
  | dead | vars (t : TypeId) (cs : List CSh) | arr (e : TypeId) (c : Ty) | ro (e : TypeId) (c : Ty)

structure Sh where
  n : Nat                       -- how many temporaries
  tmps : List (Nat × VSh)       -- the ones that live
  heap : List BSh
  refs : List Nat

def CSh.tys : CSh → List Ty
  | .val τ => [τ]
  | .rptr c => [c]
  | _ => []
def CSh.tysL (cs : List CSh) : List Ty := (cs.map CSh.tys).flatten
def VSh.tys : VSh → List Ty
  | .one c => c.tys
  | .agg cs => CSh.tysL cs
def BSh.tys : BSh → List Ty
  | .vars _ cs => CSh.tysL cs
  | .arr _ c | .ro _ c => [.sl c]
  | .dead => []
def Sh.tys (sh : Sh) : List Ty := (sh.tmps.map fun p => p.2.tys).flatten ++ (sh.heap.map BSh.tys).flatten
def Sh.den (sh : Sh) : Type := (Ty.prod sh.tys).den

/-- A tuple, as items. -/
def itemsOf : (ts : List Ty) → (Ty.prod ts).den → List C
  | [], _ => []
  | [a], x => [.val a x]
  | a :: b :: ts, x => .val a x.1 :: itemsOf (b :: ts) x.2

def tupleOf : (ts : List Ty) → List C → Option (Ty.prod ts).den
  | [], [] => some ()
  | [a], [.val _ x] => castTy x
  | a :: b :: ts, .val _ x :: cs => match castTy (τ' := a) x, tupleOf (b :: ts) cs with
    | some y, some z => some (y, z)
    | _, _ => none
  | _, _ => none

/-! ### From items to a state -/
def fillC : CSh → List C → Option (C × List C)
  | .val τ, .val τ' x :: is => match castTy (τ' := τ) x with | some y => some (.val τ y, is) | none => none
  | .rptr c, .val τ' x :: is => match castTy (τ' := c) x with | some y => some (.rptr c y, is) | none => none
  | .nils, is => some (.nils, is)
  | .own id, is => some (.own id, is)
  | .ptr id o, is => some (.ptr id o, is)
  | .nilp, is => some (.nilp, is)
  | .dead, is => some (.dead, is)
  | _, _ => none

def fillCs : List CSh → List C → Option (List C × List C)
  | [], is => some ([], is)
  | c :: cs, is => match fillC c is with
    | some (x, is) => match fillCs cs is with
      | some (xs, is) => some (x :: xs, is)
      | none => none
    | none => none

def fillV : VSh → List C → Option (V × List C)
  | .one c, is => match fillC c is with | some (x, is) => some (.one x, is) | none => none
  | .agg cs, is => match fillCs cs is with | some (xs, is) => some (.agg xs, is) | none => none

def fillB : BSh → List C → Option (Blk × List C)
  | .dead, is => some (.dead, is)
  | .vars t cs, is => match fillCs cs is with | some (xs, is) => some (.vars t xs, is) | none => none
  | .arr e c, .val τ' x :: is => match castTy (τ' := .sl c) x with | some y => some (.arr e c y, is) | none => none
  | .ro e c, .val τ' x :: is => match castTy (τ' := .sl c) x with | some y => some (.ro e c y, is) | none => none
  | _, _ => none

def fillTmps : List (Nat × VSh) → List C → List V → Option (List V × List C)
  | [], is, ts => some (ts, is)
  | (t, v) :: l, is, ts => match fillV v is with
    | some (x, is) => fillTmps l is (ts.set t x)
    | none => none

def fillHeap : List BSh → List C → Option (Heap × List C)
  | [], is => some ([], is)
  | b :: bs, is => match fillB b is with
    | some (x, is) => match fillHeap bs is with
      | some (xs, is) => some (x :: xs, is)
      | none => none
    | none => none

def Sh.enc (sh : Sh) (x : sh.den) : St :=
  match fillTmps sh.tmps (itemsOf sh.tys x) (List.replicate sh.n .undef) with
  | some (ts, is) => match fillHeap sh.heap is with
    | some (h, []) => { tmps := ts, heap := h, refs := sh.refs }
    | _ => { tmps := [], heap := [], refs := [] }
  | none => { tmps := [], heap := [], refs := [] }

/-! ### From a state to items; 'm': the shape's ids, and the state's (none: a list without an array) -/
abbrev IdMap := List (Nat × Option Nat)

def IdMap.bind1 (m : IdMap) (id : Nat) (o : Option Nat) : Option IdMap :=
  match m.find? (fun p => p.1 == id) with
  | some p => match p.2, o with
    | some a, some b => if a == b then some m else none
    | _, _ => none
  | none => match o with
    | some b => if m.any (fun p => p.2 == some b) then none else some ((id, o) :: m)
    | none => some ((id, o) :: m)

def matchC (h : Heap) (m : IdMap) : CSh → C → Option (List C × IdMap)
  | .val τ, c => match cellTo false h τ c with | some x => some ([.val τ x], m) | none => none
  | .nils, .nils => some ([], m)
  | .own id, .own i => match m.bind1 id (some i) with | some m => some ([], m) | none => none
  | .own id, .nils => match m.bind1 id none with | some m => some ([], m) | none => none
  | .ptr id o, .ptr i o' => if o = o' then match m.bind1 id (some i) with | some m => some ([], m) | none => none else none
  | .rptr c, .rptr c' x => match castTy (τ' := c) x with | some y => some ([.val c y], m) | none => none
  | .nilp, .nilp => some ([], m)
  | .dead, _ => some ([], m)
  | _, _ => none

def matchCs (h : Heap) (m : IdMap) : List CSh → List C → Option (List C × IdMap)
  | [], [] => some ([], m)
  | s :: ss, c :: cs => match matchC h m s c with
    | some (is, m) => match matchCs h m ss cs with
      | some (js, m) => some (is ++ js, m)
      | none => none
    | none => none
  | _, _ => none

def matchV (h : Heap) (m : IdMap) : VSh → V → Option (List C × IdMap)
  | .one s, .one c => matchC h m s c
  | .agg ss, .agg cs => matchCs h m ss cs
  | _, _ => none

def matchTmps (h : Heap) (ts : List V) : IdMap → List (Nat × VSh) → Option (List C × IdMap)
  | m, [] => some ([], m)
  | m, (t, v) :: l => match matchV h m v (ts.getD t .undef) with
    | some (is, m) => match matchTmps h ts m l with
      | some (js, m) => some (is ++ js, m)
      | none => none
    | none => none

def matchB (h : Heap) (m : IdMap) : BSh → Option Nat → Option (List C × IdMap)
  | .dead, none => some ([], m)
  | .dead, some i => match h.getD i .free with
    | .arr .. | .ro .. | .dead => some ([], m)
    | _ => none
  | .vars t ss, some i => match h.getD i .free with
    | .vars t' cs => if t = t' then matchCs h m ss cs else none
    | _ => none
  | .arr e c, some i => match h.getD i .free with
    | .arr e' c' xs => if e = e' then match castTy (τ := .sl c') (τ' := .sl c) xs with | some y => some ([.val (.sl c) y], m) | none => none else none
    | _ => none
  | .arr _ c, none => some ([.val (.sl c) []], m)
  | .ro e c, some i => match h.getD i .free with
    | .ro e' c' xs => if e = e' then match castTy (τ := .sl c') (τ' := .sl c) xs with | some y => some ([.val (.sl c) y], m) | none => none else none
    | _ => none
  | _, _ => none

def matchHeap (h : Heap) : IdMap → Nat → List BSh → Option (List C × IdMap)
  | m, _, [] => some ([], m)
  | m, k, b :: bs => match m.find? (fun p => p.1 == k) with
    | some p => match matchB h m b p.2 with
      | some (is, m) => match matchHeap h m (k + 1) bs with
        | some (js, m) => some (is ++ js, m)
        | none => none
      | none => none
    | none => match b with
      | .dead => matchHeap h m (k + 1) bs
      | _ => none

def matchRefs : IdMap → List Nat → List Nat → Option IdMap
  | m, [], [] => some m
  | m, a :: as, b :: bs => match m.bind1 a (some b) with
    | some m => matchRefs m as bs
    | none => none
  | _, _, _ => none

/-- A name of the shape stands for a block of its kind. -/
def okName (h : Heap) (hs : List BSh) (p : Nat × Option Nat) : Bool := match hs[p.1]?, p.2 with
  | none, _ => false
  | some .dead, some i => match h.getD i .free with
    | .arr .. | .ro .. | .dead => true
    | _ => false
  | _, _ => true

def Sh.dec0 (sh : Sh) (s : St) : Option sh.den :=
  if s.tmps.length = sh.n then
    match matchRefs [] sh.refs s.refs with
    | some m => match matchTmps s.heap s.tmps m sh.tmps with
      | some (is, m) => match matchHeap s.heap m 0 sh.heap with
        | some (js, m) => if m.all (okName s.heap sh.heap) then tupleOf sh.tys (is ++ js) else none
        | none => none
      | none => none
    | none => none
  else none

/-! ### Lists of our own that are trees from now on -/
def frzCs : List CSh → List C → List Nat
  | s :: ss, c :: cs => match s, c with
    | .val _, .own i => i :: frzCs ss cs
    | _, _ => frzCs ss cs
  | _, _ => []
def Sh.frzB (sh : Sh) (h : Heap) (k i : Nat) : List Nat := match sh.heap[k]?, h.getD i .free with
  | some (.vars _ ss), .vars _ cs => frzCs ss cs
  | _, _ => []
def Sh.frzV (sh : Sh) (h : Heap) : VSh → V → List Nat
  | .one (.val _), .one (.own i) => [i]
  | .one (.ptr k _), .one (.ptr i _) => sh.frzB h k i
  | .agg ss, .agg cs => frzCs ss cs
  | _, _ => []
def Sh.frzIds (sh : Sh) (s : St) : List Nat :=
  (sh.tmps.map fun p => sh.frzV s.heap p.2 (s.tmps.getD p.1 .undef)).flatten ++ ((sh.refs.zip s.refs).map fun p => sh.frzB s.heap p.1 p.2).flatten

def Sh.dec (sh : Sh) (s : St) : Option sh.den := match frz (sh.frzIds s) s.heap with
  | some us => sh.dec0 { s with heap := sets us s.heap }
  | none => none
end Go.Rx
/- A state read through a shape is the shape's state: relations. -/
namespace Go.Rx
variable [Tabs]

theorem tuple_items : ∀ {ts : List Ty} {cs : List C} {y : (Ty.prod ts).den}, tupleOf ts cs = some y → itemsOf ts y = cs
  | [], [], y, _ => rfl
  | [], _ :: _, y, e => by simp [tupleOf] at e
  | [a], [c], y, e => by
    cases c with
    | val τ x =>
      have e : castTy (τ' := a) x = some (y : a.den) := e
      obtain ⟨hτ, hx⟩ := castTy_eq e
      subst hτ
      have hx : x = y := hx
      subst hx
      rfl
    | _ => simp [tupleOf] at e
  | [a], [], y, e => by simp [tupleOf] at e
  | [a], c :: d :: cs, y, e => by cases c <;> simp [tupleOf] at e
  | a :: b :: ts, [], y, e => by simp [tupleOf] at e
  | a :: b :: ts, c :: cs, y, e => by
    cases c with
    | val τ x =>
      simp only [tupleOf] at e
      split at e
      · rename_i u v hu hv
        cases e
        obtain ⟨rfl, rfl⟩ := castTy_eq hu
        simp only [itemsOf]
        rw [tuple_items hv]
      · cases e
    | _ => simp [tupleOf] at e

def MInv (m : IdMap) : Prop := (∀ k a b, (k, a) ∈ m → (k, b) ∈ m → a = b) ∧ (∀ k j i, (k, some i) ∈ m → (j, some i) ∈ m → k = j)

theorem bind1_spec {m m' : IdMap} {id : Nat} {o : Option Nat} (e : m.bind1 id o = some m') (hi : MInv m) : (id, o) ∈ m' ∧ m ⊆ m' ∧ MInv m' := by
  unfold IdMap.bind1 at e
  split at e
  · rename_i p hp
    have hpm := List.mem_of_find?_eq_some hp
    have hpk : p.1 = id := by simpa using List.find?_some hp
    split at e
    · rename_i a b ha
      split at e
      · rename_i hab
        cases e
        have : a = b := by simpa using hab
        subst this
        exact ⟨by rw [← hpk, ← ha]; exact hpm, fun _ h => h, hi⟩
      · cases e
    · cases e
  · rename_i hnone
    have hnk : ∀ a, (id, a) ∉ m := fun a ha => by
      have := List.find?_eq_none.1 hnone _ ha
      simp at this
    have key : ∀ o', (∀ i, o' = some i → ∀ k, (k, some i) ∉ m) → MInv ((id, o') :: m) := by
      intro o' ho
      refine ⟨fun k a b ha hb => ?_, fun k j i hk hj => ?_⟩
      · rcases List.mem_cons.1 ha with ha1 | ha1 <;> rcases List.mem_cons.1 hb with hb1 | hb1
        · cases ha1; cases hb1; rfl
        · cases ha1; exact absurd hb1 (hnk _)
        · cases hb1; exact absurd ha1 (hnk _)
        · exact hi.1 k a b ha1 hb1
      · rcases List.mem_cons.1 hk with hk1 | hk1 <;> rcases List.mem_cons.1 hj with hj1 | hj1
        · cases hk1; cases hj1; rfl
        · cases hk1; exact absurd hj1 (ho i rfl j)
        · cases hj1; exact absurd hk1 (ho i rfl k)
        · exact hi.2 k j i hk1 hj1
    split at e
    · rename_i b
      split at e
      · cases e
      · rename_i hany
        cases e
        refine ⟨by simp, fun _ h => List.mem_cons_of_mem _ h, key _ fun i h k hk => ?_⟩
        cases h
        apply hany
        rw [List.any_eq_true]
        exact ⟨_, hk, by simp⟩
    · cases e
      exact ⟨by simp, fun _ h => List.mem_cons_of_mem _ h, key _ fun i h => by cases h⟩

/-- A cell of the shape's state, and the state's. -/
inductive RC (h : Heap) (M : IdMap) : C → C → Prop
  | val {τ c x} (e : cellTo false h τ c = some x) : RC h M (.val τ x) c
  | nils : RC h M .nils .nils
  | own {id i} (e : (id, some i) ∈ M) : RC h M (.own id) (.own i)
  | ownN {id} (e : (id, none) ∈ M) : RC h M (.own id) .nils
  | ptr {id i o} (e : (id, some i) ∈ M) : RC h M (.ptr id o) (.ptr i o)
  | rptr {c x} : RC h M (.rptr c x) (.rptr c x)
  | nilp : RC h M .nilp .nilp
  | dead {c} : RC h M .dead c

theorem RC.mono {h : Heap} {M M' : IdMap} (hs : M ⊆ M') {x y : C} (r : RC h M x y) : RC h M' x y := by
  cases r with
  | val e => exact .val e
  | nils => exact .nils
  | own e => exact .own (hs e)
  | ownN e => exact .ownN (hs e)
  | ptr e => exact .ptr (hs e)
  | rptr => exact .rptr
  | nilp => exact .nilp
  | dead => exact .dead

theorem castTy_self {τ : Ty} (x : τ.den) : castTy (τ' := τ) x = some x := by unfold castTy; simp

section
variable {h : Heap}

theorem matchC_spec {m m' : IdMap} {c : CSh} {x : C} {is : List C} (e : matchC h m c x = some (is, m')) (hi : MInv m) :
    m ⊆ m' ∧ MInv m' ∧ ∀ rest, ∃ x', fillC c (is ++ rest) = some (x', rest) ∧ RC h m' x' x := by
  unfold matchC at e
  split at e
  · split at e
    · rename_i hx
      cases e
      exact ⟨fun _ h => h, hi, fun rest => ⟨_, by simp only [List.singleton_append, fillC, castTy_self], .val hx⟩⟩
    · cases e
  · cases e; exact ⟨fun _ h => h, hi, fun rest => ⟨_, rfl, .nils⟩⟩
  · split at e
    · rename_i hb; cases e
      obtain ⟨h1, h2, h3⟩ := bind1_spec hb hi
      exact ⟨h2, h3, fun rest => ⟨_, rfl, .own h1⟩⟩
    · cases e
  · split at e
    · rename_i hb; cases e
      obtain ⟨h1, h2, h3⟩ := bind1_spec hb hi
      exact ⟨h2, h3, fun rest => ⟨_, rfl, .ownN h1⟩⟩
    · cases e
  · split at e
    · rename_i ho
      subst ho
      split at e
      · rename_i hb; cases e
        obtain ⟨h1, h2, h3⟩ := bind1_spec hb hi
        exact ⟨h2, h3, fun rest => ⟨_, rfl, .ptr h1⟩⟩
      · cases e
    · cases e
  · split at e
    · rename_i hy
      cases e
      obtain ⟨rfl, rfl⟩ := castTy_eq hy
      exact ⟨fun _ h => h, hi, fun rest => ⟨_, by simp only [List.singleton_append, fillC, castTy_self], .rptr⟩⟩
    · cases e
  · cases e; exact ⟨fun _ h => h, hi, fun rest => ⟨_, rfl, .nilp⟩⟩
  · cases e; exact ⟨fun _ h => h, hi, fun rest => ⟨_, rfl, .dead⟩⟩
  · cases e

theorem matchCs_spec : ∀ {ss : List CSh} {cs : List C} {m m' : IdMap} {is : List C}, matchCs h m ss cs = some (is, m') → MInv m →
    m ⊆ m' ∧ MInv m' ∧ ∀ rest, ∃ xs, fillCs ss (is ++ rest) = some (xs, rest) ∧ All2 (RC h m') xs cs
  | [], [], m, m', is, e, hi => by
    simp only [matchCs, Option.some.injEq, Prod.mk.injEq] at e
    obtain ⟨rfl, rfl⟩ := e
    exact ⟨fun _ h => h, hi, fun rest => ⟨[], rfl, .nil⟩⟩
  | [], _ :: _, _, _, _, e, _ => by simp [matchCs] at e
  | _ :: _, [], _, _, _, e, _ => by simp [matchCs] at e
  | s :: ss, c :: cs, m, m', is, e, hi => by
    simp only [matchCs] at e
    split at e
    · rename_i is1 m1 h1
      split at e
      · rename_i is2 m2 h2
        cases e
        obtain ⟨a1, a2, a3⟩ := matchC_spec h1 hi
        obtain ⟨b1, b2, b3⟩ := matchCs_spec h2 a2
        refine ⟨fun _ h => b1 (a1 h), b2, fun rest => ?_⟩
        obtain ⟨x, hx, rx⟩ := a3 (is2 ++ rest)
        obtain ⟨xs, hxs, rxs⟩ := b3 rest
        exact ⟨x :: xs, by simp only [fillCs, List.append_assoc, hx, hxs], .cons (rx.mono b1) rxs⟩
      · cases e
    · cases e

/-- Values. -/
inductive RV (h : Heap) (M : IdMap) : V → V → Prop
  | one {x y} (r : RC h M x y) : RV h M (.one x) (.one y)
  | agg {xs ys} (r : All2 (RC h M) xs ys) : RV h M (.agg xs) (.agg ys)

theorem RV.mono {M M' : IdMap} (hs : M ⊆ M') {x y : V} (r : RV h M x y) : RV h M' x y := by
  cases r with
  | one r => exact .one (r.mono hs)
  | agg r => exact .agg (All2.mono (fun _ _ => RC.mono hs) r)

theorem matchV_spec {m m' : IdMap} {v : VSh} {x : V} {is : List C} (e : matchV h m v x = some (is, m')) (hi : MInv m) :
    m ⊆ m' ∧ MInv m' ∧ ∀ rest, ∃ x', fillV v (is ++ rest) = some (x', rest) ∧ RV h m' x' x := by
  unfold matchV at e
  split at e
  · obtain ⟨a1, a2, a3⟩ := matchC_spec e hi
    refine ⟨a1, a2, fun rest => ?_⟩
    obtain ⟨x, hx, rx⟩ := a3 rest
    exact ⟨_, by simp only [fillV, hx], .one rx⟩
  · obtain ⟨a1, a2, a3⟩ := matchCs_spec e hi
    refine ⟨a1, a2, fun rest => ?_⟩
    obtain ⟨x, hx, rx⟩ := a3 rest
    exact ⟨_, by simp only [fillV, hx], .agg rx⟩
  · cases e

/-- Blocks. -/
inductive RB (h : Heap) (M : IdMap) : Blk → Option Nat → Prop
  | deadN : RB h M .dead none
  | dead {i x} (e : h[i]? = some x) (hl : x.isL = true) : RB h M .dead (some i)
  | vars {t cs' cs i} (e : h[i]? = some (.vars t cs)) (r : All2 (RC h M) cs' cs) : RB h M (.vars t cs') (some i)
  | arr {e c xs i} (hg : h[i]? = some (.arr e c xs)) : RB h M (.arr e c xs) (some i)
  | arrN {e c} : RB h M (.arr e c []) none
  | ro {e c xs i} (hg : h[i]? = some (.ro e c xs)) : RB h M (.ro e c xs) (some i)

theorem RB.mono {M M' : IdMap} (hs : M ⊆ M') {b : Blk} {o : Option Nat} (r : RB h M b o) : RB h M' b o := by
  cases r with
  | deadN => exact .deadN
  | dead e hl => exact .dead e hl
  | vars e r => exact .vars e (All2.mono (fun _ _ => RC.mono hs) r)
  | arr hg => exact .arr hg
  | arrN => exact .arrN
  | ro hg => exact .ro hg

theorem matchB_spec {m m' : IdMap} {b : BSh} {o : Option Nat} {is : List C} (e : matchB h m b o = some (is, m')) (hi : MInv m) :
    m ⊆ m' ∧ MInv m' ∧ ∀ rest, ∃ x, fillB b (is ++ rest) = some (x, rest) ∧ RB h m' x o := by
  unfold matchB at e
  split at e
  · cases e; exact ⟨fun _ h => h, hi, fun rest => ⟨_, rfl, .deadN⟩⟩
  · split at e
    · rename_i hg; cases e; exact ⟨fun _ h => h, hi, fun rest => ⟨_, rfl, .dead (getD_some hg (by simp)) rfl⟩⟩
    · rename_i hg; cases e; exact ⟨fun _ h => h, hi, fun rest => ⟨_, rfl, .dead (getD_some hg (by simp)) rfl⟩⟩
    · rename_i hg; cases e; exact ⟨fun _ h => h, hi, fun rest => ⟨_, rfl, .dead (getD_some hg (by simp)) rfl⟩⟩
    · cases e
  · split at e
    · rename_i hg
      split at e
      · rename_i ht
        subst ht
        obtain ⟨a1, a2, a3⟩ := matchCs_spec e hi
        refine ⟨a1, a2, fun rest => ?_⟩
        obtain ⟨xs, hx, rx⟩ := a3 rest
        exact ⟨_, by simp only [fillB, hx], .vars (getD_some hg (by simp)) rx⟩
      · cases e
    · cases e
  · split at e
    · rename_i hg
      split at e
      · rename_i ht
        subst ht
        split at e
        · rename_i y hy
          cases e
          obtain ⟨hτ, hxy⟩ := castTy_eq hy
          cases hτ
          have hxy : _ = y := hxy
          subst hxy
          exact ⟨fun _ h => h, hi, fun rest => ⟨_, by simp only [List.singleton_append, fillB, castTy_self], .arr (getD_some hg (by simp))⟩⟩
        · cases e
      · cases e
    · cases e
  · rename_i e0 c0
    cases e
    exact ⟨fun _ h => h, hi, fun rest => ⟨.arr e0 c0 [], by simp only [List.singleton_append, fillB, castTy_self], .arrN⟩⟩
  · split at e
    · rename_i hg
      split at e
      · rename_i ht
        subst ht
        split at e
        · rename_i y hy
          cases e
          obtain ⟨hτ, hxy⟩ := castTy_eq hy
          cases hτ
          have hxy : _ = y := hxy
          subst hxy
          exact ⟨fun _ h => h, hi, fun rest => ⟨_, by simp only [List.singleton_append, fillB, castTy_self], .ro (getD_some hg (by simp))⟩⟩
        · cases e
      · cases e
    · cases e
  · cases e
end
end Go.Rx
/- Code: regions, branches, blocks, loops by summaries. -/
namespace Go.Rx
variable [Tabs]

/-- The number of the first region. -/
def firstReg : Code → Option Nat
  | .region id _ _ => some id
  | .seq a b => match firstReg a with | some i => some i | none => firstReg b
  | .cond _ a b => match firstReg a with | some i => some i | none => firstReg b
  | .block _ b => firstReg b
  | .loop b => firstReg b
  | _ => none

def loopKey (b : Code) : Nat := (firstReg b).getD 0

structure Hints where
  join : Nat → Option Sh            -- by the first region behind the join
  joinX : Nat → Option Sh           -- the same, where the code ahead may leave
  order : Nat → Option (List Nat)   -- of a region whose order is open

abbrev Loops (T : Type) := (O : Type) → Nat → St → (Nat → St → Option O) → (T → Option O) → Option O

def regionC (X : Ctx) (H : Hints) (id : Nat) (ops : Array Oper) (draw : Bool) (s : St) : Tr St :=
  if draw then regionDraw X ops (match H.order id with | some l => l | none => List.range ops.size) [] s else regionOps X ops.toList ops.toList s

def cps (X : Ctx) (H : Hints) {T : Type} (fin : St → Option T) (Λ : Loops T) : Code → (O : Type) → St → (St → Option O) → (Nat → St → Option O) → (T → Option O) → Option O
  | .skip, _, s, n, _, _ => n s
  | .region id ops draw, _, s, n, _, _ => (regionC X H id ops draw s).run n
  | .seq a b, O, s, n, x, r => match (firstReg b).bind H.join with
    | none => match (firstReg b).bind H.joinX with
      | none => cps X H fin Λ a O s (fun s => cps X H fin Λ b O s n x r) x r
      | some sh => (cps X H fin Λ a (sh.den ⊕ O) s (fun s => (sh.dec s).map .inl) (fun i s => (x i s).map .inr) (fun v => (r v).map .inr)).bind fun z => match z with
        | .inl y => cps X H fin Λ b O (sh.enc y) n x r
        | .inr o => some o
    | some sh => (cps X H fin Λ a sh.den s sh.dec (fun _ _ => none) (fun _ => none)).bind fun y => cps X H fin Λ b O (sh.enc y) n x r
  | .cond c a b, O, s, n, x, r => match c with
    | .tmp t => match s.tmps.getD t .undef with
      | .one (.val .bool v) => cond v (cps X H fin Λ a O { s with tmps := s.tmps.set t (vBool true) } n x r) (cps X H fin Λ b O { s with tmps := s.tmps.set t (vBool false) } n x r)
      | _ => none
    | .const (.bool v) => if v then cps X H fin Λ a O s n x r else cps X H fin Λ b O s n x r
    | _ => none
  | .block id b, O, s, n, x, r => cps X H fin Λ b O s n (fun i s => if i = id then n s else x i s) r
  | .loop b, O, s, _, x, r => Λ O (loopKey b) s x r
  | .exit id, _, s, _, x, _ => x id s
  | .ret, _, s, _, _, r => (fin s).bind r
  | _, _, _, _, _, _ => none

/-- What is asked of a code's end. -/
def PostOf (R : St → Act → World → Prop) {T : Type} (fin : St → Option T) {O : Type} (n : St → Option O) (x : Nat → St → Option O) (r : T → Option O) (o : O) : Exit → Act → World → Prop
  | .normal, a, w => ∃ s, n s = some o ∧ R s a w
  | .exit i, a, w => ∃ s, x i s = some o ∧ R s a w
  | .ret, a, w => ∃ s v, fin s = some v ∧ r v = some o ∧ R s a w
  | _, _, _ => False

section
variable {X : Ctx} {w0 : World} {Ex Rd : Nat → Prop} {rvs : List Value}

/-- A state stands for a frame and a world, somehow. -/
def RelE (w0 : World) (Ex Rd : Nat → Prop) (rvs : List Value) (s : St) (a : Act) (w : World) : Prop := ∃ ρ, RelR w0 Ex Rd rvs ρ s a w

def LoopOk (X : Ctx) (w0 : World) (Ex Rd : Nat → Prop) (rvs : List Value) {T : Type} (fin : St → Option T) (Λ : Loops T) (b : Code) : Prop :=
  ∀ (O : Type) (s : St) (x : Nat → St → Option O) (r : T → Option O) (o : O) (a : Act) (w : World), Λ O (loopKey b) s x r = some o → RelE w0 Ex Rd rvs s a w →
    (Code.loop b).wp X.P (PostOf (RelE w0 Ex Rd rvs) fin (fun _ => none) x r o) a w

/-- The loops of a code, but those within loops. -/
def loopsOf : Code → List Code
  | .seq a b => loopsOf a ++ loopsOf b
  | .cond _ a b => loopsOf a ++ loopsOf b
  | .block _ b => loopsOf b
  | .loop b => [b]
  | _ => []

def DecOk (w0 : World) (Ex Rd : Nat → Prop) (rvs : List Value) : Prop := ∀ (sh : Sh) (s : St) (y : sh.den) (a : Act) (w : World), sh.dec s = some y → RelE w0 Ex Rd rvs s a w → RelE w0 Ex Rd rvs (sh.enc y) a w

theorem cps_sound (hX : CtxOk X) (hΓ : GammaOk X) (hL : LawOk X w0) (hm : X.P.follows .mixedOrders = true) (hdec : DecOk w0 Ex Rd rvs) {H : Hints} {T : Type} {fin : St → Option T} {Λ : Loops T} : ∀ (c : Code), (∀ b ∈ loopsOf c, LoopOk X w0 Ex Rd rvs fin Λ b) →
    ∀ {O : Type} {s : St} {n : St → Option O} {x : Nat → St → Option O} {r : T → Option O} {o : O} {a : Act} {w : World}, cps X H fin Λ c O s n x r = some o → RelE w0 Ex Rd rvs s a w →
    c.wp X.P (PostOf (RelE w0 Ex Rd rvs) fin n x r o) a w := by
  intro c
  induction c with
  | skip => intro hl O s n x r o a w e R; exact wp_skip ⟨s, e, R⟩
  | ret =>
    intro hl O s n x r o a w e R
    obtain ⟨v, hv, e⟩ := Option.bind_eq_some_iff.1 e
    exact wp_ret ⟨s, v, hv, e, R⟩
  | exit id => intro hl O s n x r o a w e R; exact wp_exit ⟨s, e, R⟩
  | region id ops draw =>
    intro hl O s n x r o a w e R
    simp only [cps] at e
    rw [Tr.run_eq] at e
    obtain ⟨s', hs', en⟩ := Option.bind_eq_some_iff.1 e
    obtain ⟨ρ, R⟩ := R
    unfold regionC at hs'
    cases draw with
    | true =>
      simp only [if_true] at hs'
      exact draw_sound hX hΓ hm R hs' fun a' w' ρ' R' => ⟨s', en, ρ', R'⟩
    | false =>
      simp only [Bool.false_eq_true, if_false] at hs'
      exact region_sound hX hΓ hL R hs' fun a' w' ρ' R' => ⟨s', en, ρ', R'⟩
  | seq c1 c2 ih1 ih2 =>
    intro hl O s n x r o a w e R
    have hl1 : ∀ b ∈ loopsOf c1, LoopOk X w0 Ex Rd rvs fin Λ b := fun b hb => hl b (List.mem_append_left _ hb)
    have hl2 : ∀ b ∈ loopsOf c2, LoopOk X w0 Ex Rd rvs fin Λ b := fun b hb => hl b (List.mem_append_right _ hb)
    simp only [cps] at e
    refine wp_seq ?_
    split at e
    · split at e
      · refine wp_mono (ih1 hl1 e R) fun ex a' w' hp => ?_
        cases ex with
        | normal => obtain ⟨s', e', R'⟩ := hp; exact ih2 hl2 e' R'
        | exit i => exact hp
        | ret => exact hp
        | _ => exact hp.elim
      · rename_i sh hsh
        obtain ⟨z, hz, e⟩ := Option.bind_eq_some_iff.1 e
        refine wp_mono (ih1 hl1 hz R) fun ex a' w' hp => ?_
        cases ex with
        | normal =>
          obtain ⟨s', e', R'⟩ := hp
          obtain ⟨y, hy, rfl⟩ := Option.map_eq_some_iff.1 e'
          exact ih2 hl2 e (hdec sh s' y a' w' hy R')
        | exit i =>
          obtain ⟨s', e', R'⟩ := hp
          obtain ⟨o', ho, rfl⟩ := Option.map_eq_some_iff.1 e'
          cases e
          exact ⟨s', ho, R'⟩
        | ret =>
          obtain ⟨s', v, hv, e', R'⟩ := hp
          obtain ⟨o', ho, rfl⟩ := Option.map_eq_some_iff.1 e'
          cases e
          exact ⟨s', v, hv, ho, R'⟩
        | _ => exact hp.elim
    · rename_i sh hsh
      obtain ⟨y, hy, e⟩ := Option.bind_eq_some_iff.1 e
      refine wp_mono (ih1 hl1 hy R) fun ex a' w' hp => ?_
      cases ex with
      | normal => obtain ⟨s', e', R'⟩ := hp; exact ih2 hl2 e (hdec sh s' y a' w' e' R')
      | exit i => obtain ⟨s', e', R'⟩ := hp; cases e'
      | ret => obtain ⟨s', v, _, e', R'⟩ := hp; cases e'
      | _ => exact hp.elim
  | cond c c1 c2 ih1 ih2 =>
    intro hl O s n x r o a w e R
    have hl1 : ∀ b ∈ loopsOf c1, LoopOk X w0 Ex Rd rvs fin Λ b := fun b hb => hl b (List.mem_append_left _ hb)
    have hl2 : ∀ b ∈ loopsOf c2, LoopOk X w0 Ex Rd rvs fin Λ b := fun b hb => hl b (List.mem_append_right _ hb)
    simp only [cps] at e
    split at e
    · rename_i t
      split at e
      · rename_i v hv
        have hset := set_same (s := s) (d := t) (b := v) hv
        obtain ⟨ρ, R⟩ := R
        have hb := tmp_bool R hv
        have hev : a.eval (.tmp t) = .bool v := by
          show a.tmps.getD t undef = _
          simp [Array.getD_eq_getD_getElem?, hb]
        cases v with
        | true =>
          rw [hset] at e
          exact wp_cond_true hev (ih1 hl1 e ⟨ρ, R⟩)
        | false =>
          rw [hset] at e
          exact wp_cond_false hev (ih2 hl2 e ⟨ρ, R⟩)
      · cases e
    · rename_i v
      cases v with
      | true => exact wp_cond_true rfl (ih1 hl1 (by simpa using e) R)
      | false => exact wp_cond_false rfl (ih2 hl2 (by simpa using e) R)
    · cases e
  | block id b ih =>
    intro hl O s n x r o a w e R
    simp only [cps] at e
    refine wp_block (wp_mono (ih hl e R) fun ex a' w' hp => ?_)
    cases ex with
    | normal => exact hp
    | ret => exact hp
    | exit i =>
      obtain ⟨s', e', R'⟩ := hp
      simp only [Exit.inBlock]
      split
      · rename_i hi
        have e' : (if i = id then n s' else x i s') = some o := e'
        rw [if_pos hi] at e'
        exact ⟨s', e', R'⟩
      · rename_i hi
        have e' : (if i = id then n s' else x i s') = some o := e'
        rw [if_neg hi] at e'
        exact ⟨s', e', R'⟩
    | _ => exact hp.elim
  | loop b ih =>
    intro hl O s n x r o a w e R
    simp only [cps] at e
    refine wp_mono (hl b (by simp [loopsOf]) O s x r o a w e R) fun ex a' w' hp => ?_
    cases ex with
    | normal => obtain ⟨s', e', _⟩ := hp; cases e'
    | exit i => exact hp
    | ret => exact hp
    | _ => exact hp.elim
  | _ => intro hl O s n x r o a w e R; simp [cps] at e
end
end Go.Rx
/- Loops by their summaries. -/
namespace Go.Rx

def exDen : List (Nat × Sh) → Type
  | [] => Empty
  | [p] => p.2.den
  | p :: q :: ps => p.2.den ⊕ exDen (q :: ps)

/-- An exit with its state: its datum. -/
def exMatch {O : Type} : (es : List (Nat × Sh)) → (exDen es → Option O) → Nat → St → Option O
  | [], _, _, _ => none
  | [p], x, i, s => if p.1 = i then (p.2.dec s).bind x else none
  | p :: q :: ps, x, i, s => if p.1 = i then (p.2.dec s).bind fun y => x (.inl y) else exMatch (q :: ps) (fun z => x (.inr z)) i s

def exCont {O : Type} (x : Nat → St → Option O) : (es : List (Nat × Sh)) → exDen es → Option O
  | [], z => z.elim
  | [p], z => x p.1 (p.2.enc z)
  | p :: q :: ps, z => match z with
    | .inl y => x p.1 (p.2.enc y)
    | .inr z => exCont x (q :: ps) z

structure LoopF (T : Type) where
  head : Sh
  exits : List (Nat × Sh)
  f : (O : Type) → Nat → head.den → (exDen exits → Option O) → (T → Option O) → Option O

/-- Rounds enough; a number that the kernel does not unfold. -/
noncomputable def fuel : Nat := Classical.choose (⟨2 ^ 60, rfl⟩ : ∃ n : Nat, n = 2 ^ 60)
theorem fuel_eq : fuel = 2 ^ 60 := Classical.choose_spec (⟨2 ^ 60, rfl⟩ : ∃ n : Nat, n = 2 ^ 60)
variable [Tabs]

noncomputable def loopsOfTbl {T : Type} (tbl : Nat → Option (LoopF T)) : Loops T := fun O key s x r => match tbl key with
  | none => none
  | some l => (l.head.dec s).bind fun y => l.f O fuel y (exCont x l.exits) r

/-- One round. -/
noncomputable def LoopF.round {T : Type} (X : Ctx) (H : Hints) (fin : St → Option T) (tbl : Nat → Option (LoopF T)) (l : LoopF T) (b : Code) (O : Type) (k : Nat) (y : l.head.den) (x : exDen l.exits → Option O) (r : T → Option O) : Option O :=
  cps X H fin (loopsOfTbl tbl) b O (l.head.enc y) (fun s => (l.head.dec s).bind fun y' => l.f O k y' x r) (exMatch l.exits x) r

structure StepOk {T : Type} (X : Ctx) (H : Hints) (fin : St → Option T) (tbl : Nat → Option (LoopF T)) (b : Code) : Prop where
  step : ∃ l, tbl (loopKey b) = some l ∧ (∀ O y x r, l.f O 0 y x r = none) ∧ ∀ O k y x r, l.f O (k + 1) y x r = l.round X H fin tbl b O k y x r

def allLoops : Code → List Code
  | .seq a b => allLoops a ++ allLoops b
  | .cond _ a b => allLoops a ++ allLoops b
  | .block _ b => allLoops b
  | .loop b => b :: allLoops b
  | _ => []

theorem exMatch_some {O : Type} {x : Nat → St → Option O} {o : O} : ∀ {es : List (Nat × Sh)} {i : Nat} {s : St}, exMatch es (exCont x es) i s = some o → ∃ (sh : Sh) (y : sh.den), sh.dec s = some y ∧ x i (sh.enc y) = some o
  | [], _, _, e => by simp [exMatch] at e
  | [p], i, s, e => by
    simp only [exMatch] at e
    split at e
    · rename_i hi
      obtain ⟨y, hy, e⟩ := Option.bind_eq_some_iff.1 e
      exact ⟨p.2, y, hy, by rw [← hi]; exact e⟩
    · cases e
  | p :: q :: ps, i, s, e => by
    simp only [exMatch] at e
    split at e
    · rename_i hi
      obtain ⟨y, hy, e⟩ := Option.bind_eq_some_iff.1 e
      exact ⟨p.2, y, hy, by rw [← hi]; exact e⟩
    · exact exMatch_some (es := q :: ps) e

section
variable {X : Ctx} {w0 : World} {Ex Rd : Nat → Prop} {rvs : List Value}

theorem least_of {P : Nat → Prop} (h : ∃ k, P k) : ∃ k, P k ∧ ∀ j, P j → k ≤ j := by
  obtain ⟨k, hk⟩ := h
  induction k using Nat.strongRecOn with
  | _ k ih =>
    by_cases hj : ∃ j, j < k ∧ P j
    · obtain ⟨j, h1, h2⟩ := hj; exact ih j h1 h2
    · exact ⟨k, hk, fun j hj' => Nat.le_of_not_lt fun h => hj ⟨j, h, hj'⟩⟩

open Classical in
noncomputable def least (P : Nat → Prop) : Nat := if h : ∃ k, P k then Classical.choose (least_of h) else 0

theorem least_spec {P : Nat → Prop} (h : ∃ k, P k) : P (least P) ∧ ∀ j, P j → least P ≤ j := by
  unfold least
  rw [dif_pos h]
  exact Classical.choose_spec (least_of h)

theorem loop_ok (hX : CtxOk X) (hΓ : GammaOk X) (hL : LawOk X w0) (hm : X.P.follows .mixedOrders = true) (hdec : DecOk w0 Ex Rd rvs) {H : Hints} {T : Type} {fin : St → Option T} {tbl : Nat → Option (LoopF T)} {b : Code}
    (st : StepOk X H fin tbl b) (hl : ∀ c ∈ loopsOf b, LoopOk X w0 Ex Rd rvs fin (loopsOfTbl tbl) c) : LoopOk X w0 Ex Rd rvs fin (loopsOfTbl tbl) b := by
  obtain ⟨l, htbl, hz, hs⟩ := st.step
  intro O s x r o a w e R
  unfold loopsOfTbl at e
  rw [htbl] at e
  dsimp only at e
  obtain ⟨y, hy, e⟩ := Option.bind_eq_some_iff.1 e
  let J : Nat → Act → World → Prop := fun k a w => ∃ y, l.f O k y (exCont x l.exits) r = some o ∧ RelE w0 Ex Rd rvs (l.head.enc y) a w
  refine wp_loop (fun a w => ∃ k, J k a w) (fun a w => least (fun k => J k a w)) ⟨fuel, y, e, hdec _ _ _ _ _ hy R⟩ fun a w hI => ?_
  have hJ := (least_spec hI).1
  generalize hk : least (fun k => J k a w) = k at hJ
  obtain ⟨y, e, R⟩ := hJ
  cases k with
  | zero => rw [hz] at e; cases e
  | succ k =>
    rw [hs] at e
    refine wp_mono (cps_sound hX hΓ hL hm hdec b hl e R) fun ex a' w' hp => ?_
    cases ex with
    | normal =>
      obtain ⟨s', e', R'⟩ := hp
      obtain ⟨y', hy', e'⟩ := Option.bind_eq_some_iff.1 e'
      have hj : J k a' w' := ⟨y', e', hdec _ _ _ _ _ hy' R'⟩
      refine ⟨⟨k, hj⟩, ?_⟩
      exact Nat.lt_succ_of_le ((least_spec (P := fun k => J k a' w') ⟨k, hj⟩).2 k hj)
    | exit i =>
      obtain ⟨s', e', R'⟩ := hp
      obtain ⟨sh, y', hy', e'⟩ := exMatch_some e'
      exact ⟨sh.enc y', e', hdec _ _ _ _ _ hy' R'⟩
    | ret => exact hp
    | _ => exact hp.elim

theorem loops_ok (hX : CtxOk X) (hΓ : GammaOk X) (hL : LawOk X w0) (hm : X.P.follows .mixedOrders = true) (hdec : DecOk w0 Ex Rd rvs) {H : Hints} {T : Type} {fin : St → Option T} {tbl : Nat → Option (LoopF T)} : ∀ (c : Code),
    (∀ b ∈ allLoops c, StepOk X H fin tbl b) → ∀ b ∈ loopsOf c, LoopOk X w0 Ex Rd rvs fin (loopsOfTbl tbl) b := by
  intro c
  induction c with
  | seq a b iha ihb =>
    intro h d hd
    rcases List.mem_append.1 hd with hd | hd
    · exact iha (fun b hb => h b (List.mem_append_left _ hb)) d hd
    · exact ihb (fun b hb => h b (List.mem_append_right _ hb)) d hd
  | cond c a b iha ihb =>
    intro h d hd
    rcases List.mem_append.1 hd with hd | hd
    · exact iha (fun b hb => h b (List.mem_append_left _ hb)) d hd
    · exact ihb (fun b hb => h b (List.mem_append_right _ hb)) d hd
  | block id b ih => intro h d hd; exact ih h d hd
  | loop b ih =>
    intro h d hd
    simp only [loopsOf, List.mem_singleton] at hd
    subst hd
    exact loop_ok hX hΓ hL hm hdec (h d (by simp [allLoops])) (ih fun b hb => h b (by simp [allLoops, hb]))
  | _ => intro h d hd; simp [loopsOf] at hd
end
end Go.Rx
/- Functions. -/
namespace Go.Rx
variable [Tabs]

/-- What a function begins with. -/
def entrySt (k : Ctr) (ntmps : Nat) (a : (Ty.prod (k.args.map PK.ty)).den) : St :=
  let e := entryArgs k.args a 0
  { tmps := e.1 ++ List.replicate (ntmps - e.1.length) .undef, heap := e.2, refs := ptrsOf k.args e.1 }

abbrev Ctr.Res (k : Ctr) : Type := (Ty.prod (k.rets.map (fun r => .prod (r.2.map (·.2))) ++ k.args.filterMap PK.refTy?)).den

noncomputable def fnRun (X : Ctx) (H : Hints) (k : Ctr) (fn : Func) (tbl : Nat → Option (LoopF k.Res)) (a : (Ty.prod (k.args.map PK.ty)).den) : Option k.Res :=
  cps X H (k.finish X fn.results.toList) (loopsOfTbl tbl) (fn.body.getD .skip) k.Res (entrySt k fn.ntmps a) (k.finish X fn.results.toList) (fun _ _ => none) some

section
variable {X : Ctx} {w0 w : World} {Ex Rd : Nat → Prop} {rvs : List Value} {ρ : Nat → Value} {a : Act} {s : St}

def resF (tmps : Array Value) : ResultVar → Sem Value
  | .tmp t => pure (tmps.getD t undef)
  | .cell a t => do loadVar t (← asAddr (tmps.getD a undef))

theorem loadVar_sound (hX : CtxOk X) {h : Heap} (M : Mem w0 Ex Rd h ρ w) {t : TypeId} {p v : V} {pv : Value} (rp : VRep w (okOf Rd h ρ w) h ρ p pv) (e : loadV X h t p = some v) :
    ∃ u, ((do loadVar t (← asAddr pv)) : Sem Value).run X.P w = .ok u w ∧ VRep w (okOf Rd h ρ w) h ρ v u := by
  obtain ⟨u, hr, rv⟩ := loadV_sound hX M rp e
  have hp : ∃ b o, pv = .pointer (some ⟨b, o, none⟩) := by
    unfold loadV at e
    split at e
    · cases e
    · dsimp only at e
      split at e
      · obtain ⟨_, b, _, hv⟩ := rp; exact ⟨_, _, hv⟩
      · obtain ⟨b, o, _, hv, _⟩ := rp; exact ⟨_, _, hv⟩
      · obtain ⟨_, _, _, ⟨b, o, hv⟩, _⟩ := rp; exact ⟨_, _, hv⟩
      · cases e
  obtain ⟨b, o, rfl⟩ := hp
  refine ⟨u, ?_, rv⟩
  simpa [Instr.loadAt, Instr.sureAddr, asAddr] using hr

theorem results_sound (hX : CtxOk X) (R : RelR w0 Ex Rd rvs ρ s a w) : ∀ {rs : List ResultVar} {vs : List V}, s.results X rs = some vs →
    ∃ us, (rs.mapM (resF a.tmps)).run X.P w = .ok us w ∧ All2 (fun v u => VRep w (okOf Rd s.heap ρ w) s.heap ρ v u ∧ v.okR = true) vs us
  | [], vs, e => by
    simp only [St.results, Option.some.injEq] at e
    subst e
    exact ⟨[], by simp, .nil⟩
  | .tmp t :: rs, vs, e => by
    simp only [St.results] at e
    split at e
    · rename_i vs' h
      split at e
      · rename_i hok
        cases e
        obtain ⟨us, h1, h2⟩ := results_sound hX R h
        have := eval_rep R.tmps (.tmp t)
        refine ⟨a.tmps.getD t undef :: us, ?_, .cons ⟨this, hok⟩ h2⟩
        simp only [List.mapM_cons, Sem.run_bind, resF, Sem.run_pure, Result.andThen_ok, h1]
      · cases e
    · cases e
  | .cell b t :: rs, vs, e => by
    simp only [St.results] at e
    split at e
    · rename_i v vs' hv h
      split at e
      · rename_i hok
        cases e
        obtain ⟨us, h1, h2⟩ := results_sound hX R h
        obtain ⟨u, hr, ru⟩ := loadVar_sound hX R.mem (eval_rep R.tmps (.tmp b)) hv
        refine ⟨u :: us, ?_, .cons ⟨ru, hok⟩ h2⟩
        have hr' : (resF a.tmps (.cell b t)).run X.P w = .ok u w := hr
        simp only [List.mapM_cons, Sem.run_bind, hr', Sem.run_pure, Result.andThen_ok, h1]
      · cases e
    · cases e

theorem resV_rep {h : Heap} {vs : List V} {us : List Value} (r : All2 (fun v u => VRep w (okOf Rd h ρ w) h ρ v u ∧ v.okR = true) vs us) :
    VRep w (okOf Rd h ρ w) h ρ (resV vs) (if hs : us.toArray.size = 1 then us.toArray[0] else .tuple us.toArray) := by
  have part : ∀ {v : V} {u : Value}, VRep w (okOf Rd h ρ w) h ρ v u ∧ v.okR = true → PRep w (okOf Rd h ρ w) h ρ (v.isAggB, v.cells) u := by
    intro v u ⟨rv, hok⟩
    cases v with
    | one x => exact .inr ⟨rfl, x, rfl, rv⟩
    | agg cs => obtain ⟨vs, e, rc⟩ := rv; exact .inl ⟨rfl, vs, e, rc⟩
    | _ => cases hok
  cases r with
  | nil => exact ⟨[], rfl, .nil⟩
  | cons r1 t =>
    cases t with
    | nil => exact r1.1
    | cons r2 t =>
      rename_i v u v2 u2 vs us
      have hne : ¬ ((u :: u2 :: us).toArray.size = 1) := by simp
      rw [dif_neg hne]
      exact ⟨_, rfl, .cons (part r1) (.cons (part r2) (t.map _ fun v u h => part h))⟩

theorem own_there {h : Heap} {ok : Nat → Prop} : ∀ {cs : List C} {vs : List Value}, CsRep w ok h ρ cs vs → ∀ q ∈ C.ownIds cs, ∃ x, h[q]? = some x ∧ x ≠ .free := by
  intro cs vs r
  induction r with
  | nil => intro q hq; simp [C.ownIds] at hq
  | cons hc t ih =>
    rename_i c u cs vs
    intro q hq
    cases c with
    | own id =>
      simp only [C.ownIds, List.mem_cons] at hq
      rcases hq with rfl | hq
      · obtain ⟨x, hx, hl, _⟩ := hc
        exact ⟨x, hx, by rintro rfl; cases hl⟩
      · exact ih q hq
    | _ => exact ih q (by simpa [C.ownIds] using hq)

theorem own_of_lentAt : ∀ {ms : Cells} {cs : List C} {p : Nat × TypeId × Ty}, lentAt ms cs = some p → p.1 ∈ C.ownIds cs := by
  intro ms
  induction ms with
  | nil => intro cs p h; simp [lentAt] at h
  | cons m ms ih =>
    intro cs p h
    unfold lentAt at h
    split at h
    · cases h; simp [C.ownIds]
    · rename_i hm; cases hm
      rename_i c cs
      have := ih h
      cases c <;> simp [C.ownIds, this]
    · cases h

theorem ptr_there {h : Heap} {ok : Nat → Prop} : ∀ {ps : List PK} {vs : List V} {us : List Value}, All2 (VRep w ok h ρ) vs us → ∀ q ∈ ptrsOf ps vs, ∃ x, h[q]? = some x ∧ x ≠ .free := by
  intro ps
  induction ps with
  | nil => intro vs us r q hq; simp [ptrsOf] at hq
  | cons p ps ih =>
    intro vs us r q hq
    cases r with
    | nil => cases p <;> simp [ptrsOf] at hq
    | cons hc t =>
      rename_i v u vs us
      cases p with
      | val a τ => exact ih t q (by simpa only [ptrsOf] using hq)
      | given e c => exact ih t q (by simpa only [ptrsOf] using hq)
      | ref t' ms => cases v with
        | one c => cases c with
          | ptr id o =>
            simp only [ptrsOf, List.mem_cons] at hq
            rcases hq with rfl | hq
            · obtain ⟨⟨t, cs, e⟩, _⟩ := hc
              exact ⟨_, e, by simp⟩
            · exact ih t q hq
          | _ => exact ih t q (by simpa [ptrsOf] using hq)
        | _ => exact ih t q (by simpa [ptrsOf] using hq)
      | lent a ms =>
        simp only [ptrsOf] at hq
        split at hq
        · rename_i p hla
          rcases List.mem_cons.1 hq with rfl | hq
          · have hm := own_of_lentAt hla
            cases v with
            | one c => exact own_there (cs := [c]) (vs := [u]) (.cons hc .nil) _ hm
            | agg cs =>
              obtain ⟨vs, _, rcs⟩ := hc
              exact own_there rcs _ hm
            | _ => simp [V.cells, C.ownIds] at hm
          · exact ih t q hq
        · exact ih t q hq

theorem refs_there {h : Heap} : ∀ {ids : List Nat}, (∀ q ∈ ids, ∃ x, h[q]? = some x ∧ x ≠ .free) → All2 (fun r v => ∃ x, h[r]? = some x ∧ x ≠ .free ∧ (x ≠ .dead → ρ r = v)) ids (ids.map ρ)
  | [], _ => .nil
  | q :: ids, hq => by
    obtain ⟨x, h1, h2⟩ := hq q (by simp)
    exact .cons ⟨x, h1, h2, fun _ => rfl⟩ (refs_there fun r hr => hq r (List.mem_cons_of_mem _ hr))

/-- **A function and its contract.** -/
theorem ctr_at (hX : CtxOk X) (hΓ : GammaOk X) (hL : LawOk X w) (hm : X.P.follows .mixedOrders = true) (hdec : ∀ w0 Ex Rd rvs, DecOk w0 Ex Rd rvs) {H : Hints} {f : FuncId} {fn : Func} {c : Code} {k : Ctr} {tbl : Nat → Option (LoopF k.Res)}
    (hf : X.P.funcs[f]? = some fn) (hb : fn.body = some c) (hs : ∀ b ∈ allLoops c, StepOk X H (k.finish X fn.results.toList) tbl b) (hF : ∀ x r, k.F x = some r → fnRun X H k fn tbl x = some r) : CtrAt w X.P f k := by
  intro Ex Rd ρ us x r M ra hr
  refine calls_of_wp hf hb ?_
  have e := hF x r hr
  unfold fnRun at e
  rw [hb] at e
  have hlen : (entryArgs k.args x 0).1.length = us.length := ra.length
  have R : RelR w Ex Rd ((ptrsOf k.args (entryArgs k.args x 0).1).map ρ) ρ (entrySt k fn.ntmps x) { tmps := us.toArray ++ Array.replicate (fn.ntmps - us.toArray.size) undef, defers := [] } w := by
    refine ⟨M, ?_, rfl, refs_there (ptr_there ra)⟩
    · show All2 _ ((entryArgs k.args x 0).1 ++ List.replicate (fn.ntmps - (entryArgs k.args x 0).1.length) .undef) (us.toArray ++ Array.replicate (fn.ntmps - us.toArray.size) undef).toList
      simp only [Array.toList_append, Array.toList_replicate, List.size_toArray, hlen]
      refine ra.append ?_
      have : ∀ n : Nat, All2 (VRep w (okOf Rd (entrySt k fn.ntmps x).heap ρ w) (entrySt k fn.ntmps x).heap ρ) (List.replicate n .undef) (List.replicate n undef) := by
        intro n
        induction n with
        | zero => exact .nil
        | succ n ih => exact .cons trivial ih
      exact this _
  refine wp_mono (cps_sound hX hΓ hL hm (hdec _ _ _ _) c (loops_ok hX hΓ hL hm (hdec _ _ _ _) c hs) e ⟨ρ, R⟩) fun ex a' w' hp => ?_
  have done : ∀ s, k.finish X fn.results.toList s = some r → RelE w Ex Rd ((ptrsOf k.args (entryArgs k.args x 0).1).map ρ) s a' w' → a'.defers = [] ∧ ∃ v, (results fn a'.tmps).run X.P w' = .ok v w' ∧
      (∃ u h' ρ' rv refs', Ending.returned v = .returned u ∧ Mem w Ex Rd h' ρ' w' ∧ VRep w' (okOf Rd h' ρ' w') h' ρ' rv u ∧ All2 (fun r v => ∃ x, h'[r]? = some x ∧ x ≠ .free ∧ (x ≠ .dead → ρ' r = v)) refs' ((ptrsOf k.args (entryArgs k.args x 0).1).map ρ) ∧ k.exit0 refs' h' rv = some r) := by
    intro s hfin ⟨ρ', R'⟩
    refine ⟨R'.defers, ?_⟩
    unfold Ctr.finish at hfin
    split at hfin
    · rename_i vs hvs
      dsimp only at hfin
      split at hfin
      · rename_i us' hus
        obtain ⟨vals, h1, h2⟩ := results_sound hX R' hvs
        have hrep := resV_rep h2
        have G := frz_sound (ρ := ρ') _ hus R'.mem
        refine ⟨_, ?_, _, _, ρ', resV vs, s.refs, rfl, G.mem, VRep.keep G.keep hrep, (R'.grown G).refs, hfin⟩
        have hmapM : (fn.results.mapM (resF a'.tmps)).run X.P w' = .ok vals.toArray w' := by
          rw [Array.mapM_eq_mapM_toList]
          simp [h1]
        have hres : results fn a'.tmps = (do
            let vs ← fn.results.mapM (resF a'.tmps)
            pure (if h : vs.size = 1 then vs[0] else .tuple vs)) := by
          unfold results
          congr 1
        rw [hres, Sem.run_bind, hmapM]
        rfl
      · cases hfin
    · cases hfin
  cases ex with
  | normal => obtain ⟨s, h1, h2⟩ := hp; exact done s h1 h2
  | ret => obtain ⟨s, v, h1, h2, h3⟩ := hp; cases h2; exact done s h1 h3
  | exit i => obtain ⟨s, h1, _⟩ := hp; cases h1
  | _ => exact hp.elim

/-! ### Functions that make a variable and hand its address back -/
end
end Go.Rx
/- A state read through a shape is the shape's state: soundness. -/
namespace Go.Rx
variable [Tabs]
section
variable {h : Heap}

theorem matchTmps_spec {ts : List V} : ∀ {l : List (Nat × VSh)} {m m' : IdMap} {is : List C}, matchTmps h ts m l = some (is, m') → MInv m →
    m ⊆ m' ∧ MInv m' ∧ ∀ (rest : List C) (t0 : List V) , ∃ t1, fillTmps l (is ++ rest) t0 = some (t1, rest) ∧ t1.length = t0.length ∧
      ∀ {R : V → Value → Prop} {us : List Value}, (∀ t x u, RV h m' x (ts.getD t .undef) → us[t]? = some u → R x u) → All2 R t0 us → All2 R t1 us
  | [], m, m', is, e, hi => by
    simp only [matchTmps, Option.some.injEq, Prod.mk.injEq] at e
    obtain ⟨rfl, rfl⟩ := e
    exact ⟨fun _ h => h, hi, fun rest t0 => ⟨t0, rfl, rfl, fun _ h => h⟩⟩
  | (t, v) :: l, m, m', is, e, hi => by
    simp only [matchTmps] at e
    split at e
    · rename_i is1 m1 h1
      split at e
      · rename_i is2 m2 h2
        cases e
        obtain ⟨a1, a2, a3⟩ := matchV_spec h1 hi
        obtain ⟨b1, b2, b3⟩ := matchTmps_spec h2 a2
        refine ⟨fun _ h => b1 (a1 h), b2, fun rest t0 => ?_⟩
        obtain ⟨x, hx, rx⟩ := a3 (is2 ++ rest)
        obtain ⟨t1, ht, hl, hr⟩ := b3 rest (t0.set t x)
        refine ⟨t1, by simp only [fillTmps, List.append_assoc, hx, ht], by rw [hl]; simp, fun {R us} hR r0 => hr hR ?_⟩
        exact set_left r0 t fun u hu => hR t x u (rx.mono b1) hu
      · cases e
    · cases e
where
  set_left {R : V → Value → Prop} : ∀ {as : List V} {bs : List Value}, All2 R as bs → ∀ (t : Nat) {x : V}, (∀ u, bs[t]? = some u → R x u) → All2 R (as.set t x) bs
    | _, _, .nil, _, _, _ => by simpa using All2.nil
    | _, _, .cons h t, 0, _, hx => .cons (hx _ (by simp)) t
    | _, _, .cons h t, k + 1, _, hx => .cons h (set_left t k fun u hu => hx u (by simpa using hu))

theorem matchHeap_spec : ∀ {bs : List BSh} {m m' : IdMap} {k : Nat} {is : List C}, matchHeap h m k bs = some (is, m') → MInv m →
    m ⊆ m' ∧ MInv m' ∧ ∀ rest, ∃ xs, fillHeap bs (is ++ rest) = some (xs, rest) ∧ xs.length = bs.length ∧ ∀ (j : Nat) (x : Blk), xs[j]? = some x → (bs[j]? = some .dead ∧ x = .dead) ∨ ∃ o, (k + j, o) ∈ m' ∧ RB h m' x o
  | [], m, m', k, is, e, hi => by
    simp only [matchHeap, Option.some.injEq, Prod.mk.injEq] at e
    obtain ⟨rfl, rfl⟩ := e
    exact ⟨fun _ h => h, hi, fun rest => ⟨[], rfl, rfl, fun j x hx => by simp at hx⟩⟩
  | b :: bs, m, m', k, is, e, hi => by
    simp only [matchHeap] at e
    split at e
    · rename_i p hp
      have hpm := List.mem_of_find?_eq_some hp
      have hpk : p.1 = k := by simpa using List.find?_some hp
      split at e
      · rename_i is1 m1 h1
        split at e
        · rename_i is2 m2 h2
          cases e
          obtain ⟨a1, a2, a3⟩ := matchB_spec h1 hi
          obtain ⟨b1, b2, b3⟩ := matchHeap_spec h2 a2
          refine ⟨fun _ h => b1 (a1 h), b2, fun rest => ?_⟩
          obtain ⟨x, hx, rx⟩ := a3 (is2 ++ rest)
          obtain ⟨xs, hxs, hl, hr⟩ := b3 rest
          refine ⟨x :: xs, by simp only [fillHeap, List.append_assoc, hx, hxs], by simp [hl], fun j y hy => ?_⟩
          match j with
          | 0 => cases hy; exact .inr ⟨p.2, by rw [Nat.add_zero, ← hpk]; exact b1 (a1 hpm), rx.mono b1⟩
          | j + 1 =>
            have := hr j y (by simpa using hy)
            rw [show k + 1 + j = k + (j + 1) from by omega] at this
            exact this
        · cases e
      · cases e
    · split at e
      · obtain ⟨b1, b2, b3⟩ := matchHeap_spec e hi
        refine ⟨b1, b2, fun rest => ?_⟩
        obtain ⟨xs, hxs, hl, hr⟩ := b3 rest
        refine ⟨.dead :: xs, by simp only [fillHeap, fillB, hxs], by simp [hl], fun j y hy => ?_⟩
        match j with
        | 0 => cases hy; exact .inl ⟨rfl, rfl⟩
        | j + 1 =>
          have := hr j y (by simpa using hy)
          rw [show k + 1 + j = k + (j + 1) from by omega] at this
          exact this
      · cases e

theorem matchRefs_spec : ∀ {as bs : List Nat} {m m' : IdMap}, matchRefs m as bs = some m' → MInv m → m ⊆ m' ∧ MInv m' ∧ All2 (fun a b => (a, some b) ∈ m') as bs
  | [], [], m, m', e, hi => by
    simp only [matchRefs, Option.some.injEq] at e
    subst e
    exact ⟨fun _ h => h, hi, .nil⟩
  | [], _ :: _, _, _, e, _ => by simp [matchRefs] at e
  | _ :: _, [], _, _, e, _ => by simp [matchRefs] at e
  | a :: as, b :: bs, m, m', e, hi => by
    simp only [matchRefs] at e
    split at e
    · rename_i m1 h1
      obtain ⟨a1, a2, a3⟩ := bind1_spec h1 hi
      obtain ⟨b1, b2, b3⟩ := matchRefs_spec e a3
      exact ⟨fun _ h => b1 (a2 h), b2, .cons (b1 a1) b3⟩
    · cases e

noncomputable def mapρ (M : IdMap) (ρ : Nat → Value) (k : Nat) : Value := match M.find? (fun p => p.1 == k) with
  | some p => hdr ρ p.2
  | none => default

theorem mapρ_of {M : IdMap} (hi : MInv M) {ρ : Nat → Value} {k : Nat} {o : Option Nat} (hm : (k, o) ∈ M) : mapρ M ρ k = hdr ρ o := by
  unfold mapρ
  cases hf : M.find? (fun p => p.1 == k) with
  | none => have := List.find?_eq_none.1 hf _ hm; simp at this
  | some p =>
    have hpm := List.mem_of_find?_eq_some hf
    have hpk : p.1 = k := by simpa using List.find?_some hf
    have : p.2 = o := hi.1 k p.2 o (by rw [← hpk]; exact hpm) hm
    dsimp only
    rw [this]

/-- **What a shape reads of a state is the state.** -/
theorem dec0_sound (w0 : World) (Ex Rd : Nat → Prop) (rvs : List Value) : ∀ (sh : Sh) (s : St) (y : sh.den) (a : Act) (w : World), sh.dec0 s = some y → RelE w0 Ex Rd rvs s a w → RelE w0 Ex Rd rvs (sh.enc y) a w := by
  intro sh s y a w e ⟨ρ, R⟩
  unfold Sh.dec0 at e
  split at e
  · rename_i hn
    split at e
    · rename_i m1 hm1
      split at e
      · rename_i is m2 hm2
        split at e
        · rename_i js M hm3
          by_cases hall : (M.all (okName s.heap sh.heap)) = true
          · have e : tupleOf sh.tys (is ++ js) = some y := by
              have e' : (if M.all (okName s.heap sh.heap) then tupleOf sh.tys (is ++ js) else none) = some y := e
              rwa [if_pos hall] at e'
            obtain ⟨a1, a2, a3⟩ := matchRefs_spec hm1 ⟨fun _ _ _ h => by simp at h, fun _ _ _ h => by simp at h⟩
            obtain ⟨b1, b2, b3⟩ := matchTmps_spec hm2 a2
            obtain ⟨c1, c2, c3⟩ := matchHeap_spec hm3 b2
            obtain ⟨t1, ht, htl, hr⟩ := b3 js (List.replicate sh.n .undef)
            obtain ⟨H, hH, hHl, hB⟩ := c3 []
            have hitems := tuple_items e
            have henc : sh.enc y = { tmps := t1, heap := H, refs := sh.refs } := by
              unfold Sh.enc
              rw [hitems, ht]
              dsimp only
              rw [List.append_nil] at hH
              rw [hH]
            rw [henc]
            -- the block of a name
            have hblk : ∀ k o, (k, o) ∈ M → ∃ x, H[k]? = some x ∧ RB s.heap M x o := by
              intro k o hm
              have hok := List.all_eq_true.1 hall _ hm
              unfold okName at hok
              have hk : k < H.length := by
                rw [hHl]
                rcases Nat.lt_or_ge k sh.heap.length with h | h
                · exact h
                · simp [List.getElem?_eq_none h] at hok
              refine ⟨H[k], List.getElem?_eq_getElem hk, ?_⟩
              rcases hB k _ (List.getElem?_eq_getElem hk) with ⟨h1, h2⟩ | ⟨o', h1, h2⟩
              · rw [h2]
                simp only [h1] at hok
                cases o with
                | none => exact .deadN
                | some i =>
                  dsimp only at hok
                  split at hok
                  · rename_i hg; exact .dead (getD_some hg (by simp)) rfl
                  · rename_i hg; exact .dead (getD_some hg (by simp)) rfl
                  · rename_i hg; exact .dead (getD_some hg (by simp)) rfl
                  · cases hok
              · rw [Nat.zero_add] at h1
                have : o' = o := c2.1 k o' o h1 hm
                subst this; exact h2
            have hlive : ∀ k b, Live H (mapρ M ρ) k b → ∃ i, (k, some i) ∈ M ∧ Live s.heap ρ i b := by
              intro k b ⟨⟨x, hx, hxl⟩, hb⟩
              rcases hB k x hx with ⟨_, h2⟩ | ⟨o, h1, h2⟩
              · subst h2; cases hxl
              · rw [Nat.zero_add] at h1
                rw [mapρ_of c2 h1] at hb
                cases h2 with
                | deadN => cases hxl
                | dead => cases hxl
                | ro => cases hxl
                | arrN => simp [hdr, blockOf] at hb
                | vars e r => exact ⟨_, h1, ⟨_, e, rfl⟩, hb⟩
                | arr e => exact ⟨_, h1, ⟨_, e, rfl⟩, hb⟩
            have hok : ∀ b, okOf Rd s.heap ρ w b → okOf Rd H (mapρ M ρ) w b := fun b hb => ⟨hb.1, hb.2.1, fun k hk => by
              obtain ⟨i, _, hl⟩ := hlive k b hk
              exact hb.2.2 i hl⟩
            have hC : ∀ x' x v, RC s.heap M x' x → CRep w (okOf Rd s.heap ρ w) s.heap ρ x v → CRep w (okOf Rd H (mapρ M ρ) w) H (mapρ M ρ) x' v := by
              intro x' x v r rc
              cases r with
              | val e => exact Rep.mono (fun b hb => ⟨hok b hb, rfl⟩) (cellTo_ro R.mem e rc)
              | nils => exact rc
              | nilp => exact rc
              | dead => exact oneCell_of rc trivial
              | rptr =>
                obtain ⟨b, o, cs, h1, h2, h3, h4⟩ := rc
                exact ⟨b, o, cs, h1, hok b h2, Rep.mono (fun b hb => ⟨hok b hb, rfl⟩) h3, h4⟩
              | ownN hm =>
                cases rc
                obtain ⟨z, hz, rz⟩ := hblk _ _ hm
                refine ⟨z, hz, ?_, rfl, fun _ => (mapρ_of c2 hm).symm⟩
                cases rz <;> rfl
              | own hm =>
                obtain ⟨z0, hz0, hl0, h1, hv⟩ := rc
                obtain ⟨z, hz, rz⟩ := hblk _ _ hm
                refine ⟨z, hz, ?_, h1, fun hd => ?_⟩
                · cases rz with
                  | dead => rfl
                  | arr => rfl
                  | ro => rfl
                  | vars e _ => rw [hz0] at e; cases e; cases hl0
                · rw [mapρ_of c2 hm]
                  refine hv ?_
                  rintro rfl
                  cases rz with
                  | dead => exact hd rfl
                  | arr e => rw [hz0] at e; cases e
                  | ro e => rw [hz0] at e; cases e
                  | vars e _ => rw [hz0] at e; cases e
              | ptr hm =>
                obtain ⟨⟨t, cs, hc⟩, b, h1, h2⟩ := rc
                obtain ⟨z, hz, rz⟩ := hblk _ _ hm
                have : ∃ t cs, z = .vars t cs := by
                  cases rz with
                  | dead e hl => rw [hc] at e; cases e; cases hl
                  | arr e => rw [hc] at e; cases e
                  | ro e => rw [hc] at e; cases e
                  | vars e _ => exact ⟨_, _, rfl⟩
                obtain ⟨t', cs', rfl⟩ := this
                exact ⟨⟨t', cs', hz⟩, b, (mapρ_of c2 hm).trans h1, h2⟩
            have hCs : ∀ xs' xs vs, All2 (RC s.heap M) xs' xs → CsRep w (okOf Rd s.heap ρ w) s.heap ρ xs vs → CsRep w (okOf Rd H (mapρ M ρ) w) H (mapρ M ρ) xs' vs := by
              intro xs' xs vs r
              induction r generalizing vs with
              | nil => intro rc; cases rc; exact .nil
              | cons h t ih => intro rc; cases rc with
                | cons r1 t1 => exact .cons (hC _ _ _ h r1) (ih _ t1)
            have hMem : Mem w0 Ex Rd H (mapρ M ρ) w := by
              refine ⟨?_, ?_, ?_, R.mem.rd, R.mem.ex, R.mem.frame, R.mem.tab, R.mem.scr, R.mem.sepN⟩
              · intro k x hx
                rcases hB k x hx with ⟨_, h2⟩ | ⟨o, h1, h2⟩
                · subst h2; trivial
                · rw [Nat.zero_add] at h1
                  rw [mapρ_of c2 h1]
                  cases h2 with
                  | deadN => trivial
                  | dead => trivial
                  | arrN => exact ⟨none, 0, rfl, Nat.le_refl _, .inl ⟨rfl, rfl⟩⟩
                  | vars e r =>
                    obtain ⟨b, vs, h3, h4, h5⟩ := R.mem.blocks _ _ e
                    exact ⟨b, vs, h3, h4, hCs _ _ _ r h5⟩
                  | arr e =>
                    obtain ⟨A, cap, h3, h4, h5⟩ := R.mem.blocks _ _ e
                    refine ⟨A, cap, h3, h4, h5.imp id fun ⟨b, o, cells, fr, k1, k2, k3, k4, k5⟩ => ⟨b, o, cells, fr, k1, k2, k3, k4, fun i hi => ?_⟩⟩
                    obtain ⟨cs, k6, k7⟩ := k5 i hi
                    exact ⟨cs, Rep.mono (fun b hb => ⟨hok b hb, rfl⟩) k6, k7⟩
                  | ro e => exact Rep.mono (fun b hb => ⟨hok b hb, rfl⟩) (ro_of R.mem e)
              · intro i j b hi hj
                obtain ⟨i', h1, h2⟩ := hlive i b hi
                obtain ⟨j', h3, h4⟩ := hlive j b hj
                have : i' = j' := R.mem.apart i' j' b h2 h4
                subst this
                exact c2.2 i j i' h1 h3
              · intro i b hi
                obtain ⟨i', _, h2⟩ := hlive i b hi
                exact R.mem.own i' b h2
            refine ⟨mapρ M ρ, hMem, ?_, R.defers, ?_⟩
            · refine hr (fun t x u hx hu => ?_) ?_
              · have hx : RV s.heap M x (s.tmps.getD t .undef) := hx.mono c1
                cases hq : s.tmps[t]? with
                | none =>
                  rw [List.getD_eq_getElem?_getD, hq] at hx
                  cases hx
                | some v =>
                  rw [List.getD_eq_getElem?_getD, hq] at hx
                  obtain ⟨u', hu', rv⟩ := R.tmps.get? t v hq
                  rw [hu] at hu'
                  cases hu'
                  have hx : RV s.heap M x v := hx
                  cases hx with
                  | one r => exact hC _ _ _ r rv
                  | agg r =>
                    obtain ⟨vs, e, rc⟩ := rv
                    exact ⟨vs, e, hCs _ _ _ r rc⟩
              · have hl : a.tmps.toList.length = sh.n := by rw [← hn]; exact R.tmps.length.symm
                have : ∀ (us : List Value), All2 (VRep w (okOf Rd H (mapρ M ρ) w) H (mapρ M ρ)) (List.replicate us.length .undef) us := by
                  intro us
                  induction us with
                  | nil => exact .nil
                  | cons u us ih => exact .cons trivial ih
                rw [← hl]
                exact this _
            · have : ∀ {as bs : List Nat} {vs : List Value}, All2 (fun a b => (a, some b) ∈ m1) as bs → All2 (fun r v => ∃ x, s.heap[r]? = some x ∧ x ≠ .free ∧ (x ≠ .dead → ρ r = v)) bs vs →
                  All2 (fun r v => ∃ x, H[r]? = some x ∧ x ≠ .free ∧ (x ≠ .dead → mapρ M ρ r = v)) as vs := by
                intro as bs vs r
                induction r generalizing vs with
                | nil => intro k; cases k; exact .nil
                | cons h t ih =>
                  intro k
                  cases k with
                  | cons k1 k2 =>
                    refine .cons ?_ (ih k2)
                    obtain ⟨z, hz, rz⟩ := hblk _ _ (c1 (b1 h))
                    obtain ⟨x0, hx0, hf0, hd0⟩ := k1
                    have hm := mapρ_of (ρ := ρ) c2 (c1 (b1 h))
                    cases rz with
                    | dead e hl => exact ⟨_, hz, by simp, fun hq => absurd rfl hq⟩
                    | arr e => exact ⟨_, hz, by simp, fun _ => hm.trans (hd0 (by rw [hx0] at e; cases e; simp))⟩
                    | ro e => exact ⟨_, hz, by simp, fun _ => hm.trans (hd0 (by rw [hx0] at e; cases e; simp))⟩
                    | vars e _ => exact ⟨_, hz, by simp, fun _ => hm.trans (hd0 (by rw [hx0] at e; cases e; simp))⟩
              exact this a3 R.refs
          · have e' : (if M.all (okName s.heap sh.heap) then tupleOf sh.tys (is ++ js) else none) = some y := e
            rw [if_neg hall] at e'
            cases e'
        · cases e
      · cases e
    · cases e
  · cases e

theorem dec_sound (w0 : World) (Ex Rd : Nat → Prop) (rvs : List Value) : DecOk w0 Ex Rd rvs := by
  intro sh s y a w e R
  unfold Sh.dec at e
  split at e
  · rename_i us hus
    obtain ⟨ρ, R⟩ := R
    exact dec0_sound w0 Ex Rd rvs sh _ y a w e ⟨ρ, R.grown (frz_sound _ hus R.mem)⟩
  · cases e
end
end Go.Rx

namespace Go.Rx
variable [Tabs]
/-- **A function and its contract.** -/
theorem ctr_ok {X : Ctx} (hX : CtxOk X) (hΓ : GammaOk X) (hL : ∀ w, LawOk X w) (hm : X.P.follows .mixedOrders = true) {H : Hints} {f : FuncId} {fn : Func} {c : Code} {k : Ctr} {tbl : Nat → Option (LoopF k.Res)}
    (hf : X.P.funcs[f]? = some fn) (hb : fn.body = some c) (hs : ∀ b ∈ allLoops c, StepOk X H (k.finish X fn.results.toList) tbl b) (hF : ∀ x r, k.F x = some r → fnRun X H k fn tbl x = some r) : CtrHolds X.P f k :=
  fun w => ctr_at hX hΓ (hL w) hm dec_sound hf hb hs hF
/-- The same, of a law, in the world that it is asked in. -/
theorem law_ok {X : Ctx} {w : World} (hX : CtxOk X) (hΓ : GammaOk X) (hL : LawOk X w) (hm : X.P.follows .mixedOrders = true) {H : Hints} {f : FuncId} {fn : Func} {c : Code} {k : Ctr} {tbl : Nat → Option (LoopF k.Res)}
    (hf : X.P.funcs[f]? = some fn) (hb : fn.body = some c) (hs : ∀ b ∈ allLoops c, StepOk X H (k.finish X fn.results.toList) tbl b) (hF : ∀ x r, k.F x = some r → fnRun X H k fn tbl x = some r) : CtrAt w X.P f k :=
  ctr_at hX hΓ hL hm dec_sound hf hb hs hF
end Go.Rx
/- The tables of a program, checked at once. -/
namespace Go.Rx
variable [Tabs]

/-- Zeros of one cell. -/
def zEq1 : Value → Value → Bool
  | .int k n, .int k' n' => decide (k = k') && (n == n')
  | .bool a, .bool b => a == b
  | .string a, .string b => (a.data.size == 0) && (b.data.size == 0)
  | .slice none 0 0, .slice none 0 0 => true
  | _, _ => false

def zEqL : List Value → List Value → Bool
  | [], [] => true
  | a :: as, b :: bs => zEq1 a b && zEqL as bs
  | _, _ => false

def zEq : Value → Value → Bool
  | .agg xs, .agg ys => zEqL xs.toList ys.toList
  | a, b => zEq1 a b

theorem bytes_nil {a : ByteArray} (h : a.data.size = 0) : a = ⟨#[]⟩ := by
  cases a with
  | mk d => have : d = #[] := Array.eq_empty_of_size_eq_zero h; subst this; rfl

theorem zEq1_eq {a b : Value} (h : zEq1 a b = true) : a = b := by
  unfold zEq1 at h
  split at h
  · simp only [Bool.and_eq_true, decide_eq_true_eq, beq_iff_eq] at h
    rw [h.1, h.2]
  · simp only [beq_iff_eq] at h; rw [h]
  · simp only [Bool.and_eq_true, beq_iff_eq] at h
    rw [bytes_nil h.1, bytes_nil h.2]
  · rfl
  · cases h

theorem zEqL_eq : ∀ {as bs : List Value}, zEqL as bs = true → as = bs
  | [], [], _ => rfl
  | [], _ :: _, h => by simp [zEqL] at h
  | _ :: _, [], h => by simp [zEqL] at h
  | a :: as, b :: bs, h => by
    simp only [zEqL, Bool.and_eq_true] at h
    rw [zEq1_eq h.1, zEqL_eq h.2]

theorem zEq_eq {a b : Value} (h : zEq a b = true) : a = b := by
  unfold zEq at h
  split at h
  · rename_i xs ys
    have := zEqL_eq h
    rw [show xs = ys from by rw [← Array.toArray_toList (xs := xs), this]]
  · exact zEq1_eq h

/-- One type. -/
def chkTy (X : Ctx) (t : TypeId) : Bool := match X.ty t with
  | none => true
  | some τ => match X.P.info? t with
    | none => false
    | some i => τ.noAny && (i.size == τ.size) && ((match i.zero with | some z => zEq z (mkVal (X.agg t) (zeroVals τ)) | none => false) && ((X.agg t || τ.size == 1) && (X.P.underlying t).isSome))

/-- Fields that may be compared. -/
def fldsEq (X : Ctx) (p : TypeId → Bool) (τ : Ty) : List Field → Nat → Bool
  | [], o => o == τ.size
  | f :: fs, o => (f.name != "_") && ((f.offset == o) && (match X.ty f.type with
    | some σ => decide (((leafTys τ).drop o).take σ.size = leafTys σ) && (p f.type && fldsEq X p τ fs (o + σ.size))
    | none => false))

/-- A type whose values may be compared, cell by cell. -/
def chkEq (X : Ctx) : Nat → TypeId → Bool
  | 0, _ => false
  | n + 1, t => match X.P.underlying t, X.ty t with
    | some (.int _), some (.int _) | some .bool, some .bool | some .string, some .str => true
    | some (.struct fs), some τ => !X.P.stoodInHeld t && fldsEq X (chkEq X n) τ fs.toList 0
    | _, _ => false

def chkAll (X : Ctx) : Bool := (List.range X.tys.length).all (chkTy X)

theorem info_of_chk {X : Ctx} (h : chkAll X = true) : ∀ t τ, X.ty t = some τ → ∃ i, X.P.info? t = some i ∧ i.size = τ.size ∧ i.zero = some (mkVal (X.agg t) (zeroVals τ)) ∧ (X.agg t = false → τ.size = 1) ∧ ∃ d, X.P.underlying t = some d := by
  intro t τ ht
  have hlt : t < X.tys.length := by
    rcases Nat.lt_or_ge t X.tys.length with h1 | h1
    · exact h1
    · simp [Ctx.ty, List.getD, List.getElem?_eq_none h1] at ht
  have hc := List.all_eq_true.1 h t (List.mem_range.2 hlt)
  unfold chkTy at hc
  rw [ht] at hc
  dsimp only at hc
  split at hc
  · cases hc
  · rename_i i hi
    simp only [Bool.and_eq_true, beq_iff_eq, Bool.or_eq_true] at hc
    obtain ⟨⟨_, h1⟩, h2, h3, h4⟩ := hc
    refine ⟨i, hi, h1, ?_, fun ha => ?_, Option.isSome_iff_exists.1 h4⟩
    · split at h2
      · rename_i z hz; rw [hz, zEq_eq h2]
      · cases h2
    · rcases h3 with h3 | h3
      · rw [ha] at h3; cases h3
      · exact h3

theorem plain_of_chk {X : Ctx} (h : chkAll X = true) : ∀ t τ, X.ty t = some τ → τ.noAny = true := by
  intro t τ ht
  have hlt : t < X.tys.length := by
    rcases Nat.lt_or_ge t X.tys.length with h1 | h1
    · exact h1
    · simp [Ctx.ty, List.getD, List.getElem?_eq_none h1] at ht
  have hc := List.all_eq_true.1 h t (List.mem_range.2 hlt)
  unfold chkTy at hc
  rw [ht] at hc
  dsimp only at hc
  split at hc
  · cases hc
  · simp only [Bool.and_eq_true] at hc
    exact hc.1.1

theorem eqCells_cons {c d : C} {cs ds : List C} {b : Bool} (e : eqCells (c :: cs) (d :: ds) = some b) : ∃ b1 b2, eqCell c d = some b1 ∧ eqCells cs ds = some b2 ∧ b = (b1 && b2) := by
  cases cs with
  | nil =>
    cases ds with
    | nil => exact ⟨b, true, e, rfl, by simp⟩
    | cons d' ds => simp [eqCells] at e
  | cons c' cs =>
    cases ds with
    | nil => simp [eqCells] at e
    | cons d' ds =>
      simp only [eqCells] at e
      split at e
      · rename_i a b' h1 h2; cases e; exact ⟨a, b', h1, h2, rfl⟩
      · cases e

theorem eqCells_split : ∀ (n : Nat) {cs ds : List C} {b : Bool}, eqCells cs ds = some b → n ≤ cs.length → ∃ b1 b2, eqCells (cs.take n) (ds.take n) = some b1 ∧ eqCells (cs.drop n) (ds.drop n) = some b2 ∧ b = (b1 && b2)
  | 0, cs, ds, b, e, _ => ⟨true, b, rfl, e, by simp⟩
  | n + 1, [], ds, b, e, h => by simp at h
  | n + 1, c :: cs, [], b, e, _ => by simp [eqCells] at e
  | n + 1, c :: cs, d :: ds, b, e, h => by
    obtain ⟨b1, b2, h1, h2, rfl⟩ := eqCells_cons e
    obtain ⟨b3, b4, h3, h4, rfl⟩ := eqCells_split n h2 (by simpa using h)
    refine ⟨b1 && b3, b4, ?_, h4, by simp [Bool.and_assoc]⟩
    simp only [List.take_succ_cons]
    cases hc : cs.take n with
    | nil =>
      rw [hc] at h3
      cases hd : ds.take n with
      | nil => rw [hd] at h3; cases h3; simp [eqCells, h1]
      | cons d' ds' => rw [hd] at h3; simp [eqCells] at h3
    | cons c' cs' =>
      rw [hc] at h3
      cases hd : ds.take n with
      | nil => rw [hd] at h3; simp [eqCells] at h3
      | cons d' ds' => rw [hd] at h3; simp only [eqCells, h1, h3]

section
variable {X : Ctx} {w : World} {ok : Nat → Prop} {h : Heap} {ρ : Nat → Value}

theorem part_run (hi : ∀ t τ, X.ty t = some τ → ∃ i, X.P.info? t = some i ∧ i.size = τ.size ∧ i.zero = some (mkVal (X.agg t) (zeroVals τ)) ∧ (X.agg t = false → τ.size = 1) ∧ ∃ d, X.P.underlying t = some d)
    {t : TypeId} {τ : Ty} (ht : X.ty t = some τ) {us : List Value} {o : Nat} (hl : o + τ.size ≤ us.length) : (part t us.toArray o).run X.P w = .ok (mkVal (X.agg t) ((us.drop o).take τ.size)) w := by
  obtain ⟨i, hinfo, hs, _, hone, d, hd⟩ := hi t τ ht
  cases ha : X.agg t with
  | true => simp only [part, Sem.run_bind, run_isAgg' hd, ha, Result.andThen_ok, if_true, run_sizeOf' hinfo, hs, Sem.run_pure, extract_list, mkVal]
  | false =>
    have h1 := hone ha
    have hlt : o < us.length := by omega
    simp only [part, Sem.run_bind, run_isAgg' hd, ha, Result.andThen_ok, Bool.false_eq_true, if_false, List.getElem?_toArray, List.getElem?_eq_getElem hlt, Sem.run_pure, mkVal, h1]
    rw [List.drop_eq_getElem_cons hlt]
    simp [List.getElem?_eq_getElem hlt]


theorem kindsL_len : ∀ {ts : List Ty} {cs : List C}, kindsL ts cs = true → cs.length = ts.length
  | [], [], _ => rfl
  | [], _ :: _, h => by simp [kindsL] at h
  | _ :: _, [], h => by simp [kindsL] at h
  | τ :: ts, c :: cs, h => by
    simp only [kindsL, Bool.and_eq_true] at h
    simp [kindsL_len h.2]

theorem kindsL_drop : ∀ (n : Nat) {ts : List Ty} {cs : List C}, kindsL ts cs = true → kindsL (ts.drop n) (cs.drop n) = true
  | 0, _, _, h => h
  | n + 1, [], [], h => h
  | n + 1, [], _ :: _, h => by simp [kindsL] at h
  | n + 1, _ :: _, [], h => by simp [kindsL] at h
  | n + 1, τ :: ts, c :: cs, h => by
    simp only [kindsL, Bool.and_eq_true] at h
    exact kindsL_drop n h.2

theorem kindsL_take : ∀ (n : Nat) {ts : List Ty} {cs : List C}, kindsL ts cs = true → kindsL (ts.take n) (cs.take n) = true
  | 0, _, _, _ => rfl
  | n + 1, [], [], h => h
  | n + 1, [], _ :: _, h => by simp [kindsL] at h
  | n + 1, _ :: _, [], h => by simp [kindsL] at h
  | n + 1, τ :: ts, c :: cs, h => by
    simp only [kindsL, Bool.and_eq_true] at h
    simp only [List.take_succ_cons, kindsL, Bool.and_eq_true]
    exact ⟨h.1, kindsL_take n h.2⟩

theorem leafTys_len : ∀ τ : Ty, (leafTys τ).length = τ.size
  | .pair a b => by simp [leafTys, Ty.size, leafTys_len a, leafTys_len b]
  | .unit => rfl
  | .int _ => rfl
  | .bool => rfl
  | .str => rfl
  | .sl _ => rfl
  | .old _ => rfl
  | .any => rfl

theorem eq_sound (hi : ∀ t τ, X.ty t = some τ → ∃ i, X.P.info? t = some i ∧ i.size = τ.size ∧ i.zero = some (mkVal (X.agg t) (zeroVals τ)) ∧ (X.agg t = false → τ.size = 1) ∧ ∃ d, X.P.underlying t = some d) :
    ∀ (n : Nat) (t : TypeId), chkEq X n t = true → ∀ (d : Nat), n ≤ d → ∀ {cs ds : List C} {b : Bool} {us vs : List Value}, X.kindsOk t cs = true → eqCells cs ds = some b → CsRep w ok h ρ cs us → CsRep w ok h ρ ds vs →
      (Op.equalIn d t (mkVal (X.agg t) us) (mkVal (X.agg t) vs)).run X.P w = .ok b w := by
  intro n
  induction n with
  | zero => intro t hc; simp [chkEq] at hc
  | succ n ih =>
    intro t hc d hd cs ds b us vs hk he ru rv
    obtain ⟨d, rfl⟩ : ∃ k, d = k + 1 := ⟨d - 1, by omega⟩
    have hlen := eqCells_len he
    unfold chkEq at hc
    unfold Ctx.kindsOk at hk
    have one : ∀ {τ : Ty}, leafTys τ = [τ] → kindsL (leafTys τ) cs = true → ∃ c e u v, cs = [c] ∧ ds = [e] ∧ us = [u] ∧ vs = [v] ∧ CRep w ok h ρ c u ∧ CRep w ok h ρ e v ∧ eqCell c e = some b ∧ kindOk τ c = true := by
      intro τ h1 h2
      rw [h1] at h2
      match cs, ds, us, vs, ru, rv, h2, hlen with
      | [c], [e], [u], [v], .cons rc .nil, .cons re .nil, h2, _ => exact ⟨c, e, u, v, rfl, rfl, rfl, rfl, rc, re, he, by simpa [kindsL] using h2⟩
      | [], _, _, _, _, _, h2, _ => simp [kindsL] at h2
      | _ :: _ :: _, _, _, _, _, _, h2, _ => simp [kindsL] at h2
      | [_], [], _, _, _, _, _, hlen => simp at hlen
      | [_], _ :: _ :: _, _, _, _, _, _, hlen => simp at hlen
    split at hc
    · rename_i k k' hu ht
      rw [ht] at hk
      have ha : X.agg t = false := by simp [Ctx.agg, hu]
      obtain ⟨c, e, u, v, rfl, rfl, rfl, rfl, rc, re, hb, hkd⟩ := one (τ := .int k') rfl hk
      unfold eqCell at hb
      split at hb
      · split at hb
        · cases hb
          cases List.singleton_inj.1 rc
          cases List.singleton_inj.1 re
          rename_i hkk; subst hkk
          simp only [ha, mkVal]
          exact run_equalIn_int w d t _ k _ _ hu
        · cases hb
      · simp [kindOk] at hkd
      · simp [kindOk] at hkd
      · cases hb
    · rename_i hu ht
      rw [ht] at hk
      have ha : X.agg t = false := by simp [Ctx.agg, hu]
      obtain ⟨c, e, u, v, rfl, rfl, rfl, rfl, rc, re, hb, hkd⟩ := one (τ := .bool) rfl hk
      unfold eqCell at hb
      split at hb
      · simp [kindOk] at hkd
      · cases hb
        cases List.singleton_inj.1 rc
        cases List.singleton_inj.1 re
        simp only [ha, mkVal]
        exact run_equalIn_bool' w d t _ _ hu
      · simp [kindOk] at hkd
      · cases hb
    · rename_i hu ht
      rw [ht] at hk
      have ha : X.agg t = false := by simp [Ctx.agg, hu]
      obtain ⟨c, e, u, v, rfl, rfl, rfl, rfl, rc, re, hb, hkd⟩ := one (τ := .str) rfl hk
      unfold eqCell at hb
      split at hb
      · simp [kindOk] at hkd
      · simp [kindOk] at hkd
      · rename_i x y
        cases hb
        cases List.singleton_inj.1 rc
        cases List.singleton_inj.1 re
        simp only [ha, mkVal]
        have := run_equalIn_string (P := X.P) w d t ⟨(x : List UInt8).toArray⟩ ⟨(y : List UInt8).toArray⟩ hu
        rw [toList_mk, toList_mk] at this
        exact this
      · cases hb
    · rename_i fs τ hu ht
      rw [ht] at hk
      have ha : X.agg t = true := by simp [Ctx.agg, hu]
      simp only [Bool.and_eq_true, Bool.not_eq_true'] at hc
      obtain ⟨hst, hfl⟩ := hc
      have hf : X.P.fieldsOf t = fs := by simp [Program.fieldsOf, hu]
      simp only [ha, mkVal, if_true]
      rw [run_equalIn_struct w d t _ _ (by rw [hf]; exact hu) hst, hf]
      have hcl : cs.length = τ.size := by rw [kindsL_len hk, leafTys_len]
      -- field by field
      have key : ∀ (fl : List Field) (o : Nat) (b : Bool), fldsEq X (chkEq X n) τ fl o = true → o ≤ τ.size → eqCells (cs.drop o) (ds.drop o) = some b → (Op.eqFields d us.toArray vs.toArray fl).run X.P w = .ok b w := by
        intro fl
        induction fl with
        | nil =>
          intro o b h1 h2 h3
          simp only [fldsEq, beq_iff_eq] at h1
          have e1 : cs.drop o = [] := List.drop_eq_nil_of_le (by omega)
          have e2 : ds.drop o = [] := List.drop_eq_nil_of_le (by omega)
          rw [e1, e2] at h3
          simp only [eqCells, Option.some.injEq] at h3
          subst h3
          simp [Op.eqFields]
        | cons f fl ihf =>
          intro o b h1 h2 h3
          simp only [fldsEq, Bool.and_eq_true, bne_iff_ne, ne_eq, beq_iff_eq] at h1
          obtain ⟨hn, ho, h1⟩ := h1
          split at h1
          · rename_i σ hσ
            simp only [Bool.and_eq_true, decide_eq_true_eq] at h1
            obtain ⟨hleaf, hq, hrest⟩ := h1
            have hsz : o + σ.size ≤ τ.size := by
              have := congrArg List.length hleaf
              simp only [List.length_take, List.length_drop, leafTys_len] at this
              omega
            have hul : us.length = τ.size := by rw [← ru.len, hcl]
            have hvl : vs.length = τ.size := by rw [← rv.len, ← hlen, hcl]
            obtain ⟨b1, b2, k1, k2, rfl⟩ := eqCells_split σ.size h3 (by simp; omega)
            rw [List.drop_drop, List.drop_drop] at k2
            have p1 := part_run (w := w) hi hσ (us := us) (o := o) (by omega)
            have p2 := part_run (w := w) hi hσ (us := vs) (o := o) (by omega)
            have hkf : X.kindsOk f.type ((cs.drop o).take σ.size) = true := by
              unfold Ctx.kindsOk
              rw [hσ]
              dsimp only
              rw [← hleaf]
              exact kindsL_take _ (kindsL_drop _ hk)
            have q1 := ih f.type hq d (by omega) hkf k1 ((ru.drop o).take _) ((rv.drop o).take _)
            have r1 := ihf (o + σ.size) b2 hrest hsz k2
            simp only [Op.eqFields, ne_eq, hn, not_false_eq_true, if_true, ho, Sem.run_bind, p1, p2, Result.andThen_ok, q1]
            cases b1 with
            | true => simpa using r1
            | false => simp
          · cases h1
      exact key fs.toList 0 b hfl (Nat.zero_le _) (by simpa using he)
    · cases hc

/-- The tables are as asked. -/
theorem ctxOk_of {X : Ctx} (h : chkAll X = true) (he : (X.eqs.all fun t => (chkEq X 10 t && X.agg t) && !X.P.eqGuardType X.P.depth t) = true) : CtxOk X := by
  refine ⟨plain_of_chk h, info_of_chk h, fun t ht => ?_⟩
  have := List.all_eq_true.1 he t ht
  simp only [Bool.and_eq_true, Bool.not_eq_true'] at this
  obtain ⟨⟨h1, h2⟩, h3⟩ := this
  refine ⟨h3, fun cs ds b hk hb w ok hh ρ us vs ru rv => ?_⟩
  have := eq_sound (info_of_chk h) 10 t h1 10000 (by omega) hk hb ru rv
  simpa only [h2, mkVal, if_true] using this
end
end Go.Rx
/- The frame in use: tables, contexts with contracts, loops by number. -/
namespace Go.Rx
variable [Tabs]
universe u
def lk {α : Type u} : List (Nat × α) → Nat → Option α
  | [], _ => none
  | p :: l, n => if n = p.1 then some p.2 else lk l n

theorem lk_mem {α : Type u} : ∀ {l : List (Nat × α)} {n : Nat} {a : α}, lk l n = some a → (n, a) ∈ l
  | [], _, _, e => by simp [lk] at e
  | p :: l, n, a, e => by
    simp only [lk] at e
    split at e
    · rename_i h; cases e; rw [h]; exact List.mem_cons_self
    · exact List.mem_cons_of_mem _ (lk_mem e)

def Ctx.withΓ (X : Ctx) (Γ : FuncId → Option Ctr) (N : FuncId → Option NCtr) : Ctx := { X with Γ := Γ, N := N }

theorem CtxOk.withΓ {X : Ctx} (h : CtxOk X) (Γ : FuncId → Option Ctr) (N : FuncId → Option NCtr) : CtxOk (X.withΓ Γ N) := ⟨h.plain, h.info, h.eqs⟩

def Ctx.withM (X : Ctx) (M : FuncId → Option MCtr) : Ctx := { X with M := M }

theorem CtxOk.withM {X : Ctx} (h : CtxOk X) (M : FuncId → Option MCtr) : CtxOk (X.withM M) := ⟨h.plain, h.info, h.eqs⟩
theorem GammaOk.withM {X : Ctx} (h : GammaOk X) (M : FuncId → Option MCtr) : GammaOk (X.withM M) := ⟨h.holds, h.news⟩

/-- The contracts of functions that mark. -/
inductive MarkL (P : Program) : List (Nat × MCtr) → Prop
  | nil : MarkL P []
  | cons {f : Nat} {m : MCtr} {l : List (Nat × MCtr)} (h : ∀ T : Tabs, @CtrHolds T P f m.ctr) (c : CallOk P f) (t : MarkL P l) : MarkL P ((f, m) :: l)

theorem MarkL.mem {P : Program} {l : List (Nat × MCtr)} (g : MarkL P l) : ∀ p ∈ l, (∀ T : Tabs, @CtrHolds T P p.1 p.2.ctr) ∧ CallOk P p.1 := by
  induction g with
  | nil => intro p hp; simp at hp
  | cons h c t ih =>
    intro p hp
    rcases List.mem_cons.1 hp with rfl | hp
    · exact ⟨h, c⟩
    · exact ih p hp

theorem law_lk {X : Ctx} {W : World} {l : List (Nat × MCtr)} (h : MarkL X.P l) (hs : Tabs.sep = true) (hN : W.heap.size ≤ Tabs.N) (hS : ∀ b p, ¬ Tabs.S b p) : LawOk (X.withM (lk l)) W :=
  ⟨fun f m e => ⟨hs, hN, hS, (h.mem (f, m) (lk_mem e)).1, (h.mem (f, m) (lk_mem e)).2⟩⟩

/-- The contracts of callees. -/
inductive GamL (P : Program) : List (Nat × Ctr) → Prop
  | nil : GamL P []
  | cons {f : Nat} {k : Ctr} {l : List (Nat × Ctr)} (h : CtrHolds P f k) (c : CallOk P f) (t : GamL P l) : GamL P ((f, k) :: l)

theorem GamL.mem {P : Program} {l : List (Nat × Ctr)} (g : GamL P l) : ∀ p ∈ l, CtrHolds P p.1 p.2 ∧ CallOk P p.1 := by
  induction g with
  | nil => intro p hp; simp at hp
  | cons h c t ih =>
    intro p hp
    rcases List.mem_cons.1 hp with rfl | hp
    · exact ⟨h, c⟩
    · exact ih p hp

inductive NewL (P : Program) : List (Nat × NCtr) → Prop
  | nil : NewL P []
  | cons {f : Nat} {k : NCtr} {l : List (Nat × NCtr)} (h : NHolds P f k) (c : CallOk P f) (t : NewL P l) : NewL P ((f, k) :: l)

theorem NewL.mem {P : Program} {l : List (Nat × NCtr)} (g : NewL P l) : ∀ p ∈ l, NHolds P p.1 p.2 ∧ CallOk P p.1 := by
  induction g with
  | nil => intro p hp; simp at hp
  | cons h c t ih =>
    intro p hp
    rcases List.mem_cons.1 hp with rfl | hp
    · exact ⟨h, c⟩
    · exact ih p hp

theorem gamma_lk {X : Ctx} {l : List (Nat × Ctr)} {n : List (Nat × NCtr)} (h : GamL X.P l) (g : NewL X.P n) : GammaOk (X.withΓ (lk l) (lk n)) :=
  ⟨fun f k e => h.mem (f, k) (lk_mem e), fun f k e => g.mem (f, k) (lk_mem e)⟩

def bodyOf (fn : Func) : Code := fn.body.getD .skip
def loopAt (fn : Func) (i : Nat) : Code := (allLoops (bodyOf fn)).getD i .skip

section
variable {fn : Func} {P : Code → Prop}
theorem loopsN {n : Nat} (e : (allLoops (bodyOf fn)).length = n) (h : ∀ i, i < n → P (loopAt fn i)) : ∀ b ∈ allLoops (bodyOf fn), P b := by
  intro b hb
  obtain ⟨i, hi, rfl⟩ := List.getElem_of_mem hb
  have := h i (by omega)
  unfold loopAt at this
  rw [List.getD_eq_getElem?_getD, List.getElem?_eq_getElem hi] at this
  exact this
theorem loops0 (e : (allLoops (bodyOf fn)).length = 0) : ∀ b ∈ allLoops (bodyOf fn), P b := loopsN e fun i h => by omega
theorem loops1 (e : (allLoops (bodyOf fn)).length = 1) (h0 : P (loopAt fn 0)) : ∀ b ∈ allLoops (bodyOf fn), P b := loopsN e fun i h =>
  match i, h with | 0, _ => h0
theorem loops2 (e : (allLoops (bodyOf fn)).length = 2) (h0 : P (loopAt fn 0)) (h1 : P (loopAt fn 1)) : ∀ b ∈ allLoops (bodyOf fn), P b := loopsN e fun i h =>
  match i, h with | 0, _ => h0 | 1, _ => h1
theorem loops3 (e : (allLoops (bodyOf fn)).length = 3) (h0 : P (loopAt fn 0)) (h1 : P (loopAt fn 1)) (h2 : P (loopAt fn 2)) : ∀ b ∈ allLoops (bodyOf fn), P b := loopsN e fun i h =>
  match i, h with | 0, _ => h0 | 1, _ => h1 | 2, _ => h2
end

/-! ### words of the printed functions -/
def nth {α : Type u} [Inhabited α] (xs : List α) (i : Int) : α := xs.getD i.toNat default
def bytesOf (s : List UInt8) : List Int := s.map fun b => (b.toNat : Int)
def strOf (xs : List Int) : List UInt8 := xs.map fun n => UInt8.ofNat n.toNat
end Go.Rx
/- From what was handed in to trees. -/
namespace Go.Rx
variable [Tabs]
open Go.RowKit Go.ChangeShapes

/-- Data in range. -/
def GoodD : (c : Ty) → c.den → Prop
  | .int k, x => (Lit.int k x).wf = true
  | .bool, _ => True
  | .str, s => (s : List UInt8).length ≤ maxLen
  | .sl c, xs => (xs : List c.den).length ≤ maxLen ∧ ∀ x ∈ (xs : List c.den), GoodD c x
  | .old c, xs => (xs : List c.den).length ≤ maxLen ∧ ∀ x ∈ (xs : List c.den), GoodD c x
  | .any, _ => True
  | .unit, _ => True
  | .pair a b, p => GoodD a p.1 ∧ GoodD b p.2

/-- Fields, one behind the other, as a tree of pairs. -/
def fldsFit (P : Program) (p : TypeId → Ty → Bool) : List Field → Nat → Ty → Bool
  | [], _, _ => false
  | f :: fs, o, τ => (f.offset == o) && match fs with
    | [] => (P.cellsOf f.type == τ.size) && p f.type τ
    | _ :: _ => match τ with
      | .pair a b => (P.cellsOf f.type == a.size) && (p f.type a && fldsFit P p fs (o + a.size) b)
      | _ => false

def tyFits (P : Program) : Nat → TypeId → Ty → Bool
  | 0, _, _ => false
  | n + 1, t, τ => match P.underlying t with
    | some (.int k) => decide (τ = .int k)
    | some .bool => decide (τ = .bool)
    | some .string => decide (τ = .str)
    | some (.slice e) => match τ with
      | .old c => (c.noAny && tyFits P n e c) && ((P.cellsOf e == c.size) && decide (0 < c.size))
      | _ => false
    | some (.struct fs) => (P.cellsOf t == τ.size) && fldsFit P (tyFits P n) fs.toList 0 τ
    | _ => false

theorem pick_list {α : Type} {P : Nat → α → Prop} : ∀ {n : Nat}, (∀ i, i < n → ∃ x, P i x) → ∃ xs : List α, xs.length = n ∧ ∀ i (h : i < xs.length), P i xs[i]
  | 0, _ => ⟨[], rfl, fun i h => absurd h (Nat.not_lt_zero i)⟩
  | n + 1, h => by
    obtain ⟨xs, hl, hx⟩ := pick_list (n := n) fun i hi => h i (by omega)
    obtain ⟨x, hp⟩ := h n (by omega)
    refine ⟨xs ++ [x], by simp [hl], fun i hi => ?_⟩
    rcases Nat.lt_or_ge i xs.length with h1 | h1
    · rw [List.getElem_append_left h1]; exact hx i h1
    · have : i = n := by simp at hi; omega
      subst this
      rw [List.getElem_append_right (by omega)]
      simpa [hl] using hp

section
variable {H : Type} {enc : TypeId × Value → H} {P : Program} {w : World} {base : Nat} {spare : Nat → Bool} {held : Bool}

theorem flds_rep {p : TypeId → Ty → Bool} {fuel : Nat} {cs : List Value}
    (hp : ∀ t τ cs y, p t τ = true → DataW.trod enc P w base spare held fuel t cs = some y → ∃ x : τ.den, Rep w (fun k => k < w.heap.size) τ x cs ∧ GoodD τ x) :
    ∀ (fl : List Field) (o : Nat) (τ : Ty), fldsFit P p fl o τ = true → cs.length = o + τ.size →
      (∀ f ∈ fl, ∃ y, DataW.trod enc P w base spare held fuel f.type ((cs.drop f.offset).take (P.cellsOf f.type)) = some y) → ∃ x : τ.den, Rep w (fun k => k < w.heap.size) τ x (cs.drop o) ∧ GoodD τ x
  | [], _, _, h, _, _ => by simp [fldsFit] at h
  | [f], o, τ, h, hl, hy => by
    simp only [fldsFit, Bool.and_eq_true, beq_iff_eq] at h
    obtain ⟨h1, h2, h3⟩ := h
    obtain ⟨y, e⟩ := hy f (by simp)
    obtain ⟨x, r, g⟩ := hp _ _ _ _ h3 e
    rw [h1, h2, List.take_of_length_le (by simp; omega)] at r
    exact ⟨x, r, g⟩
  | f :: g :: fl, o, τ, h, hl, hy => by
    simp only [fldsFit, Bool.and_eq_true, beq_iff_eq] at h
    obtain ⟨h1, h⟩ := h
    cases τ with
    | pair a b =>
      simp only [Bool.and_eq_true, beq_iff_eq] at h
      obtain ⟨h2, h3, h4⟩ := h
      obtain ⟨y, e⟩ := hy f (by simp)
      obtain ⟨x, r, gx⟩ := hp _ _ _ _ h3 e
      rw [h1, h2] at r
      have hs : (Ty.pair a b).size = a.size + b.size := rfl
      obtain ⟨z, rz, gz⟩ := flds_rep hp (g :: fl) (o + a.size) b (by simpa [fldsFit] using h4) (by omega) fun f hf => hy f (by simp only [List.mem_cons] at hf ⊢; exact .inr hf)
      refine ⟨(x, z), ⟨_, _, ?_, r, rz⟩, gx, gz⟩
      rw [← List.drop_drop, List.take_append_drop]
    | _ => cases h

theorem trod_rep (hO : ∀ k, k < w.heap.size → LO k) (hS : ∀ b p, ¬ Tabs.S b p) : ∀ (n : Nat) {t : TypeId} {τ : Ty} {fuel : Nat} {cs : List Value} {y : DataW H × List MemPlace}, tyFits P n t τ = true → DataW.trod enc P w base spare held fuel t cs = some y →
    ∃ x : τ.den, Rep w (fun k => k < w.heap.size) τ x cs ∧ GoodD τ x
  | 0, _, _, _, _, _, h, _ => by simp [tyFits] at h
  | n + 1, t, τ, fuel, cs, y, h, e => by
    unfold tyFits at h
    split at h
    · rename_i k hu
      have h := of_decide_eq_true h
      subst h
      obtain ⟨m, rfl, _, hw⟩ := DataW.trod_int hu e
      exact ⟨m, rfl, hw⟩
    · rename_i hu
      have h := of_decide_eq_true h
      subst h
      obtain ⟨b, rfl, _⟩ := DataW.trod_bool hu e
      exact ⟨b, rfl, trivial⟩
    · rename_i hu
      have h := of_decide_eq_true h
      subst h
      obtain ⟨s, rfl, _, hs⟩ := DataW.trod_string hu e
      exact ⟨s.data.toList, rfl, by simpa [GoodD] using hs⟩
    · rename_i el hu
      cases τ with
      | old c =>
        simp only [Bool.and_eq_true, beq_iff_eq, decide_eq_true_eq] at h
        obtain ⟨⟨hna, h1⟩, h2, h3⟩ := h
        rcases DataW.trod_slice hu e with ⟨rfl, _⟩ | ⟨a, len, cap, elems, rest, m, rfl, rfl, _, hb, hlc, hcm, hel, hi, _⟩
        · exact ⟨[], ⟨none, 0, rfl, Nat.le_refl _, fun i hi => absurd hi (Nat.not_lt_zero i)⟩, by simp [GoodD, maxLen], fun x hx => by simp at hx⟩
        · have hsp : 0 < len → a.spot = none := by
            intro h0
            have hie := hi 0 h0
            rw [List.getElem?_eq_getElem (by omega)] at hie
            obtain ⟨ci, hc, ht⟩ := Option.bind_eq_some_iff.1 hie
            obtain ⟨_, hlen, hcell⟩ := World.cells?_some hc
            have h0 := hcell 0 (by omega)
            rw [List.getElem?_eq_getElem (by omega), show (a.add (0 * P.cellsOf el)).add 0 = a from by simp [Addr.add]] at h0
            unfold World.cell? at h0
            split at h0
            · split at h0
              · cases h0
              · rename_i hns
                cases hq : a.spot with
                | none => rfl
                | some q => exact absurd (by simp [hq]) hns
            · cases h0
          have hadd : 0 < len → ∀ k, a.add k = ⟨a.block, a.off + k, none⟩ := by
            intro h0 k
            have := hsp h0
            unfold Addr.add
            split
            · rename_i hk; subst hk; cases a; cases this; rfl
            · rfl
          have key : ∀ i, i < len → ∃ x : c.den, (∃ b o cs, some a = some ⟨b, o, none⟩ ∧ (b < w.heap.size ∧ LO b) ∧ Rep w (fun k => k < w.heap.size) c x cs ∧ ∀ j (hj : j < cs.length), w.cell? ⟨b, o + (i * c.size + j), none⟩ = some cs[j] ∧ Prot w b (o + (i * c.size + j)) (c.isAny j)) ∧ GoodD c x := by
            intro i hlt
            have h0 : 0 < len := by omega
            have hie := hi i hlt
            rw [List.getElem?_eq_getElem (by omega)] at hie
            obtain ⟨ci, hc, ht⟩ := Option.bind_eq_some_iff.1 hie
            obtain ⟨x, r, g⟩ := trod_rep hO hS n h1 ht
            obtain ⟨_, hlen, hcell⟩ := World.cells?_some hc
            have hpos : 0 < P.cellsOf el := by omega
            have hblk := World.cells?_block hc hpos
            rw [hadd h0] at hblk
            refine ⟨x, ⟨a.block, a.off, ci, by rw [← hsp h0], ⟨hblk, hO _ hblk⟩, r, fun j hj => ⟨?_, fun _ => hS _ _, fun ha => by rw [noAny_isAny hna] at ha; cases ha⟩⟩, g⟩
            have hj2 : j < P.cellsOf el := by omega
            have hcj := hcell j hj2
            rw [List.getElem?_eq_getElem (by omega), hadd h0] at hcj
            rw [← hcj, h2]
            congr 1
            unfold Addr.add
            split
            · rename_i hk; subst hk; rfl
            · simp [Nat.add_assoc]
          obtain ⟨xs, hxl, hx⟩ := pick_list key
          refine ⟨xs, ⟨some a, cap, by rw [hxl], by rw [hxl]; exact hlc, fun i hi => (hx i hi).1⟩, by rw [hxl]; omega, fun x hx' => ?_⟩
          obtain ⟨i, hi, rfl⟩ := List.getElem_of_mem hx'
          exact (hx i hi).2
      | _ => cases h
    · rename_i fs hu
      simp only [Bool.and_eq_true, beq_iff_eq] at h
      obtain ⟨h1, h2⟩ := h
      obtain ⟨xs, m, rfl, _, hl, hxl, hf⟩ := DataW.trod_struct hu e
      have := flds_rep (enc := enc) (P := P) (w := w) (base := base) (spare := spare) (held := held) (p := tyFits P n) (fuel := m) (cs := cs) (fun t τ cs y h e => trod_rep hO hS n h e) fs.toList 0 τ h2 (by omega) (fun f hfm => ?_)
      · simpa using this
      · obtain ⟨i, hi, rfl⟩ := List.getElem_of_mem hfm
        have hi' : i < fs.size := by simpa using hi
        refine ⟨xs[i]'(by omega), ?_⟩
        rw [hf i _ (by simp [hi'])]
        exact List.getElem?_eq_getElem _
    · cases h

/-! ### What was handed in -/
def argsFit (X : Ctx) : List TypeId → List PK → Bool
  | [], [] => true
  | t :: ts, .val a τ :: ps => (a == X.agg t) && (tyFits X.P 20 t τ && (X.P.readableRec t && (decide (t < X.P.types.size) && argsFit X ts ps)))
  | _, _ => false

def GoodArgs : (ps : List PK) → (Ty.prod (ps.map PK.ty)).den → Prop
  | [], _ => True
  | p :: ps, x => GoodD p.ty (hdArg p ps x) ∧ GoodArgs ps (tlArg p ps x)

theorem hd_cons (p : PK) (ps : List PK) (x : p.ty.den) (y : (Ty.prod (ps.map PK.ty)).den) : hdArg p ps (consArg p ps x y) = x := by cases ps <;> rfl
theorem tl_cons (p : PK) (ps : List PK) (x : p.ty.den) (y : (Ty.prod (ps.map PK.ty)).den) : tlArg p ps (consArg p ps x y) = y := by cases ps <;> rfl

theorem arg_rep {X : Ctx} {W : World} {t : TypeId} {τ : Ty} {v : Value} {d : DataW H} {q : List MemPlace} {ok : Nat → Prop} {ρ : Nat → Value} {sp : Nat → Bool} {r0 : Reach} {b0 : Nat} (hO : ∀ k, k < W.heap.size → LO k) (hS : ∀ b p, ¬ Tabs.S b p) (hok : ∀ k, k < W.heap.size → ok k) (hf : tyFits X.P 20 t τ = true) (hv : Value.okWide X.P W r0 b0 t v)
    (hd : DataW.Trod enc X.P W 0 sp true t v d q) : ∃ x : τ.den, GoodD τ x ∧ VRep W ok [] ρ (mkV (X.agg t) (toCells τ x)) v := by
  have hd0 := hd
  obtain ⟨fuel, e⟩ := hd
  obtain ⟨x, r, g⟩ := trod_rep hO hS 20 hf e
  have r : Rep W ok τ x v.cells.toList := Rep.mono (fun k hk => ⟨hok k hk, rfl⟩) r
  have rc : CsRep W ok [] ρ (toCells τ x) v.cells.toList := rep_cells r
  refine ⟨x, g, ?_⟩
  have one : X.agg t = false → v.cells = #[v] → VRep W ok [] ρ (mkV (X.agg t) (toCells τ x)) v := by
    intro ha hc
    rw [hc] at rc
    have hl : (toCells τ x).length = 1 := rc.length
    match hq : toCells τ x, hl with
    | [c], _ =>
      rw [hq] at rc
      rw [ha]
      cases rc with
      | cons h _ => exact h
  unfold tyFits at hf
  split at hf
  · rename_i k hu
    obtain ⟨n, rfl, _⟩ := open_int hu hv hd0
    exact one (by simp [Ctx.agg, hu]) rfl
  · rename_i hu
    obtain ⟨n, rfl, _⟩ := open_bool hu hv hd0
    exact one (by simp [Ctx.agg, hu]) rfl
  · rename_i hu
    obtain ⟨n, rfl, _⟩ := Go.ChangeMaps.open_string hu hv hd0
    exact one (by simp [Ctx.agg, hu]) rfl
  · rename_i el hu
    obtain ⟨a, len, cap, rfl⟩ := Go.WideShapes.okWide_slice hu hv
    exact one (by simp [Ctx.agg, hu]) rfl
  · rename_i fs hu
    unfold Value.okWide at hv
    rw [hu] at hv
    obtain ⟨cs, rfl, _, _⟩ := hv
    have ha : X.agg t = true := by simp [Ctx.agg, hu]
    rw [ha]
    exact ⟨cs.toList, by simp, rc⟩
  · cases hf

theorem args_rep {X : Ctx} {W : World} {ok : Nat → Prop} {ρ : Nat → Value} {sp : Nat → Bool} {r0 : Reach} {b0 : Nat} (hO : ∀ k, k < W.heap.size → LO k) (hS : ∀ b p, ¬ Tabs.S b p) (hok : ∀ k, k < W.heap.size → ok k) : ∀ {ts : List TypeId} {ps : List PK} {vs : List Value} {ds : List (DataW H)} {q : List MemPlace},
    argsFit X ts ps = true → DataW.TrodAll enc X.P W 0 sp true ts vs ds q → (∀ (j : Nat) t v, ts[j]? = some t → vs[j]? = some v → Value.okWide X.P W r0 b0 t v) →
    ∃ a : (Ty.prod (ps.map PK.ty)).den, GoodArgs ps a ∧ ∀ n, All2 (VRep W ok [] ρ) (entryArgs ps a n).1 vs ∧ (entryArgs ps a n).2 = []
  | [], [], vs, ds, q, _, h, _ => by
    obtain ⟨rfl, _, _⟩ := trodAll_nil h
    exact ⟨(), trivial, fun n => ⟨.nil, rfl⟩⟩
  | [], _ :: _, _, _, _, hf, _, _ => by simp [argsFit] at hf
  | t :: ts, [], _, _, _, hf, _, _ => by simp [argsFit] at hf
  | t :: ts, .ref _ _ :: ps, _, _, _, hf, _, _ => by simp [argsFit] at hf
  | t :: ts, .val a τ :: ps, vs, ds, q, hf, h, hv => by
    simp only [argsFit, Bool.and_eq_true, beq_iff_eq] at hf
    obtain ⟨rfl, h1, _, _, h2⟩ := hf
    obtain ⟨v, vs', d, ds', p, q', rfl, rfl, rfl, hd, hrest⟩ := trodAll_cons h
    obtain ⟨x, gx, rx⟩ : ∃ x : (PK.val (X.agg t) τ).ty.den, GoodD (PK.val (X.agg t) τ).ty x ∧ ∀ n, VRep W ok [] ρ (entryArg (.val (X.agg t) τ) x n).1 v ∧ (entryArg (.val (X.agg t) τ) x n).2 = [] := by
      obtain ⟨x, gx, rx⟩ := arg_rep (ρ := ρ) hO hS hok h1 (hv 0 t v rfl rfl) hd
      exact ⟨x, gx, fun n => ⟨rx, rfl⟩⟩
    obtain ⟨y, gy, ry⟩ := args_rep (ρ := ρ) hO hS hok h2 hrest fun j t' v' h3 h4 => hv (j + 1) t' v' (by simpa using h3) (by simpa using h4)
    refine ⟨consArg (.val (X.agg t) τ) ps x y, ⟨by rw [hd_cons]; exact gx, by rw [tl_cons]; exact gy⟩, fun n => ?_⟩
    have e : entryArgs (.val (X.agg t) τ :: ps) (consArg (.val (X.agg t) τ) ps x y) n = ((entryArg (.val (X.agg t) τ) x n).1 :: (entryArgs ps y n).1, (entryArgs ps y n).2) := by
      simp only [entryArgs, hd_cons, tl_cons, (rx n).2, List.length_nil, Nat.add_zero, List.nil_append]
    rw [e]
    exact ⟨.cons (rx n).1 (ry n).1, (ry n).2⟩

theorem args_back {X : Ctx} {W W' : World} (hl : laidOutB X.P = true) (hb : Below W.heap.size W W') : ∀ {ts : List TypeId} {ps : List PK} {vs : List Value} {ds : List (DataW H)} {q : List MemPlace},
    argsFit X ts ps = true → DataW.TrodAll enc X.P W 0 (fun _ => true) true ts vs ds q → DataW.TrodAll enc X.P W' 0 (fun b => decide (b < W.heap.size)) true ts vs ds q
  | [], [], vs, ds, q, _, h => by
    obtain ⟨rfl, rfl, rfl⟩ := trodAll_nil h
    rfl
  | [], _ :: _, _, _, _, hf, _ => by simp [argsFit] at hf
  | t :: ts, [], _, _, _, hf, _ => by simp [argsFit] at hf
  | t :: ts, .ref _ _ :: ps, _, _, _, hf, _ => by simp [argsFit] at hf
  | t :: ts, .val a τ :: ps, vs, ds, q, hf, h => by
    simp only [argsFit, Bool.and_eq_true, beq_iff_eq, decide_eq_true_eq] at hf
    obtain ⟨_, h1, h3, h4, h2⟩ := hf
    obtain ⟨v, vs', d, ds', p, q', rfl, rfl, rfl, hd, hrest⟩ := trodAll_cons h
    have lt : ∀ x ∈ p, x.block < W.heap.size := by
      obtain ⟨m, hm⟩ := hd
      exact DataW.trod_lt m _ _ _ hm
    exact trodAll_cons_mk (Below.trod hl h3 h4 hd hb lt) (args_back hl hb h2 hrest)
end

theorem bool_cell {h : Heap} {c : C} {x : Bool} (e : cellTo false h .bool c = some x) : c = .val .bool x := by
  unfold cellTo at e
  split at e
  · rename_i τ y
    obtain ⟨hτ, hx⟩ := castTy_eq e
    subst hτ
    have hx : y = x := hx
    rw [hx]
  · cases e
  · split at e
    · simp at e
    · obtain ⟨hτ, _⟩ := castTy_eq e
      cases hτ
    · cases e
  · cases e
  · cases e

/-- **A law's call**: a contract of trees that comes to true. -/
theorem law_calls {P : Program} {f : FuncId} {k : Ctr} {W : World} {us : List Value} {a : (Ty.prod (k.args.map PK.ty)).den} {r} (hk : CtrAt W P f k) (hr : k.rets = [(false, [(none, .bool)])]) (hp : (k.args.filterMap PK.refTy?) = [])
    (ha : ∀ n, All2 (VRep W (okOf (fun _ => True) [] (fun _ => .bool false) W) [] (fun _ => .bool false)) (entryArgs k.args a n).1 us ∧ (entryArgs k.args a n).2 = []) (hF : k.F a = some r) (htab : Tabs.T W ∧ ∀ b, Tabs.B b → b < W.heap.size) (hS : ∀ b p, ¬ Tabs.S b p) (hN : Tabs.sep = true → Tabs.N ≤ W.heap.size) (ht : toCells _ r = [.val .bool true]) :
    Calls P f us.toArray W fun e W' => e = .returned (.bool true) ∧ Below W.heap.size W W' := by
  have h0 : (entryArgs k.args a 0).2 = [] := (ha 0).2
  have M : Mem W (fun _ => False) (fun _ => True) (entryArgs k.args a 0).2 (fun _ => .bool false) W := by
    rw [h0]
    exact ⟨fun id b hb => by simp at hb, fun i j b hi => by obtain ⟨⟨x, hx, _⟩, _⟩ := hi; simp at hx, fun i b hi => by obtain ⟨⟨x, hx, _⟩, _⟩ := hi; simp at hx, fun _ _ => trivial, fun _ _ => trivial, ⟨rfl, rfl, rfl, Nat.le_refl _, fun _ _ _ => .inl rfl⟩, ⟨htab.1, fun b hb => ⟨htab.2 b hb, fun h => h⟩⟩, fun b p h => (hS b p h).elim, fun hs => ⟨hN hs, fun _ h => h.elim⟩⟩
  refine (hk (fun _ => False) (fun _ => True) (fun _ => .bool false) us a r M (by rw [h0]; exact (ha 0).1) hF).mono fun e W' ⟨u, h', ρ', rv, refs', he, M', rr, _, hx⟩ => ?_
  refine ⟨?_, ⟨M'.frame.os, M'.frame.tape, M'.frame.output, M'.frame.size, fun i hi => (M'.frame.block i hi id).eq (hS i)⟩⟩
  rw [he]
  unfold Ctr.exit0 at hx
  split at hx
  · cases hx
  · rename_i hok
    split at hx
    · rename_i xs is ys js h1 h2
      split at hx
      · split at hx
        · rename_i r' h3
          cases hx
          rw [hr] at h1
          obtain ⟨c, x, hparts, hc, rfl⟩ := exit_one (τ := .bool) h1
          obtain rfl := exit_noref hp h2
          have hall : AllVal ([C.val .bool x] ++ []) := trivial
          obtain ⟨hcs, _⟩ := ofCells_val hall h3
          rw [List.append_nil, List.append_nil, ht] at hcs
          have hx : x = true := by
            have := List.singleton_inj.1 hcs
            simpa using this
          subst hx
          obtain rfl := bool_cell hc
          cases rv with
          | undef => simp [retParts] at hparts
          | one z =>
            simp only [retParts, List.cons.injEq, Prod.mk.injEq, and_true, true_and] at hparts
            subst hparts
            have rr : Rep W' (okOf (fun _ => True) h' ρ' W') .bool true [u] := rr
            rw [List.singleton_inj.1 rr]
          | agg zs => simp [retParts] at hparts
          | tup ps =>
            simp only [retParts] at hparts
            subst hparts
            simp [retOk] at hok
        · cases hx
      · cases hx
    · cases hx
end Go.Rx
/- Words for plain laws: loops over lists. -/
namespace Go.Rx
universe u v w

theorem wrap64 {x : Int} (h1 : -9223372036854775808 ≤ x) (h2 : x ≤ 9223372036854775807) : IntKind.wrap .i64 x = x := IntWalk.i64_in _ (by omega)

theorem wrap_succ {i : Nat} (h : i < 4611686018427387904) : IntKind.wrap .i64 ((i : Int) + 1) = ((i + 1 : Nat) : Int) := by
  rw [wrap64 (by omega) (by omega)]; omega

theorem wrap_pred {i : Nat} (h : i < 4611686018427387904) (h0 : 0 < i) : IntKind.wrap .i64 ((i : Int) - 1) = ((i - 1 : Nat) : Int) := by
  rw [wrap64 (by omega) (by omega)]; omega

theorem nth_nat {α : Type u} [Inhabited α] (xs : List α) (i : Nat) (h : i < xs.length) : nth xs (i : Int) = xs[i] := by
  unfold nth
  rw [Int.toNat_natCast, List.getD_eq_getElem?_getD, List.getElem?_eq_getElem h]
  rfl

/-- A loop over a list: what is done with each element, by its place; what is left. -/
def runL {α : Type u} {σ : Type v} {ρ : Type w} (step : Nat → α → σ → (σ → ρ) → ρ) (fin : σ → ρ) : Nat → List α → σ → ρ
  | _, [], s => fin s
  | i, a :: l, s => step i a s (runL step fin (i + 1) l)

theorem loop_run {α : Type u} {σ : Type v} {ρ : Type w} (xs : List α) (g : Nat → Int → σ → ρ) (step : Nat → α → σ → (σ → ρ) → ρ) (fin : σ → ρ)
    (h1 : ∀ q (i : Nat) (hi : i < xs.length) s, g (q + 1) (i : Int) s = step i xs[i] s (fun s' => g q ((i + 1 : Nat) : Int) s')) (h2 : ∀ q s, g (q + 1) (xs.length : Int) s = fin s) :
    ∀ (m q i : Nat) (s : σ), i + m = xs.length → m < q → g q (i : Int) s = runL step fin i (xs.drop i) s
  | 0, q + 1, i, s, he, _ => by
    have : i = xs.length := by omega
    subst this
    rw [h2, List.drop_length]
    rfl
  | m + 1, q + 1, i, s, he, hq => by
    have hi : i < xs.length := by omega
    rw [h1 q i hi, List.drop_eq_getElem_cons hi]
    have : (fun s' => g q ((i + 1 : Nat) : Int) s') = runL step fin (i + 1) (xs.drop (i + 1)) := by
      funext s'
      exact loop_run xs g step fin h1 h2 m q (i + 1) s' (by omega) (by omega)
    rw [this]
    rfl
  | _, 0, _, _, _, h => absurd h (Nat.not_lt_zero _)

/-- A loop from the list's begin, with the rounds of 'fuel'. -/
theorem loop0 {α : Type u} {σ : Type v} {ρ : Type w} (xs : List α) (hx : xs.length < 1152921504606846976) (g : Nat → Int → σ → ρ) (step : Nat → α → σ → (σ → ρ) → ρ) (fin : σ → ρ)
    (h1 : ∀ q (i : Nat) (hi : i < xs.length) s, g (q + 1) (i : Int) s = step i xs[i] s (fun s' => g q ((i + 1 : Nat) : Int) s')) (h2 : ∀ q s, g (q + 1) (xs.length : Int) s = fin s) (s : σ) :
    g fuel 0 s = runL step fin 0 xs s := by
  have := loop_run xs g step fin h1 h2 xs.length fuel 0 s (by omega) (by rw [fuel_eq]; omega)
  simpa using this

theorem runL_all {α : Type u} {σ : Type v} {ρ : Type w} (p : α → Bool) (no : ρ) (fin : σ → ρ) : ∀ (l : List α) (i : Nat) (s : σ), runL (fun _ a s k => cond (p a) (k s) no) fin i l s = cond (l.all p) (fin s) no
  | [], _, _ => rfl
  | a :: l, i, s => by
    simp only [runL, List.all_cons]
    cases p a with
    | true => simp only [cond_true, Bool.true_and]; exact runL_all p no fin l (i + 1) s
    | false => rfl

theorem runL_any {α : Type u} {σ : Type v} {ρ : Type w} (p : α → Bool) (yes : ρ) (fin : σ → ρ) : ∀ (l : List α) (i : Nat) (s : σ), runL (fun _ a s k => cond (p a) yes (k s)) fin i l s = cond (l.any p) yes (fin s)
  | [], _, _ => rfl
  | a :: l, i, s => by
    simp only [runL, List.any_cons]
    cases p a with
    | false => simp only [cond_false, Bool.false_or]; exact runL_any p yes fin l (i + 1) s
    | true => rfl

/-- The first place, or none. -/
theorem runL_find {α : Type u} {σ : Type v} {ρ : Type w} (p : α → Bool) (R : Nat → ρ) (fin : σ → ρ) : ∀ (l : List α) (i : Nat) (s : σ), runL (fun j a s k => cond (p a) (R j) (k s)) fin i l s = match l.findIdx? p with | some j => R (i + j) | none => fin s
  | [], _, _ => rfl
  | a :: l, i, s => by
    simp only [runL, List.findIdx?_cons]
    cases h : p a with
    | true => simp
    | false =>
      simp only [cond_false, Bool.false_eq_true, if_false]
      rw [runL_find p R fin l (i + 1) s]
      cases l.findIdx? p with
      | none => rfl
      | some j => simp [Nat.add_assoc, Nat.add_comm 1 j]

/-- Neighbours. -/
def chainB {α : Type u} (less : α → α → Bool) : List α → Bool
  | a :: b :: l => less a b && chainB less (b :: l)
  | _ => true

/-- Each, with its place. -/
def allI {α : Type u} (p : Nat → α → Bool) : Nat → List α → Bool
  | _, [] => true
  | i, a :: l => p i a && allI p (i + 1) l

theorem allI_iff {α : Type u} (p : Nat → α → Bool) : ∀ (l : List α) (i : Nat), allI p i l = true ↔ ∀ j (h : j < l.length), p (i + j) l[j] = true
  | [], i => by simp [allI]
  | a :: l, i => by
    simp only [allI, Bool.and_eq_true, allI_iff p l (i + 1)]
    constructor
    · intro ⟨h1, h2⟩ j hj
      match j with
      | 0 => exact h1
      | j + 1 => have := h2 j (by simpa using hj); rw [show i + (j + 1) = i + 1 + j from by omega]; simpa using this
    · intro h
      refine ⟨h 0 (by simp), fun j hj => ?_⟩
      have := h (j + 1) (by simpa using hj)
      rw [show i + 1 + j = i + (j + 1) from by omega]; simpa using this

theorem runL_allI {α : Type u} {σ : Type v} {ρ : Type w} (p : Nat → α → Bool) (no : ρ) (fin : σ → ρ) : ∀ (l : List α) (i : Nat) (s : σ), runL (fun i a s k => cond (p i a) (k s) no) fin i l s = cond (allI p i l) (fin s) no
  | [], _, _ => rfl
  | a :: l, i, s => by
    simp only [runL, allI]
    cases p i a with
    | true => simp only [cond_true, Bool.true_and]; exact runL_allI p no fin l (i + 1) s
    | false => rfl
end Go.Rx
