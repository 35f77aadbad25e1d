import Derived.Orders
import Derived.Below
import Derived.Laws.World
import Derived.Deep.MidRow
import Derived.Laws.StructEq
import Derived.Laws.Append
import Derived.Laws.BytesString
import Derived.Lib.ConvBytes
import Derived.Lib.AppendStr
import Derived.Laws.OwnMore
set_option linter.all false
/- The abstract evaluator: definitions. -/
namespace Go.Rx

/-! ### Types of cells, and values -/
inductive Ty where
  | int (k : IntKind) | bool | str | sl (c : Ty) | unit | pair (a b : Ty)
  | old (c : Ty)       -- a list in memory that is never written
  | any                -- one cell that nobody looks at
  deriving DecidableEq, Inhabited

@[reducible] def Ty.den : Ty → Type
  | .int _ => Int
  | .bool => Bool
  | .str => List UInt8
  | .sl c => List c.den
  | .unit => Unit
  | .pair a b => a.den × b.den
  | .old c => List c.den
  | .any => Unit

def Ty.dflt : (c : Ty) → c.den
  | .int _ => (0 : Int)
  | .bool => false
  | .str => ([] : List UInt8)
  | .sl _ => []
  | .unit => ()
  | .pair a b => (a.dflt, b.dflt)
  | .old _ => []
  | .any => ()

def Ty.size : Ty → Nat
  | .unit => 0
  | .pair a b => a.size + b.size
  | _ => 1

def Ty.prod : List Ty → Ty
  | [] => .unit
  | [a] => a
  | a :: as => .pair a (Ty.prod as)

/-- One cell. -/
inductive C where
  | val (τ : Ty) (x : τ.den)
  | nils
  | own (id : Nat)
  | ptr (id off : Nat)
  | rptr (c : Ty) (x : c.den)
  | eptr (id : Nat) (i : Nat) (off : Nat)
  | nilp
  | fn (f : Nat) (caps : List (Nat × Nat))
  | dead

inductive V where
  | undef
  | one (x : C)
  | agg (cs : List C)
  | tup (vs : List (Bool × List C))

inductive Blk where
  | free                                             -- not yet there
  | dead                                             -- a list that was given up
  | vars (t : TypeId) (cs : List C)
  | arr (e : TypeId) (c : Ty) (xs : List c.den)      -- a list of our own
  | ro (e : TypeId) (c : Ty) (xs : List c.den)       -- one that is only read from now on

abbrev Heap := List Blk

structure St where
  tmps : List V
  heap : Heap
  refs : List Nat := []     -- the variables behind the pointers that were handed in

/-- The j-th cell is one that nobody looks at. -/
def Ty.isAny : Ty → Nat → Bool
  | .any, j => j == 0
  | .pair a b, j => if j < a.size then a.isAny j else b.isAny (j - a.size)
  | _, _ => false

def Ty.noAny : Ty → Bool
  | .any => false
  | .pair a b => a.noAny && b.noAny
  | .sl c => c.noAny
  | .old c => c.noAny
  | _ => true

/-- What is left of a type when nobody looks at its scalars. -/
def Ty.shape : Ty → Ty
  | .pair a b => .pair a.shape b.shape
  | .unit => .unit
  | .sl c => .sl c.shape
  | .old c => .old c
  | _ => .any

def Ty.shapeVal : (c : Ty) → c.den → c.shape.den
  | .pair a b, p => (a.shapeVal p.1, b.shapeVal p.2)
  | .unit, _ => ()
  | .sl c, xs => List.map c.shapeVal xs
  | .old _, xs => xs
  | .int _, _ => ()
  | .bool, _ => ()
  | .str, _ => ()
  | .any, _ => ()

/-- Neither old lists nor cells that nobody looks at. -/
def Ty.fit : Ty → Bool
  | .sl c => c.fit
  | .old _ => false
  | .pair a b => a.fit && b.fit
  | .any => false
  | _ => true

/-- A value all of whose lists are old. -/
def Ty.calm : Ty → Bool
  | .sl _ => false
  | .old c => c.calm
  | .pair a b => a.calm && b.calm
  | .any => false
  | _ => true

def castTy {τ τ' : Ty} (x : τ.den) : Option τ'.den := if h : τ = τ' then some (h ▸ x) else none

/-- The cells of a value. -/
def toCells : (c : Ty) → c.den → List C
  | .pair a b, p => toCells a p.1 ++ toCells b p.2
  | .unit, _ => []
  | .int k, x => [.val (.int k) x]
  | .bool, x => [.val .bool x]
  | .str, x => [.val .str x]
  | .sl c, x => [.val (.sl c) x]
  | .old c, x => [.val (.old c) x]
  | .any, _ => [.dead]

/-- One cell, read as a value; 'o': a list of our own may be read, too. -/
def cellTo (o : Bool) (h : Heap) (τ : Ty) : C → Option τ.den
  | .val _ x => castTy x
  | .nils => match τ with | .sl _ => some [] | _ => none
  | .own id => match h.getD id .free with
    | .arr _ c xs => if o && c.noAny then castTy (τ := .sl c) xs else none
    | .ro _ c xs => castTy (τ := .sl c) xs
    | _ => none
  | .dead => match τ with | .any => some () | _ => none
  | _ => none

/-- Cells, read as a value; what is left. -/
def ofCells (o : Bool) (h : Heap) : (c : Ty) → List C → Option (c.den × List C)
  | .pair a b, cs => match ofCells o h a cs with
    | some (x, cs) => match ofCells o h b cs with
      | some (y, cs) => some ((x, y), cs)
      | none => none
    | none => none
  | .unit, cs => some ((), cs)
  | .int k, c :: cs => match cellTo o h (.int k) c with | some x => some (x, cs) | none => none
  | .bool, c :: cs => match cellTo o h .bool c with | some x => some (x, cs) | none => none
  | .str, c :: cs => match cellTo o h .str c with | some x => some (x, cs) | none => none
  | .sl τ, c :: cs => match cellTo o h (.sl τ) c with | some x => some (x, cs) | none => none
  | .old τ, c :: cs => match cellTo o h (.old τ) c with | some x => some (x, cs) | none => none
  | .any, c :: cs => match c with | .dead => some ((), cs) | _ => none
  | _, [] => none

/-- The cells from one on. -/
def dropCells : (n : Nat) → (c : Ty) → c.den → Option ((c' : Ty) × c'.den)
  | n, .pair a b, p => if n = 0 then some ⟨.pair a b, p⟩ else if a.size ≤ n then dropCells (n - a.size) b p.2 else match dropCells n a p.1 with
    | some ⟨a', x⟩ => some ⟨.pair a' b, (x, p.2)⟩
    | none => none
  | 0, c, x => some ⟨c, x⟩
  | _ + 1, _, _ => none

/-! ### What is computed: a tree of decisions -/
inductive Tr (α : Type) : Type 1 where
  | ret (a : α)
  | fail
  | bnd {β : Type} (x : Option β) (k : β → Tr α)
  | ite (b : Bool) (t e : Tr α)

def Tr.bind {α γ : Type} : Tr α → (α → Tr γ) → Tr γ
  | .ret a, f => f a
  | .fail, _ => .fail
  | .bnd x k, f => .bnd x fun b => (k b).bind f
  | .ite b t e, f => .ite b (t.bind f) (e.bind f)

def Tr.run {α O : Type} : Tr α → (α → Option O) → Option O
  | .ret a, k => k a
  | .fail, _ => none
  | .bnd x f, k => x.bind fun b => (f b).run k
  | .ite b t e, k => cond b (t.run k) (e.run k)

def Tr.of {α : Type} : Option α → Tr α
  | some a => .ret a
  | none => .fail

end Go.Rx
/- The abstract evaluator: operations, regions, code. -/
namespace Go.Rx

/-! ### Bookkeeping of ids -/
def V.cells : V → List C
  | .one x => [x]
  | .agg cs => cs
  | _ => []

def mkV (agg : Bool) (cs : List C) : V := if agg then .agg cs else match cs with | [c] => .one c | _ => .undef

def sets (us : List (Nat × Blk)) (h : Heap) : Heap := us.foldl (fun h p => h.set p.1 p.2) h

/-- The names of lists among cells. -/
def C.ownIds : List C → List Nat
  | [] => []
  | .own i :: cs => i :: C.ownIds cs
  | _ :: cs => C.ownIds cs

/-! ### Contracts -/
/-- The cells of a parameter or a result: 'some e': a list of its own, of elements of type e. -/
abbrev Cells := List (Option TypeId × Ty)

inductive PK where
  | val (agg : Bool) (τ : Ty)
  | ref (t : TypeId) (cs : Cells)
  | lent (agg : Bool) (cs : Cells)       -- a value with one list of our own, that the callee may write
  | given (e : TypeId) (c : Ty)          -- a list of our own, or one without an array, that the callee keeps

/-- The list of a lent value. -/
def lentOf : Cells → Option (TypeId × Ty)
  | (some e, .sl c) :: _ => some (e, c)
  | (none, _) :: ms => lentOf ms
  | _ => none
def lentAt : Cells → List C → Option (Nat × TypeId × Ty)
  | (some e, .sl c) :: _, .own i :: _ => some (i, e, c)
  | (none, _) :: ms, _ :: cs => lentAt ms cs
  | _, _ => none
def lentTy (ms : Cells) : Ty := match lentOf ms with
  | some p => .sl p.2
  | none => .unit

def PK.ty : PK → Ty
  | .val _ τ => τ
  | .ref _ cs => .prod (cs.map (·.2))
  | .lent _ cs => .prod (cs.map (·.2))
  | .given _ c => .sl c
def PK.refTy? : PK → Option Ty
  | .val _ _ => none
  | .ref _ cs => some (.prod (cs.map (·.2)))
  | .lent _ cs => some (lentTy cs)
  | .given _ _ => none

structure Ctr where
  args : List PK
  rets : List (Bool × Cells)   -- for each result: an aggregate?; its cells
  F : (Ty.prod (args.map PK.ty)).den → Option (Ty.prod (rets.map (fun r => .prod (r.2.map (·.2))) ++ args.filterMap PK.refTy?)).den

def Ty.hasSl : Ty → Bool
  | .sl _ => true
  | .old _ => true
  | .pair a b => a.hasSl || b.hasSl
  | _ => false

/-- May what comes back share memory with what was handed in? -/
def shares (cs : Cells) : Bool := cs.any fun p => match p with
  | (some _, .sl c) => c.hasSl
  | (_, τ) => τ.hasSl
def Ctr.shares (c : Ctr) : Bool := c.rets.any (fun r => Rx.shares r.2) || c.args.any fun | .ref _ cs => Rx.shares cs | .lent _ cs => Rx.shares cs | .given e c => Rx.shares [(some e, .sl c)] | _ => false
def PK.isRef : PK → Bool
  | .ref .. => true
  | .lent .. => true
  | .given .. => true
  | _ => false
def Ctr.refs (c : Ctr) : Bool := c.args.any PK.isRef

/-- A function that makes one variable and hands its address back. -/
structure NCtr where
  args : List PK
  t : TypeId
  cs : List Ty
  F : (Ty.prod (args.map PK.ty)).den → Option (Ty.prod cs).den

/-- A function that marks all that a value holds, and counts. -/
structure MCtr where
  agg : Bool
  τ : Ty
  F : τ.shape.den × Int → Option Int

def MCtr.ctr (m : MCtr) : Ctr := { args := [.val m.agg m.τ.shape, .val false (.int .i64)], rets := [(false, [(none, .int .i64)])], F := m.F }

structure Ctx where
  P : Program
  tys : List (Option Ty)      -- by type id
  eqs : List TypeId           -- structs that may be compared
  Γ : FuncId → Option Ctr
  N : FuncId → Option NCtr := fun _ => none
  M : FuncId → Option MCtr := fun _ => none

def Ctx.ty (X : Ctx) (t : TypeId) : Option Ty := X.tys.getD t none
def Ctx.agg (X : Ctx) (t : TypeId) : Bool := match X.P.underlying t with
  | some (.struct _) | some (.array _ _) => true
  | _ => false
def Ctx.elem (X : Ctx) (t : TypeId) : Option TypeId := match X.P.underlying t with
  | some (.slice e) => some e
  | _ => none
def Ctx.bytes (X : Ctx) (t : TypeId) : Nat := X.P.bytesOf t
def Ctx.field (X : Ctx) (t : TypeId) (f : Nat) : Option Field := match X.P.underlying t with
  | some (.struct fs) => fs.toList[f]?
  | _ => none

def Ctx.noSize (X : Ctx) (t : TypeId) : Bool := match X.ty t with
  | some τ => τ.size == 0
  | none => true

def Ctx.small (X : Ctx) (t : TypeId) : Bool := decide (X.bytes t ≤ 16384)

def Ctx.isU8 (X : Ctx) (t : TypeId) : Bool := match X.P.underlying t with
  | some (.int .u8) => true
  | _ => false

/-- What may stand behind a list in 'append'. -/
def Ctx.srcOk (X : Ctx) (t : TypeId) : Bool := match X.P.underlying t with
  | some (.slice _) | some .string => true
  | _ => false

/-! ### Numbers -/
def asInt : V → Option (IntKind × Int)
  | .one (.val (.int k) x) => some (k, x)
  | _ => none
def asBool : V → Option Bool
  | .one (.val .bool b) => some b
  | _ => none
def vInt (k : IntKind) (x : Int) : V := .one (.val (.int k) x)
def vBool (b : Bool) : V := .one (.val .bool b)
def vStr (s : List UInt8) : V := .one (.val .str s)

def bits (op : BinOp) (k : IntKind) (x y : Int) : Int :=
  let a := BitVec.ofInt k.bits x
  let b := BitVec.ofInt k.bits y
  match op with
  | .and => k.wrap (a &&& b).toNat
  | .or => k.wrap (a ||| b).toNat
  | .xor => k.wrap (a ^^^ b).toNat
  | _ => k.wrap (a &&& ~~~b).toNat

def intOp (op : BinOp) (k : IntKind) (x y : Int) : Tr V :=
  match op with
  | .add => .ret (vInt k (k.wrap (x + y)))
  | .sub => .ret (vInt k (k.wrap (x - y)))
  | .mul => .ret (vInt k (k.wrap (x * y)))
  | .quo => .ite (y == 0) .fail (.ret (vInt k (k.wrap (x.tdiv y))))
  | .rem => .ite (y == 0) .fail (.ret (vInt k (x.tmod y)))
  | .and => .ret (vInt k (bits .and k x y))
  | .or => .ret (vInt k (bits .or k x y))
  | .xor => .ret (vInt k (bits .xor k x y))
  | .andNot => .ret (vInt k (bits .andNot k x y))
  | .eql => .ret (vBool (x == y))
  | .neq => .ret (vBool (x != y))
  | .lss => .ret (vBool (decide (x < y)))
  | .leq => .ret (vBool (decide (x ≤ y)))
  | .gtr => .ret (vBool (decide (x > y)))
  | .geq => .ret (vBool (decide (x ≥ y)))
  | _ => .fail

def shiftOp (op : BinOp) (k : IntKind) (x y : Int) : Tr V :=
  .ite (decide (y < 0)) .fail <|
    let n := min y.toNat k.bits
    match op with
    | .shl => .ret (vInt k (k.wrap (x * 2 ^ n)))
    | .shr => .ret (vInt k (x.fdiv (2 ^ n)))
    | _ => .fail

/-- No list and no text grows beyond this. -/
def lenBound : Nat := 4294967296

def strOp (op : BinOp) (a b : List UInt8) : Tr V :=
  match op with
  | .add => .ite (decide (a.length + b.length ≤ lenBound)) (.ret (vStr (a ++ b))) .fail
  | .eql => .ret (vBool (a == b))
  | .neq => .ret (vBool (!(a == b)))
  | .lss => .ret (vBool (Op.bytesLess a b))
  | .leq => .ret (vBool (Op.bytesLess a b || a == b))
  | .gtr => .ret (vBool (!(Op.bytesLess a b || a == b)))
  | .geq => .ret (vBool (!Op.bytesLess a b))
  | _ => .fail

/-- '==' of one cell. -/
def eqCell : C → C → Option Bool
  | .val (.int k) x, .val (.int k') y => if k = k' then some (x == y) else none
  | .val .bool x, .val .bool y => some (x == y)
  | .val .str x, .val .str y => some (x == y)
  | _, _ => none

def eqCells : List C → List C → Option Bool
  | [], [] => some true
  | [c], [d] => eqCell c d
  | c :: cs, d :: ds => match eqCell c d, eqCells cs ds with
    | some a, some b => some (a && b)
    | _, _ => none
  | _, _ => none

def kindOk : Ty → C → Bool
  | .int _, .val (.int _) _ | .bool, .val .bool _ | .str, .val .str _ => true
  | _, _ => false

def leafTys : Ty → List Ty
  | .pair a b => leafTys a ++ leafTys b
  | .unit => []
  | τ => [τ]

def kindsL : List Ty → List C → Bool
  | [], [] => true
  | τ :: ts, c :: cs => kindOk τ c && kindsL ts cs
  | _, _ => false

/-- The cells of a value of a type, by their kinds. -/
def Ctx.kindsOk (X : Ctx) (t : TypeId) (cs : List C) : Bool := match X.ty t with
  | some τ => kindsL (leafTys τ) cs
  | none => false

def isShift : BinOp → Bool
  | .shl | .shr => true
  | _ => false

def binV (X : Ctx) (op : BinOp) (t : TypeId) (x y : V) : Tr V :=
  match x, y with
  | .one (.val (.int k) a), .one (.val (.int k') b) =>
    if isShift op then shiftOp op k a b else if k = k' then intOp op k a b else .fail
  | .one (.val .str a), .one (.val .str b) => strOp op a b
  | .one (.val .bool a), .one (.val .bool b) => match X.P.underlying t, op with
    | some .bool, .eql => .ret (vBool (a == b))
    | some .bool, .neq => .ret (vBool (!(a == b)))
    | _, _ => .fail
  | .agg cs, .agg ds => if !(X.eqs.contains t && X.kindsOk t cs) then .fail else match eqCells cs ds with
    | some b => match op with
      | .eql => .ret (vBool b)
      | .neq => .ret (vBool !b)
      | _ => .fail
    | none => .fail
  | _, _ => .fail

def unV (op : UnOp) (x : V) : Tr V :=
  match op, x with
  | .not, .one (.val .bool b) => .ret (vBool !b)
  | .neg, .one (.val (.int k) n) => .ret (vInt k (k.wrap (0 - n)))
  | .xor, .one (.val (.int k) n) => .ret (vInt k (bits .xor k (if k.signed then -1 else k.max) n))
  | _, _ => .fail

/-! ### Memory -/
def rd {c : Ty} (xs : List c.den) (i : Int) : c.den := xs.getD i.toNat c.dflt

def splice (cs : List C) (o : Nat) (new : List C) : List C := cs.take o ++ new ++ cs.drop (o + new.length)

def loadV (X : Ctx) (h : Heap) (t : TypeId) (p : V) : Option V :=
  match X.ty t with
  | none => none
  | some τ =>
    let n := τ.size
    let ret (cs : List C) : Option V := if cs.length = n then some (mkV (X.agg t) cs) else none
    match p with
    | .one (.ptr id o) => match h.getD id .free with
      | .vars _ cs => ret ((cs.drop o).take n)
      | _ => none
    | .one (.rptr c x) => ret ((toCells c x).take n)
    | .one (.eptr id i o) => match h.getD id .free with
      | .arr _ c xs => ret (((toCells c (xs.getD i c.dflt)).drop o).take n)
      | .ro _ c xs => ret (((toCells c (xs.getD i c.dflt)).drop o).take n)
      | _ => none
    | _ => none

/-- Lists of our own are given up: they are only read from now on. -/
def frz : List Nat → Heap → Option (List (Nat × Blk))
  | [], _ => some []
  | id :: ids, h => match h.getD id .free with
    | .arr e c xs => if c.noAny then match frz ids (h.set id (.ro e c xs)) with
        | some us => some ((id, .ro e c xs) :: us)
        | none => none
      else none
    | .ro .. => frz ids h
    | _ => none

/-- A list that is only read: its tree. -/
def norm (h : Heap) : V → V
  | .one (.own id) => match h.getD id .free with
    | .ro _ c xs => .one (.val (.sl c) xs)
    | _ => .one (.own id)
  | v => v

def V.ownIds : List V → List Nat
  | [] => []
  | v :: vs => C.ownIds v.cells ++ V.ownIds vs

/-- What an operation comes to: its value, the blocks that it makes, the blocks that it changes. -/
abbrev Eff := V × List Blk × List (Nat × Blk)

def storeS (p : V) (v : V) (h : Heap) : Option (List (Nat × Blk)) :=
  match p with
  | .one (.ptr id o) => match h.getD id .free with
    | .vars t cs => if o + v.cells.length ≤ cs.length then some [(id, .vars t (splice cs o v.cells))] else none
    | _ => none
  | .one (.eptr id i o) => match h.getD id .free with
    | .arr e c xs =>
      match ofCells false h c (splice (toCells c (xs.getD i c.dflt)) o v.cells) with
      | some (x, []) => if o + v.cells.length ≤ c.size then some [(id, .arr e c (xs.set i x))] else none
      | _ => none
    | _ => none
  | .one (.rptr c _) => if (List.range v.cells.length).all c.isAny then some [] else none      -- nobody looks there
  | _ => none

/-! ### Operations -/
inductive Cls where
  | pure | heap | wr
  deriving DecidableEq

def isOwn : V → Bool
  | .one (.own _) => true
  | _ => false

def V.hasOwn (vs : List V) : Bool := !(V.ownIds vs).isEmpty

/-- What an operation may do to memory. -/
def cls (X : Ctx) (o : Op) (vals : List V) : Cls :=
  match o with
  | .move _ | .assign _ | .pick .. | .build .. | .nilCheck _ | .binOp .. | .unOp .. | .fieldAddr .. | .field .. | .index .. | .extract .. | .makeFunc .. => .pure
  | .indexAddr .. => if isOwn (vals.getD 0 .undef) then .heap else .pure
  | .slice .. => if isOwn (vals.getD 0 .undef) then .wr else .pure
  | .alloc _ | .box .. | .load .. | .convert .. | .makeSlice .. => .heap
  | .buildSlice .. => if V.hasOwn vals then .wr else .heap
  | .call c => match c.callee with
    | .builtin .append => if isOwn (vals.getD 0 .undef) then .wr else .heap
    | .builtin _ => .heap
    | .value (.func f) => match X.Γ f with
      | some k => if k.refs || (k.shares && V.hasOwn vals) then .wr else .heap
      | none => match X.N f with
        | some _ => .heap
        | none => .wr
    | _ => .wr
  | _ => .wr

def V.isAggB : V → Bool
  | .agg _ => true
  | _ => false

/-- Part of an aggregate. -/
def partV (X : Ctx) (t : TypeId) (cs : List C) (o : Nat) : Option V :=
  match X.ty t with
  | some τ => let ds := (cs.drop o).take τ.size
    if ds.length = τ.size then some (mkV (X.agg t) ds) else none
  | none => none

def fillCells (X : Ctx) (place : Nat → Option (Nat × Nat)) (cs : List C) : List (Nat × V) → Option (List C)
  | [] => some cs
  | (i, v) :: rest => match place i with
    | some (o, n) => if v.cells.length = n ∧ 0 < n ∧ o + n ≤ cs.length then fillCells X place (splice cs o v.cells) rest else none
    | none => none

def zeroCells : Ty → List C
  | .pair a b => zeroCells a ++ zeroCells b
  | .sl _ => [.nils]
  | c => toCells c c.dflt

/-- The bounds of a cut. -/
def bounds (lo hi : Bool) (bs : List V) (len : Nat) : Option (Int × Int) :=
  match lo, hi, bs with
  | false, false, [] => some (0, len)
  | true, false, [l] => (asInt l).map fun l => (l.2, len)
  | false, true, [h] => (asInt h).map fun h => (0, h.2)
  | true, true, [l, h] => match asInt l, asInt h with
    | some l, some h => some (l.2, h.2)
    | _, _ => none
  | _, _, _ => none
def inBounds (l h : Int) (len : Nat) : Bool := decide (0 ≤ l) && (decide (l ≤ h) && decide (h ≤ len))
def cut {α : Type} (xs : List α) (l h : Int) : List α := (xs.take h.toNat).drop l.toNat

/-- Where the fields lie. -/
def Ctx.places (X : Ctx) (fs : List Field) (i : Nat) : Option (Nat × Nat) := match fs[i]? with
  | some f => match X.ty f.type with
    | some τ => some (f.offset, τ.size)
    | none => none
  | none => none

def pureOp (X : Ctx) (o : Op) (vals : List V) : Tr V :=
  match o, vals with
  | .move _, [v] | .assign _, [v] => .ret v
  | .pick .., [c, a, b] => match asBool c with
    | some t => match a, b with
      | .one (.val .bool x), .one (.val .bool y) => .ret (vBool (cond t x y))
      | a, b => .ite t (.ret a) (.ret b)
    | none => .fail
  | .build t parts, vs => match X.ty t, X.P.underlying t with
    | some τ, some (.struct fs) => if fs.toList.any (fun f => (X.ty f.type).isNone) then .fail else
      .bind (.of (fillCells X (X.places fs.toList) (zeroCells τ) ((parts.toList.map (·.1)).zip vs))) fun cs => .ret (.agg cs)
    | _, _ => .fail
  | .nilCheck _, [.one (.ptr id o)] => .ret (.one (.ptr id o))
  | .nilCheck _, [.one (.rptr c x)] => .ret (.one (.rptr c x))
  | .nilCheck _, [.one (.eptr id i o)] => .ret (.one (.eptr id i o))
  | .binOp op t _ _ _, [x, y] => binV X op t x y
  | .unOp op _ _, [x] => unV op x
  | .fieldAddr t _ f, [p] => match X.field t f with
    | some f => if X.noSize f.type then .fail else match p with
      | .one (.ptr id o) => .ret (.one (.ptr id (o + f.offset)))
      | .one (.rptr c x) => match dropCells f.offset c x with
        | some ⟨c', x'⟩ => .ret (.one (.rptr c' x'))
        | none => .fail
      | .one (.eptr id i o) => .ret (.one (.eptr id i (o + f.offset)))
      | _ => .fail
    | none => .fail
  | .field t _ f, [.agg cs] => match X.field t f with
    | some f => .of (partV X f.type cs f.offset)
    | none => .fail
  | .index t _ _, [.one (.val .str s), i] => match X.P.underlying t, asInt i with
    | some .string, some (_, i) => .ite (decide (0 ≤ i) && decide (i < s.length)) (.ret (vInt .u8 (s.getD i.toNat 0).toNat)) .fail
    | _, _ => .fail
  | .extract _ i, [.tup vs] => match vs[i]? with
    | some (b, cs) => .ret (mkV b cs)
    | none => .fail
  | .indexAddr t _ _, [.one (.val (.sl c) xs), i] => match X.elem t, asInt i with
    | some e, some (_, i) => if X.ty e = some c || (X.ty e).map Ty.shape = some c then .ite (decide (0 ≤ i) && decide (i < xs.length)) (.ret (.one (.rptr c (rd xs i)))) .fail else .fail
    | _, _ => .fail
  | .indexAddr t _ _, [.one (.val (.old c) xs), i] => match X.elem t, asInt i with
    | some e, some (_, i) => if X.ty e = some c then .ite (decide (0 ≤ i) && decide (i < xs.length)) (.ret (.one (.rptr c (rd xs i)))) .fail else .fail
    | _, _ => .fail
  | .slice t _ lo hi none, .one (.val .str s) :: bs => match X.P.underlying t, bounds lo.isSome hi.isSome bs s.length with
    | some .string, some (l, h) => .ite (inBounds l h s.length) (.ret (vStr (cut s l h))) .fail
    | _, _ => .fail
  | .slice t _ lo hi none, .one (.val (.sl c) xs) :: bs => match X.elem t, bounds lo.isSome hi.isSome bs xs.length with
    | some e, some (l, h) => if X.ty e = some c then .ite (inBounds l h xs.length) (.ret (.one (.val (.sl c) (cut xs l h)))) .fail else .fail
    | _, _ => .fail
  | _, _ => .fail

/-- A list handed to 'append' or 'copy'. -/
def listOf (h : Heap) (c : Ty) (x : V) : Option (List c.den) :=
  match x with
  | .one (.val .str s) => if e : c = .int .u8 then some (e ▸ (s.map fun b => (b.toNat : Int) : List Int)) else none
  | .one y => cellTo true h (.sl c) y
  | _ => none

/-- Cells as so many elements. -/
def elemsOf (h : Heap) (τ : Ty) : Nat → List C → Option (List τ.den)
  | 0, [] => some []
  | 0, _ :: _ => none
  | k + 1, cs => match ofCells false h τ cs with
    | some (x, cs) => match elemsOf h τ k cs with
      | some xs => some (x :: xs)
      | none => none
    | none => none

/-- Results: new own lists from the block number 'n' on. -/
def placeCells : Cells → List C → Nat → Option (List C × List Blk × List C)
  | [], cs, _ => some ([], [], cs)
  | (some e, .sl c) :: ms, .val (.sl c') xs :: cs, n => if c = c' then
      match placeCells ms cs (n + 1) with
      | some (ds, bs, r) => some (.own n :: ds, .arr e c' xs :: bs, r)
      | none => none
    else none
  | (none, _) :: ms, c :: cs, n => match placeCells ms cs n with
      | some (ds, bs, r) => some (c :: ds, bs, r)
      | none => none
  | (some _, .unit) :: ms, cs, n => match placeCells ms cs n with
      | some (ds, bs, r) => some (.dead :: ds, bs, r)
      | none => none
  | _, _, _ => none

def placeRets : List (Bool × Cells) → List C → Nat → Option (List (Bool × List C) × List Blk × List C)
  | [], cs, _ => some ([], [], cs)
  | (a, ms) :: rs, cs, n => match placeCells ms cs n with
    | some (ds, bs, cs) => match placeRets rs cs (n + bs.length) with
      | some (vs, bs', r) => some ((a, ds) :: vs, bs ++ bs', r)
      | none => none
    | none => none

def retV (vs : List (Bool × List C)) : V := match vs with
  | [(a, cs)] => mkV a cs
  | vs => .tup vs

/-- Cells that are handed over: their values; the lists that come along (none: one without an array); what is left. -/
def exitCells (h : Heap) : Cells → List C → Option (List C × List (Option Nat) × List C)
  | [], cs => some ([], [], cs)
  | (none, τ) :: ms, c :: cs => match cellTo false h τ c with
    | some x => match exitCells h ms cs with
      | some (vs, ids, r) => some (.val τ x :: vs, ids, r)
      | none => none
    | none => none
  | (some e, .sl c) :: ms, .own i :: cs => match h.getD i .free with
    | .arr e' c' xs => if e = e' ∧ c = c' then match exitCells h ms cs with
        | some (vs, ids, r) => some (.val (.sl c') xs :: vs, some i :: ids, r)
        | none => none
      else none
    | _ => none
  | (some _, .sl c) :: ms, .nils :: cs => match exitCells h ms cs with
    | some (vs, ids, r) => some (.val (.sl c) [] :: vs, none :: ids, r)
    | none => none
  | (some _, .unit) :: ms, .dead :: cs => exitCells h ms cs      -- a cell that nobody may look at
  | _, _ => none

/-- An argument's datum, and what is handed over; 'o': lists of our own may be lent. -/
def decArg (o : Bool) (h : Heap) : (p : PK) → V → Option (p.ty.den × List (Option Nat))
  | .val a τ, v => if v.isAggB = a then match ofCells o h τ v.cells with
      | some (x, []) => some (x, [])
      | _ => none
    else none
  | .ref t ms, .one (.ptr id 0) => match h.getD id .free with
    | .vars t' cs => if t = t' then match exitCells h ms cs with
        | some (xs, is, []) => match ofCells false [] (.prod (ms.map (·.2))) xs with
          | some (x, []) => some (x, some id :: is)
          | _ => none
        | _ => none
      else none
    | _ => none
  | .ref _ _, _ => none
  | .given e c, v => match v with
    | .one x => match exitCells h [(some e, .sl c)] [x] with
      | some (xs, is, []) => match ofCells false [] (.sl c) xs with
        | some (x, []) => some (x, is)
        | _ => none
      | _ => none
    | _ => none
  | .lent agg ms, v => if v.isAggB = agg then match exitCells h ms v.cells with
      | some (xs, [some id], []) => match ofCells false [] (.prod (ms.map (·.2))) xs with
        | some (x, []) => if (lentAt ms v.cells).map (·.1) = some id then some (x, [some id]) else none
        | _ => none
      | _ => none
    else none

def consArg (p : PK) : (ps : List PK) → p.ty.den → (Ty.prod (ps.map PK.ty)).den → (Ty.prod ((p :: ps).map PK.ty)).den
  | [], x, _ => x
  | _ :: _, x, y => (x, y)
def hdArg (p : PK) : (ps : List PK) → (Ty.prod ((p :: ps).map PK.ty)).den → p.ty.den
  | [], x => x
  | _ :: _, x => x.1
def tlArg (p : PK) : (ps : List PK) → (Ty.prod ((p :: ps).map PK.ty)).den → (Ty.prod (ps.map PK.ty)).den
  | [], _ => ()
  | _ :: _, x => x.2

def decArgs (o : Bool) (h : Heap) : (ps : List PK) → List V → Option ((Ty.prod (ps.map PK.ty)).den × List (Option Nat))
  | [], vs => match vs with
    | [] => some ((), [])
    | _ => none
  | p :: ps, vs => match vs with
    | [] => none
    | v :: vs => match decArg o h p v with
      | some (x, is) => match decArgs o h ps vs with
        | some (y, js) => some (consArg p ps x y, is ++ js)
        | none => none
      | none => none

/-- The variables that are handed over, by a call's arguments. -/
def ptrsOf : List PK → List V → List Nat
  | .ref _ _ :: ps, .one (.ptr id _) :: vs => id :: ptrsOf ps vs
  | .lent _ ms :: ps, v :: vs => match lentAt ms v.cells with
    | some p => p.1 :: ptrsOf ps vs
    | none => ptrsOf ps vs
  | _ :: ps, _ :: vs => ptrsOf ps vs
  | _, _ => []

/-- What a call begins with. -/
def entryArg : (p : PK) → p.ty.den → Nat → V × List Blk
  | .val a τ, x, _ => (mkV a (toCells τ x), [])
  | .ref t ms, x, n => match placeCells ms (toCells _ x) (n + 1) with
    | some (ds, bs, []) => (.one (.ptr n 0), .vars t ds :: bs)
    | _ => (.undef, [])
  | .lent agg ms, x, n => match placeCells ms (toCells _ x) n with
    | some (ds, bs, []) => (mkV agg ds, bs)
    | _ => (.undef, [])
  | .given e c, x, n => (.one (.own n), [.arr e c x])

def entryArgs : (ps : List PK) → (Ty.prod (ps.map PK.ty)).den → Nat → List V × List Blk
  | [], _, _ => ([], [])
  | p :: ps, x, n =>
    let r := entryArg p (hdArg p ps x) n
    let t := entryArgs ps (tlArg p ps x) (n + r.2.length)
    (r.1 :: t.1, r.2 ++ t.2)

def nodupB : List Nat → Bool
  | [] => true
  | a :: as => !as.contains a && nodupB as

/-- The lists in cells that are only read. -/
def noneCells : Cells → List C → List Nat
  | (none, _) :: ms, .own i :: cs => i :: noneCells ms cs
  | _ :: ms, _ :: cs => noneCells ms cs
  | _, _ => []

def refIds (h : Heap) : List PK → List V → Option (List Nat)
  | .val .. :: ps, _ :: vs => refIds h ps vs
  | .given .. :: ps, _ :: vs => refIds h ps vs
  | .lent _ ms :: ps, v :: vs => match refIds h ps vs with
    | some is => some (noneCells ms v.cells ++ is)
    | none => none
  | .ref _ ms :: ps, .one (.ptr id 0) :: vs => match h.getD id .free with
    | .vars _ cs => match refIds h ps vs with
      | some is => some (noneCells ms cs ++ is)
      | none => none
    | _ => none
  | [], [] => some []
  | _, _ => none

/-- The lists that are lent as values. -/
def lendIds : List PK → List V → List Nat
  | .val .. :: ps, v :: vs => C.ownIds v.cells ++ lendIds ps vs
  | _ :: ps, _ :: vs => lendIds ps vs
  | _, _ => []

/-- The variables behind pointers, at a call's end: their new cells; what is left. -/
def placeRefs : List PK → List V → List C → Nat → Option (List (Nat × Blk) × List Blk × List C)
  | [], [], cs, _ => some ([], [], cs)
  | .val .. :: ps, _ :: vs, cs, n => placeRefs ps vs cs n
  | .given .. :: ps, _ :: vs, cs, n => placeRefs ps vs cs n
  | .ref t ms :: ps, .one (.ptr id 0) :: vs, cs, n => match placeCells ms cs n with
    | some (ds, bs, cs) => match placeRefs ps vs cs (n + bs.length) with
      | some (us, bs', r) => some ((id, .vars t ds) :: us, bs ++ bs', r)
      | none => none
    | none => none
  | .lent _ ms :: ps, v :: vs, .val (.sl c') xs :: cs, n => match lentAt ms v.cells with
    | some (id, e, c) => if c = c' then match placeRefs ps vs cs n with
        | some (us, bs, r) => some ((id, .arr e c' xs) :: us, bs, r)
        | none => none
      else none
    | none => none
  | _, _, _, _ => none

/-- How long. -/
def lenV (X : Ctx) (t : TypeId) (v : V) (h : Heap) : Option Int :=
  match X.P.underlying t, v with
  | some .string, .one (.val .str s) => some (s.length : Int)
  | some (.slice _), .one (.val (.sl _) xs) => some (xs.length : Int)
  | some (.slice _), .one (.val (.old _) xs) => some (xs.length : Int)
  | some (.slice _), .one .nils => some 0
  | some (.slice _), .one (.own id) => match h.getD id .free with
    | .arr _ _ xs => some (xs.length : Int)
    | _ => none
  | _, _ => none

def buildList (X : Ctx) (t : TypeId) (n : Nat) (is : List Nat) (vs : List V) (h : Heap) (slot : Nat) : Tr (V × List Blk) :=
  match X.elem t with
  | some e => match X.ty e with
    | some τ => if n * τ.size ≤ 2 ^ 20 then
        .bind (.of (fillCells X (fun i => some (i * τ.size, τ.size)) (List.replicate n (zeroCells τ)).flatten (is.zip vs))) fun cs =>
        .bind (.of (elemsOf h τ n cs)) fun xs => .ret (.one (.own slot), [.arr e τ xs]) else .fail
    | none => .fail
  | none => .fail

def heapOp (X : Ctx) (o : Op) (vals : List V) (h : Heap) (slot : Nat) : Tr (V × List Blk) :=
  match o, vals with
  | .alloc t, _ => match X.ty t with
    | some τ => .ret (.one (.ptr slot 0), [.vars t (zeroCells τ)])
    | none => .fail
  | .box t _, [v] => match X.ty t with
    | some τ => if v.cells.length = τ.size ∧ 0 < τ.size then .ret (.one (.ptr slot 0), [.vars t v.cells]) else .fail
    | none => .fail
  | .load t _, [p] => .bind (.of (loadV X h t p)) fun v => .ret (v, [])
  | .indexAddr t _ _, [.one (.own id), i] => match h.getD id .free, asInt i with
    | .arr e c xs, some (_, i) => if X.elem t = some e ∧ X.ty e = some c then .ite (decide (0 ≤ i) && decide (i < xs.length)) (.ret (.one (.eptr id i.toNat 0), [])) .fail else .fail
    | _, _ => .fail
  | .convert src dst _, [v] => match X.P.underlying src, X.P.underlying dst, v with
    | some _, some (.int k), .one (.val (.int _) n) => .ret (vInt k (k.wrap n), [])
    | some _, some .string, .one (.val .str s) => .ret (vStr s, [])
    | some _, some (.slice e), .one (.val .str s) => if X.isU8 e then
        .ret (.one (.own slot), [.arr e (.int .u8) (s.map fun b => (b.toNat : Int))]) else .fail
    | some (.slice e), some .string, .one x => if X.isU8 e then
        .bind (.of (cellTo true h (.sl (.int .u8)) x)) fun xs => .ret (vStr ((xs : List Int).map fun n => UInt8.ofNat n.toNat), []) else .fail
    | _, _, _ => .fail
  | .makeSlice t _ _, [l, c] => match X.elem t, asInt l, asInt c with
    | some e, some (_, l), some (_, c) => if !X.small e then .fail else match X.ty e with
      | some τ => .ite (decide (0 ≤ l) && (l == c && decide (l ≤ lenBound))) (.ret (.one (.own slot), [.arr e τ (List.replicate l.toNat τ.dflt)])) .fail
      | none => .fail
    | _, _, _ => .fail
  | .buildSlice t n parts, vs => buildList X t n (parts.toList.map (·.1)) vs h slot
  | .call c, vs => match c.callee with
    | .builtin .len => match vs, c.argTypes.toList with
      | [v], [t] => .bind (.of (lenV X t v h)) fun n => .ret (vInt .i64 n, [])
      | _, _ => .fail
    | .builtin .min => match vs with
      | [.one (.val (.int k) x), .one (.val (.int k') y)] => if k = k' then .ret (vInt k (if y < x then y else x), []) else .fail
      | [.one (.val .str x), .one (.val .str y)] => .ret (vStr (if Op.bytesLess x y || x == y then x else y), [])
      | _ => .fail
    | .builtin .max => match vs with
      | [.one (.val (.int k) x), .one (.val (.int k') y)] => if k = k' then .ret (vInt k (if y > x then y else x), []) else .fail
      | [.one (.val .str x), .one (.val .str y)] => .ret (vStr (if !Op.bytesLess x y then x else y), [])
      | _ => .fail
    | .builtin .append => match vs, c.argTypes.toList with
      | [.one .nils, x], [tS, tX] => match X.elem tS with
        | some e => match X.ty e with
          | some τ => if !X.srcOk tX then .fail else
            if !X.small e then .fail else .bind (.of (listOf h τ x)) fun ys => .ite (decide (ys.length ≤ lenBound)) (.ret (.one (.own slot), [.arr e τ ys])) .fail
          | none => .fail
        | none => .fail
      | _, _ => .fail
    | .value (.func f) => match X.Γ f with
      | some k => if k.refs then .fail else .bind (.of (decArgs (!k.shares) h k.args vs)) fun a => .bnd (k.F a.1) fun r => match placeRets k.rets (toCells _ r) slot with
        | some (vs, bs, []) => .ret (retV vs, bs)
        | _ => .fail
      | none => match X.N f with
        | some k => if k.args.any PK.isRef then .fail else .bind (.of (decArgs false h k.args vs)) fun a => .bnd (k.F a.1) fun r => .ret (.one (.ptr slot 0), [.vars k.t (toCells _ r)])
        | none => .fail
    | _ => .fail
  | _, _ => .fail

def wrOp (X : Ctx) (o : Op) (vals : List V) (h : Heap) (slot : Nat) : Tr Eff :=
  match o, vals with
  | .store t _ _, [p, v] => match X.ty t with
    | some τ => if v.cells.length = τ.size ∧ 0 < τ.size then
        match p with
        | .one (.eptr ..) => .bind (.of (frz (V.ownIds [v]) h)) fun us => .bind (.of (storeS p v (sets us h))) fun us' => .ret (.undef, [], us ++ us')
        | _ => .bind (.of (storeS p v h)) fun us => .ret (.undef, [], us)
      else .fail
    | none => .fail
  | .slice t _ lo hi none, .one (.own id) :: bs => match h.getD id .free with
    | .arr e c xs => if X.elem t = some e ∧ X.ty e = some c then
        match lo, hi, bs with
        | some _, none, [b] => match asInt b with
          | some (_, l) => .ite (decide (0 ≤ l) && decide (l ≤ xs.length)) (.ret (.one (.own slot), [.arr e c (xs.drop l.toNat)], [(id, .dead)])) .fail
          | none => .fail
        | _, _, _ => .bind (pureOp X o (.one (.val (.sl c) xs) :: bs)) fun v => .ret (v, [], [(id, .ro e c xs)])
      else .fail
    | _ => .fail
  | .buildSlice .., vs => .bind (.of (frz (V.ownIds vs) h)) fun us => .bind (heapOp X o vs (sets us h) slot) fun r => .ret (r.1, r.2, us)
  | .call c, vs => match c.callee with
    | .builtin .append => match vs, c.argTypes.toList with
      | [.one (.own id), x], [tS, tX] => match h.getD id .free with
        | .arr e τ xs => if X.elem tS = some e ∧ X.ty e = some τ then if !X.srcOk tX then .fail else
            if !X.small e then .fail else .bind (.of (listOf h τ x)) fun ys =>
              .ite (decide (xs.length + ys.length ≤ lenBound)) (.ret (.one (.own slot), [.arr e τ (xs ++ ys)], [(id, .dead)])) .fail
          else .fail
        | _ => .fail
      | _, _ => .fail
    | .value (.func f) => match X.Γ f with
      | some k =>
        .bind (.of (refIds h k.args vs)) fun ns =>
        .bind (.of (frz ((if k.shares then lendIds k.args vs else []) ++ ns) h)) fun fs =>
        let h := sets fs h
        .bind (.of (decArgs (!k.shares) h k.args vs)) fun a =>
          let is := a.2.filterMap id
          if !(nodupB is && !(lendIds k.args vs).any is.contains) then .fail else .bnd (k.F a.1) fun r => match placeRets k.rets (toCells _ r) slot with
            | some (rs, bs, rest) => match placeRefs k.args vs rest (slot + bs.length) with
              | some (us, bs', []) => .ret (retV rs, bs ++ bs', fs ++ (is.map (fun i => (i, .dead)) ++ us))
              | _ => .fail
            | _ => .fail
      | none => .fail
    | _ => .fail
  | _, _ => .fail

/-! ### What a call hands back -/
def exitRets (h : Heap) : List (Bool × Cells) → List (Bool × List C) → Option (List C × List (Option Nat))
  | [], [] => some ([], [])
  | (a, ms) :: rs, (b, cs) :: vs => if a = b then match exitCells h ms cs with
      | some (xs, ids, []) => match exitRets h rs vs with
        | some (ys, jds) => some (xs ++ ys, ids ++ jds)
        | none => none
      | _ => none
    else none
  | _, _ => none

def exitRefs (h : Heap) : List PK → List Nat → Option (List C × List (Option Nat))
  | [], [] => some ([], [])
  | .val .. :: ps, ids => exitRefs h ps ids
  | .given .. :: ps, ids => exitRefs h ps ids
  | .ref t ms :: ps, id :: ids => match h.getD id .free with
    | .vars t' cs => if t = t' then match exitCells h ms cs with
        | some (xs, is, []) => match exitRefs h ps ids with
          | some (ys, js) => some (xs ++ ys, is ++ js)
          | none => none
        | _ => none
      else none
    | _ => none
  | .lent _ ms :: ps, id :: ids => match h.getD id .free with
    | .arr e c xs => if lentOf ms = some (e, c) then match exitRefs h ps ids with
        | some (ys, js) => some (.val (.sl c) xs :: ys, js)
        | none => none
      else none
    | _ => none
  | _, _ => none

/-- A result as a list of results. -/
def retParts : V → List (Bool × List C)
  | .one x => [(false, [x])]
  | .agg cs => [(true, cs)]
  | .tup vs => vs
  | .undef => []

def retOk : V → Bool
  | .undef | .tup [_] => false
  | _ => true

def Ctr.exit0 (k : Ctr) (refs : List Nat) (h : Heap) (rv : V) : Option (Ty.prod (k.rets.map (fun r => .prod (r.2.map (·.2))) ++ k.args.filterMap PK.refTy?)).den :=
  if !retOk rv then none else
  match exitRets h k.rets (retParts rv), exitRefs h k.args refs with
  | some (xs, is), some (ys, js) => if nodupB ((is ++ js).filterMap id) && !((is ++ js).filterMap id).any refs.contains then match ofCells false [] _ (xs ++ ys) with
      | some (r, []) => some r
      | _ => none
    else none
  | _, _ => none

def Ctr.noneIds (k : Ctr) (refs : List Nat) (h : Heap) (rv : V) : List Nat :=
  ((k.rets.zip (retParts rv)).map fun p => noneCells p.1.2 p.2.2).flatten ++
  (((k.args.filterMap fun | .val .. => none | .given .. => none | .ref _ ms => some ms | .lent _ ms => some ms).zip refs).map fun p => match h.getD p.2 .free with
    | .vars _ cs => noneCells p.1 cs
    | _ => []).flatten

def V.okR : V → Bool
  | .one _ | .agg _ => true
  | _ => false

def St.results (X : Ctx) (s : St) : List ResultVar → Option (List V)
  | [] => some []
  | .tmp t :: rs => match s.results X rs with
    | some vs => if (s.tmps.getD t .undef).okR then some (s.tmps.getD t .undef :: vs) else none
    | none => none
  | .cell a t :: rs => match loadV X s.heap t (s.tmps.getD a .undef), s.results X rs with
    | some v, some vs => if v.okR then some (v :: vs) else none
    | _, _ => none

def resV : List V → V
  | [v] => v
  | vs => .tup (vs.map fun v => (v.isAggB, v.cells))

/-- The end of a function. -/
def Ctr.finish (k : Ctr) (X : Ctx) (rs : List ResultVar) (s : St) : Option (Ty.prod (k.rets.map (fun r => .prod (r.2.map (·.2))) ++ k.args.filterMap PK.refTy?)).den :=
  match s.results X rs with
  | some vs => let rv := resV vs
    match frz (k.noneIds s.refs s.heap rv) s.heap with
    | some us => k.exit0 s.refs (sets us s.heap) rv
    | none => none
  | none => none

/-! ### Regions -/
def constV : Value → V
  | .int k n => vInt k n
  | .bool b => vBool b
  | .string s => vStr s.data.toList
  | .slice none 0 0 => .one .nils
  | .pointer none => .one .nilp
  | _ => .undef

def St.eval (s : St) : Operand → V
  | .tmp t => s.tmps.getD t .undef
  | .const v => constV v
  | .global _ => .undef
  | .func f => .one (.fn f [])

def St.put (s : St) (dst : Option Tmp) (v : V) : St := match dst with
  | some d => { s with tmps := s.tmps.set d v }
  | none => s

/-- What an operation comes to. -/
def effOp (X : Ctx) (o : Op) (vals : List V) (h : Heap) (slot : Nat) : Tr Eff :=
  match cls X o vals with
  | .pure => .bind (pureOp X o vals) fun v => .ret (v, [], [])
  | .heap => .bind (heapOp X o vals h slot) fun r => .ret (r.1, r.2, [])
  | .wr => wrOp X o vals h slot

def opArgs : Op → List Operand
  | .call c => c.args.toList
  | o => o.operands.toList

def St.vals (s : St) (o : Op) : List V := (opArgs o).map fun x => norm s.heap (s.eval x)

def setBlks : Nat → List Blk → Heap → Heap
  | _, [], h => h
  | n, b :: bs, h => setBlks (n + 1) bs (h.set n b)

/-- Blocks change, and there are new ones. -/
def grow (h : Heap) (r : Eff) : Heap := setBlks h.length r.2.1 (sets r.2.2 (h ++ List.replicate r.2.1.length .free))

/-- One operation, in order. -/
def stepOp (X : Ctx) (o : Op) (dst : Option Tmp) (s : St) : Tr St :=
  .bind (effOp X o (s.vals o) s.heap s.heap.length) fun r => .ret (({ s with heap := grow s.heap r } : St).put dst r.1)

/-! ### A call that marks what was made: what may have been written is given up -/
def killC : C → C
  | .val τ x => if τ.calm then .val τ x else .dead
  | .rptr .. => .dead
  | c => c
def killV : V → V
  | .undef => .undef
  | .one c => .one (killC c)
  | .agg cs => .agg (cs.map killC)
  | .tup vs => .tup (vs.map fun p => (p.1, p.2.map killC))
def killB (given : Bool) : Blk → Blk
  | .vars t cs => .vars t (cs.map killC)
  | .arr e c xs => if !given && c.calm then .arr e c xs else .dead
  | .ro .. => .dead
  | b => b
def killH (ids : List Nat) (h : Heap) : Heap := h.mapIdx fun i b => killB (ids.contains i) b

def markOf (X : Ctx) : Op → Option MCtr
  | .call c => match c.callee with
    | .value (.func f) => X.M f
    | _ => none
  | _ => none

def stepMark (m : MCtr) (o : Op) (dst : Option Tmp) (s : St) : Tr St :=
  match s.vals o with
  | [v, k] => match asInt k with
    | some (.i64, n) => if v.isAggB = m.agg ∧ (m.τ.fit && v.okR) = true then match ofCells true s.heap m.τ v.cells with
        | some (x, []) => .bnd (m.F (m.τ.shapeVal x, n)) fun r => .ret (({ s with tmps := s.tmps.map killV, heap := killH (C.ownIds v.cells) s.heap } : St).put dst (vInt .i64 r))
        | _ => .fail
      else .fail
    | _ => .fail
  | _ => .fail

def stepX (X : Ctx) (o : Op) (dst : Option Tmp) (s : St) : Tr St := match markOf X o with
  | some m => stepMark m o dst s
  | none => stepOp X o dst s

/-- A guard: which way, and the guard's temporary with the way that was taken. -/
def guardOp (ops : List Oper) (o : Oper) (s : St) (k : St → Tr St) : Tr St :=
  match o.guard with
  | none => k s
  | some (j, want) => match (ops[j]?).bind (·.dst) with
    | some d => match s.tmps.getD d .undef with
      | .one (.val .bool b) =>
        .ite b (let s := { s with tmps := s.tmps.set d (vBool true) }; if want then k s else .ret (s.put o.dst (.tup [])))
               (let s := { s with tmps := s.tmps.set d (vBool false) }; if want then .ret (s.put o.dst (.tup [])) else k s)
      | .tup [] => .ret (s.put o.dst (.tup []))
      | _ => .fail
    | none => .fail

def regionOps (X : Ctx) (ops : List Oper) : List Oper → St → Tr St
  | [], s => .ret s
  | o :: rest, s => .bind (guardOp ops o s (stepX X o.op o.dst)) (regionOps X ops rest)

end Go.Rx
/- What the evaluator's values stand for in the machine's memory. -/
namespace Go.Rx

/-- What stands in memory from the begin, and is never written (tables of the library); what is old, and where memory may be scribbled on. -/
class Tabs where
  T : World → Prop
  B : Nat → Prop
  kept : ∀ w w', (∀ b, B b → w'.heap[b]? = w.heap[b]?) → T w → T w'
  sep : Bool
  N : Nat
  S : Nat → Nat → Prop
  noS : ∀ b p, B b → ¬ S b p
/-- None. -/
@[reducible] def noTabs : Tabs := ⟨fun _ => True, fun _ => False, fun _ _ _ _ => trivial, false, 0, fun _ _ => False, fun _ _ _ h => h⟩
variable [Tabs]

/-- The block may be written. -/
def Wr (w : World) (b : Nat) : Prop := ∃ cells t fr, w.heap[b]? = some (.cells cells t fr) ∧ ∀ k, k < cells.size → ¬ (fr.1 ≤ k ∧ k < fr.2)
/-- The block of a new list. -/
def LK (w : World) (b : Nat) : Prop := Tabs.sep = true → Tabs.N ≤ b ∧ Wr w b
/-- The block of an old list. -/
def LO (b : Nat) : Prop := Tabs.sep = true → b < Tabs.N
/-- A cell that somebody looks at is not scribbled on. -/
def Prot (w : World) (b p : Nat) (a : Bool) : Prop := (a = false → ¬ Tabs.S b p) ∧ (a = true → Tabs.S b p ∧ Wr w b)

/-- The block is as it was, but where it may be scribbled on. -/
def SameB (w w' : World) (b : Nat) : Prop := w'.heap[b]? = w.heap[b]? ∨
  ∃ cells cells' t fr, w.heap[b]? = some (.cells cells t fr) ∧ w'.heap[b]? = some (.cells cells' t fr) ∧ cells'.size = cells.size ∧
    (∀ p, ¬ Tabs.S b p → cells'[p]? = cells[p]?) ∧ (∀ (p : Nat) (v v' : Value), cells[p]? = some v → cells'[p]? = some v' → v.oneCell' = true → v'.oneCell' = true)

theorem SameB.refl (w : World) (b : Nat) : SameB w w b := .inl rfl
theorem SameB.trans {w w' w'' : World} {b : Nat} (h : SameB w w' b) (k : SameB w' w'' b) : SameB w w'' b := by
  rcases h with h | ⟨cs, cs', t, fr, h1, h2, h3, h4, h5⟩
  · rcases k with k | ⟨ds, ds', t', fr', k1, k2, k3, k4, k5⟩
    · exact .inl (k.trans h)
    · exact .inr ⟨ds, ds', t', fr', h ▸ k1, k2, k3, k4, k5⟩
  · rcases k with k | ⟨ds, ds', t', fr', k1, k2, k3, k4, k5⟩
    · exact .inr ⟨cs, cs', t, fr, h1, k.trans h2, h3, h4, h5⟩
    · rw [h2] at k1; cases k1
      refine .inr ⟨cs, ds', t, fr, h1, k2, k3.trans h3, fun p hp => (k4 p hp).trans (h4 p hp), fun p v v' e1 e2 h1c => ?_⟩
      have hlt : p < cs'.size := by rw [h3]; exact (Array.getElem?_eq_some_iff.1 e1).1
      exact k5 p _ v' (Array.getElem?_eq_getElem hlt) e2 (h5 p v _ e1 (Array.getElem?_eq_getElem hlt) h1c)
theorem SameB.eq {w w' : World} {b : Nat} (h : SameB w w' b) (hS : ∀ p, ¬ Tabs.S b p) : w'.heap[b]? = w.heap[b]? := by
  rcases h with h | ⟨cs, cs', t, fr, h1, h2, h3, h4, h5⟩
  · exact h
  · have : cs' = cs := Array.ext_getElem? fun p => h4 p (hS p)
    rw [h1, h2, this]
theorem SameB.wr {w w' : World} {b : Nat} (h : SameB w w' b) (k : Wr w b) : Wr w' b := by
  obtain ⟨ds, t', fr', k1, k2⟩ := k
  rcases h with h | ⟨cs, cs', t, fr, h1, h2, h3, h4, h5⟩
  · exact ⟨ds, t', fr', h.trans k1, k2⟩
  · rw [h1] at k1; cases k1
    exact ⟨cs', _, _, h2, fun k hk => k2 k (by omega)⟩
theorem SameB.lk {w w' : World} {b : Nat} (h : SameB w w' b) (k : LK w b) : LK w' b := fun hs => ⟨(k hs).1, h.wr (k hs).2⟩
theorem SameB.prot {w w' : World} {b p : Nat} {a : Bool} (h : SameB w w' b) (k : Prot w b p a) : Prot w' b p a := ⟨k.1, fun ha => ⟨(k.2 ha).1, h.wr (k.2 ha).2⟩⟩
theorem SameB.cell {w w' : World} {b p : Nat} (h : SameB w w' b) (hS : ¬ Tabs.S b p) : w'.cell? ⟨b, p, none⟩ = w.cell? ⟨b, p, none⟩ := by
  rcases h with h | ⟨cs, cs', t, fr, h1, h2, h3, h4, h5⟩
  · simp only [World.cell?, h]
  · simp only [World.cell?, h1, h2]; simp [h4 p hS]
theorem SameB.cell' {w w' : World} {b p : Nat} {v : Value} (h : SameB w w' b) (e : w.cell? ⟨b, p, none⟩ = some v) : ∃ v', w'.cell? ⟨b, p, none⟩ = some v' ∧ (v.oneCell' = true → v'.oneCell' = true) := by
  rcases h with h | ⟨cs, cs', t, fr, h1, h2, h3, h4, h5⟩
  · exact ⟨v, by rw [← e]; simp only [World.cell?, h], id⟩
  · simp only [World.cell?, h1] at e
    have e : cs[p]? = some v := by simpa using e
    have hlt : p < cs'.size := by rw [h3]; exact (Array.getElem?_eq_some_iff.1 e).1
    refine ⟨cs'[p], ?_, h5 p v _ e (Array.getElem?_eq_getElem hlt)⟩
    simp only [World.cell?, h2]; simp [hlt]

/-- The cells 'vs' hold x: lists are read, every block on the way is one of 'ok'. -/
def Rep (w : World) (ok : Nat → Prop) : (c : Ty) → c.den → List Value → Prop
  | .int k, x, vs => vs = [.int k x]
  | .bool, x, vs => vs = [.bool x]
  | .str, x, vs => vs = [.string ⟨x.toArray⟩]
  | .unit, _, vs => vs = []
  | .pair a b, p, vs => ∃ l r, vs = l ++ r ∧ Rep w ok a p.1 l ∧ Rep w ok b p.2 r
  | .sl c, xs, vs => ∃ A cap, vs = [.slice A (xs : List c.den).length cap] ∧ (xs : List c.den).length ≤ cap ∧
      ∀ i (h : i < (xs : List c.den).length), ∃ b o cs, A = some ⟨b, o, none⟩ ∧ (ok b ∧ LK w b) ∧ Rep w ok c (xs : List c.den)[i] cs ∧
        ∀ j (hj : j < cs.length), w.cell? ⟨b, o + (i * c.size + j), none⟩ = some cs[j] ∧ Prot w b (o + (i * c.size + j)) (c.isAny j)
  | .old c, xs, vs => ∃ A cap, vs = [.slice A (xs : List c.den).length cap] ∧ (xs : List c.den).length ≤ cap ∧
      ∀ i (h : i < (xs : List c.den).length), ∃ b o cs, A = some ⟨b, o, none⟩ ∧ (ok b ∧ LO b) ∧ Rep w ok c (xs : List c.den)[i] cs ∧
        ∀ j (hj : j < cs.length), w.cell? ⟨b, o + (i * c.size + j), none⟩ = some cs[j] ∧ Prot w b (o + (i * c.size + j)) (c.isAny j)
  | .any, _, vs => ∃ v : Value, vs = [v] ∧ v.oneCell' = true

theorem Rep.length {w : World} {ok : Nat → Prop} : ∀ {c : Ty} {x : c.den} {vs : List Value}, Rep w ok c x vs → vs.length = c.size
  | .int _, _, _, r => by cases r; rfl
  | .bool, _, _, r => by cases r; rfl
  | .str, _, _, r => by cases r; rfl
  | .unit, _, _, r => by cases r; rfl
  | .pair a b, _, _, ⟨l, r, e, hl, hr⟩ => by
    subst e; rw [List.length_append, Rep.length hl, Rep.length hr]; rfl
  | .sl _, _, _, ⟨_, _, e, _, _⟩ => by subst e; rfl
  | .old _, _, _, ⟨_, _, e, _, _⟩ => by subst e; rfl
  | .any, _, _, ⟨_, e, _⟩ => by subst e; rfl

/-- Cells that nobody looks at may be others. -/
theorem Rep.swap {w : World} {ok : Nat → Prop} : ∀ {c : Ty} {x : c.den} {vs ws : List Value}, Rep w ok c x vs → ws.length = vs.length → (∀ j, c.isAny j = false → ws[j]? = vs[j]?) →
    (∀ (j : Nat) (v v' : Value), vs[j]? = some v → ws[j]? = some v' → v.oneCell' = true → v'.oneCell' = true) → Rep w ok c x ws
  | .int _, _, vs, ws, r, _, h, _ => by have : ws = vs := List.ext_getElem? fun j => h j rfl; rw [this]; exact r
  | .bool, _, vs, ws, r, _, h, _ => by have : ws = vs := List.ext_getElem? fun j => h j rfl; rw [this]; exact r
  | .str, _, vs, ws, r, _, h, _ => by have : ws = vs := List.ext_getElem? fun j => h j rfl; rw [this]; exact r
  | .unit, _, vs, ws, r, _, h, _ => by have : ws = vs := List.ext_getElem? fun j => h j rfl; rw [this]; exact r
  | .sl _, _, vs, ws, r, _, h, _ => by have : ws = vs := List.ext_getElem? fun j => h j rfl; rw [this]; exact r
  | .old _, _, vs, ws, r, _, h, _ => by have : ws = vs := List.ext_getElem? fun j => h j rfl; rw [this]; exact r
  | .any, _, vs, ws, ⟨v, e, h1⟩, hl, _, k => by
    subst e
    match ws, hl with
    | [v'], _ => exact ⟨v', rfl, k 0 v v' rfl rfl h1⟩
  | .pair a b, p, vs, ws, ⟨l, r, e, hl, hr⟩, hlen, h, k => by
    subst e
    have hla := hl.length
    rw [List.length_append] at hlen
    refine ⟨ws.take l.length, ws.drop l.length, (List.take_append_drop _ _).symm, hl.swap (by rw [List.length_take]; omega) (fun j hj => ?_) (fun j v v' e1 e2 h1 => ?_), hr.swap (by rw [List.length_drop]; omega) (fun j hj => ?_) (fun j v v' e1 e2 h1 => ?_)⟩
    · rcases Nat.lt_or_ge j a.size with h1 | h1
      · rw [List.getElem?_take_of_lt (by omega), h j (by simp [Ty.isAny, h1, hj]), List.getElem?_append_left (by omega)]
      · rw [List.getElem?_eq_none (by rw [List.length_take]; omega), List.getElem?_eq_none (by omega)]
    · have hlt : j < l.length := (List.getElem?_eq_some_iff.1 e1).1
      rw [List.getElem?_take_of_lt hlt] at e2
      exact k j v v' (by rw [List.getElem?_append_left hlt]; exact e1) e2 h1
    · rw [List.getElem?_drop, h (l.length + j) (by rw [hla]; unfold Ty.isAny; rw [if_neg (by omega), Nat.add_sub_cancel_left]; exact hj), List.getElem?_append_right (by omega), Nat.add_sub_cancel_left]
    · rw [List.getElem?_drop] at e2
      exact k _ v v' (by rw [List.getElem?_append_right (by omega), Nat.add_sub_cancel_left]; exact e1) e2 h1

/-- Cells of a block, in another world. -/
theorem cells_same {w w' : World} {ok : Nat → Prop} {b o : Nat} {c : Ty} {x : c.den} {cs : List Value} (hs : SameB w w' b) (r : Rep w' ok c x cs)
    (h : ∀ j (hj : j < cs.length), w.cell? ⟨b, o + j, none⟩ = some cs[j] ∧ Prot w b (o + j) (c.isAny j)) :
    ∃ cs', Rep w' ok c x cs' ∧ ∀ j (hj : j < cs'.length), w'.cell? ⟨b, o + j, none⟩ = some cs'[j] ∧ Prot w' b (o + j) (c.isAny j) := by
  have hcell : ∀ j : Fin cs.length, ∃ v', w'.cell? ⟨b, o + j, none⟩ = some v' ∧ (cs[j].oneCell' = true → v'.oneCell' = true) := fun j => hs.cell' (h j.1 j.2).1
  let f : Fin cs.length → Value := fun j => Classical.choose (hcell j)
  have hf : ∀ j, w'.cell? ⟨b, o + j.1, none⟩ = some (f j) ∧ (cs[j].oneCell' = true → (f j).oneCell' = true) := fun j => Classical.choose_spec (hcell j)
  have hget : ∀ (j : Nat) (hj : j < cs.length), (List.ofFn f)[j]? = some (f ⟨j, hj⟩) := fun j hj => by simp [hj]
  refine ⟨List.ofFn f, r.swap (by simp) (fun j hj => ?_) (fun j v v' e1 e2 h1 => ?_), fun j hj => ?_⟩
  · rcases Nat.lt_or_ge j cs.length with hlt | hge
    · have h1 := (hf ⟨j, hlt⟩).1
      rw [hs.cell ((h j hlt).2.1 hj), (h j hlt).1] at h1
      rw [hget j hlt, List.getElem?_eq_getElem hlt, ← h1]
    · rw [List.getElem?_eq_none (by simpa using hge), List.getElem?_eq_none hge]
  · obtain ⟨hlt, e⟩ := List.getElem?_eq_some_iff.1 e1
    rw [hget j hlt] at e2
    cases e2
    exact (hf ⟨j, hlt⟩).2 (by show cs[j].oneCell' = true; rw [e]; exact h1)
  · have hj' : j < cs.length := by simpa using hj
    refine ⟨?_, hs.prot (h j hj').2⟩
    rw [(hf ⟨j, hj'⟩).1]
    simp

theorem Rep.monoS {w w' : World} {ok ok' : Nat → Prop} (h : ∀ k, ok k → ok' k ∧ SameB w w' k) :
    ∀ {c : Ty} {x : c.den} {vs : List Value}, Rep w ok c x vs → Rep w' ok' c x vs
  | .int _, _, _, r => r
  | .bool, _, _, r => r
  | .str, _, _, r => r
  | .unit, _, _, r => r
  | .any, _, _, r => r
  | .pair _ _, _, _, ⟨l, r, e, hl, hr⟩ => ⟨l, r, e, Rep.monoS h hl, Rep.monoS h hr⟩
  | .sl c, _, _, ⟨A, cap, e, hc, hi⟩ => ⟨A, cap, e, hc, fun i hlt =>
      let ⟨b, o, cs, hA, hb, hr, hj⟩ := hi i hlt
      let ⟨cs', hr', hj'⟩ := cells_same (o := o + i * c.size) (h b hb.1).2 (Rep.monoS h hr) (fun j hj' => by simpa only [Nat.add_assoc] using hj j hj')
      ⟨b, o, cs', hA, ⟨(h b hb.1).1, (h b hb.1).2.lk hb.2⟩, hr', fun j hj => by simpa only [Nat.add_assoc] using hj' j hj⟩⟩
  | .old c, _, _, ⟨A, cap, e, hc, hi⟩ => ⟨A, cap, e, hc, fun i hlt =>
      let ⟨b, o, cs, hA, hb, hr, hj⟩ := hi i hlt
      let ⟨cs', hr', hj'⟩ := cells_same (o := o + i * c.size) (h b hb.1).2 (Rep.monoS h hr) (fun j hj' => by simpa only [Nat.add_assoc] using hj j hj')
      ⟨b, o, cs', hA, ⟨(h b hb.1).1, hb.2⟩, hr', fun j hj => by simpa only [Nat.add_assoc] using hj' j hj⟩⟩

theorem Rep.mono {w w' : World} {ok ok' : Nat → Prop} (h : ∀ k, ok k → ok' k ∧ w'.heap[k]? = w.heap[k]?)
    {c : Ty} {x : c.den} {vs : List Value} (r : Rep w ok c x vs) : Rep w' ok' c x vs := Rep.monoS (fun k hk => ⟨(h k hk).1, .inl (h k hk).2⟩) r

inductive All2 {α β : Type} (R : α → β → Prop) : List α → List β → Prop
  | nil : All2 R [] []
  | cons {a b as bs} (h : R a b) (t : All2 R as bs) : All2 R (a :: as) (b :: bs)

namespace All2
variable {α β γ : Type} {R S : α → β → Prop}
theorem mono (h : ∀ a b, R a b → S a b) : ∀ {as bs}, All2 R as bs → All2 S as bs
  | _, _, nil => nil
  | _, _, cons h1 t => cons (h _ _ h1) (t.mono h)
theorem length : ∀ {as bs}, All2 R as bs → as.length = bs.length
  | _, _, nil => rfl
  | _, _, cons _ t => by simp [t.length]
theorem map {R' : γ → β → Prop} (f : α → γ) (h : ∀ a b, R a b → R' (f a) b) : ∀ {as bs}, All2 R as bs → All2 R' (as.map f) bs
  | _, _, nil => nil
  | _, _, cons h1 t => cons (h _ _ h1) (t.map f h)
theorem append : ∀ {as bs cs ds}, All2 R as bs → All2 R cs ds → All2 R (as ++ cs) (bs ++ ds)
  | _, _, _, _, nil, k => k
  | _, _, _, _, cons h t, k => cons h (t.append k)
theorem take : ∀ {as bs} (n : Nat), All2 R as bs → All2 R (as.take n) (bs.take n)
  | _, _, 0, _ => by simpa using nil
  | _, _, _ + 1, nil => by simpa using nil
  | _, _, n + 1, cons h t => by simpa using cons h (t.take n)
theorem drop : ∀ {as bs} (n : Nat), All2 R as bs → All2 R (as.drop n) (bs.drop n)
  | _, _, 0, k => by simpa using k
  | _, _, _ + 1, nil => by simpa using nil
  | _, _, n + 1, cons _ t => by simpa using t.drop n
theorem get : ∀ {as bs}, All2 R as bs → ∀ (i : Nat) (h1 : i < as.length) (h2 : i < bs.length), R as[i] bs[i]
  | _, _, cons h _, 0, _, _ => h
  | _, _, cons _ t, i + 1, h1, h2 => t.get i (by simpa using h1) (by simpa using h2)
theorem get? : ∀ {as bs}, All2 R as bs → ∀ (i : Nat) a, as[i]? = some a → ∃ b, bs[i]? = some b ∧ R a b
  | _, _, nil, _, _, h => by simp at h
  | _, _, cons h _, 0, _, e => by simp at e; subst e; exact ⟨_, by simp, h⟩
  | _, _, cons _ t, i + 1, a, e => by simpa using t.get? i a (by simpa using e)
theorem set : ∀ {as bs}, All2 R as bs → ∀ (i : Nat) {a b}, R a b → All2 R (as.set i a) (bs.set i b)
  | _, _, nil, _, _, _, _ => by simpa using nil
  | _, _, cons _ t, 0, _, _, r => by simpa using cons r t
  | _, _, cons h t, i + 1, _, _, r => by simpa using cons h (t.set i r)
end All2

/-- The block of a list, given up or not. -/
def Blk.isL : Blk → Bool
  | .arr .. | .ro .. | .dead => true
  | _ => false

def Blk.list? : Blk → Option ((c : Ty) × List c.den)
  | .arr _ c xs | .ro _ c xs => some ⟨c, xs⟩
  | _ => none

/-- A block of our own that may be written. -/
def Blk.lives : Blk → Bool
  | .vars .. | .arr .. => true
  | _ => false

/-- One cell. -/
def CRep (w : World) (ok : Nat → Prop) (h : Heap) (ρ : Nat → Value) : C → Value → Prop
  | .val τ x, v => Rep w ok τ x [v]
  | .nils, v => v = .slice none 0 0
  | .own id, v => ∃ x, h[id]? = some x ∧ x.isL = true ∧ v.oneCell' = true ∧ (x ≠ .dead → v = ρ id)
  | .ptr id o, v => (∃ t cs, h[id]? = some (.vars t cs)) ∧ ∃ b, ρ id = .pointer (some ⟨b, 0, none⟩) ∧ v = .pointer (some ⟨b, o, none⟩)
  | .rptr c x, v => ∃ b o cs, v = .pointer (some ⟨b, o, none⟩) ∧ ok b ∧ Rep w ok c x cs ∧ ∀ j (hj : j < cs.length), w.cell? ⟨b, o + j, none⟩ = some cs[j] ∧ Prot w b (o + j) (c.isAny j)
  | .eptr id i o, v => ∃ x, h[id]? = some x ∧ x.isL = true ∧ (∃ b o, v = .pointer (some ⟨b, o, none⟩)) ∧ ∀ c xs, x.list? = some ⟨c, xs⟩ →
      i < xs.length ∧ ∃ b o' len cap, ρ id = .slice (some ⟨b, o', none⟩) len cap ∧ v = .pointer (some ⟨b, o' + (i * c.size + o), none⟩)
  | .nilp, v => v = .pointer none
  | .fn f caps, v => ∃ us, v = .func (.func f) #[] us ∧ All2 (fun p u => (∃ t cs, h[p.1]? = some (.vars t cs)) ∧ ∃ b, ρ p.1 = .pointer (some ⟨b, 0, none⟩) ∧ u = .pointer (some ⟨b, p.2, none⟩)) caps us.toList
  | .dead, v => v.oneCell' = true

abbrev CsRep (w : World) (ok : Nat → Prop) (h : Heap) (ρ : Nat → Value) : List C → List Value → Prop := All2 (CRep w ok h ρ)

def mkVal (agg : Bool) (vs : List Value) : Value := if agg then .agg vs.toArray else vs.getD 0 default

def VRep (w : World) (ok : Nat → Prop) (h : Heap) (ρ : Nat → Value) : V → Value → Prop
  | .undef, _ => True
  | .one x, v => CRep w ok h ρ x v
  | .agg cs, v => ∃ vs : List Value, v = .agg vs.toArray ∧ CsRep w ok h ρ cs vs
  | .tup ps, v => ∃ us : List Value, v = .tuple us.toArray ∧
      All2 (fun (p : Bool × List C) u => (p.1 = true ∧ ∃ vs : List Value, u = .agg vs.toArray ∧ CsRep w ok h ρ p.2 vs) ∨ (p.1 = false ∧ ∃ x, p.2 = [x] ∧ CRep w ok h ρ x u)) ps us

/-- A block of our own. -/
def BRep (w : World) (ok : Nat → Prop) (h : Heap) (ρ : Nat → Value) : Blk → Value → Prop
  | .dead, _ => True
  | .free, _ => True
  | .ro _ c xs, v => Rep w ok (.sl c) xs [v]
  | .vars t cs, v => ∃ b vs, v = .pointer (some ⟨b, 0, none⟩) ∧ w.heap[b]? = some (.cells vs t (0, 0)) ∧ CsRep w ok h ρ cs vs.toList
  | .arr e c xs, v => ∃ A cap, v = .slice A xs.length cap ∧ xs.length ≤ cap ∧
      ((A = none ∧ cap = 0) ∨ ∃ b o cells fr, A = some ⟨b, o, none⟩ ∧ w.heap[b]? = some (.cells cells e fr) ∧ o + cap * c.size ≤ cells.size ∧
        (∀ k, k < cells.size → ¬ (fr.1 ≤ k ∧ k < fr.2)) ∧
        ∀ i (hi : i < xs.length), ∃ cs, Rep w ok c xs[i] cs ∧ ∀ j (hj : j < cs.length), cells[o + (i * c.size + j)]? = some cs[j])

def blockOf : Value → Option Nat
  | .pointer (some a) => some a.block
  | .slice (some a) _ _ => some a.block
  | _ => none

/-- Block b is the one of the live id. -/
def Live (h : Heap) (ρ : Nat → Value) (id b : Nat) : Prop := (∃ x, h[id]? = some x ∧ x.lives = true) ∧ blockOf (ρ id) = some b

/-- The blocks that are only read: of 'Rd', there, and none of our own. -/
def okOf (Rd : Nat → Prop) (h : Heap) (ρ : Nat → Value) (w : World) (k : Nat) : Prop := k < w.heap.size ∧ Rd k ∧ ∀ id, ¬ Live h ρ id k

/-- What was there at the call's begin is as it was, but for the blocks 'Ex'. -/
structure Frame0 (w0 w : World) (Ex : Nat → Prop) : Prop where
  os : w.os = w0.os
  tape : w.tape = w0.tape
  output : w.output = w0.output
  size : w0.heap.size ≤ w.heap.size
  block : ∀ k, k < w0.heap.size → ¬ Ex k → SameB w0 w k

structure Mem (w0 : World) (Ex Rd : Nat → Prop) (h : Heap) (ρ : Nat → Value) (w : World) : Prop where
  blocks : ∀ (id : Nat) (b : Blk), h[id]? = some b → BRep w (okOf Rd h ρ w) h ρ b (ρ id)
  apart : ∀ i j b, Live h ρ i b → Live h ρ j b → i = j
  own : ∀ i b, Live h ρ i b → w0.heap.size ≤ b ∨ Ex b
  rd : ∀ k, w0.heap.size ≤ k → Rd k
  ex : ∀ k, Ex k → Rd k
  frame : Frame0 w0 w Ex
  tab : Tabs.T w0 ∧ ∀ b, Tabs.B b → b < w0.heap.size ∧ ¬ Ex b
  scr : ∀ b p, Tabs.S b p → b < w0.heap.size ∧ ¬ Ex b
  sepN : Tabs.sep = true → Tabs.N ≤ w0.heap.size ∧ ∀ k, Ex k → Tabs.N ≤ k

structure Rel (w0 : World) (Ex Rd : Nat → Prop) (ρ : Nat → Value) (s : St) (a : Act) (w : World) : Prop where
  mem : Mem w0 Ex Rd s.heap ρ w
  tmps : All2 (VRep w (okOf Rd s.heap ρ w) s.heap ρ) s.tmps a.tmps.toList
  defers : a.defers = []

theorem Mem.tabs_now {w0 w : World} {Ex Rd : Nat → Prop} {h : Heap} {ρ : Nat → Value} (M : Mem w0 Ex Rd h ρ w) : Tabs.T w := Tabs.kept w0 w (fun b hb => (M.frame.block b (M.tab.2 b hb).1 (M.tab.2 b hb).2).eq fun p => Tabs.noS b p hb) M.tab.1

/-- Live blocks are not scribbled on. -/
theorem Mem.live_noS {w0 w : World} {Ex Rd : Nat → Prop} {h : Heap} {ρ : Nat → Value} (M : Mem w0 Ex Rd h ρ w) {id b : Nat} (hl : Live h ρ id b) (p : Nat) : ¬ Tabs.S b p := fun hS => by
  have := M.scr b p hS
  rcases M.own id b hl with h1 | h1
  · omega
  · exact this.2 h1
theorem Mem.live_N {w0 w : World} {Ex Rd : Nat → Prop} {h : Heap} {ρ : Nat → Value} (M : Mem w0 Ex Rd h ρ w) {id b : Nat} (hl : Live h ρ id b) (hs : Tabs.sep = true) : Tabs.N ≤ b := by
  rcases M.own id b hl with h1 | h1
  · exact Nat.le_trans (M.sepN hs).1 h1
  · exact (M.sepN hs).2 b h1
end Go.Rx
/- How what values stand for is kept from world to world. -/
namespace Go.Rx
variable [Tabs]

theorem noAny_isAny : ∀ {c : Ty}, c.noAny = true → ∀ {j : Nat}, c.isAny j = false
  | .int _, _, _ => rfl
  | .bool, _, _ => rfl
  | .str, _, _ => rfl
  | .unit, _, _ => rfl
  | .sl _, _, _ => rfl
  | .old _, _, _ => rfl
  | .any, h, _ => by cases h
  | .pair a b, h, j => by
    simp only [Ty.noAny, Bool.and_eq_true] at h
    unfold Ty.isAny
    split
    · exact noAny_isAny h.1
    · exact noAny_isAny h.2

/-- What may become of a block. -/
inductive Sub : Blk → Blk → Prop
  | vars {t cs cs'} : Sub (.vars t cs) (.vars t cs')
  | arr {e c} {xs xs' : List c.den} (h : xs.length ≤ xs'.length) : Sub (.arr e c xs) (.arr e c xs')
  | frz {e c} {xs xs' : List c.den} (h : xs.length ≤ xs'.length) : Sub (.arr e c xs) (.ro e c xs')
  | ro {e c} {xs xs' : List c.den} (h : xs.length ≤ xs'.length) : Sub (.ro e c xs) (.ro e c xs')
  | dead {x} (h : x.isL = true) : Sub x .dead

theorem Sub.refl {x : Blk} (h : x ≠ .free) : Sub x x := by
  cases x with
  | free => exact absurd rfl h
  | dead => exact .dead rfl
  | vars t cs => exact .vars
  | arr e c xs => exact .arr (Nat.le_refl _)
  | ro e c xs => exact .ro (Nat.le_refl _)

theorem Sub.trans {x y z : Blk} (a : Sub x y) (b : Sub y z) : Sub x z := by
  cases a with
  | vars => cases b with
    | vars => exact .vars
    | dead h => cases h
  | arr h => cases b with
    | arr h' => exact .arr (Nat.le_trans h h')
    | frz h' => exact .frz (Nat.le_trans h h')
    | dead h => exact .dead rfl
  | frz h => cases b with
    | ro h' => exact .frz (Nat.le_trans h h')
    | dead h => exact .dead rfl
  | ro h => cases b with
    | ro h' => exact .ro (Nat.le_trans h h')
    | dead h => exact .dead rfl
  | dead h => cases b with
    | dead h' => exact .dead h

theorem Sub.isL {x x' : Blk} (s : Sub x x') (h : x.isL = true) : x'.isL = true := by cases s <;> first | rfl | exact h
theorem Sub.ne_free {x x' : Blk} (s : Sub x x') : x' ≠ .free := by cases s <;> simp

theorem Sub.list {x x' : Blk} (s : Sub x x') {c : Ty} {xs' : List c.den} (h : x'.list? = some ⟨c, xs'⟩) : x' ≠ .dead ∧ x ≠ .dead ∧ ∃ xs : List c.den, x.list? = some ⟨c, xs⟩ ∧ xs.length ≤ xs'.length := by
  cases s <;> simp only [Blk.list?, Option.some.injEq, Sigma.mk.injEq, reduceCtorEq] at h
  all_goals (obtain ⟨rfl, h2⟩ := h; cases eq_of_heq h2; exact ⟨by simp, by simp, _, rfl, by assumption⟩)

structure Keep (w : World) (ok : Nat → Prop) (h : Heap) (ρ : Nat → Value) (w' : World) (ok' : Nat → Prop) (h' : Heap) (ρ' : Nat → Value) : Prop where
  mem : ∀ k, ok k → ok' k ∧ SameB w w' k
  blk : ∀ (id : Nat) x, h[id]? = some x → x ≠ .free → ∃ x', h'[id]? = some x' ∧ Sub x x' ∧ (x' ≠ .dead → ρ' id = ρ id)

section
variable {w w' w'' : World} {ok ok' ok'' : Nat → Prop} {h h' h'' : Heap} {ρ ρ' ρ'' : Nat → Value}

theorem Keep.refl (w : World) (ok : Nat → Prop) (h : Heap) (ρ : Nat → Value) : Keep w ok h ρ w ok h ρ :=
  ⟨fun _ hk => ⟨hk, .refl _ _⟩, fun _ x hx hf => ⟨x, hx, .refl hf, fun _ => rfl⟩⟩

theorem Keep.trans (a : Keep w ok h ρ w' ok' h' ρ') (b : Keep w' ok' h' ρ' w'' ok'' h'' ρ'') : Keep w ok h ρ w'' ok'' h'' ρ'' :=
  ⟨fun k hk => ⟨(b.mem k (a.mem k hk).1).1, (a.mem k hk).2.trans (b.mem k (a.mem k hk).1).2⟩, fun id x hx hf => by
    obtain ⟨x', h1, s1, e1⟩ := a.blk id x hx hf
    obtain ⟨x'', h2, s2, e2⟩ := b.blk id x' h1 s1.ne_free
    exact ⟨x'', h2, s1.trans s2, fun hd => (e2 hd).trans (e1 (by rintro rfl; cases s2; exact hd rfl))⟩⟩

theorem Keep.vars (K : Keep w ok h ρ w' ok' h' ρ') {id : Nat} {t : TypeId} {cs : List C} (e : h[id]? = some (.vars t cs)) : (∃ cs', h'[id]? = some (.vars t cs')) ∧ ρ' id = ρ id := by
  obtain ⟨x', h1, s, e1⟩ := K.blk id _ e (by simp)
  cases s with
  | vars => exact ⟨⟨_, h1⟩, e1 (by simp)⟩
  | dead h => cases h

theorem Keep.capsRep (K : Keep w ok h ρ w' ok' h' ρ') {caps : List (Nat × Nat)} {us : List Value}
    (r : All2 (fun (p : Nat × Nat) u => (∃ t cs, h[p.1]? = some (.vars t cs)) ∧ ∃ b, ρ p.1 = .pointer (some ⟨b, 0, none⟩) ∧ u = .pointer (some ⟨b, p.2, none⟩)) caps us) :
    All2 (fun (p : Nat × Nat) u => (∃ t cs, h'[p.1]? = some (.vars t cs)) ∧ ∃ b, ρ' p.1 = .pointer (some ⟨b, 0, none⟩) ∧ u = .pointer (some ⟨b, p.2, none⟩)) caps us :=
  r.mono fun p u ⟨⟨t, cs, e⟩, b, e1, e2⟩ => by
    obtain ⟨⟨cs', e'⟩, er⟩ := K.vars e
    exact ⟨⟨t, cs', e'⟩, b, er.trans e1, e2⟩

theorem CRep.keep (K : Keep w ok h ρ w' ok' h' ρ') {x : C} {v : Value} (r : CRep w ok h ρ x v) : CRep w' ok' h' ρ' x v := by
  cases x with
  | val τ x => exact Rep.monoS K.mem r
  | nils => exact r
  | nilp => exact r
  | dead => exact r
  | own id =>
    obtain ⟨x, hx, hl, h1, hv⟩ := r
    obtain ⟨x', h2, s, e⟩ := K.blk id x hx (by rintro rfl; cases hl)
    exact ⟨x', h2, s.isL hl, h1, fun hd => (hv (by rintro rfl; cases s; exact hd rfl)).trans (e hd).symm⟩
  | ptr id o =>
    obtain ⟨⟨t, cs, e⟩, b, e1, e2⟩ := r
    obtain ⟨⟨cs', e'⟩, er⟩ := K.vars e
    exact ⟨⟨t, cs', e'⟩, b, er.trans e1, e2⟩
  | rptr c x =>
    obtain ⟨b, o, cs, e, hb, hr, hj⟩ := r
    obtain ⟨cs', hr', hj'⟩ := cells_same (K.mem b hb).2 (Rep.monoS K.mem hr) hj
    exact ⟨b, o, cs', e, (K.mem b hb).1, hr', hj'⟩
  | eptr id i o =>
    obtain ⟨x, hx, hl, h1, hv⟩ := r
    obtain ⟨x', h2, s, e⟩ := K.blk id x hx (by rintro rfl; cases hl)
    refine ⟨x', h2, s.isL hl, h1, fun c xs' hxs' => ?_⟩
    obtain ⟨hd, _, xs, hxs, hle⟩ := s.list hxs'
    obtain ⟨hi, b, o', len, cap, e1, e2⟩ := hv c xs hxs
    exact ⟨by omega, b, o', len, cap, (e hd).trans e1, e2⟩
  | fn f caps =>
    obtain ⟨us, e, hu⟩ := r
    exact ⟨us, e, K.capsRep hu⟩

theorem VRep.imp (hf : ∀ x v, CRep w ok h ρ x v → CRep w' ok' h' ρ' x v) : ∀ {v : V} {u : Value}, VRep w ok h ρ v u → VRep w' ok' h' ρ' v u
  | .undef, _, _ => trivial
  | .one _, _, r => hf _ _ r
  | .agg _, _, ⟨vs, e, r⟩ => ⟨vs, e, r.mono hf⟩
  | .tup _, _, ⟨us, e, r⟩ => ⟨us, e, r.mono fun p u hp => by
      rcases hp with ⟨e1, vs, e2, r2⟩ | ⟨e1, x, e2, r2⟩
      · exact .inl ⟨e1, vs, e2, r2.mono hf⟩
      · exact .inr ⟨e1, x, e2, hf _ _ r2⟩⟩

theorem VRep.keep (K : Keep w ok h ρ w' ok' h' ρ') {v : V} {u : Value} (r : VRep w ok h ρ v u) : VRep w' ok' h' ρ' v u := VRep.imp (fun _ _ r => CRep.keep K r) r

theorem BRep.keep (K : Keep w ok h ρ w' ok' h' ρ') {b : Blk} {v : Value}
    (hb : b.lives = true → ∀ k, blockOf v = some k → w'.heap[k]? = w.heap[k]?) (r : BRep w ok h ρ b v) : BRep w' ok' h' ρ' b v := by
  cases b with
  | dead => trivial
  | free => trivial
  | ro e c xs => exact Rep.monoS K.mem r
  | vars t cs =>
    obtain ⟨b, vs, rfl, e, r⟩ := r
    exact ⟨b, vs, rfl, (hb rfl b rfl).trans e, r.mono fun _ _ r => CRep.keep K r⟩
  | arr e c xs =>
    obtain ⟨A, cap, rfl, hc, r⟩ := r
    refine ⟨A, cap, rfl, hc, ?_⟩
    rcases r with r | ⟨b, o, cells, fr, rfl, e, h1, h2, h3⟩
    · exact .inl r
    · exact .inr ⟨b, o, cells, fr, rfl, (hb rfl b rfl).trans e, h1, h2, fun i hi => let ⟨cs, r, hj⟩ := h3 i hi; ⟨cs, Rep.monoS K.mem r, hj⟩⟩

/-- An own list is a tree, once its block is one of those that may be read. -/
theorem BRep.tree {e : TypeId} {c : Ty} {xs : List c.den} {v : Value} (hm : ∀ k, ok k → ok' k ∧ SameB w w' k) (hb : ∀ k, blockOf v = some k → ok' k ∧ w'.heap[k]? = w.heap[k]?)
    (hn : c.noAny = true) (hN : ∀ k, blockOf v = some k → (Tabs.sep = true → Tabs.N ≤ k) ∧ ∀ p, ¬ Tabs.S k p)
    (r : BRep w ok h ρ (.arr e c xs) v) : Rep w' ok' (.sl c) xs [v] := by
  obtain ⟨A, cap, rfl, hc, r⟩ := r
  refine ⟨A, cap, rfl, hc, fun i hi => ?_⟩
  rcases r with ⟨rfl, rfl⟩ | ⟨b, o, cells, fr, rfl, e, h1, h2, h3⟩
  · exact absurd hi (by have hc' : (xs : List c.den).length ≤ 0 := hc; omega)
  · obtain ⟨cs, r, hj⟩ := h3 i hi
    have e' := (hb b rfl).2.trans e
    refine ⟨b, o, cs, rfl, ⟨(hb b rfl).1, fun hs => ⟨(hN b rfl).1 hs, cells, _, fr, e', h2⟩⟩, Rep.monoS hm r, fun j hj' => ⟨?_, fun _ => (hN b rfl).2 _, fun ha => ?_⟩⟩
    · simp only [World.cell?, e']
      simpa using hj j hj'
    · rw [noAny_isAny hn] at ha; cases ha
end
end Go.Rx
/- Operations that leave memory alone: what the machine does is what the evaluator says. -/
namespace Go.Rx

def Tr.eval {α : Type} (t : Tr α) : Option α := t.run some

theorem Tr.run_eq {α O : Type} : ∀ (t : Tr α) (k : α → Option O), t.run k = t.eval.bind k
  | .ret _, _ => rfl
  | .fail, _ => rfl
  | .bnd x f, k => by
    cases x with
    | none => rfl
    | some b => exact Tr.run_eq (f b) k
  | .ite b t e, k => by cases b; exact Tr.run_eq e k; exact Tr.run_eq t k

theorem Tr.eval_bind {α β : Type} : ∀ (t : Tr α) (f : α → Tr β), (t.bind f).eval = t.eval.bind fun a => (f a).eval
  | .ret _, _ => rfl
  | .fail, _ => rfl
  | .bnd x g, f => by
    cases x with
    | none => rfl
    | some b => exact Tr.eval_bind (g b) f
  | .ite b t e, f => by cases b; exact Tr.eval_bind e f; exact Tr.eval_bind t f

@[simp] theorem Tr.eval_ret {α : Type} (a : α) : (Tr.ret a).eval = some a := rfl
@[simp] theorem Tr.eval_fail {α : Type} : (Tr.fail : Tr α).eval = none := rfl
@[simp] theorem Tr.eval_of {α : Type} (x : Option α) : (Tr.of x).eval = x := by cases x <;> rfl
@[simp] theorem Tr.eval_bnd {α β : Type} (x : Option β) (k : β → Tr α) : (Tr.bnd x k).eval = x.bind fun b => (k b).eval := by cases x <;> rfl
@[simp] theorem Tr.eval_ite {α : Type} (b : Bool) (t e : Tr α) : (Tr.ite b t e).eval = if b then t.eval else e.eval := by cases b <;> rfl

/-- The zero value's cells. -/
def zeroVals : Ty → List Value
  | .int k => [.int k 0]
  | .bool => [.bool false]
  | .str => [.string ⟨#[]⟩]
  | .sl _ => [.slice none 0 0]
  | .unit => []
  | .pair a b => zeroVals a ++ zeroVals b
  | .old _ => [.slice none 0 0]
  | .any => [.int .i64 0]

variable [Tabs]
/-- (Nothing is asked any more.) -/
def Slices (_ : Heap) (_ : Nat → Value) : Prop := True

/-- What is asked of the tables. -/
structure CtxOk (X : Ctx) : Prop where
  plain : ∀ t τ, X.ty t = some τ → τ.noAny = true
  info : ∀ t τ, X.ty t = some τ → ∃ i, X.P.info? t = some i ∧ i.size = τ.size ∧ i.zero = some (mkVal (X.agg t) (zeroVals τ)) ∧ (X.agg t = false → τ.size = 1) ∧ ∃ d, X.P.underlying t = some d
  eqs : ∀ t, t ∈ X.eqs → X.P.eqGuardType X.P.depth t = false ∧ ∀ (cs ds : List C) (b : Bool), X.kindsOk t cs = true → eqCells cs ds = some b → ∀ (w : World) (ok : Nat → Prop) h ρ (us vs : List Value),
    CsRep w ok h ρ cs us → CsRep w ok h ρ ds vs → (Op.equalIn 10000 t (.agg us.toArray) (.agg vs.toArray)).run X.P w = .ok b w

section
variable {X : Ctx} {w : World} {ok : Nat → Prop} {h : Heap} {ρ : Nat → Value}

theorem asInt_rep {v : V} {u : Value} {k : IntKind} {n : Int} (e : asInt v = some (k, n)) (r : VRep w ok h ρ v u) : u = .int k n := by
  unfold asInt at e
  split at e
  · cases e; exact (List.singleton_inj.1 r)
  · cases e

theorem asBool_rep {v : V} {u : Value} {b : Bool} (e : asBool v = some b) (r : VRep w ok h ρ v u) : u = .bool b := by
  unfold asBool at e
  split at e
  · cases e; exact (List.singleton_inj.1 r)
  · cases e

theorem rep_int (k : IntKind) (n : Int) : VRep w ok h ρ (vInt k n) (.int k n) := rfl
theorem rep_bool (b : Bool) : VRep w ok h ρ (vBool b) (.bool b) := rfl
theorem rep_str (s : List UInt8) : VRep w ok h ρ (vStr s) (.string ⟨s.toArray⟩) := rfl

theorem intOp_sound {op : BinOp} {t : TypeId} {k : IntKind} {x y : Int} {v : V} {P : Program} (hs : isShift op = false) (e : (intOp op k x y).eval = some v) :
    ∃ u, (binOp op t (.int k x) (.int k y)).run P w = .ok u w ∧ VRep w ok h ρ v u := by
  cases op <;> simp only [isShift] at hs <;> simp only [intOp, Tr.eval_ret, Tr.eval_ite, Tr.eval_fail, Option.some.injEq] at e
  all_goals first
    | (subst e; simp only [go_sem, Sem.run_pure]; first | exact ⟨_, rfl, rep_int _ _⟩ | exact ⟨_, rfl, rep_bool _⟩)
    | skip
  case quo => split at e <;> cases e; rename_i hy; have hy' : ¬ y = 0 := by simpa using hy
              simp only [go_sem, if_neg hy', Sem.run_pure]; exact ⟨_, rfl, rep_int _ _⟩
  case rem => split at e <;> cases e; rename_i hy; have hy' : ¬ y = 0 := by simpa using hy
              simp only [go_sem, if_neg hy', Sem.run_pure]; exact ⟨_, rfl, rep_int _ _⟩
  all_goals cases e
  all_goals exact ⟨_, rfl, rep_int _ _⟩

theorem shiftOp_sound {op : BinOp} {t : TypeId} {k yk : IntKind} {x y : Int} {v : V} {P : Program} (hs : isShift op = true) (e : (shiftOp op k x y).eval = some v) :
    ∃ u, (binOp op t (.int k x) (.int yk y)).run P w = .ok u w ∧ VRep w ok h ρ v u := by
  cases op <;> simp only [isShift, Bool.false_eq_true] at hs
  all_goals
    simp only [shiftOp, Tr.eval_ite, Tr.eval_fail] at e
    split at e
    · cases e
    · rename_i hy
      have hy' : ¬ y < 0 := by simpa using hy
      cases e
      simp only [go_sem, Op.shift, if_neg hy', Sem.run_pure]
      exact ⟨_, rfl, rep_int _ _⟩

theorem toList_mk (l : List UInt8) : (⟨l.toArray⟩ : ByteArray).toList = l := by rw [ByteArray.toList_eq]

theorem strOp_sound {op : BinOp} {t : TypeId} {a b : List UInt8} {v : V} {P : Program} (e : (strOp op a b).eval = some v) :
    ∃ u, (binOp op t (.string ⟨a.toArray⟩) (.string ⟨b.toArray⟩)).run P w = .ok u w ∧ VRep w ok h ρ v u := by
  have hb : binOp op t (.string ⟨a.toArray⟩) (.string ⟨b.toArray⟩) = Op.stringOp op ⟨a.toArray⟩ ⟨b.toArray⟩ := by cases op <;> rfl
  rw [hb]
  cases op <;> simp only [strOp, Tr.eval_ret, Tr.eval_ite, Tr.eval_fail, Option.some.injEq] at e
  case add =>
    split at e <;> cases e
    rename_i hl
    have hl' : a.length + b.length ≤ lenBound := by simpa using hl
    unfold lenBound at hl'
    have hsz : ¬ (((⟨a.toArray⟩ : ByteArray).size + (⟨b.toArray⟩ : ByteArray).size : Nat) : Int) > IntKind.i64.max := by
      simp only [IntKind.max_i64]
      show ¬ (((a.toArray.size + b.toArray.size : Nat) : Int) > 9223372036854775807)
      simp only [List.size_toArray]; omega
    simp only [Op.stringOp, if_neg hsz, Sem.run_pure]
    refine ⟨_, rfl, ?_⟩
    show [Value.string (⟨a.toArray⟩ ++ ⟨b.toArray⟩)] = [Value.string ⟨(a ++ b).toArray⟩]
    have : (⟨a.toArray⟩ ++ ⟨b.toArray⟩ : ByteArray) = ⟨(a ++ b).toArray⟩ := by
      apply ByteArray.ext
      simp
    rw [this]
  all_goals first
    | (cases e; done)
    | (subst e; simp only [Op.stringOp, toList_mk, Sem.run_pure]; exact ⟨_, rfl, rep_bool _⟩)

theorem eqCells_len : ∀ {cs ds : List C} {b : Bool}, eqCells cs ds = some b → cs.length = ds.length
  | [], [], _, _ => rfl
  | [_], [_], _, _ => rfl
  | [], _ :: _, _, e => by simp [eqCells] at e
  | _ :: _, [], _, e => by cases ‹List C› <;> simp [eqCells] at e
  | [_], _ :: _ :: _, _, e => by simp [eqCells] at e
  | _ :: c :: cs, [_], _, e => by simp [eqCells] at e
  | c :: c' :: cs, d :: d' :: ds, b, e => by
    simp only [eqCells] at e
    split at e
    · rename_i h1 h2
      simp [eqCells_len h2]
    · cases e

theorem binV_sound (hX : CtxOk X) {op : BinOp} {t : TypeId} {x y : V} {a b : Value} {v : V} (ra : VRep w ok h ρ x a) (rb : VRep w ok h ρ y b) (e : (binV X op t x y).eval = some v) (xo yo : Operand) :
    ∃ u, (do eqGuard op t xo yo a b; binOp op t a b).run X.P w = .ok u w ∧ VRep w ok h ρ v u := by
  unfold binV at e
  split at e
  · -- ints
    cases List.singleton_inj.1 ra; cases List.singleton_inj.1 rb
    rw [eqGuard_at_int, Sem.run_bind, Sem.run_pure, Result.andThen_ok]
    split at e
    · exact shiftOp_sound (by assumption) e
    · split at e
      · rename_i hs hk; subst hk; exact intOp_sound (by simpa using hs) e
      · cases e
  · cases List.singleton_inj.1 ra; cases List.singleton_inj.1 rb
    rw [eqGuard_at_string, Sem.run_bind, Sem.run_pure, Result.andThen_ok]
    exact strOp_sound e
  · cases List.singleton_inj.1 ra; cases List.singleton_inj.1 rb
    rw [eqGuard_at_bool, Sem.run_bind, Sem.run_pure, Result.andThen_ok]
    split at e
    · rename_i hu; cases e; rw [run_eql_bool w t _ _ hu]; exact ⟨_, rfl, rep_bool _⟩
    · rename_i hu; cases e; rw [run_neq_bool w t _ _ hu]; exact ⟨_, rfl, rep_bool _⟩
    · cases e
  · rename_i cs ds
    split at e
    · cases e
    · rename_i hc
      have hc : t ∈ X.eqs ∧ X.kindsOk t cs = true := by simpa using hc
      have hmem : t ∈ X.eqs := hc.1
      obtain ⟨vs, rfl, rv⟩ := ra
      obtain ⟨us, rfl, ru⟩ := rb
      obtain ⟨hg, heq⟩ := hX.eqs t hmem
      split at e
      · rename_i bb hb
        rw [Sem.run_bind, run_eqGuard_agg w op t xo yo _ _ hg, Result.andThen_ok]
        have hq := heq _ _ _ hc.2 hb w ok h ρ _ _ rv ru
        split at e
        · cases e; rw [run_eql_struct, hq]; exact ⟨_, rfl, rep_bool _⟩
        · cases e; rw [run_neq_struct, hq]; exact ⟨_, rfl, rep_bool _⟩
        · cases e
      · cases e
  · cases e

theorem unV_sound {op : UnOp} {x : V} {a : Value} {v : V} {P : Program} (ra : VRep w ok h ρ x a) (e : (unV op x).eval = some v) :
    ∃ u, (Op.unary op a).run P w = .ok u w ∧ VRep w ok h ρ v u := by
  unfold unV at e
  split at e
  · cases List.singleton_inj.1 ra; cases e; exact ⟨_, rfl, rep_bool _⟩
  · cases List.singleton_inj.1 ra; cases e; exact ⟨_, rfl, rep_int _ _⟩
  · cases List.singleton_inj.1 ra; cases e; exact ⟨_, rfl, rep_int _ _⟩
  · cases e

theorem rep_cells : ∀ {c : Ty} {x : c.den} {vs : List Value}, Rep w ok c x vs → CsRep w ok h ρ (toCells c x) vs
  | .int _, _, _, r => by cases r; exact .cons rfl .nil
  | .bool, _, _, r => by cases r; exact .cons rfl .nil
  | .str, _, _, r => by cases r; exact .cons rfl .nil
  | .unit, _, _, r => by cases r; exact .nil
  | .pair _ _, _, _, ⟨_, _, e, hl, hr⟩ => by subst e; exact (rep_cells hl).append (rep_cells hr)
  | .sl _, _, _, ⟨A, cap, e, hc, hi⟩ => by subst e; exact .cons ⟨A, cap, rfl, hc, hi⟩ .nil
  | .old _, _, _, ⟨A, cap, e, hc, hi⟩ => by subst e; exact .cons ⟨A, cap, rfl, hc, hi⟩ .nil
  | .any, _, _, ⟨v, e, h1⟩ => by subst e; exact .cons h1 .nil

theorem mkV_rep {agg : Bool} {cs : List C} {vs : List Value} (r : CsRep w ok h ρ cs vs) (hn : agg = false → cs.length = 1) : VRep w ok h ρ (mkV agg cs) (mkVal agg vs) := by
  cases agg with
  | true => exact ⟨vs, rfl, r⟩
  | false =>
    have := hn rfl
    match cs, vs, r with
    | [c], [v], .cons h .nil => exact h

theorem oneCell_of {x : C} {v : Value} (r : CRep w ok h ρ x v) (_hρ : Slices h ρ) : v.oneCell' = true := by
  cases x with
  | val τ x =>
    cases τ with
    | int k => cases List.singleton_inj.1 r; rfl
    | bool => cases List.singleton_inj.1 r; rfl
    | str => cases List.singleton_inj.1 r; rfl
    | sl c => obtain ⟨A, cap, e, _⟩ := r; cases List.singleton_inj.1 e; rfl
    | old c => obtain ⟨A, cap, e, _⟩ := r; cases List.singleton_inj.1 e; rfl
    | any => obtain ⟨v, e, h1⟩ := r; cases List.singleton_inj.1 e; exact h1
    | unit => cases r
    | pair a b =>
      exact rep_one r
  | nils => cases r; rfl
  | own id => obtain ⟨_, _, _, h1, _⟩ := r; exact h1
  | ptr id o => obtain ⟨_, b, _, rfl⟩ := r; rfl
  | rptr c x => obtain ⟨b, o, cs, rfl, _⟩ := r; rfl
  | eptr id i o => obtain ⟨_, _, _, ⟨b, o, rfl⟩, _⟩ := r; rfl
  | nilp => cases r; rfl
  | fn f caps => obtain ⟨us, rfl, _⟩ := r; rfl
  | dead => exact r
where
  rep_one : ∀ {c : Ty} {x : c.den} {v : Value}, Rep w ok c x [v] → v.oneCell' = true
  | .int _, _, _, r => by cases List.singleton_inj.1 r; rfl
  | .bool, _, _, r => by cases List.singleton_inj.1 r; rfl
  | .str, _, _, r => by cases List.singleton_inj.1 r; rfl
  | .unit, _, _, r => by cases r
  | .pair a b, _, v, ⟨l, r, e, hl, hr⟩ => by
    match l, r, e with
    | [], r, e => simp at e; subst e; exact rep_one hr
    | x :: l, r, e =>
      simp at e
      obtain ⟨rfl, e1, e2⟩ := e
      subst e1; subst e2
      exact rep_one hl
  | .sl _, _, _, ⟨A, cap, e, _⟩ => by cases List.singleton_inj.1 e; rfl
  | .old _, _, _, ⟨A, cap, e, _⟩ => by cases List.singleton_inj.1 e; rfl
  | .any, _, _, ⟨_, e, h1⟩ => by cases List.singleton_inj.1 e; exact h1

theorem dropCells_rep {P : Program} : ∀ {n : Nat} {c : Ty} {x : c.den} {c' : Ty} {x' : c'.den}, dropCells n c x = some ⟨c', x'⟩ → ∀ {cs : List Value}, Rep w ok c x cs → Rep w ok c' x' (cs.drop n)
  | n, .pair a b, p, c', x', e, cs, ⟨l, r, e1, hl, hr⟩ => by
    simp only [dropCells] at e
    have hlen := hl.length
    subst e1
    split at e
    · rename_i h0
      subst h0
      simp only [Option.some.injEq, Sigma.mk.injEq] at e
      obtain ⟨rfl, e⟩ := e
      cases e
      exact ⟨l, r, rfl, hl, hr⟩
    · split at e
      · rename_i hs
        have := dropCells_rep (P := P) e hr
        rw [List.drop_append, List.drop_eq_nil_of_le (by omega), List.nil_append, hlen]
        exact this
      · rename_i hs
        split at e
        · rename_i a' y hy
          simp only [Option.some.injEq, Sigma.mk.injEq] at e
          obtain ⟨rfl, e⟩ := e
          cases e
          have := dropCells_rep (P := P) hy hl
          rw [List.drop_append_of_le_length (by omega)]
          exact ⟨_, r, rfl, this, hr⟩
        · cases e
  | 0, .int _, x, c', x', e, cs, r => by simp [dropCells] at e; obtain ⟨rfl, e⟩ := e; cases e; simpa using r
  | 0, .bool, x, c', x', e, cs, r => by simp [dropCells] at e; obtain ⟨rfl, e⟩ := e; cases e; simpa using r
  | 0, .str, x, c', x', e, cs, r => by simp [dropCells] at e; obtain ⟨rfl, e⟩ := e; cases e; simpa using r
  | 0, .unit, x, c', x', e, cs, r => by simp [dropCells] at e; obtain ⟨rfl, e⟩ := e; cases e; simpa using r
  | 0, .sl _, x, c', x', e, cs, r => by simp [dropCells] at e; obtain ⟨rfl, e⟩ := e; cases e; simpa using r
  | 0, .old _, x, c', x', e, cs, r => by simp [dropCells] at e; obtain ⟨rfl, e⟩ := e; cases e; simpa using r
  | 0, .any, x, c', x', e, cs, r => by simp [dropCells] at e; obtain ⟨rfl, e⟩ := e; cases e; simpa using r
  | n + 1, .int _, _, _, _, e, _, _ => by simp [dropCells] at e
  | n + 1, .bool, _, _, _, e, _, _ => by simp [dropCells] at e
  | n + 1, .str, _, _, _, e, _, _ => by simp [dropCells] at e
  | n + 1, .unit, _, _, _, e, _, _ => by simp [dropCells] at e
  | n + 1, .sl _, _, _, _, e, _, _ => by simp [dropCells] at e
  | n + 1, .any, _, _, _, e, _, _ => by simp [dropCells] at e
  | n + 1, .old _, _, _, _, e, _, _ => by simp [dropCells] at e

theorem dropCells_any : ∀ {n : Nat} {c : Ty} {x : c.den} {c' : Ty} {x' : c'.den}, dropCells n c x = some ⟨c', x'⟩ → ∀ j, c'.isAny j = c.isAny (n + j)
  | n, .pair a b, p, c', x', e, j => by
    simp only [dropCells] at e
    split at e
    · rename_i h0
      subst h0
      simp only [Option.some.injEq, Sigma.mk.injEq] at e
      obtain ⟨rfl, e⟩ := e
      rw [Nat.zero_add]
    · split at e
      · rename_i hs
        rw [dropCells_any e j]
        conv => rhs; unfold Ty.isAny
        rw [if_neg (by omega)]
        congr 1; omega
      · rename_i hs
        split at e
        · rename_i a' y hy
          simp only [Option.some.injEq, Sigma.mk.injEq] at e
          obtain ⟨rfl, e⟩ := e
          have hsz := dropCells_size hy
          unfold Ty.isAny
          split
          · rw [if_pos (by omega), dropCells_any hy j]
          · rw [if_neg (by omega)]
            congr 1; omega
        · cases e
  | 0, .int _, x, c', x', e, j => by simp [dropCells] at e; obtain ⟨rfl, e⟩ := e; simp
  | 0, .bool, x, c', x', e, j => by simp [dropCells] at e; obtain ⟨rfl, e⟩ := e; simp
  | 0, .str, x, c', x', e, j => by simp [dropCells] at e; obtain ⟨rfl, e⟩ := e; simp
  | 0, .unit, x, c', x', e, j => by simp [dropCells] at e; obtain ⟨rfl, e⟩ := e; simp
  | 0, .sl _, x, c', x', e, j => by simp [dropCells] at e; obtain ⟨rfl, e⟩ := e; simp
  | 0, .old _, x, c', x', e, j => by simp [dropCells] at e; obtain ⟨rfl, e⟩ := e; simp
  | 0, .any, x, c', x', e, j => by simp [dropCells] at e; obtain ⟨rfl, e⟩ := e; simp
  | n + 1, .int _, _, _, _, e, _ => by simp [dropCells] at e
  | n + 1, .bool, _, _, _, e, _ => by simp [dropCells] at e
  | n + 1, .str, _, _, _, e, _ => by simp [dropCells] at e
  | n + 1, .unit, _, _, _, e, _ => by simp [dropCells] at e
  | n + 1, .sl _, _, _, _, e, _ => by simp [dropCells] at e
  | n + 1, .old _, _, _, _, e, _ => by simp [dropCells] at e
  | n + 1, .any, _, _, _, e, _ => by simp [dropCells] at e
where
  dropCells_size : ∀ {n : Nat} {c : Ty} {x : c.den} {c' : Ty} {x' : c'.den}, dropCells n c x = some ⟨c', x'⟩ → n + c'.size = c.size
  | n, .pair a b, p, c', x', e => by
    simp only [dropCells] at e
    split at e
    · rename_i h0
      subst h0
      simp only [Option.some.injEq, Sigma.mk.injEq] at e
      obtain ⟨rfl, e⟩ := e
      simp
    · split at e
      · rename_i hs
        have := dropCells_size e
        simp only [Ty.size]; omega
      · rename_i hs
        split at e
        · rename_i a' y hy
          simp only [Option.some.injEq, Sigma.mk.injEq] at e
          obtain ⟨rfl, e⟩ := e
          have := dropCells_size hy
          simp only [Ty.size]; omega
        · cases e
  | 0, .int _, x, c', x', e => by simp [dropCells] at e; obtain ⟨rfl, e⟩ := e; simp
  | 0, .bool, x, c', x', e => by simp [dropCells] at e; obtain ⟨rfl, e⟩ := e; simp
  | 0, .str, x, c', x', e => by simp [dropCells] at e; obtain ⟨rfl, e⟩ := e; simp
  | 0, .unit, x, c', x', e => by simp [dropCells] at e; obtain ⟨rfl, e⟩ := e; simp
  | 0, .sl _, x, c', x', e => by simp [dropCells] at e; obtain ⟨rfl, e⟩ := e; simp
  | 0, .old _, x, c', x', e => by simp [dropCells] at e; obtain ⟨rfl, e⟩ := e; simp
  | 0, .any, x, c', x', e => by simp [dropCells] at e; obtain ⟨rfl, e⟩ := e; simp
  | n + 1, .int _, _, _, _, e => by simp [dropCells] at e
  | n + 1, .bool, _, _, _, e => by simp [dropCells] at e
  | n + 1, .str, _, _, _, e => by simp [dropCells] at e
  | n + 1, .unit, _, _, _, e => by simp [dropCells] at e
  | n + 1, .sl _, _, _, _, e => by simp [dropCells] at e
  | n + 1, .old _, _, _, _, e => by simp [dropCells] at e
  | n + 1, .any, _, _, _, e => by simp [dropCells] at e
end
end Go.Rx
namespace Go.Rx
variable [Tabs]
section
variable {X : Ctx} {w : World} {ok : Nat → Prop} {h : Heap} {ρ : Nat → Value}

theorem run_isAgg' {t : TypeId} {d : TypeDesc} (hd : X.P.underlying t = some d) : (isAgg t).run X.P w = .ok (X.agg t) w := by
  unfold isAgg Ctx.agg
  rw [Sem.run_bind, run_underlying hd w, hd]
  cases d <;> simp

theorem run_sizeOf' {t : TypeId} {i : TypeInfo} (hi : X.P.info? t = some i) : (sizeOf t).run X.P w = .ok i.size w := by
  simp [sizeOf, typeInfo, hi]

theorem extract_list (us : List Value) (o n : Nat) : us.toArray.extract o (o + n) = ((us.drop o).take n).toArray := by
  apply Array.ext'
  simp

theorem CsRep.len {cs : List C} {us : List Value} (r : CsRep w ok h ρ cs us) : cs.length = us.length := r.length

theorem part_sound (hX : CtxOk X) {t : TypeId} {cs : List C} {o : Nat} {v : V} {us : List Value} (e : partV X t cs o = some v) (r : CsRep w ok h ρ cs us) :
    ∃ u, (part t us.toArray o).run X.P w = .ok u w ∧ VRep w ok h ρ v u := by
  unfold partV at e
  split at e
  · rename_i τ ht
    obtain ⟨i, hi, hs, hz, hone, d, hd⟩ := hX.info t τ ht
    dsimp only at e
    split at e
    · rename_i hl
      cases e
      have rr : CsRep w ok h ρ ((cs.drop o).take τ.size) ((us.drop o).take τ.size) := (r.drop o).take _
      cases ha : X.agg t with
      | true =>
        refine ⟨.agg ((us.drop o).take τ.size).toArray, ?_, ⟨_, rfl, rr⟩⟩
        simp only [part, Sem.run_bind, run_isAgg' hd, ha, Result.andThen_ok, if_true, run_sizeOf' hi, hs, Sem.run_pure, extract_list]
      | false =>
        have h1 := hone ha
        rw [h1] at hl rr
        have hlt : o < us.length := by
          have := r.len
          simp at hl
          omega
        refine ⟨us[o], ?_, ?_⟩
        · simp only [part, Sem.run_bind, run_isAgg' hd, ha, Result.andThen_ok, Bool.false_eq_true, if_false, List.getElem?_toArray, List.getElem?_eq_getElem hlt, Sem.run_pure]
        · rw [h1]
          have hlt' : o < cs.length := by rw [r.len]; exact hlt
          rw [show (cs.drop o).take 1 = [cs[o]] from by rw [List.drop_eq_getElem_cons hlt']; rfl]
          exact r.get o hlt' hlt
    · cases e
  · cases e

theorem foldl_set (off : Nat) : ∀ (vs : List Value) (k : Nat) (cells : Array Value), off + k + vs.length ≤ cells.size →
    (vs.zipIdx k).foldl (fun (cs : Array Value) (p : Value × Nat) => cs.setIfInBounds (off + p.2) p.1) cells =
      (cells.toList.take (off + k) ++ vs ++ cells.toList.drop (off + k + vs.length)).toArray
  | [], k, cells, _ => by simp
  | v :: vs, k, cells, hb => by
    simp only [List.length_cons] at hb
    rw [List.zipIdx_cons, List.foldl_cons, foldl_set off vs (k + 1) _ (by simp; omega)]
    congr 1
    simp only [Array.toList_setIfInBounds, List.length_cons]
    have hlt : off + k < cells.toList.length := by simp; omega
    rw [show off + (k + 1) = (off + k) + 1 from by omega, List.take_succ_eq_append_getElem (by simpa using hlt), List.getElem_set_self, List.take_set]
    rw [List.set_eq_of_length_le (by simp; omega)]
    rw [show off + k + 1 + vs.length = off + k + (vs.length + 1) from by omega]
    rw [List.drop_set_of_lt (by omega)]
    simp

theorem cells_one {u : Value} (hu : u.oneCell' = true) : u.cells = #[u] := by cases u <;> first | rfl | cases hu

theorem vcells (hρ : Slices h ρ) {v : V} {u : Value} (r : VRep w ok h ρ v u) (hn : 0 < v.cells.length) : ∃ vs : List Value, u.cells = vs.toArray ∧ CsRep w ok h ρ v.cells vs := by
  cases v with
  | undef => simp [V.cells] at hn
  | tup _ => simp [V.cells] at hn
  | one x => exact ⟨[u], cells_one (oneCell_of r hρ), .cons r .nil⟩
  | agg cs => obtain ⟨vs, rfl, r⟩ := r; exact ⟨vs, rfl, r⟩

theorem splice_rep {cs new : List C} {us vs : List Value} {o : Nat} (r : CsRep w ok h ρ cs us) (rn : CsRep w ok h ρ new vs) : CsRep w ok h ρ (splice cs o new) (us.take o ++ vs ++ us.drop (o + vs.length)) := by
  unfold splice
  rw [rn.len]
  exact ((r.take o).append rn).append (r.drop _)

theorem fill_sound (hρ : Slices h ρ) {place : Nat → Option (Nat × Nat)} : ∀ {parts : List (Nat × V)} {vals : List (Nat × Value)} {cs : List C} {us : Array Value} {cs' : List C},
    fillCells X place cs parts = some cs' → All2 (fun p q => p.1 = q.1 ∧ VRep w ok h ρ p.2 q.2) parts vals → CsRep w ok h ρ cs us.toList →
    ∃ us' : Array Value, Instr.fill place us vals = some us' ∧ CsRep w ok h ρ cs' us'.toList ∧ us'.size = us.size
  | [], _, _, us, _, e, .nil, r => by simp only [fillCells, Option.some.injEq] at e; subst e; exact ⟨us, rfl, r, rfl⟩
  | (i, v) :: rest, (_, u) :: _, cs, us, cs', e, .cons ⟨rfl, rv⟩ t, r => by
    simp only [fillCells] at e
    split at e
    · rename_i o n hp
      split at e
      · rename_i hn
        obtain ⟨hn, hpos, hle⟩ := hn
        obtain ⟨vs, hu, rvs⟩ := vcells (v := v) (u := u) hρ rv (by omega)
        have hvl : vs.length = n := by rw [← rvs.len, hn]
        have hcs : cs.length = us.size := by have := r.len; simpa using this
        have hfold : (vs.toArray.zipIdx.foldl (fun (cs : Array Value) (p : Value × Nat) => cs.setIfInBounds (o + p.2) p.1) us) = (us.toList.take o ++ vs ++ us.toList.drop (o + vs.length)).toArray := by
          rw [← Array.foldl_toList]
          have := foldl_set o vs 0 us (by omega)
          simpa using this
        have rr : CsRep w ok h ρ (splice cs o v.cells) (us.toList.take o ++ vs ++ us.toList.drop (o + vs.length)) := splice_rep r rvs
        obtain ⟨us', hf, r', hs⟩ := fill_sound hρ e t (us := (us.toList.take o ++ vs ++ us.toList.drop (o + vs.length)).toArray) (by simpa using rr)
        refine ⟨us', ?_, r', ?_⟩
        · simp only [Instr.fill]
          rw [hp]
          simp only
          rw [hu, if_neg (by simp [hvl]; omega)]
          exact (congrArg (fun z => Instr.fill place z _) hfold).trans hf
        · rw [hs]; simp; omega
      · cases e
    · cases e
end
end Go.Rx
namespace Go.Rx
variable [Tabs]
section
variable {X : Ctx} {w : World} {ok : Nat → Prop} {h : Heap} {ρ : Nat → Value}

/-- What an operation that leaves the world alone comes to. -/
def Gives (X : Ctx) (w : World) (ok : Nat → Prop) (h : Heap) (ρ : Nat → Value) (ev : Operand → Value) (op : Oper) (v : V) : Prop :=
  ∃ u, (execOp ev op).run X.P w = .ok (.value u) w ∧ VRep w ok h ρ v u

theorem field_of {t : TypeId} {f : Nat} {fd : Field} (e : X.field t f = some fd) : ∃ fs, X.P.underlying t = some (.struct fs) ∧ fs[f]? = some fd := by
  unfold Ctx.field at e
  split at e
  · rename_i fs hu; exact ⟨fs, hu, by simpa using e⟩
  · cases e

theorem elem_of {t e : TypeId} (h : X.elem t = some e) : X.P.underlying t = some (.slice e) := by
  unfold Ctx.elem at h
  split at h
  · rename_i hu; cases h; exact hu
  · cases h

theorem noSize_of (hX : CtxOk X) {t : TypeId} (hn : X.noSize t = false) : ∃ τ i, X.ty t = some τ ∧ X.P.info? t = some i ∧ i.size = τ.size ∧ i.size ≠ 0 := by
  unfold Ctx.noSize at hn
  split at hn
  · rename_i τ ht
    obtain ⟨i, hi, hs, _⟩ := hX.info t τ ht
    exact ⟨τ, i, ht, hi, hs, by rw [hs]; simpa using hn⟩
  · cases hn

theorem addr_add (b o n : Nat) : (⟨b, o, none⟩ : Addr).add n = ⟨b, o + n, none⟩ := Addr.add_mid b o n

theorem fieldAt_run {t : TypeId} {f : Nat} {fd : Field} (hX : CtxOk X) (e : X.field t f = some fd) (hn : X.noSize fd.type = false) (b o : Nat) :
    (Instr.fieldAt t (.pointer (some ⟨b, o, none⟩)) f).run X.P w = .ok (.pointer (some ⟨b, o + fd.offset, none⟩)) w := by
  obtain ⟨fs, hu, hf⟩ := field_of e
  obtain ⟨τ, i, ht, hi, hs, h0⟩ := noSize_of hX hn
  simp [Instr.fieldAt, run_underlying hu, hf, Instr.sureAddr, fieldPlace, run_sizeOf' hi, h0, addr_add]

/-! The operations, one by one. -/
variable {ev : Operand → Value} {op : Oper} {v : V}

theorem gives_fieldAddr (hX : CtxOk X) {t : TypeId} {x : Operand} {f : Nat} (ho : op.op = .fieldAddr t x f) {p : V} (r : VRep w ok h ρ p (ev x))
    (e : (pureOp X (.fieldAddr t x f) [p]).eval = some v) : Gives X w ok h ρ ev op v := by
  simp only [pureOp] at e
  split at e
  · rename_i fd hfd
    split at e
    · cases e
    · rename_i hn
      have hn : X.noSize fd.type = false := by simpa using hn
      have run (b o : Nat) (hx : ev x = .pointer (some ⟨b, o, none⟩)) : (execOp ev op).run X.P w = .ok (.value (.pointer (some ⟨b, o + fd.offset, none⟩))) w := by
        unfold execOp
        simp only [ho, hx, Sem.run_bind, fieldAt_run hX hfd hn, Result.andThen_ok, Sem.run_pure]
      split at e
      · rename_i id o
        cases e
        obtain ⟨hl, b, hb, hx⟩ := r
        exact ⟨_, run b o hx, hl, b, hb, rfl⟩
      · rename_i c x'
        split at e
        · rename_i c' x'' hd
          cases e
          obtain ⟨b, o, cs, hx, hok, hr, hj⟩ := r
          refine ⟨_, run b o hx, b, o + fd.offset, cs.drop fd.offset, rfl, hok, dropCells_rep (P := X.P) hd hr, fun j hj' => ?_⟩
          have hj'' : fd.offset + j < cs.length := by simp at hj'; omega
          rw [Nat.add_assoc, (hj _ hj'').1, dropCells_any hd]
          exact ⟨by simp, (hj _ hj'').2⟩
        · cases e
      · rename_i id i o
        cases e
        obtain ⟨y, hy, hl, ⟨b, o', hx⟩, hc⟩ := r
        refine ⟨_, run b _ hx, y, hy, hl, ⟨b, _, rfl⟩, fun c xs hxs => ?_⟩
        obtain ⟨hi, b2, o2, len, cap, e1, e2⟩ := hc c xs hxs
        rw [hx] at e2
        cases e2
        exact ⟨hi, _, o2, len, cap, e1, by simp only [Nat.add_assoc]⟩
      · cases e
  · cases e

theorem gives_field (hX : CtxOk X) {t : TypeId} {x : Operand} {f : Nat} (ho : op.op = .field t x f) {p : V} (r : VRep w ok h ρ p (ev x))
    (e : (pureOp X (.field t x f) [p]).eval = some v) : Gives X w ok h ρ ev op v := by
  cases p with
  | agg cs =>
    obtain ⟨us, hx, rr⟩ := r
    simp only [pureOp] at e
    split at e
    · rename_i fd hfd
      rw [Tr.eval_of] at e
      obtain ⟨fs, hu, hf⟩ := field_of hfd
      obtain ⟨u, hrun, ru⟩ := part_sound hX e rr
      refine ⟨u, ?_, ru⟩
      unfold execOp
      simp only [ho, hx]
      simp [Instr.field, run_underlying hu, hf, asAgg, hrun]
    · cases e
  | _ => simp [pureOp] at e

theorem gives_extract {i : Nat} {x : Operand} (ho : op.op = .extract x i) {p : V} (r : VRep w ok h ρ p (ev x))
    (e : (pureOp X (.extract x i) [p]).eval = some v) : Gives X w ok h ρ ev op v := by
  cases p with
  | tup ps =>
    obtain ⟨us, hx, rr⟩ := r
    simp only [pureOp] at e
    split at e
    · rename_i b cs hg
      cases e
      obtain ⟨u, hu, ru⟩ := rr.get? i _ hg
      refine ⟨u, ?_, ?_⟩
      · unfold execOp
        simp only [ho, hx]
        simp [Instr.extract, hu]
      · rcases ru with ⟨hb, vs, rfl, rv⟩ | ⟨hb, y, hy, ry⟩
        · dsimp only at hb rv; subst hb; exact ⟨vs, rfl, rv⟩
        · dsimp only at hb hy; subst hb; subst hy; exact ry
    · cases e
  | _ => simp [pureOp] at e

theorem gives_move {x : Operand} (ho : op.op = .move x ∨ op.op = .assign x) {p : V} (r : VRep w ok h ρ p (ev x)) : Gives X w ok h ρ ev op p := by
  refine ⟨ev x, ?_, r⟩
  unfold execOp
  rcases ho with ho | ho <;> simp [ho]

theorem gives_pick {c a b : Operand} (ho : op.op = .pick c a b) {vc va vb : V} (rc : VRep w ok h ρ vc (ev c)) (ra : VRep w ok h ρ va (ev a)) (rb : VRep w ok h ρ vb (ev b))
    (e : (pureOp X (.pick c a b) [vc, va, vb]).eval = some v) : Gives X w ok h ρ ev op v := by
  simp only [pureOp] at e
  split at e
  · rename_i t ht
    have hc := asBool_rep ht rc
    refine ⟨if t then ev a else ev b, ?_, ?_⟩
    · unfold execOp
      simp [ho, hc]
      cases t <;> rfl
    · split at e
      · cases e
        have ha := List.singleton_inj.1 ra
        have hb := List.singleton_inj.1 rb
        cases t
        · exact congrArg (fun z => [z]) hb
        · exact congrArg (fun z => [z]) ha
      · rw [Tr.eval_ite] at e
        cases t <;> simp at e <;> subst e <;> assumption
  · cases e

theorem gives_nilCheck {x : Operand} (ho : op.op = .nilCheck x) {p : V} (r : VRep w ok h ρ p (ev x))
    (e : (pureOp X (.nilCheck x) [p]).eval = some v) : Gives X w ok h ρ ev op v := by
  have key : ∀ a : Addr, ev x = .pointer (some a) → (execOp ev op).run X.P w = .ok (.value (ev x)) w := by
    intro a ha
    unfold execOp
    simp [ho, ha]
  cases p with
  | one c =>
    cases c <;> simp only [pureOp, Tr.eval_ret, Tr.eval_fail, Option.some.injEq] at e <;> first | (cases e; done) | skip
    all_goals subst e
    · obtain ⟨hl, b, hb, hx⟩ := id r; exact ⟨_, key _ hx, r⟩
    · obtain ⟨b, o, cs, hx, _⟩ := id r; exact ⟨_, key _ hx, r⟩
    · obtain ⟨y, hy, hl, ⟨b, o', hx⟩, hc⟩ := id r; exact ⟨_, key _ hx, r⟩
  | _ => simp [pureOp] at e

theorem gives_binOp (hX : CtxOk X) {bo : BinOp} {t yt : TypeId} {x y : Operand} (ho : op.op = .binOp bo t x y yt) {a b : V} (ra : VRep w ok h ρ a (ev x)) (rb : VRep w ok h ρ b (ev y))
    (e : (pureOp X (.binOp bo t x y yt) [a, b]).eval = some v) : Gives X w ok h ρ ev op v := by
  obtain ⟨u, hr, ru⟩ := binV_sound hX ra rb (by simpa only [pureOp] using e) x y
  refine ⟨u, ?_, ru⟩
  unfold execOp
  simp only [ho]
  rw [Sem.run_bind, hr]
  rfl

theorem gives_unOp {uo : UnOp} {t : TypeId} {x : Operand} (ho : op.op = .unOp uo t x) {a : V} (ra : VRep w ok h ρ a (ev x))
    (e : (pureOp X (.unOp uo t x) [a]).eval = some v) : Gives X w ok h ρ ev op v := by
  obtain ⟨u, hr, ru⟩ := unV_sound (P := X.P) ra (by simpa only [pureOp] using e)
  refine ⟨u, ?_, ru⟩
  unfold execOp
  simp only [ho]
  rw [Sem.run_bind, hr]
  rfl

theorem bytes_get (s : List UInt8) (i : Nat) : (⟨s.toArray⟩ : ByteArray)[i]? = s[i]? := by
  simp only [getElem?_def]
  by_cases hi : i < s.length
  · have h2 : i < (⟨s.toArray⟩ : ByteArray).size := by show i < s.toArray.size; simpa using hi
    rw [dif_pos hi, dif_pos h2]
    rfl
  · have h2 : ¬ i < (⟨s.toArray⟩ : ByteArray).size := by show ¬ i < s.toArray.size; simpa using hi
    rw [dif_neg hi, dif_neg h2]

theorem gives_index {t : TypeId} {x y : Operand} (ho : op.op = .index t x y) {a b : V} (ra : VRep w ok h ρ a (ev x)) (rb : VRep w ok h ρ b (ev y))
    (e : (pureOp X (.index t x y) [a, b]).eval = some v) : Gives X w ok h ρ ev op v := by
  cases a with
  | one c =>
    cases c with
    | val τ s =>
      cases τ with
      | str =>
        simp only [pureOp] at e
        split at e
        · rename_i k i hu hi
          have hx : ev x = .string ⟨(s : List UInt8).toArray⟩ := List.singleton_inj.1 ra
          have hy := asInt_rep hi rb
          rw [Tr.eval_ite] at e
          split at e
          · rename_i hb
            cases e
            simp only [Bool.and_eq_true, decide_eq_true_eq] at hb
            obtain ⟨h0, hlt⟩ := hb
            have hlt' : i.toNat < (s : List UInt8).length := by omega
            refine ⟨.int .u8 ((s : List UInt8)[i.toNat]).toNat, ?_, ?_⟩
            · unfold execOp
              simp [ho, hx, hy, Instr.index, asIntOf, run_underlying hu, h0, bytes_get, List.getElem?_eq_getElem hlt']
            · show [Value.int .u8 _] = [Value.int .u8 _]
              simp [List.getD, List.getElem?_eq_getElem hlt']
          · cases e
        · cases e
      | _ => simp [pureOp] at e
    | _ => simp [pureOp] at e
  | _ => simp [pureOp] at e

theorem bytes_extract (s : List UInt8) (l n : Nat) (hl : l ≤ n) (hn : n ≤ s.length) : (⟨s.toArray⟩ : ByteArray).extract l n = ⟨((s.take n).drop l).toArray⟩ := by
  apply ByteArray.ext
  simp [List.extract_eq_take_drop, List.drop_take]

/-! Cuts, and the places of lists. -/
theorem rd_eq {c : Ty} (xs : List c.den) (i : Int) (h : i.toNat < xs.length) : rd xs i = xs[i.toNat] := by
  simp [rd, List.getD, List.getElem?_eq_getElem h]

theorem shape_size : ∀ (c : Ty), c.shape.size = c.size
  | .int _ => rfl
  | .bool => rfl
  | .str => rfl
  | .unit => rfl
  | .sl _ => rfl
  | .old _ => rfl
  | .any => rfl
  | .pair a b => by simp only [Ty.shape, Ty.size, shape_size a, shape_size b]

theorem elem_info (hX : CtxOk X) {e0 : TypeId} {c : Ty} (h : X.ty e0 = some c ∨ (X.ty e0).map Ty.shape = some c) : ∃ ti, X.P.info? e0 = some ti ∧ ti.size = c.size := by
  rcases h with h | h
  · obtain ⟨ti, h1, h2, _⟩ := hX.info e0 c h
    exact ⟨ti, h1, h2⟩
  · obtain ⟨τ, h0, rfl⟩ := Option.map_eq_some_iff.1 h
    obtain ⟨ti, h1, h2, _⟩ := hX.info e0 τ h0
    exact ⟨ti, h1, by rw [shape_size, h2]⟩

theorem gives_indexAddr (hX : CtxOk X) {t : TypeId} {x y : Operand} (ho : op.op = .indexAddr t x y) {a b : V} (ra : VRep w ok h ρ a (ev x)) (rb : VRep w ok h ρ b (ev y))
    (e : (pureOp X (.indexAddr t x y) [a, b]).eval = some v) : Gives X w ok h ρ ev op v := by
  have key : ∀ {e0 : TypeId} {k : IntKind} {i : Int} {c : Ty} {s : List c.den} {Q : Nat → Prop}, X.elem t = some e0 → asInt b = some (k, i) → (X.ty e0 = some c ∨ (X.ty e0).map Ty.shape = some c) →
      (∃ A cap, [ev x] = [.slice A s.length cap] ∧ s.length ≤ cap ∧ ∀ i (h : i < s.length), ∃ b o cs, A = some ⟨b, o, none⟩ ∧ (ok b ∧ Q b) ∧ Rep w ok c s[i] cs ∧
        ∀ j (hj : j < cs.length), w.cell? ⟨b, o + (i * c.size + j), none⟩ = some cs[j] ∧ Prot w b (o + (i * c.size + j)) (c.isAny j)) →
      (Tr.ite (decide (0 ≤ i) && decide (i < s.length)) (.ret (.one (.rptr c (rd s i)))) .fail).eval = some v → Gives X w ok h ρ ev op v := by
    intro e0 k i c s Q he hi hty ra e
    obtain ⟨A, cap, hx, hcap, hel⟩ := ra
    have hx := List.singleton_inj.1 hx
    have hy := asInt_rep hi rb
    obtain ⟨ti, hinfo, hsz⟩ := elem_info hX hty
    rw [Tr.eval_ite] at e
    split at e
    · rename_i hb
      cases e
      simp only [Bool.and_eq_true, decide_eq_true_eq] at hb
      obtain ⟨h0, hlt⟩ := hb
      have hlt' : i.toNat < s.length := by omega
      obtain ⟨blk, o, cs, rfl, hok, hr, hj⟩ := hel i.toNat hlt'
      refine ⟨.pointer (some ⟨blk, o + i.toNat * c.size, none⟩), ?_, blk, o + i.toNat * c.size, cs, rfl, hok.1, ?_, ?_⟩
      · unfold execOp
        simp [ho, hx, hy, Instr.indexAt, asIntOf, run_underlying (elem_of he), h0, hlt, run_sizeOf' hinfo, hsz, addr_add]
      · rw [rd_eq _ _ hlt']; exact hr
      · intro j hj'
        rw [Nat.add_assoc]
        exact hj j hj'
    · cases e
  cases a with
  | one c =>
    cases c with
    | val τ s =>
      cases τ with
      | sl c =>
        simp only [pureOp] at e
        split at e
        · rename_i e0 k i he hi
          split at e
          · rename_i hty
            exact key he hi (by simpa using hty) ra e
          · cases e
        · cases e
      | old c =>
        simp only [pureOp] at e
        split at e
        · rename_i e0 k i he hi
          split at e
          · rename_i hty
            exact key he hi (.inl hty) ra e
          · cases e
        · cases e
      | _ => simp [pureOp] at e
    | _ => simp [pureOp] at e
  | _ => simp [pureOp] at e
end
end Go.Rx
namespace Go.Rx
variable [Tabs]
section
variable {X : Ctx} {w : World} {ok : Nat → Prop} {h : Heap} {ρ : Nat → Value}
variable {ev : Operand → Value} {op : Oper} {v : V}

theorem sliceBound_run {P : Program} {k : IntKind} {i : Int} {y : Nat} {code : BoundsCode} (h0 : 0 ≤ i) (h1 : i ≤ y) : (Instr.sliceBound (.int k i) y code).run P w = .ok i.toNat w := by
  simp [Instr.sliceBound, asIntOf, h0, h1]

theorem bounds_run {P : Program} {lo hi : Option Operand} {bs : List V} {len cap : Nat} {l n : Int} {isS : Bool} (hb : bounds lo.isSome hi.isSome bs len = some (l, n)) (hin : inBounds l n len = true) (hc : len ≤ cap)
    (r : All2 (VRep w ok h ρ) bs ((lo.toList ++ hi.toList).map ev)) :
    (Instr.sliceBounds isS len cap (lo.map ev) (hi.map ev) none).run P w = .ok (l.toNat, n.toNat, cap) w := by
  simp only [inBounds, Bool.and_eq_true, decide_eq_true_eq] at hin
  obtain ⟨h0, h1, h2⟩ := hin
  cases lo with
  | none =>
    cases hi with
    | none =>
      match bs, r with
      | [], _ =>
        simp [bounds] at hb
        obtain ⟨rfl, rfl⟩ := hb
        simp [Instr.sliceBounds]
    | some hi =>
      match bs, r with
      | [b], .cons rb .nil =>
        simp only [Option.isSome_none, Option.isSome_some, bounds, Option.map_eq_some_iff] at hb
        obtain ⟨⟨k, i⟩, hi', hb⟩ := hb
        cases hb
        have hy := asInt_rep hi' rb
        have := sliceBound_run (w := w) (P := P) (k := k) (i := i) (y := cap) (code := if isS then .sliceAcap else .sliceAlen) (by omega) (by omega)
        simp [Instr.sliceBounds, hy, this]
  | some lo =>
    cases hi with
    | none =>
      match bs, r with
      | [b], .cons rb .nil =>
        simp only [Option.isSome_none, Option.isSome_some, bounds, Option.map_eq_some_iff] at hb
        obtain ⟨⟨k, i⟩, hi', hb⟩ := hb
        cases hb
        have hy := asInt_rep hi' rb
        have := sliceBound_run (w := w) (P := P) (k := k) (i := i) (y := len) (code := .sliceB) (by omega) (by omega)
        simp [Instr.sliceBounds, hy, this]
    | some hi =>
      match bs, r with
      | [b, b'], .cons rb (.cons rb' .nil) =>
        simp only [Option.isSome_some, bounds] at hb
        split at hb
        · rename_i l' n' hl hn
          cases hb
          obtain ⟨k, i⟩ := l'
          obtain ⟨k', i'⟩ := n'
          have hy := asInt_rep hl rb
          have hy' := asInt_rep hn rb'
          dsimp only at h0 h1 h2
          have e1 := sliceBound_run (w := w) (P := P) (k := k') (i := i') (y := cap) (code := if isS then .sliceAcap else .sliceAlen) (by omega) (by omega)
          have e2 := sliceBound_run (w := w) (P := P) (k := k) (i := i) (y := i'.toNat) (code := .sliceB) (by omega) (by omega)
          simp [Instr.sliceBounds, hy, hy', e1, e2]
        · cases hb

theorem slice_operands {t : TypeId} {x : Operand} {lo hi : Option Operand} : (Op.slice t x lo hi none).operands.toList.map ev = ev x :: (lo.toList ++ hi.toList).map ev := by
  cases lo <;> cases hi <;> simp [Op.operands]

theorem gives_slice (hX : CtxOk X) {t : TypeId} {x : Operand} {lo hi : Option Operand} (ho : op.op = .slice t x lo hi none) {a : V} {bs : List V} (ra : VRep w ok h ρ a (ev x))
    (rb : All2 (VRep w ok h ρ) bs ((lo.toList ++ hi.toList).map ev))
    (e : (pureOp X (.slice t x lo hi none) (a :: bs)).eval = some v) : Gives X w ok h ρ ev op v := by
  cases a with
  | one c =>
    cases c with
    | val τ s =>
      cases τ with
      | str =>
        simp only [pureOp] at e
        split at e
        · rename_i l n hu hb
          have hx : ev x = .string ⟨(s : List UInt8).toArray⟩ := List.singleton_inj.1 ra
          rw [Tr.eval_ite] at e
          split at e
          · rename_i hin
            cases e
            have hr := bounds_run (P := X.P) (isS := false) hb hin (Nat.le_refl _) rb
            have hin' := hin
            simp only [inBounds, Bool.and_eq_true, decide_eq_true_eq] at hin'
            have hex := bytes_extract s l.toNat n.toNat (by omega) (by omega)
            refine ⟨.string ((⟨(s : List UInt8).toArray⟩ : ByteArray).extract l.toNat n.toNat), ?_, ?_⟩
            · unfold execOp
              have hsz : (⟨(s : List UInt8).toArray⟩ : ByteArray).size = (s : List UInt8).length := by show (s : List UInt8).toArray.size = _; simp
              simp [ho, hx, Instr.sliceAt, Instr.slice, run_underlying hu, hsz, hr]
            · rw [hex]; rfl
          · cases e
        · cases e
      | sl c =>
        simp only [pureOp] at e
        split at e
        · rename_i e0 l n he hb
          split at e
          · rename_i hty
            obtain ⟨A, cap, hx, hcap, hel⟩ := ra
            have hx := List.singleton_inj.1 hx
            obtain ⟨ti, hinfo, hsz, _⟩ := hX.info e0 c hty
            rw [Tr.eval_ite] at e
            split at e
            · rename_i hin
              cases e
              have hr := bounds_run (P := X.P) (isS := true) hb hin hcap rb
              have hin' := hin
              simp only [inBounds, Bool.and_eq_true, decide_eq_true_eq] at hin'
              obtain ⟨h0, h1, h2⟩ := hin'
              refine ⟨.slice (if cap = l.toNat then A else A.map (·.add (l.toNat * ti.size))) (n.toNat - l.toNat) (cap - l.toNat), ?_, ?_⟩
              · unfold execOp
                simp [ho, hx, Instr.sliceAt, Instr.slice, run_underlying (elem_of he), hr, run_sizeOf' hinfo]
              · have hlen : (cut (s : List c.den) l n).length = n.toNat - l.toNat := by simp [cut]; omega
                refine ⟨if cap = l.toNat then A else A.map (·.add (l.toNat * ti.size)), cap - l.toNat, ?_, ?_, ?_⟩
                · show [Value.slice _ _ _] = [Value.slice _ (cut (s : List c.den) l n).length _]
                  rw [hlen]
                · show (cut (s : List c.den) l n).length ≤ _
                  rw [hlen]; omega
                · intro i hi
                  have hi' : i < (cut (s : List c.den) l n).length := hi
                  rw [hlen] at hi'
                  obtain ⟨blk, o, cs, rfl, hok, hr', hj⟩ := hel (l.toNat + i) (by omega)
                  rw [if_neg (by omega)]
                  refine ⟨blk, o + l.toNat * ti.size, cs, by simp [addr_add], hok, ?_, ?_⟩
                  · have : (cut (s : List c.den) l n)[i] = (s : List c.den)[l.toNat + i] := by simp [cut]
                    show Rep w ok c (cut (s : List c.den) l n)[i] cs
                    rw [this]; exact hr'
                  · intro j hj'
                    have := hj j hj'
                    rw [hsz, show o + l.toNat * c.size + (i * c.size + j) = o + ((l.toNat + i) * c.size + j) from by rw [Nat.add_mul]; omega]
                    exact this
            · cases e
          · cases e
        · cases e
      | _ => simp [pureOp] at e
    | _ => simp [pureOp] at e
  | _ => simp [pureOp] at e

theorem zero_rep (ok' : Nat → Prop) : ∀ (c : Ty), Rep w ok' c c.dflt (zeroVals c)
  | .int _ => rfl
  | .bool => rfl
  | .str => rfl
  | .unit => rfl
  | .pair a b => ⟨_, _, rfl, zero_rep ok' a, zero_rep ok' b⟩
  | .sl _ => ⟨none, 0, rfl, Nat.le_refl _, fun i hi => absurd hi (Nat.not_lt_zero i)⟩
  | .old _ => ⟨none, 0, rfl, Nat.le_refl _, fun i hi => absurd hi (Nat.not_lt_zero i)⟩
  | .any => ⟨_, rfl, rfl⟩

theorem zeroCells_rep : ∀ (c : Ty), CsRep w ok h ρ (zeroCells c) (zeroVals c)
  | .pair a b => (zeroCells_rep a).append (zeroCells_rep b)
  | .sl _ => .cons rfl .nil
  | .int k => rep_cells (zero_rep ok (.int k))
  | .bool => rep_cells (zero_rep ok .bool)
  | .str => rep_cells (zero_rep ok .str)
  | .unit => .nil
  | .old c => rep_cells (zero_rep ok (.old c))
  | .any => .cons rfl .nil

theorem all2_zip {α : Type} {A : Type} {B : Type} {R : A → B → Prop} : ∀ {ks : List α} {as : List A} {bs : List B}, All2 R as bs → All2 (fun (p : α × A) (q : α × B) => p.1 = q.1 ∧ R p.2 q.2) (ks.zip as) (ks.zip bs)
  | [], _, _, _ => by simpa using All2.nil
  | _ :: _, _, _, .nil => by simpa using All2.nil
  | _ :: _, _, _, .cons h t => by simpa using All2.cons ⟨rfl, h⟩ (all2_zip t)

theorem parts_eq (parts : Array (Nat × Operand)) : (parts.map fun (i, x) => (i, ev x)).toList = (parts.toList.map (·.1)).zip ((parts.toList.map (·.2)).map ev) := by
  rw [Array.toList_map]
  generalize parts.toList = l
  induction l with
  | nil => rfl
  | cons p l ih => simp only [List.map_cons, List.zip_cons_cons, ih]

def szOf (f : Field) : Sem (Nat × Nat) := do pure (f.offset, ← sizeOf f.type)

theorem mapM_sizes (hX : CtxOk X) : ∀ (fs : List Field), (∀ f ∈ fs, (X.ty f.type).isSome) →
    (fs.mapM szOf).run X.P w = .ok (fs.map fun f => (f.offset, X.P.cellsOf f.type)) w
  | [], _ => by simp
  | f :: fs, hf => by
    have h1 := hf f (by simp)
    obtain ⟨τ, ht⟩ := Option.isSome_iff_exists.1 h1
    obtain ⟨i, hi, _⟩ := hX.info _ τ ht
    have ih := mapM_sizes hX fs fun g hg => hf g (by simp [hg])
    have h2 : (szOf f).run X.P w = .ok (f.offset, X.P.cellsOf f.type) w := by
      simp [szOf, run_sizeOf' hi, Program.cellsOf, hi]
    simp only [List.mapM_cons, Sem.run_bind, h2, Result.andThen_ok, Sem.run_pure, ih, List.map_cons]

theorem pureOp_build {t : TypeId} {parts : Array (Nat × Operand)} {vs : List V} : pureOp X (.build t parts) vs = (match X.ty t, X.P.underlying t with
    | some τ, some (.struct fs) => if fs.toList.any (fun f => (X.ty f.type).isNone) then (.fail : Tr V) else
      .bind (.of (fillCells X (X.places fs.toList) (zeroCells τ) ((parts.toList.map (·.1)).zip vs))) fun cs => .ret (.agg cs)
    | _, _ => .fail) := by
  cases vs with
  | nil => rfl
  | cons v1 vs => cases vs with
    | nil => rfl
    | cons v2 vs => cases vs with
      | nil => rfl
      | cons v3 vs => rfl

theorem gives_build (hX : CtxOk X) (hρ : Slices h ρ) {t : TypeId} {parts : Array (Nat × Operand)} (ho : op.op = .build t parts) {vs : List V}
    (r : All2 (VRep w ok h ρ) vs ((parts.toList.map (·.2)).map ev)) (e : (pureOp X (.build t parts) vs).eval = some v) : Gives X w ok h ρ ev op v := by
  rw [pureOp_build] at e
  split at e
  · rename_i τ fs ht hu
    split at e
    · cases e
    · rename_i hany
      rw [Tr.eval_bind, Tr.eval_of] at e
      obtain ⟨cs, hf, e⟩ := Option.bind_eq_some_iff.1 e
      cases e
      have hall : ∀ f ∈ fs.toList, (X.ty f.type).isSome := by
        intro f hf'
        simp only [List.any_eq_true, not_exists, not_and] at hany
        have := hany f hf'
        cases hq : X.ty f.type <;> simp_all
      obtain ⟨i, hinfo, hs, hz, _, d, hd⟩ := hX.info t τ ht
      have hagg : X.agg t = true := by simp [Ctx.agg, hu]
      rw [hagg] at hz
      have hm := mapM_sizes (w := w) hX fs.toList hall
      obtain ⟨us', hfill, rr, _⟩ := fill_sound (X := X) hρ (us := (zeroVals τ).toArray) hf (all2_zip r) (by simpa using zeroCells_rep (w := w) (ok := ok) (h := h) (ρ := ρ) τ)
      refine ⟨.agg us', ?_, us'.toList, by simp, rr⟩
      have hplace : (fun i => ((fs.toList.map fun f => (f.offset, X.P.cellsOf f.type)).toArray)[i]?) = X.places fs.toList := by
        funext i
        simp only [List.getElem?_toArray, List.getElem?_map, Ctx.places]
        cases hq : fs.toList[i]? with
        | none => rfl
        | some f =>
          have hmem : f ∈ fs.toList := List.mem_of_getElem? hq
          obtain ⟨τf, htf⟩ := Option.isSome_iff_exists.1 (hall f hmem)
          obtain ⟨fi, hfi, hfs, _⟩ := hX.info _ τf htf
          simp [htf, Program.cellsOf, hfi, hfs]
      unfold execOp
      simp only [ho]
      have hz0 : (zeroValue t).run X.P w = .ok (.agg (zeroVals τ).toArray) w := by
        simp [zeroValue, typeInfo, hinfo, hz, mkVal]
      have hmA : (fs.mapM szOf).run X.P w = .ok ((fs.toList.map fun f => (f.offset, X.P.cellsOf f.type)).toArray) w := by
        rw [Array.mapM_eq_mapM_toList]
        simp [hm]
      have hb : (Instr.build t (parts.map fun (i, x) => (i, ev x))).run X.P w = .ok (.agg us') w := by
        unfold Instr.build
        simp only [Sem.run_bind, hz0, Result.andThen_ok, run_underlying hu, Value.cells]
        have hA : (Array.mapM (fun (f : Field) => do pure (f.offset, ← sizeOf f.type)) fs).run X.P w = .ok ((fs.toList.map fun f => (f.offset, X.P.cellsOf f.type)).toArray) w := hmA
        rw [hA]
        simp only [Result.andThen_ok]
        rw [parts_eq]
        have hfill' : Instr.fill (fun x => ((fs.toList.map fun f => (f.offset, X.P.cellsOf f.type)).toArray)[x]?) (zeroVals τ).toArray ((parts.toList.map (·.1)).zip ((parts.toList.map (·.2)).map ev)) = some us' := by
          rw [hplace]; exact hfill
        simp only [hfill', Sem.run_pure]
      simp [hb]
  · cases e
end
end Go.Rx
/- New blocks. -/
namespace Go.Rx
variable [Tabs]

theorem setBlks_length : ∀ (bs : List Blk) (n : Nat) (h : Heap), (setBlks n bs h).length = h.length
  | [], _, _ => rfl
  | b :: bs, n, h => by rw [setBlks, setBlks_length bs]; simp

theorem setBlks_out : ∀ (bs : List Blk) (n : Nat) (h : Heap) (id : Nat), (id < n ∨ n + bs.length ≤ id) → (setBlks n bs h)[id]? = h[id]?
  | [], _, _, _, _ => rfl
  | b :: bs, n, h, id, hid => by
    rw [setBlks, setBlks_out bs _ _ _ (by simp only [List.length_cons] at hid; omega), List.getElem?_set_ne (by simp only [List.length_cons] at hid; omega)]

theorem setBlks_in : ∀ (bs : List Blk) (n : Nat) (h : Heap) (i : Nat), n + bs.length ≤ h.length → i < bs.length → (setBlks n bs h)[n + i]? = bs[i]?
  | [], _, _, _, _, hi => absurd hi (Nat.not_lt_zero _)
  | b :: bs, n, h, 0, hl, _ => by
    simp only [List.length_cons] at hl
    rw [setBlks, setBlks_out bs _ _ _ (by omega), Nat.add_zero, List.getElem?_set_self (by omega)]
    rfl
  | b :: bs, n, h, i + 1, hl, hi => by
    simp only [List.length_cons] at hl hi
    rw [setBlks, show n + (i + 1) = (n + 1) + i from by omega, setBlks_in bs (n + 1) _ i (by simp; omega) (by omega)]
    rfl

def setρ (slot : Nat) (vals : List Value) (ρ : Nat → Value) (id : Nat) : Value := if slot ≤ id ∧ id < slot + vals.length then vals.getD (id - slot) default else ρ id

theorem setρ_out {slot : Nat} {vals : List Value} {ρ : Nat → Value} {id : Nat} (h : id < slot ∨ slot + vals.length ≤ id) : setρ slot vals ρ id = ρ id := by
  unfold setρ; rw [if_neg (by omega)]

theorem setρ_in {slot : Nat} {vals : List Value} {ρ : Nat → Value} {i : Nat} (h : i < vals.length) : setρ slot vals ρ (slot + i) = vals[i] := by
  unfold setρ
  rw [if_pos (by omega), show slot + i - slot = i from by omega]
  simp [List.getD, List.getElem?_eq_getElem h]

def FreeAt (h : Heap) (slot n : Nat) : Prop := ∀ i, i < n → h[slot + i]? = some .free

/-- The world has grown; what was there is as it was. -/
structure Ext (w w' : World) : Prop where
  os : w'.os = w.os
  tape : w'.tape = w.tape
  output : w'.output = w.output
  size : w.heap.size ≤ w'.heap.size
  block : ∀ k, k < w.heap.size → w'.heap[k]? = w.heap[k]?

theorem Ext.refl (w : World) : Ext w w := ⟨rfl, rfl, rfl, Nat.le_refl _, fun _ _ => rfl⟩
theorem Ext.trans {a b c : World} (h : Ext a b) (k : Ext b c) : Ext a c :=
  ⟨k.os.trans h.os, k.tape.trans h.tape, k.output.trans h.output, Nat.le_trans h.size k.size, fun i hi => (k.block i (Nat.lt_of_lt_of_le hi h.size)).trans (h.block i hi)⟩
theorem Ext.push (w : World) (o : Obj) : Ext w { w with heap := w.heap.push o } :=
  ⟨rfl, rfl, rfl, by simp, fun k hk => by simp [Array.getElem?_push, Nat.ne_of_lt hk]⟩
theorem Ext.drew (w : World) (n : Nat) : Ext w { w with drawn := n } := ⟨rfl, rfl, rfl, Nat.le_refl _, fun _ _ => rfl⟩

theorem live_lt {w0 w : World} {Ex Rd : Nat → Prop} {h : Heap} {ρ : Nat → Value} (M : Mem w0 Ex Rd h ρ w) {id b : Nat} (hl : Live h ρ id b) : b < w.heap.size := by
  obtain ⟨⟨x, hx, hne⟩, hb⟩ := hl
  have r := M.blocks id x hx
  cases x with
  | dead => cases hne
  | free => cases hne
  | ro e c xs => cases hne
  | vars t cs =>
    obtain ⟨b', vs, hv, e, _⟩ := r
    rw [hv] at hb
    have : b' = b := by simpa [blockOf] using hb
    subst this
    rcases Nat.lt_or_ge b' w.heap.size with hlt | hge
    · exact hlt
    · rw [Array.getElem?_eq_none hge] at e; cases e
  | arr e0 c xs =>
    obtain ⟨A, cap, hv, _, r⟩ := r
    rw [hv] at hb
    rcases r with ⟨rfl, _⟩ | ⟨b', o, cells, fr, rfl, e, _⟩
    · cases hb
    · have : b' = b := by simpa [blockOf] using hb
      subst this
      rcases Nat.lt_or_ge b' w.heap.size with hlt | hge
      · exact hlt
      · rw [Array.getElem?_eq_none hge] at e; cases e

theorem slices_of {w0 w : World} {Ex Rd : Nat → Prop} {h : Heap} {ρ : Nat → Value} (_M : Mem w0 Ex Rd h ρ w) : Slices h ρ := trivial

/-- The world is another one in the blocks 'B' at most, and may have grown. -/
structure Chg (w w' : World) (B : Nat → Prop) : Prop where
  os : w'.os = w.os
  tape : w'.tape = w.tape
  output : w'.output = w.output
  size : w.heap.size ≤ w'.heap.size
  block : ∀ k, k < w.heap.size → ¬ B k → SameB w w' k

theorem Ext.chg {w w' : World} (h : Ext w w') : Chg w w' (fun _ => False) := ⟨h.os, h.tape, h.output, h.size, fun k hk _ => .inl (h.block k hk)⟩

section
variable {w0 w w' : World} {Ex Rd : Nat → Prop} {h h' : Heap} {ρ ρ' : Nat → Value} {slot : Nat} {blks : List Blk} {vals : List Value}

/-- What a step leaves. -/
structure Grown (w0 : World) (Ex Rd : Nat → Prop) (h : Heap) (ρ : Nat → Value) (w : World) (h' : Heap) (ρ' : Nat → Value) (w' : World) : Prop where
  mem : Mem w0 Ex Rd h' ρ' w'
  keep : Keep w (okOf Rd h ρ w) h ρ w' (okOf Rd h' ρ' w') h' ρ'

theorem mem_step (M : Mem w0 Ex Rd h ρ w) {B : Nat → Prop} (hw : Chg w w' B)
    (hB : ∀ k, k < w.heap.size → B k → ∃ id, Live h ρ id k)
    (hk : ∀ (id : Nat) x, h[id]? = some x → x ≠ .free → ∃ x', h'[id]? = some x' ∧ Sub x x' ∧ (x' ≠ .dead → ρ' id = ρ id))
    (hlive : ∀ id b, Live h' ρ' id b → (∃ j, Live h ρ j b) ∨ w.heap.size ≤ b)
    (hdist : ∀ i j b, Live h' ρ' i b → Live h' ρ' j b → i = j)
    (hrep : Keep w (okOf Rd h ρ w) h ρ w' (okOf Rd h' ρ' w') h' ρ' → ∀ (id : Nat) x', h'[id]? = some x' →
      (h[id]? = some x' ∧ ρ' id = ρ id ∧ (x'.lives = true → ∀ k, blockOf (ρ id) = some k → ¬ B k)) ∨ BRep w' (okOf Rd h' ρ' w') h' ρ' x' (ρ' id)) :
    Grown w0 Ex Rd h ρ w h' ρ' w' := by
  have K : Keep w (okOf Rd h ρ w) h ρ w' (okOf Rd h' ρ' w') h' ρ' := by
    refine ⟨fun k hk => ⟨⟨Nat.lt_of_lt_of_le hk.1 hw.size, hk.2.1, fun id hl => ?_⟩, hw.block k hk.1 fun hb => ?_⟩, hk⟩
    · rcases hlive id k hl with ⟨j, hj⟩ | h1
      · exact hk.2.2 j hj
      · have := hk.1; omega
    · obtain ⟨id, hl⟩ := hB k hk.1 hb
      exact hk.2.2 id hl
  refine ⟨⟨?_, hdist, ?_, M.rd, M.ex, ?_, M.tab, M.scr, M.sepN⟩, K⟩
  · intro id x' hx'
    rcases hrep K id x' hx' with ⟨h1, h2, h3⟩ | h1
    · rw [h2]
      refine BRep.keep K (fun hl k hk' => (hw.block k (live_lt M ⟨⟨x', h1, hl⟩, hk'⟩) (h3 hl k hk')).eq (M.live_noS ⟨⟨x', h1, hl⟩, hk'⟩)) (M.blocks id x' h1)
    · exact h1
  · intro i b hi
    rcases hlive i b hi with ⟨j, hj⟩ | h1
    · exact M.own j b hj
    · have := M.frame.size; exact .inl (by omega)
  · refine ⟨hw.os.trans M.frame.os, hw.tape.trans M.frame.tape, hw.output.trans M.frame.output, Nat.le_trans M.frame.size hw.size, fun k hk' he => ?_⟩
    refine (M.frame.block k hk' he).trans (hw.block k (Nat.lt_of_lt_of_le hk' M.frame.size) fun hb => ?_)
    · obtain ⟨id, hl⟩ := hB k (Nat.lt_of_lt_of_le hk' M.frame.size) hb
      rcases M.own id k hl with h1 | h1
      · omega
      · exact he h1

theorem Grown.refl (M : Mem w0 Ex Rd h ρ w) : Grown w0 Ex Rd h ρ w h ρ w := ⟨M, Keep.refl _ _ _ _⟩
theorem Grown.trans {h'' : Heap} {ρ'' : Nat → Value} {w'' : World} (a : Grown w0 Ex Rd h ρ w h' ρ' w') (b : Grown w0 Ex Rd h' ρ' w' h'' ρ'' w'') : Grown w0 Ex Rd h ρ w h'' ρ'' w'' := ⟨b.mem, a.keep.trans b.keep⟩

/-- Names of the new places. -/
theorem free_out (hd : FreeAt h slot blks.length) {id : Nat} {x : Blk} (hx : h[id]? = some x) (hne : x ≠ .free) : id < slot ∨ slot + blks.length ≤ id := by
  by_cases hc : id < slot ∨ slot + blks.length ≤ id
  · exact hc
  · have := hd (id - slot) (by omega)
    rw [show slot + (id - slot) = id from by omega, hx] at this
    cases this; exact absurd rfl hne

/-- Blocks are made (slots), one list may have been given up ('id' is dead in h1, its array may have been taken over), 'B': what was written. -/
theorem grow_mem (M : Mem w0 Ex Rd h ρ w) (hd : FreeAt h slot blks.length) (hw : Chg w w' (fun _ => False)) (hl : vals.length = blks.length) (hin : slot + blks.length ≤ h.length)
    (hnew : ∀ (i : Nat) (v : Value) (b : Nat), vals[i]? = some v → blockOf v = some b → w.heap.size ≤ b)
    (hdist : ∀ (i j : Nat) (v v' : Value) (b : Nat), vals[i]? = some v → vals[j]? = some v' → blockOf v = some b → blockOf v' = some b → i = j)
    (hrep : Keep w (okOf Rd h ρ w) h ρ w' (okOf Rd (setBlks slot blks h) (setρ slot vals ρ) w') (setBlks slot blks h) (setρ slot vals ρ) → ∀ (i : Nat) (x : Blk) (v : Value), blks[i]? = some x → vals[i]? = some v → BRep w' (okOf Rd (setBlks slot blks h) (setρ slot vals ρ) w') (setBlks slot blks h) (setρ slot vals ρ) x v) :
    Grown w0 Ex Rd h ρ w (setBlks slot blks h) (setρ slot vals ρ) w' := by
  have hval : ∀ id, ¬ (id < slot ∨ slot + blks.length ≤ id) → vals[id - slot]? = some (setρ slot vals ρ id) := by
    intro id hc
    have hi : id - slot < vals.length := by omega
    have := setρ_in (slot := slot) (ρ := ρ) hi
    rw [show slot + (id - slot) = id from by omega] at this
    rw [this, List.getElem?_eq_getElem hi]
  have hcase : ∀ id b, Live (setBlks slot blks h) (setρ slot vals ρ) id b → (Live h ρ id b ∧ (id < slot ∨ slot + blks.length ≤ id)) ∨ ∃ i v, id = slot + i ∧ vals[i]? = some v ∧ blockOf v = some b := by
    intro id b ⟨⟨x, hx, hne⟩, hb⟩
    by_cases hc : id < slot ∨ slot + blks.length ≤ id
    · rw [setBlks_out _ _ _ _ hc] at hx
      rw [setρ_out (by omega)] at hb
      exact .inl ⟨⟨⟨x, hx, hne⟩, hb⟩, hc⟩
    · exact .inr ⟨id - slot, _, by omega, hval id hc, hb⟩
  refine mem_step M hw (fun _ _ hb => hb.elim) ?_ ?_ ?_ ?_
  · intro id x hx hf
    have hc := free_out hd hx hf
    exact ⟨x, by rw [setBlks_out _ _ _ _ hc]; exact hx, .refl hf, fun _ => setρ_out (by omega)⟩
  · intro id b hl
    rcases hcase id b hl with ⟨h1, _⟩ | ⟨i, v, _, hv, hb⟩
    · exact .inl ⟨id, h1⟩
    · exact .inr (hnew i v b hv hb)
  · intro i j b hi hj
    rcases hcase i b hi with ⟨hi, hic⟩ | ⟨i', v, rfl, hv, hb⟩ <;> rcases hcase j b hj with ⟨hj, hjc⟩ | ⟨j', v', rfl, hv', hb'⟩
    · exact M.apart i j b hi hj
    · have := live_lt M hi; have := hnew _ _ _ hv' hb'; omega
    · have := live_lt M hj; have := hnew _ _ _ hv hb; omega
    · rw [hdist _ _ _ _ _ hv hv' hb hb']
  · intro K id x hx
    by_cases hc : id < slot ∨ slot + blks.length ≤ id
    · rw [setBlks_out _ _ _ _ hc] at hx
      exact .inl ⟨hx, setρ_out (by omega), fun _ _ _ h => h⟩
    · have e2 := setBlks_in blks slot h (id - slot) hin (by omega)
      rw [show slot + (id - slot) = id from by omega, hx] at e2
      exact .inr (hrep K (id - slot) x _ e2.symm (hval id hc))

/-- One new block. -/
theorem grow_oneC {x : Blk} {v : Value} (M : Mem w0 Ex Rd h ρ w) (hd : h[slot]? = some .free) (hw : Chg w w' (fun _ => False))
    (hnew : ∀ b, blockOf v = some b → w.heap.size ≤ b)
    (hrep : Keep w (okOf Rd h ρ w) h ρ w' (okOf Rd (h.set slot x) (setρ slot [v] ρ) w') (h.set slot x) (setρ slot [v] ρ) → BRep w' (okOf Rd (h.set slot x) (setρ slot [v] ρ) w') (h.set slot x) (setρ slot [v] ρ) x v) :
    Grown w0 Ex Rd h ρ w (h.set slot x) (setρ slot [v] ρ) w' := by
  have hlt : slot < h.length := (List.getElem?_eq_some_iff.1 hd).1
  have hD : FreeAt h slot [x].length := fun i hi => by
    have : i = 0 := by simp at hi; omega
    subst this; exact hd
  refine grow_mem (blks := [x]) (vals := [v]) M hD hw rfl (by simp; omega) ?_ ?_ ?_
  · intro i v' b hi hb
    match i with
    | 0 => simp at hi; subst hi; exact hnew b hb
    | i + 1 => simp at hi
  · intro i j v1 v2 b h1 h2 _ _
    match i, j with
    | 0, 0 => rfl
    | i + 1, _ => simp at h1
    | 0, j + 1 => simp at h2
  · intro K i x' v' h1 h2
    match i with
    | 0 => simp at h1 h2; subst h1; subst h2; exact hrep K
    | i + 1 => simp at h1
/-- One new block. -/
theorem grow_one {x : Blk} {v : Value} (M : Mem w0 Ex Rd h ρ w) (hd : h[slot]? = some .free) (hw : Ext w w')
    (hnew : ∀ b, blockOf v = some b → w.heap.size ≤ b)
    (hrep : Keep w (okOf Rd h ρ w) h ρ w' (okOf Rd (h.set slot x) (setρ slot [v] ρ) w') (h.set slot x) (setρ slot [v] ρ) → BRep w' (okOf Rd (h.set slot x) (setρ slot [v] ρ) w') (h.set slot x) (setρ slot [v] ρ) x v) :
    Grown w0 Ex Rd h ρ w (h.set slot x) (setρ slot [v] ρ) w' := grow_oneC M hd hw.chg hnew hrep
end
end Go.Rx
/- 'append' and the conversions, as the evaluator wants them. -/
namespace Go.Rx
variable [Tabs]

section
variable {P : Program} {w : World}

/-- What is handed to 'append' behind its list. -/
structure Src (P : Program) (w : World) (size : Nat) (x : Value) (m : Nat) (new : List Value) : Prop where
  len : ∀ w', (Builtin.lenOf x).run P w' = .ok m w'
  cells : (Builtin.firstCells size m x).run P w = .ok new.toArray w
  drew : (Builtin.firstCells size m x).run P w.drew = .ok new.toArray w.drew
  size : new.length = m * size

theorem Src.list {size : Nat} {A : Option Addr} {m c : Nat} {new : List Value} (hl : new.length = m * size)
    (hA : ∀ (j : Nat) v, new[j]? = some v → ∃ b o, A = some ⟨b, o, none⟩ ∧ w.cell? ⟨b, o + j, none⟩ = some v) : Src P w size (.slice A m c) m new := by
  cases A with
  | none =>
    have : new = [] := by
      cases new with
      | nil => rfl
      | cons v new => obtain ⟨b, o, h, _⟩ := hA 0 v (by simp); cases h
    subst this
    exact ⟨fun w' => rfl, rfl, rfl, hl⟩
  | some a =>
    have key : ∀ w', (∀ j v, new[j]? = some v → w'.cell? (a.add j) = w.cell? (a.add j)) → (Builtin.firstCells size m (.slice (some a) m c)).run P w' = .ok new.toArray w' := fun w' hw' =>
      run_firstCells_some (P := P) w' size m a m c new hl fun j v hv => by
        obtain ⟨b, o, h, hc⟩ := hA j v hv
        cases h
        rw [hw' j v hv, addr_add]; exact hc
    exact ⟨fun w' => rfl, key w fun _ _ _ => rfl, key w.drew fun _ _ _ => by simp, hl⟩

theorem Src.string (s : List UInt8) : Src P w 1 (.string ⟨s.toArray⟩) s.length (s.map fun b => .int .u8 b.toNat) := by
  have hs : (⟨s.toArray⟩ : ByteArray).size = s.length := by show s.toArray.size = _; simp
  have key : ∀ w', (Builtin.firstCells 1 s.length (.string ⟨s.toArray⟩)).run P w' = .ok (s.map fun b => Value.int .u8 b.toNat).toArray w' := by
    intro w'
    have he : (⟨s.toArray⟩ : ByteArray).extract 0 s.length = ⟨s.toArray⟩ := by
      have := bytes_extract s 0 s.length (by omega) (by omega)
      simpa using this
    simp only [Builtin.firstCells, he, Sem.run_pure]
    simp
  exact ⟨fun w' => by simp only [Builtin.lenOf, Sem.run_pure, hs], key w, key w.drew, by simp⟩

theorem append_room {sT xT ty e : TypeId} {i : TypeInfo} {d : TypeDesc} (ht : P.underlying sT = some (.slice e)) (hi : P.info? e = some i) (hx : P.underlying xT = some d) (hd : (∃ e', d = .slice e') ∨ d = .string)
    {A : Option Addr} {n cap m : Nat} {x : Value} {new : List Value} (hs : Src P w i.size x m new) (hroom : n + m ≤ cap)
    (hA : A = none ∨ ∃ b o, A = some ⟨b, o, none⟩ ∧ (∀ j, j < new.length → (w.cell? ⟨b, o + n * i.size + j, none⟩).isSome = true) ∧ (∀ j, j < new.length → w.frozen? ⟨b, o + n * i.size + j, none⟩ = false)) (h1 : ∀ v ∈ new, v.oneCell' = true) :
    (Builtin.append_ #[sT, xT] ty #[.slice A n cap, x]).run P w = .ok (.slice A (n + m) cap) (match A with | none => w | some a => w.setCells a.block (a.off + n * i.size) new) := by
  rcases hd with ⟨e', rfl⟩ | rfl <;> rcases hA with rfl | ⟨b, o, rfl, hc, hf⟩
  · simp [Builtin.append_, run_underlying ht, run_underlying hx, sizeOf, typeInfo, hi, hs.len, hroom, hs.cells]
  · have hst := run_storeCells_cells (P := P) b (o + n * i.size) new 0 w (by simpa using hc) (by simpa using hf) h1
    simp only [Nat.add_zero] at hst
    simp [Builtin.append_, run_underlying ht, run_underlying hx, sizeOf, typeInfo, hi, hs.len, hroom, hs.cells, addr_add, hst]
  · simp [Builtin.append_, run_underlying ht, run_underlying hx, sizeOf, typeInfo, hi, hs.len, hroom, hs.cells]
  · have hst := run_storeCells_cells (P := P) b (o + n * i.size) new 0 w (by simpa using hc) (by simpa using hf) h1
    simp only [Nat.add_zero] at hst
    simp [Builtin.append_, run_underlying ht, run_underlying hx, sizeOf, typeInfo, hi, hs.len, hroom, hs.cells, addr_add, hst]

theorem append_grow {sT xT ty e : TypeId} {i : TypeInfo} {z : Value} {d : TypeDesc} (ht : P.underlying sT = some (.slice e)) (hi : P.info? e = some i) (hz : i.zero = some z) (hx : P.underlying xT = some d) (hd : (∃ e', d = .slice e') ∨ d = .string)
    {A : Option Addr} {n cap m : Nat} {x : Value} {new olds : List Value} (hs : Src P w i.size x m new) (hroom : ¬ n + m ≤ cap)
    (ho : Src P w i.size (.slice A n cap) n olds) (hb : (n + m) * i.bytes ≤ 140737488355328) (h63 : n + m ≤ 9223372036854775807) :
    (Builtin.append_ #[sT, xT] ty #[.slice A n cap, x]).run P w = .ok (.slice (some ⟨w.heap.size, 0, none⟩) (n + m) (grownCap w (n + m) cap e))
      (w.drew.alloc (.cells (olds.toArray ++ new.toArray ++ Builtin.zeroCells z.cells (grownCap w (n + m) cap e - (n + m))) e)) := by
  have h48 := growslice_fits (need := n + m) (old := cap) (bytes := i.bytes) (by omega) hb
  have h48' : ¬ (281474976710656 < Builtin.nextslicecap (n + m) cap * i.bytes) := by omega
  have h63' : ¬ (9223372036854775807 < ((n : Int) + (m : Int))) := by omega
  rcases hd with ⟨e', rfl⟩ | rfl <;>
    · simp [Builtin.append_, run_underlying ht, run_underlying hx, sizeOf, typeInfo, zeroValue, hi, hz, hs.len, hroom, h63', h48', Question.forced, ho.drew, hs.drew, newRow, grownCap]
      congr 2
      rw [← Array.append_assoc]
      simp
end
end Go.Rx
/- Operations that read memory or make new blocks. -/
namespace Go.Rx
variable [Tabs]
section
variable {X : Ctx} {w0 w : World} {Ex Rd : Nat → Prop} {h : Heap} {ρ : Nat → Value} {slot : Nat}
variable {ev : Operand → Value} {op : Oper} {v : V}

def HeapGives (X : Ctx) (w0 : World) (Ex Rd : Nat → Prop) (h : Heap) (ρ : Nat → Value) (w : World) (slot : Nat) (ev : Operand → Value) (op : Oper) (r : V × List Blk) : Prop :=
  ∃ u w' ρ', (execOp ev op).run X.P w = .ok (.value u) w' ∧ Grown w0 Ex Rd h ρ w (setBlks slot r.2 h) ρ' w' ∧
    VRep w' (okOf Rd (setBlks slot r.2 h) ρ' w') (setBlks slot r.2 h) ρ' r.1 u

theorem heap_of_quiet (M : Mem w0 Ex Rd h ρ w) {u : Value} (hr : (execOp ev op).run X.P w = .ok (.value u) w) (rv : VRep w (okOf Rd h ρ w) h ρ v u) : HeapGives X w0 Ex Rd h ρ w slot ev op (v, []) :=
  ⟨u, w, ρ, hr, Grown.refl M, rv⟩

theorem zeroVal_cells {τ : Ty} {agg : Bool} (h1 : agg = false → τ.size = 1) : (mkVal agg (zeroVals τ)).cells = (zeroVals τ).toArray := by
  cases agg with
  | true => rfl
  | false =>
    have hl : (zeroVals τ).length = 1 := by
      rw [← h1 rfl]; exact (zero_rep (w := default) (fun _ => True) τ).length
    match hz : zeroVals τ, hl with
    | [v], _ =>
      have hone : v.oneCell' = true := by
        have := zero_rep (w := default) (fun _ => True) τ
        rw [hz] at this
        exact oneCell_of.rep_one this
      show v.cells = _
      rw [cells_one hone]

theorem World.push_new (w : World) (o : Obj) : ({ w with heap := w.heap.push o } : World).heap[w.heap.size]? = some o := by simp

theorem gives_alloc (hX : CtxOk X) (M : Mem w0 Ex Rd h ρ w) (hd : h[slot]? = some .free) {t : TypeId} (ho : op.op = .alloc t) {τ : Ty} (ht : X.ty t = some τ) :
    HeapGives X w0 Ex Rd h ρ w slot ev op (.one (.ptr slot 0), [.vars t (zeroCells τ)]) := by
  obtain ⟨i, hi, hs, hz, h1, d, hu⟩ := hX.info t τ ht
  have hcells := zeroVal_cells (τ := τ) h1
  have hrun : (execOp ev op).run X.P w = .ok (.value (.pointer (some ⟨w.heap.size, 0, none⟩))) { w with heap := w.heap.push (.cells (zeroVals τ).toArray t) } := by
    unfold execOp
    simp [ho, Instr.alloc, zeroValue, typeInfo, hi, hz, newVar, newRow, hcells, newObj, Sem.run]
  have hlt : slot < h.length := by
    rcases Nat.lt_or_ge slot h.length with h1 | h1
    · exact h1
    · rw [List.getElem?_eq_none h1] at hd; cases hd
  have G := grow_one (x := .vars t (zeroCells τ)) (v := .pointer (some ⟨w.heap.size, 0, none⟩)) M hd (Ext.push w (.cells (zeroVals τ).toArray t))
    (fun b hb => by simp [blockOf] at hb; omega)
    (fun _ => ⟨w.heap.size, (zeroVals τ).toArray, rfl, World.push_new w _, by simpa using zeroCells_rep τ⟩)
  refine ⟨_, _, _, hrun, G, ⟨t, zeroCells τ, by simp [setBlks, hlt]⟩, w.heap.size, ?_, rfl⟩
  have := setρ_in (slot := slot) (vals := [Value.pointer (some ⟨w.heap.size, 0, none⟩)]) (ρ := ρ) (i := 0) (by simp)
  simpa using this

theorem gives_box (hX : CtxOk X) (M : Mem w0 Ex Rd h ρ w) (hd : h[slot]? = some .free) {t : TypeId} {x : Operand} (ho : op.op = .box t x) {τ : Ty} (ht : X.ty t = some τ) {a : V} (ra : VRep w (okOf Rd h ρ w) h ρ a (ev x))
    (hl : a.cells.length = τ.size) (hn : 0 < τ.size) :
    HeapGives X w0 Ex Rd h ρ w slot ev op (.one (.ptr slot 0), [.vars t a.cells]) := by
  obtain ⟨vs, hcells, rv⟩ := vcells (slices_of M) ra (by omega)
  have hrun : (execOp ev op).run X.P w = .ok (.value (.pointer (some ⟨w.heap.size, 0, none⟩))) { w with heap := w.heap.push (.cells vs.toArray t) } := by
    unfold execOp
    simp [ho, Instr.box, newVar, newRow, hcells, newObj, Sem.run]
  have hlt : slot < h.length := by
    rcases Nat.lt_or_ge slot h.length with h1 | h1
    · exact h1
    · rw [List.getElem?_eq_none h1] at hd; cases hd
  have G := grow_one (x := .vars t a.cells) (v := .pointer (some ⟨w.heap.size, 0, none⟩)) M hd (Ext.push w (.cells vs.toArray t))
    (fun b hb => by simp [blockOf] at hb; omega)
    (fun K => ⟨w.heap.size, vs.toArray, rfl, World.push_new w _, by simpa using rv.mono fun _ _ r => CRep.keep K r⟩)
  refine ⟨_, _, _, hrun, G, ⟨t, a.cells, by simp [setBlks, hlt]⟩, w.heap.size, ?_, rfl⟩
  have := setρ_in (slot := slot) (vals := [Value.pointer (some ⟨w.heap.size, 0, none⟩)]) (ρ := ρ) (i := 0) (by simp)
  simpa using this

/-- Cells that lie in memory, read. -/
theorem loadAt_sound (hX : CtxOk X) {ok : Nat → Prop} {t : TypeId} {τ : Ty} (ht : X.ty t = some τ) {b o : Nat} {cs : List C} {us : List Value} (hl : cs.length = τ.size) (r : CsRep w ok h ρ cs us)
    (hc : w.rangeAt b o us) : ∃ u, (Instr.loadAt t (.pointer (some ⟨b, o, none⟩))).run X.P w = .ok u w ∧ VRep w ok h ρ (mkV (X.agg t) cs) u := by
  obtain ⟨i, hi, hs, hz, h1, d, hu⟩ := hX.info t τ ht
  have hul : us.length = τ.size := by rw [← r.len, hl]
  cases ha : X.agg t with
  | true =>
    have hlc : (loadCells ⟨b, o, none⟩ us.length).run X.P w = .ok us.toArray w :=
      run_loadCells_list (P := X.P) w ⟨b, o, none⟩ us (fun j v hv => by rw [addr_add]; exact hc j v hv)
    refine ⟨.agg us.toArray, ?_, us, rfl, r⟩
    simp only [Instr.loadAt, Instr.sureAddr, loadVar, Sem.run_bind, Sem.run_pure, Result.andThen_ok, run_isAgg' hu, ha, if_true, run_sizeOf' hi, hs, ← hul, hlc]
  | false =>
    have h1 := h1 ha
    match us, cs, r, hul with
    | [u], [c], .cons rc .nil, _ =>
      refine ⟨u, ?_, rc⟩
      have hcell : w.cell? ⟨b, o, none⟩ = some u := by simpa using hc 0 u (by simp)
      simp only [Instr.loadAt, Instr.sureAddr, loadVar, Sem.run_bind, Sem.run_pure, Result.andThen_ok, run_isAgg' hu, ha, Bool.false_eq_true, if_false]
      simp [load, Sem.run, hcell]
    | [], _, _, hul => simp at hul; omega
    | _ :: _ :: _, _, _, hul => simp at hul; omega

theorem getD_some {h : Heap} {id : Nat} {b : Blk} (e : h.getD id .free = b) (hne : b ≠ .free) : h[id]? = some b := by
  simp only [List.getD] at e
  cases hq : h[id]? with
  | none => rw [hq] at e; exact absurd e.symm hne
  | some b' => rw [hq] at e; simpa using e

theorem rangeAt_take {b o : Nat} {us : List Value} (n : Nat) (hc : w.rangeAt b o us) : w.rangeAt b o (us.take n) := fun j v hv => hc j v (by
  rw [List.getElem?_take] at hv; split at hv <;> simp_all)

theorem loadV_sound (hX : CtxOk X) (M : Mem w0 Ex Rd h ρ w) {t : TypeId} {p : V} {pv : Value} (rp : VRep w (okOf Rd h ρ w) h ρ p pv) (e : loadV X h t p = some v) :
    ∃ u, (Instr.loadAt t pv).run X.P w = .ok u w ∧ VRep w (okOf Rd h ρ w) h ρ v u := by
  unfold loadV at e
  split at e
  · cases e
  · rename_i τ ht
    dsimp only at e
    split at e
    · rename_i id o
      split at e
      · rename_i t' cs hg
        have hg' := getD_some hg (by simp)
        obtain ⟨_, b, hb, rfl⟩ := rp
        obtain ⟨b', vs, hv, hw, rcs⟩ := M.blocks id _ hg'
        rw [hb] at hv
        have : b = b' := by simpa using hv
        subst this
        split at e
        · rename_i hl
          cases e
          refine loadAt_sound hX ht hl ((rcs.drop o).take τ.size) (rangeAt_take _ fun j v hv => ?_)
          simp only [World.cell?, hw]
          rw [List.getElem?_drop] at hv
          simpa using hv
        · cases e
      · cases e
    · rename_i c x
      obtain ⟨b, o, cs, rfl, hok, hr, hj⟩ := rp
      split at e
      · rename_i hl
        cases e
        refine loadAt_sound hX ht hl ((rep_cells hr).take τ.size) (rangeAt_take _ fun j v hv => ?_)
        obtain ⟨hlt, rfl⟩ := List.getElem?_eq_some_iff.1 hv
        exact (hj j hlt).1
      · cases e
    · rename_i id i o
      split at e
      · rename_i e0 c xs hg
        have hg' := getD_some hg (by simp)
        obtain ⟨y, hh, _, _, hc⟩ := rp
        rw [hg'] at hh
        cases hh
        obtain ⟨hi, b, o', len, cap, hρ, rfl⟩ := hc c xs rfl
        obtain ⟨A, cap', hv, hcap, hA⟩ := M.blocks id _ hg'
        rw [hρ] at hv
        cases hv
        rcases hA with ⟨hA, _⟩ | ⟨b2, o2, cells, fr, hA, hw, _, _, hel⟩
        · cases hA
        · cases hA
          obtain ⟨cs, hr, hj⟩ := hel i hi
          have hgd : xs.getD i c.dflt = xs[i] := by simp [List.getD, List.getElem?_eq_getElem hi]
          rw [hgd] at e
          split at e
          · rename_i hl
            cases e
            refine loadAt_sound hX ht hl (((rep_cells hr).drop o).take τ.size) (rangeAt_take _ fun j v hv => ?_)
            rw [List.getElem?_drop] at hv
            obtain ⟨hlt, rfl⟩ := List.getElem?_eq_some_iff.1 hv
            simp only [World.cell?, hw]
            have := hj (o + j) hlt
            rw [show o' + (i * c.size + o) + j = o' + (i * c.size + (o + j)) from by omega]
            simpa using this
          · cases e
      · rename_i e0 c xs hg
        have hg' := getD_some hg (by simp)
        obtain ⟨y, hh, _, _, hc⟩ := rp
        rw [hg'] at hh
        cases hh
        obtain ⟨hi, b, o', len, cap, hρ, rfl⟩ := hc c xs rfl
        obtain ⟨A, cap', hv, hcap, hA⟩ := M.blocks id _ hg'
        rw [hρ] at hv
        cases List.singleton_inj.1 hv
        obtain ⟨b2, o2, cs, hA, _, hr, hj⟩ := hA i hi
        cases hA
        have hgd : xs.getD i c.dflt = xs[i] := by simp [List.getD, List.getElem?_eq_getElem hi]
        rw [hgd] at e
        split at e
        · rename_i hl
          cases e
          refine loadAt_sound hX ht hl (((rep_cells hr).drop o).take τ.size) (rangeAt_take _ fun j v hv => ?_)
          rw [List.getElem?_drop] at hv
          obtain ⟨hlt, rfl⟩ := List.getElem?_eq_some_iff.1 hv
          have := (hj (o + j) hlt).1
          rw [show o' + (i * c.size + o) + j = o' + (i * c.size + (o + j)) from by omega]
          exact this
        · cases e
      · cases e
    · cases e

theorem gives_load (hX : CtxOk X) (M : Mem w0 Ex Rd h ρ w) {t : TypeId} {x : Operand} (ho : op.op = .load t x) {p : V} (rp : VRep w (okOf Rd h ρ w) h ρ p (ev x)) (e : loadV X h t p = some v) :
    HeapGives X w0 Ex Rd h ρ w slot ev op (v, []) := by
  obtain ⟨u, hr, rv⟩ := loadV_sound hX M rp e
  refine heap_of_quiet M ?_ rv
  unfold execOp
  simp only [ho, Sem.run_bind, hr, Result.andThen_ok, Sem.run_pure]

/-- The facts on an own list. -/
theorem arr_of (M : Mem w0 Ex Rd h ρ w) {id : Nat} {e : TypeId} {c : Ty} {xs : List c.den} (hg : h[id]? = some (.arr e c xs)) : ∃ A cap, ρ id = .slice A xs.length cap ∧ xs.length ≤ cap ∧
      ((A = none ∧ cap = 0) ∨ ∃ b o cells fr, A = some ⟨b, o, none⟩ ∧ w.heap[b]? = some (.cells cells e fr) ∧ o + cap * c.size ≤ cells.size ∧
        (∀ k, k < cells.size → ¬ (fr.1 ≤ k ∧ k < fr.2)) ∧
        ∀ i (hi : i < xs.length), ∃ cs, Rep w (okOf Rd h ρ w) c xs[i] cs ∧ ∀ j (hj : j < cs.length), cells[o + (i * c.size + j)]? = some cs[j]) := M.blocks id _ hg

theorem gives_indexAddr_own (hX : CtxOk X) (M : Mem w0 Ex Rd h ρ w) {t : TypeId} {x y : Operand} (ho : op.op = .indexAddr t x y) {id : Nat} {b : V} (ra : VRep w (okOf Rd h ρ w) h ρ (.one (.own id)) (ev x)) (rb : VRep w (okOf Rd h ρ w) h ρ b (ev y))
    {r : V × List Blk} (e : (heapOp X (.indexAddr t x y) [.one (.own id), b] h slot).eval = some r) : HeapGives X w0 Ex Rd h ρ w slot ev op r := by
  simp only [heapOp] at e
  split at e
  · rename_i e0 c xs k i hg hi
    have hg' := getD_some hg (by simp)
    split at e
    · rename_i hel
      obtain ⟨hel, hty⟩ := hel
      obtain ⟨y0, hy0, _, _, hx⟩ := ra
      rw [hg'] at hy0
      cases hy0
      have hx := hx (by simp)
      have hy := asInt_rep hi rb
      obtain ⟨A, cap, hv, hcap, hA⟩ := arr_of M hg'
      obtain ⟨ti, hinfo, hsz, _⟩ := hX.info e0 c hty
      rw [Tr.eval_ite] at e
      split at e
      · rename_i hb
        cases e
        simp only [Bool.and_eq_true, decide_eq_true_eq] at hb
        obtain ⟨h0, hlt⟩ := hb
        have hlt' : i.toNat < xs.length := by omega
        rcases hA with ⟨_, rfl⟩ | ⟨bl, o, cells, fr, rfl, hw, _, _, _⟩
        · omega
        · refine heap_of_quiet (u := .pointer (some ⟨bl, o + i.toNat * c.size, none⟩)) M ?_ ⟨_, hg', rfl, ⟨_, _, rfl⟩, fun c1 xs1 h1 => by cases h1; exact ⟨hlt', bl, o, _, _, hv, by simp⟩⟩
          unfold execOp
          simp [ho, hx, hv, hy, Instr.indexAt, asIntOf, run_underlying (elem_of hel), h0, hlt, run_sizeOf' hinfo, hsz, addr_add]
      · cases e
    · cases e
  · cases e
end
end Go.Rx
namespace Go.Rx
variable [Tabs]
section
variable {X : Ctx} {w0 w : World} {Ex Rd : Nat → Prop} {h : Heap} {ρ : Nat → Value} {slot : Nat}
variable {ev : Operand → Value} {op : Oper} {v : V}

def okA (w : World) (k : Nat) : Prop := k < w.heap.size

theorem castTy_eq {τ τ' : Ty} {x : τ.den} {y : τ'.den} (e : castTy x = some y) : ∃ h : τ = τ', h ▸ x = y := by
  unfold castTy at e
  split at e
  · rename_i h; exact ⟨h, Option.some.inj e⟩
  · cases e

/-- A list that is only read. -/
theorem ro_of (M : Mem w0 Ex Rd h ρ w) {id : Nat} {e : TypeId} {c : Ty} {xs : List c.den} (hg : h[id]? = some (.ro e c xs)) : Rep w (okOf Rd h ρ w) (.sl c) xs [ρ id] := M.blocks id _ hg

/-- A cell read as a value: lists of our own are not read. -/
theorem cellTo_ro (M : Mem w0 Ex Rd h ρ w) {τ : Ty} {c : C} {x : τ.den} {u : Value} (e : cellTo false h τ c = some x) (r : CRep w (okOf Rd h ρ w) h ρ c u) : Rep w (okOf Rd h ρ w) τ x [u] := by
  cases c with
  | val τ' x' =>
    obtain ⟨rfl, rfl⟩ := castTy_eq e
    exact r
  | nils =>
    cases τ with
    | sl c =>
      simp only [cellTo, Option.some.injEq] at e
      subst e; cases r
      exact ⟨none, 0, rfl, Nat.le_refl _, fun i hi => absurd hi (Nat.not_lt_zero i)⟩
    | _ => simp [cellTo] at e
  | own id =>
    simp only [cellTo] at e
    split at e
    · simp at e
    · rename_i e0 c xs hg
      obtain ⟨rfl, rfl⟩ := castTy_eq e
      have hg' := getD_some hg (by simp)
      obtain ⟨y, hy, _, _, hv⟩ := r
      rw [hg'] at hy
      cases hy
      rw [hv (by simp)]
      exact ro_of M hg'
    · cases e
  | dead =>
    cases τ with
    | any => exact ⟨_, rfl, r⟩
    | _ => simp [cellTo] at e
  | _ => simp [cellTo] at e

/-- A cell read as a value: own lists are read where they lie. -/
theorem cellTo_rep (M : Mem w0 Ex Rd h ρ w) {o : Bool} {τ : Ty} {c : C} {x : τ.den} {u : Value} (e : cellTo o h τ c = some x) (r : CRep w (okOf Rd h ρ w) h ρ c u) : Rep w (okA w) τ x [u] := by
  cases c with
  | own id =>
    simp only [cellTo] at e
    split at e
    · rename_i e0 c xs hg
      split at e
      · rename_i ho
        simp only [Bool.and_eq_true] at ho
        obtain ⟨rfl, rfl⟩ := castTy_eq e
        have hg' := getD_some hg (by simp)
        obtain ⟨y, hy, _, _, hv⟩ := r
        rw [hg'] at hy
        cases hy
        rw [hv (by simp)]
        refine BRep.tree (w := w) (w' := w) (ok := okOf Rd h ρ w) (h := h) (ρ := ρ) (e := e0) (fun k hk => ⟨hk.1, .refl _ _⟩) (fun k hk => ⟨live_lt M ⟨⟨_, hg', rfl⟩, hk⟩, rfl⟩) ho.2 (fun k hk => ⟨M.live_N ⟨⟨_, hg', rfl⟩, hk⟩, M.live_noS ⟨⟨_, hg', rfl⟩, hk⟩⟩) (M.blocks id _ hg')
      · cases e
    · rename_i e0 c xs hg
      obtain ⟨rfl, rfl⟩ := castTy_eq e
      have hg' := getD_some hg (by simp)
      obtain ⟨y, hy, _, _, hv⟩ := r
      rw [hg'] at hy
      cases hy
      rw [hv (by simp)]
      exact Rep.mono (fun k hk => ⟨hk.1, rfl⟩) (ro_of M hg')
    · cases e
  | val τ' x' =>
    have e' : cellTo false h τ (.val τ' x') = some x := e
    exact Rep.mono (fun k hk => ⟨hk.1, rfl⟩) (cellTo_ro M e' r)
  | nils =>
    have e' : cellTo false h τ .nils = some x := e
    exact Rep.mono (fun k hk => ⟨hk.1, rfl⟩) (cellTo_ro M e' r)
  | dead =>
    cases τ with
    | any => exact ⟨_, rfl, r⟩
    | _ => simp [cellTo] at e
  | _ => simp [cellTo] at e

theorem ofCells_all {o : Bool} {hh : Heap} {ok' : Nat → Prop} {R : C → Value → Prop} (hc : ∀ {τ : Ty} {c : C} {x : τ.den} {u : Value}, cellTo o hh τ c = some x → R c u → Rep w ok' τ x [u]) :
    ∀ {c : Ty} {cs : List C} {x : c.den} {rest : List C} {us : List Value}, ofCells o hh c cs = some (x, rest) → All2 R cs us →
    ∃ l r, us = l ++ r ∧ Rep w ok' c x l ∧ All2 R rest r
  | .pair a b, cs, x, rest, us, e, r => by
    simp only [ofCells] at e
    split at e
    · rename_i x1 cs1 h1
      split at e
      · rename_i x2 cs2 h2
        cases e
        obtain ⟨l1, r1, rfl, hr1, t1⟩ := ofCells_all hc h1 r
        obtain ⟨l2, r2, rfl, hr2, t2⟩ := ofCells_all hc h2 t1
        exact ⟨l1 ++ l2, r2, by simp, ⟨l1, l2, rfl, hr1, hr2⟩, t2⟩
      · cases e
    · cases e
  | .unit, cs, x, rest, us, e, r => by
    cases e
    exact ⟨[], us, rfl, rfl, r⟩
  | .int k, [], _, _, _, e, _ => by simp [ofCells] at e
  | .bool, [], _, _, _, e, _ => by simp [ofCells] at e
  | .str, [], _, _, _, e, _ => by simp [ofCells] at e
  | .sl _, [], _, _, _, e, _ => by simp [ofCells] at e
  | .old _, [], _, _, _, e, _ => by simp [ofCells] at e
  | .any, [], _, _, _, e, _ => by simp [ofCells] at e
  | .int k, c :: cs, _, _, _, e, .cons rc t => by
    simp only [ofCells] at e
    split at e
    · rename_i y hy; cases e; exact ⟨[_], _, rfl, hc hy rc, t⟩
    · cases e
  | .bool, c :: cs, _, _, _, e, .cons rc t => by
    simp only [ofCells] at e
    split at e
    · rename_i y hy; cases e; exact ⟨[_], _, rfl, hc hy rc, t⟩
    · cases e
  | .str, c :: cs, _, _, _, e, .cons rc t => by
    simp only [ofCells] at e
    split at e
    · rename_i y hy; cases e; exact ⟨[_], _, rfl, hc hy rc, t⟩
    · cases e
  | .sl _, c :: cs, _, _, _, e, .cons rc t => by
    simp only [ofCells] at e
    split at e
    · rename_i y hy; cases e; exact ⟨[_], _, rfl, hc hy rc, t⟩
    · cases e
  | .old _, c :: cs, _, _, _, e, .cons rc t => by
    simp only [ofCells] at e
    split at e
    · rename_i y hy; cases e; exact ⟨[_], _, rfl, hc hy rc, t⟩
    · cases e
  | .any, c :: cs, _, _, _, e, .cons rc t => by
    simp only [ofCells] at e
    split at e
    · cases e; exact ⟨[_], _, rfl, hc (τ := .any) (c := .dead) rfl rc, t⟩
    · cases e

theorem ofCells_gen {o : Bool} {hh : Heap} {ok ok' : Nat → Prop} (hc : ∀ {τ : Ty} {c : C} {x : τ.den} {u : Value}, cellTo o hh τ c = some x → CRep w ok h ρ c u → Rep w ok' τ x [u])
    {c : Ty} {cs : List C} {x : c.den} {rest : List C} {us : List Value} (e : ofCells o hh c cs = some (x, rest)) (r : CsRep w ok h ρ cs us) :
    ∃ l r, us = l ++ r ∧ Rep w ok' c x l ∧ CsRep w ok h ρ rest r := ofCells_all hc e r

/-- The elements of a list lie one behind the other. -/
def Elems (w : World) (ok : Nat → Prop) (c : Ty) (A : Option Addr) (xs : List c.den) : Prop := ∀ i (hi : i < xs.length), ∃ b o cs, A = some ⟨b, o, none⟩ ∧ Rep w ok c xs[i] cs ∧
  ∀ j (hj : j < cs.length), w.cell? ⟨b, o + (i * c.size + j), none⟩ = some cs[j]

/-- These cells are the elements' ones. -/
structure Flat (w : World) (ok : Nat → Prop) (c : Ty) (xs : List c.den) (new : List Value) : Prop where
  len : new.length = xs.length * c.size
  one : ∀ v ∈ new, v.oneCell' = true
  rep : ∀ i (hi : i < xs.length), ∃ cs, Rep w ok c xs[i] cs ∧ cs.length = c.size ∧ ∀ j (hj : j < cs.length), new[i * c.size + j]? = some cs[j]

theorem rep_all {w : World} {ok : Nat → Prop} : ∀ {c : Ty} {x : c.den} {vs : List Value}, Rep w ok c x vs → ∀ v ∈ vs, v.oneCell' = true
  | .int _, _, _, r, v, hv => by cases r; simp at hv; subst hv; rfl
  | .bool, _, _, r, v, hv => by cases r; simp at hv; subst hv; rfl
  | .str, _, _, r, v, hv => by cases r; simp at hv; subst hv; rfl
  | .unit, _, _, r, v, hv => by cases r; simp at hv
  | .pair _ _, _, _, ⟨l, r, e, hl, hr⟩, v, hv => by
    subst e
    rcases List.mem_append.1 hv with hv | hv
    · exact rep_all hl v hv
    · exact rep_all hr v hv
  | .sl _, _, _, ⟨_, _, e, _⟩, v, hv => by subst e; simp at hv; subst hv; rfl
  | .old _, _, _, ⟨_, _, e, _⟩, v, hv => by subst e; simp at hv; subst hv; rfl
  | .any, _, _, ⟨_, e, h1⟩, v, hv => by subst e; simp at hv; subst hv; exact h1

theorem Flat.nil {ok : Nat → Prop} {c : Ty} : Flat w ok c [] [] := ⟨by simp, by simp, fun i hi => absurd hi (Nat.not_lt_zero i)⟩

theorem Flat.snoc {ok : Nat → Prop} {c : Ty} {xs : List c.den} {new : List Value} {x : c.den} {cs : List Value} (f : Flat w ok c xs new) (r : Rep w ok c x cs) : Flat w ok c (xs ++ [x]) (new ++ cs) := by
  have hcl := r.length
  refine ⟨by rw [List.length_append, f.len, hcl, List.length_append, Nat.add_mul]; simp, fun v hv => ?_, fun i hi => ?_⟩
  · rcases List.mem_append.1 hv with hv | hv
    · exact f.one v hv
    · exact rep_all r v hv
  · rw [List.length_append, List.length_singleton] at hi
    rcases Nat.lt_or_ge i xs.length with hlt | hge
    · obtain ⟨cs', hr', hl', hj'⟩ := f.rep i hlt
      refine ⟨cs', by rw [List.getElem_append_left hlt]; exact hr', hl', fun j hj => ?_⟩
      have := hj' j hj
      rw [List.getElem?_append_left (by obtain ⟨hlt2, _⟩ := List.getElem?_eq_some_iff.1 this; exact hlt2)]
      exact this
    · have : i = xs.length := by omega
      subst this
      refine ⟨cs, by simpa using r, hcl, fun j hj => ?_⟩
      rw [List.getElem?_append_right (by rw [f.len]; omega), f.len, show xs.length * c.size + j - xs.length * c.size = j from by omega]
      exact List.getElem?_eq_getElem hj

theorem Flat.append {ok : Nat → Prop} {c : Ty} {xs ys : List c.den} {a b : List Value} (f : Flat w ok c xs a) (g : Flat w ok c ys b) : Flat w ok c (xs ++ ys) (a ++ b) := by
  refine ⟨by rw [List.length_append, List.length_append, f.len, g.len, Nat.add_mul], fun v hv => ?_, fun i hi => ?_⟩
  · rcases List.mem_append.1 hv with hv | hv
    · exact f.one v hv
    · exact g.one v hv
  · rw [List.length_append] at hi
    rcases Nat.lt_or_ge i xs.length with hlt | hge
    · obtain ⟨cs', hr', hl', hj'⟩ := f.rep i hlt
      refine ⟨cs', by rw [List.getElem_append_left hlt]; exact hr', hl', fun j hj => ?_⟩
      have := hj' j hj
      rw [List.getElem?_append_left (by obtain ⟨hlt2, _⟩ := List.getElem?_eq_some_iff.1 this; exact hlt2)]
      exact this
    · obtain ⟨cs', hr', hl', hj'⟩ := g.rep (i - xs.length) (by omega)
      refine ⟨cs', by rw [List.getElem_append_right hge]; exact hr', hl', fun j hj => ?_⟩
      have := hj' j hj
      have hm : xs.length * c.size ≤ i * c.size := Nat.mul_le_mul_right _ hge
      rw [List.getElem?_append_right (by rw [f.len]; omega), f.len, show i * c.size + j - xs.length * c.size = (i - xs.length) * c.size + j from by rw [Nat.sub_mul]; omega]
      exact this

/-- The cells of a list's elements, one behind the other. -/
theorem Elems.flat {ok : Nat → Prop} {c : Ty} {A : Option Addr} {xs : List c.den} (hel : Elems w ok c A xs) :
    ∃ new : List Value, Flat w ok c xs new ∧ ∀ (j : Nat) v, new[j]? = some v → ∃ b o, A = some ⟨b, o, none⟩ ∧ w.cell? ⟨b, o + j, none⟩ = some v := by
  have key : ∀ n, n ≤ xs.length → ∃ new : List Value, Flat w ok c (xs.take n) new ∧ ∀ (j : Nat) v, new[j]? = some v → ∃ b o, A = some ⟨b, o, none⟩ ∧ w.cell? ⟨b, o + j, none⟩ = some v := by
    intro n
    induction n with
    | zero => intro _; exact ⟨[], by simpa using Flat.nil, by simp⟩
    | succ n ih =>
      intro hn
      obtain ⟨new, f, hc⟩ := ih (by omega)
      obtain ⟨b, o, cs, hA, hr, hj⟩ := hel n (by omega)
      refine ⟨new ++ cs, ?_, ?_⟩
      · rw [List.take_succ_eq_append_getElem (by omega)]; exact f.snoc hr
      · intro j v hv
        have hl : new.length = n * c.size := by rw [f.len, List.length_take, Nat.min_eq_left (by omega)]
        rcases Nat.lt_or_ge j new.length with hlt | hge
        · rw [List.getElem?_append_left hlt] at hv; exact hc j v hv
        · rw [List.getElem?_append_right hge] at hv
          obtain ⟨hlt, rfl⟩ := List.getElem?_eq_some_iff.1 hv
          refine ⟨b, o, hA, ?_⟩
          have := hj (j - new.length) hlt
          rw [show o + j = o + (n * c.size + (j - new.length)) from by omega]
          exact this
  obtain ⟨new, f, hc⟩ := key _ (Nat.le_refl _)
  rw [List.take_length] at f
  exact ⟨new, f, hc⟩

theorem elems_of_rep {ok : Nat → Prop} {c : Ty} {xs : List c.den} {u : Value} (r : Rep w ok (.sl c) xs [u]) : ∃ A cap, u = .slice A xs.length cap ∧ xs.length ≤ cap ∧ Elems w ok c A xs := by
  obtain ⟨A, cap, hu, hcap, hel⟩ := r
  exact ⟨A, cap, List.singleton_inj.1 hu, hcap, fun i hi => let ⟨b, o, cs, hA, _, hr, hj⟩ := hel i hi; ⟨b, o, cs, hA, hr, fun j hj' => (hj j hj').1⟩⟩

theorem elems_of_arr (M : Mem w0 Ex Rd h ρ w) {id : Nat} {e : TypeId} {c : Ty} {xs : List c.den} (hg : h[id]? = some (.arr e c xs)) :
    ∃ A cap, ρ id = .slice A xs.length cap ∧ xs.length ≤ cap ∧ Elems w (okOf Rd h ρ w) c A xs := by
  obtain ⟨A, cap, hv, hcap, hA⟩ := arr_of M hg
  refine ⟨A, cap, hv, hcap, fun i hi => ?_⟩
  rcases hA with ⟨rfl, rfl⟩ | ⟨b, o, cells, fr, rfl, hw, _, _, hel⟩
  · omega
  · obtain ⟨cs, r, hj⟩ := hel i hi
    refine ⟨b, o, cs, rfl, r, fun j hj' => ?_⟩
    simp only [World.cell?, hw]
    simpa using hj j hj'

theorem src_of_elems {P : Program} {ok : Nat → Prop} {c : Ty} {A : Option Addr} {xs : List c.den} {cap : Nat} (hel : Elems w ok c A xs) : ∃ new, Src P w c.size (.slice A xs.length cap) xs.length new ∧ Flat w ok c xs new := by
  obtain ⟨new, f, hc⟩ := hel.flat
  exact ⟨new, Src.list f.len hc, f⟩

theorem flat_str {ok : Nat → Prop} (s : List UInt8) : Flat w ok (.int .u8) (s.map fun b => (b.toNat : Int)) (s.map fun b => Value.int .u8 b.toNat) := by
  refine ⟨by simp [Ty.size], by simp only [List.mem_map]; rintro v ⟨b, _, rfl⟩; rfl, fun i hi => ?_⟩
  have hi' : i < s.length := by simpa using hi
  refine ⟨[.int .u8 (s[i].toNat : Int)], ?_, rfl, fun j hj => ?_⟩
  · show [Value.int .u8 (s[i].toNat : Int)] = [Value.int .u8 (s.map fun b => (b.toNat : Int))[i]]
    simp
  · have hj0 : j = 0 := by simp at hj; omega
    subst hj0
    simp [Ty.size, hi']

theorem listOf_src {P : Program} (M : Mem w0 Ex Rd h ρ w) {c : Ty} {x : V} {ys : List c.den} {u : Value} (e : listOf h c x = some ys) (r : VRep w (okOf Rd h ρ w) h ρ x u) :
    ∃ new, Src P w c.size u ys.length new ∧ Flat w (okOf Rd h ρ w) c ys new := by
  unfold listOf at e
  split at e
  · rename_i s
    split at e
    · rename_i hc
      subst hc
      cases List.singleton_inj.1 r
      simp only [Option.some.injEq] at e
      subst e
      refine ⟨_, ?_, flat_str s⟩
      have := Src.string (P := P) (w := w) s
      rw [List.length_map]
      exact this
    · cases e
  · rename_i y _
    cases y with
    | val τ' x' =>
      obtain ⟨hτ, hx⟩ := castTy_eq e
      subst hτ
      have hx : x' = ys := hx
      subst hx
      obtain ⟨A, cap, rfl, _, hel⟩ := elems_of_rep r
      exact src_of_elems hel
    | nils =>
      simp only [cellTo, Option.some.injEq] at e
      subst e; cases r
      exact ⟨[], Src.list (by simp) (by simp), Flat.nil⟩
    | own id =>
      simp only [cellTo] at e
      split at e
      · rename_i e0 c' xs hg
        split at e
        · obtain ⟨hτ, hx⟩ := castTy_eq e
          cases hτ
          have hx : xs = ys := hx
          subst hx
          have hg' := getD_some hg (by simp)
          obtain ⟨y, hy, _, _, hv⟩ := r
          rw [hg'] at hy
          cases hy
          rw [hv (by simp)]
          obtain ⟨A, cap, hv, _, hel⟩ := elems_of_arr M hg'
          rw [hv]
          exact src_of_elems hel
        · cases e
      · rename_i e0 c' xs hg
        obtain ⟨hτ, hx⟩ := castTy_eq e
        cases hτ
        have hx : xs = ys := hx
        subst hx
        have hg' := getD_some hg (by simp)
        obtain ⟨y, hy, _, _, hv⟩ := r
        rw [hg'] at hy
        cases hy
        rw [hv (by simp)]
        obtain ⟨A, cap, hv, _, hel⟩ := elems_of_rep (ro_of M hg')
        rw [hv]
        exact src_of_elems hel
      · cases e
    | _ => simp [cellTo] at e
  · cases e
end
end Go.Rx
namespace Go.Rx
variable [Tabs]
section
variable {X : Ctx} {w0 w : World} {Ex Rd : Nat → Prop} {h : Heap} {ρ : Nat → Value} {slot : Nat}
variable {ev : Operand → Value} {op : Oper} {v : V}

/-- A new list of one's own. -/
theorem grown_arr (M : Mem w0 Ex Rd h ρ w) (hd : h[slot]? = some .free) {w' : World} (hw : Ext w w') {e : TypeId} {c : Ty} {xs : List c.den} {cells : Array Value} {fr : Nat × Nat} {cap : Nat} {new : List Value}
    (hb : w'.heap[w.heap.size]? = some (.cells cells e fr)) (hsz : cap * c.size ≤ cells.size) (hfr : ∀ k, k < cells.size → ¬ (fr.1 ≤ k ∧ k < fr.2)) (hxs : xs.length ≤ cap)
    (f : Flat w (okOf Rd h ρ w) c xs new) (hnew : ∀ (j : Nat) v, new[j]? = some v → cells[j]? = some v) {u : Value} (hu : u = .slice (some ⟨w.heap.size, 0, none⟩) xs.length cap) (hrun : (execOp ev op).run X.P w = .ok (.value u) w') :
    HeapGives X w0 Ex Rd h ρ w slot ev op (.one (.own slot), [.arr e c xs]) := by
  have hlt : slot < h.length := by
    rcases Nat.lt_or_ge slot h.length with h1 | h1
    · exact h1
    · rw [List.getElem?_eq_none h1] at hd; cases hd
  subst hu
  have G := grow_one (x := .arr e c xs) (v := .slice (some ⟨w.heap.size, 0, none⟩) xs.length cap) M hd hw
    (fun b hb => by simp [blockOf] at hb; omega)
    (fun K => ⟨_, cap, rfl, hxs, .inr ⟨w.heap.size, 0, cells, fr, rfl, hb, by simpa using hsz, hfr, fun i hi => by
      obtain ⟨cs, r, hl, hj⟩ := f.rep i hi
      exact ⟨cs, Rep.monoS K.mem r, fun j hj' => by simpa using hnew _ _ (hj j hj')⟩⟩⟩)
  refine ⟨_, _, _, hrun, G, ⟨_, List.getElem?_set_self hlt, rfl, rfl, fun _ => ?_⟩⟩
  have := setρ_in (slot := slot) (vals := [Value.slice (some ⟨w.heap.size, 0, none⟩) xs.length cap]) (ρ := ρ) (i := 0) (by simp)
  simpa using this.symm

/-- A new list without an array. -/
theorem grown_nil (M : Mem w0 Ex Rd h ρ w) (hd : h[slot]? = some .free) {w' : World} (hw : Ext w w') {e : TypeId} {c : Ty} {u : Value} (hu : u = .slice none 0 0) (hrun : (execOp ev op).run X.P w = .ok (.value u) w') :
    HeapGives X w0 Ex Rd h ρ w slot ev op (.one (.own slot), [.arr e c []]) := by
  have hlt : slot < h.length := by
    rcases Nat.lt_or_ge slot h.length with h1 | h1
    · exact h1
    · rw [List.getElem?_eq_none h1] at hd; cases hd
  subst hu
  have G := grow_one (x := .arr e c []) (v := .slice none 0 0) M hd hw
    (fun b hb => by simp [blockOf] at hb)
    (fun K => ⟨none, 0, rfl, Nat.le_refl _, .inl ⟨rfl, rfl⟩⟩)
  refine ⟨_, _, _, hrun, G, ⟨_, List.getElem?_set_self hlt, rfl, rfl, fun _ => ?_⟩⟩
  have := setρ_in (slot := slot) (vals := [Value.slice none 0 0]) (ρ := ρ) (i := 0) (by simp)
  simpa using this.symm

theorem srcOk_of {t : TypeId} (hs : X.srcOk t = true) : ∃ d, X.P.underlying t = some d ∧ ((∃ e', d = .slice e') ∨ d = .string) := by
  unfold Ctx.srcOk at hs
  split at hs
  · rename_i e' hu; exact ⟨_, hu, .inl ⟨e', rfl⟩⟩
  · rename_i hu; exact ⟨_, hu, .inr rfl⟩
  · cases hs

theorem Ext.alloc (w : World) (o : Obj) : Ext w (w.alloc o) := ⟨rfl, rfl, rfl, by simp, fun k hk => Go.RowKit.Below.heap_alloc w o k hk⟩
theorem Ext.drew1 (w : World) : Ext w w.drew := ⟨rfl, rfl, rfl, Nat.le_refl _, fun _ _ => rfl⟩

theorem alloc_new (w : World) (o : Obj) : (w.alloc o).heap[w.heap.size]? = some o := heap_alloc_new w o

theorem bytes_eq {t : TypeId} {i : TypeInfo} (hi : X.P.info? t = some i) : X.bytes t = i.bytes := by simp [Ctx.bytes, Program.bytesOf, hi]

theorem gives_appendNil (hX : CtxOk X) (M : Mem w0 Ex Rd h ρ w) (hd : h[slot]? = some .free) {c : Call} {s x : Operand} (ho : op.op = .call c) (hc : c.callee = .builtin .append) (hargs : c.args.toList = [s, x]) {tS tX : TypeId}
    (hat : c.argTypes.toList = [tS, tX]) (hs : ev s = .slice none 0 0) {a : V} (ra : VRep w (okOf Rd h ρ w) h ρ a (ev x)) {r : V × List Blk}
    (e : (heapOp X (.call c) [.one .nils, a] h slot).eval = some r) : HeapGives X w0 Ex Rd h ρ w slot ev op r := by
  simp only [heapOp, hc, hat] at e
  split at e
  · rename_i e0 he
    split at e
    · rename_i τ hτ
      split at e
      · cases e
      · rename_i hok
        have hok : X.srcOk tX = true := by simpa using hok
        obtain ⟨d, hdx, hdk⟩ := srcOk_of hok
        split at e
        · cases e
        rename_i hsm
        have hsm : X.small e0 = true := by simpa using hsm
        rw [Tr.eval_bind, Tr.eval_of] at e
        obtain ⟨ys, hys, e⟩ := Option.bind_eq_some_iff.1 e
        rw [Tr.eval_ite] at e
        split at e
        · rename_i hb
          cases e
          have hb : ys.length ≤ lenBound := by simpa using hb
          unfold lenBound at hb
          obtain ⟨i, hi, hsz, hz, h1, dd, hdd⟩ := hX.info e0 τ hτ
          have hby : i.bytes ≤ 16384 := by
            rw [← bytes_eq hi]; simpa [Ctx.small] using hsm
          obtain ⟨new, src, f⟩ := listOf_src (P := X.P) M hys ra
          have hargs' : c.args = #[s, x] := by rw [← hargs]
          have hat' : c.argTypes = #[tS, tX] := by rw [← hat]
          have hexec : ∀ {u w'}, (Builtin.append_ #[tS, tX] op.type #[.slice none 0 0, ev x]).run X.P w = .ok u w' → (execOp ev op).run X.P w = .ok (.value u) w' := by
            intro u w' hr
            unfold execOp
            simp [ho, resolve, hc, hargs', hat', invoke, builtin, hs, hr]
          rw [← hsz] at src
          by_cases hm : ys.length = 0
          · have hys0 : ys = [] := List.eq_nil_of_length_eq_zero hm
            subst hys0
            have hr := append_room (ty := op.type) (elem_of he) hi hdx hdk src (A := none) (n := 0) (cap := 0) (by simp) (.inl rfl) (fun v hv => f.one v hv)
            exact grown_nil M hd (Ext.refl w) rfl (hexec hr)
          · have hmul : ys.length * i.bytes ≤ 4294967296 * 16384 := Nat.mul_le_mul hb hby
            have hr := append_grow (ty := op.type) (elem_of he) hi hz hdx hdk src (A := none) (n := 0) (cap := 0) (olds := []) (by omega) (Src.list (by simp) (by simp)) (by rw [Nat.zero_add]; omega) (by omega)
            simp only [Nat.zero_add] at hr
            have hg := hexec hr
            have hge := grownCap_ge w ys.length 0 e0
            refine grown_arr (cap := grownCap w ys.length 0 e0) M hd ((Ext.drew1 w).trans (Ext.alloc _ _)) (alloc_new w.drew _) ?_ (fun k _ => by simp) hge f ?_ rfl hg
            · simp only [Array.size_append, List.size_toArray, size_zeroCells, zeroVal_cells h1]
              have hzl : (zeroVals τ).length = τ.size := (zero_rep (w := w) (fun _ => True) τ).length
              rw [hzl, f.len]
              simp only [List.length_nil, Nat.zero_add]
              rw [← Nat.add_mul]
              exact Nat.mul_le_mul_right _ (by omega)
            · intro j v hv
              have hlt : j < new.length := (List.getElem?_eq_some_iff.1 hv).1
              rw [Array.getElem?_append_left (by simpa using hlt)]
              simpa using hv
        · cases e
    · cases e
  · cases e

theorem isU8_of {t : TypeId} (hu : X.isU8 t = true) : X.P.underlying t = some (.int .u8) := by
  unfold Ctx.isU8 at hu
  split at hu
  · assumption
  · cases hu

theorem foldl_push (xs : List Int) : ∀ (s : List UInt8), xs.foldl (fun (r : ByteArray) n => r.push (UInt8.ofNat n.toNat)) ⟨s.toArray⟩ = ⟨(s ++ xs.map fun n => UInt8.ofNat n.toNat).toArray⟩ := by
  induction xs with
  | nil => intro s; simp
  | cons x xs ih =>
    intro s
    rw [List.foldl_cons]
    have : (⟨s.toArray⟩ : ByteArray).push (UInt8.ofNat x.toNat) = ⟨(s ++ [UInt8.ofNat x.toNat]).toArray⟩ := by
      show (⟨s.toArray.push (UInt8.ofNat x.toNat)⟩ : ByteArray) = _
      simp
    rw [this, ih]
    simp

theorem gives_convert (hX : CtxOk X) (M : Mem w0 Ex Rd h ρ w) {src dst : TypeId} {x : Operand} (ho : op.op = .convert src dst x) {a : V} (ra : VRep w (okOf Rd h ρ w) h ρ a (ev x)) {r : V × List Blk} (hd : 0 < r.2.length → h[slot]? = some .free)
    (e : (heapOp X (.convert src dst x) [a] h slot).eval = some r) : HeapGives X w0 Ex Rd h ρ w slot ev op r := by
  have hexec : ∀ {u w'}, (convert src dst (ev x)).run X.P w = .ok u w' → (execOp ev op).run X.P w = .ok (.value u) w' := by
    intro u w' hr
    unfold execOp
    simp only [ho, Sem.run_bind, hr, Result.andThen_ok, Sem.run_pure]
  simp only [heapOp] at e
  split at e
  · rename_i d k k' n hs hdst
    cases e
    have hx : ev x = .int k' n := List.singleton_inj.1 ra
    refine heap_of_quiet (u := .int k (k.wrap n)) M (hexec ?_) (rep_int _ _)
    cases d <;> simp [convert, run_underlying hs, run_underlying hdst, hx, Conv.intToInt]
  · rename_i d s hs hdst
    cases e
    have hx : ev x = .string ⟨(s : List UInt8).toArray⟩ := List.singleton_inj.1 ra
    refine heap_of_quiet (u := .string ⟨(s : List UInt8).toArray⟩) M (hexec ?_) (rep_str _)
    cases d <;> simp [convert, run_underlying hs, run_underlying hdst, hx]
  · rename_i d e0 s hs hdst
    split at e
    · rename_i hu
      have hu8 := isU8_of hu
      cases e
      have hx : ev x = .string ⟨(s : List UInt8).toArray⟩ := List.singleton_inj.1 ra
      have hr := Lib.run_convert_string_bytes w src dst e0 ⟨(s : List UInt8).toArray⟩ hs hdst hu8
      rw [← hx] at hr
      have hsz : (⟨(s : List UInt8).toArray⟩ : ByteArray).size = (s : List UInt8).length := by show (s : List UInt8).toArray.size = _; simp
      have hge := grownCap_ge w (s : List UInt8).length 0 e0
      have hcs : (Lib.bytesCells w e0 ⟨(s : List UInt8).toArray⟩).size = grownCap w (s : List UInt8).length 0 e0 := by
        simp only [Lib.bytesCells, Array.size_append, Array.size_map, Array.size_replicate, hsz]
        have : (s : List UInt8).toArray.size = (s : List UInt8).length := by simp
        omega
      refine grown_arr (cap := grownCap w (s : List UInt8).length 0 e0) M (hd (by simp)) ?_ (Lib.bytesWorld_at_new w e0 _) ?_ (fun k hk => by dsimp only; omega) (by simpa using hge) (flat_str s) ?_ ?_ (hexec hr)
      · refine ⟨?_, ?_, ?_, by rw [Lib.bytesWorld_size]; omega, fun k hk => Lib.bytesWorld_at_old w e0 _ k hk⟩ <;> (simp [Lib.bytesWorld, World.freeze]; try rfl)
      · simp only [Ty.size, Nat.mul_one, hcs, Nat.le_refl]
      · intro j v hv
        have hlt : j < (s : List UInt8).length := by have := (List.getElem?_eq_some_iff.1 hv).1; simpa using this
        simp only [Lib.bytesCells]
        rw [Array.getElem?_append_left (by simpa using hlt)]
        simpa using hv
      · rw [hsz]; simp
    · cases e
  · rename_i e0 y hs hdst
    split at e
    · rename_i hu
      have hu8 := isU8_of hu
      rw [Tr.eval_bind, Tr.eval_of] at e
      obtain ⟨xs, hxs, e⟩ := Option.bind_eq_some_iff.1 e
      cases e
      have hrep := cellTo_rep M hxs ra
      obtain ⟨A, cap, hx, hcap, hel⟩ := elems_of_rep hrep
      obtain ⟨new, f, hc⟩ := hel.flat
      refine heap_of_quiet (u := .string ⟨((xs : List Int).map fun n => UInt8.ofNat n.toNat).toArray⟩) M (hexec ?_) (rep_str _)
      have hnew : new = (xs : List Int).map (Value.int .u8) := by
        apply List.ext_getElem?
        intro j
        rcases Nat.lt_or_ge j (xs : List Int).length with hlt | hge
        · obtain ⟨cs, hr, hl, hj⟩ := f.rep j hlt
          cases hr
          have := hj 0 (by simp)
          simp only [Ty.size, Nat.mul_one, Nat.add_zero] at this
          rw [this]
          simp [hlt]
        · rw [List.getElem?_eq_none (by have := f.len; simp only [Ty.size, Nat.mul_one] at this; have h2 : new.length = (xs : List Int).length := this; omega), List.getElem?_eq_none (by simpa using hge)]
      cases A with
      | none =>
        have hx0 : (xs : List Int) = [] := by
          cases hxx : (xs : List Int) with
          | nil => rfl
          | cons z zs =>
            have : 0 < (xs : List Int).length := by rw [hxx]; simp
            obtain ⟨b, o, cs, hA, _⟩ := hel 0 this
            cases hA
        rw [hx0]
        have : ev x = .slice none 0 cap := by rw [hx]; congr 1; show (xs : List Int).length = 0; rw [hx0]; rfl
        simp [convert, run_underlying hs, run_underlying hdst, run_underlying hu8, this, Conv.bytesToString]
        rfl
      | some a =>
        have hlc : (loadCells a (xs : List Int).length).run X.P w = .ok ((xs : List Int).map (Value.int .u8)).toArray w := by
          have := run_loadCells_list (P := X.P) w a new (fun j v hv => by
            obtain ⟨b, o, hA, hcell⟩ := hc j v hv
            cases hA
            rw [addr_add]; exact hcell)
          rw [hnew] at this
          simpa using this
        have hr := run_bytesToString (P := X.P) w a (xs : List Int).length cap xs hlc
        have hf := foldl_push xs []
        simp only [List.nil_append] at hf
        have hx' : ev x = .slice (some a) (xs : List Int).length cap := hx
        simp only [convert, Sem.run_bind, run_underlying hs, run_underlying hdst, Result.andThen_ok, hx', run_underlying hu8]
        rw [hr]
        exact congrArg (fun z => Result.ok (Value.string z) w) hf
    · cases e
  · cases e
end
end Go.Rx
namespace Go.Rx
variable [Tabs]
section
variable {X : Ctx} {w0 w : World} {Ex Rd : Nat → Prop} {h : Heap} {ρ : Nat → Value} {slot : Nat}
variable {ev : Operand → Value} {op : Oper} {v : V}

theorem wrap_small {l : Int} (h0 : 0 ≤ l) (h1 : l ≤ 4294967296) : IntKind.i64.wrap l = l := by
  show (if (true && decide ((l % (18446744073709551616 : Int)) ≥ (9223372036854775808 : Int))) = true then l % (18446744073709551616 : Int) - (18446744073709551616 : Int) else l % (18446744073709551616 : Int)) = l
  have : l % (18446744073709551616 : Int) = l := Int.emod_eq_of_lt h0 (by omega)
  rw [this]
  have h2 : ¬ (l ≥ (9223372036854775808 : Int)) := by omega
  simp [h2]

theorem run_asInt (P : Program) (w : World) (k : IntKind) (n : Int) : (Go.asInt (.int k n)).run P w = .ok n w := by simp [Go.asInt, asIntOf]

def zerosOf (τ : Ty) (n : Nat) : List Value := (List.range (n * τ.size)).map fun (j : Nat) => (zeroVals τ).toArray[j % (zeroVals τ).toArray.size]!

theorem zerosOf_flat (ok : Nat → Prop) (τ : Ty) (n : Nat) : Flat w ok τ (List.replicate n τ.dflt) (zerosOf τ n) := by
  have hzl : (zeroVals τ).length = τ.size := (zero_rep (w := w) (fun _ => True) τ).length
  refine ⟨by simp [zerosOf], ?_, fun i hi => ⟨zeroVals τ, by simpa using zero_rep ok τ, hzl, fun j hj => ?_⟩⟩
  · intro v hv
    simp only [zerosOf, List.mem_map, List.mem_range] at hv
    obtain ⟨j, hj, rfl⟩ := hv
    have hs : 0 < τ.size := by
      rcases Nat.eq_zero_or_pos τ.size with h0 | h0
      · rw [h0] at hj; omega
      · exact h0
    have hlt : j % (zeroVals τ).toArray.size < (zeroVals τ).toArray.size := by
      simp only [List.size_toArray, hzl]; exact Nat.mod_lt _ hs
    rw [getElem!_pos (zeroVals τ).toArray _ hlt]
    exact rep_all (zero_rep (w := w) ok τ) _ (by simp)
  · have hi' : i < n := by simpa using hi
    have hj' : j < τ.size := by omega
    have hlt : i * τ.size + j < n * τ.size := by
      have : (i + 1) * τ.size ≤ n * τ.size := Nat.mul_le_mul_right _ hi'
      rw [Nat.add_mul] at this; omega
    have hm : (i * τ.size + j) % (zeroVals τ).toArray.size = j := by
      simp only [List.size_toArray, hzl]
      rw [Nat.mul_comm, Nat.mul_add_mod, Nat.mod_eq_of_lt hj']
    simp only [zerosOf, List.getElem?_map, List.getElem?_range hlt, Option.map_some, hm]
    rw [getElem!_pos (zeroVals τ).toArray _ (by simpa using hj)]
    simp

theorem gives_makeSlice (hX : CtxOk X) (M : Mem w0 Ex Rd h ρ w) (hd : h[slot]? = some .free) {t : TypeId} {x y : Operand} (ho : op.op = .makeSlice t x y) {a b : V} (ra : VRep w (okOf Rd h ρ w) h ρ a (ev x)) (rb : VRep w (okOf Rd h ρ w) h ρ b (ev y))
    {r : V × List Blk} (e : (heapOp X (.makeSlice t x y) [a, b] h slot).eval = some r) : HeapGives X w0 Ex Rd h ρ w slot ev op r := by
  simp only [heapOp] at e
  split at e
  · rename_i e0 k l k' c he hl hc
    split at e
    · cases e
    · rename_i hsm
      have hsm : X.small e0 = true := by simpa using hsm
      split at e
      · rename_i τ hτ
        rw [Tr.eval_ite] at e
        split at e
        · rename_i hb
          cases e
          simp only [Bool.and_eq_true, decide_eq_true_eq, beq_iff_eq] at hb
          obtain ⟨h0, rfl, hb⟩ := hb
          unfold lenBound at hb
          obtain ⟨i, hi, hsz, hz, h1, dd, hdd⟩ := hX.info e0 τ hτ
          have hby : i.bytes ≤ 16384 := by
            rw [← bytes_eq hi]; simpa [Ctx.small] using hsm
          have hx := asInt_rep hl ra
          have hy := asInt_rep hc rb
          have hw := wrap_small h0 (by omega)
          have hnl : ¬ ((i.bytes : Int) * l > 2 ^ 48) := by
            have : (i.bytes : Int) * l ≤ 16384 * 4294967296 := Int.mul_le_mul (by omega) (by omega) h0 (by omega)
            omega
          have hnl' : ¬ (281474976710656 < (i.bytes : Int) * l) := by omega
          have hzc := zeroVal_cells (τ := τ) h1
          have hrun : (Instr.makeSlice t (ev x) (ev y)).run X.P w = .ok (.slice (some ⟨w.heap.size, 0, none⟩) l.toNat l.toNat) { w with heap := w.heap.push (.cells (zerosOf τ l.toNat).toArray e0) } := by
            have hcells : ((Array.range (l.toNat * i.size)).map fun (j : Nat) => (zeroVals τ).toArray[j % (zeroVals τ).toArray.size]!) = (zerosOf τ l.toNat).toArray := by
              rw [hsz]
              apply Array.ext'
              simp [zerosOf]
            have hneg : ¬ (l < 0) := by omega
            by_cases hn0 : l.toNat * i.size = 0
            · have hz0 : (zerosOf τ l.toNat) = [] := by simp [zerosOf, ← hsz, hn0]
              simp [Instr.makeSlice, run_underlying (elem_of he), hx, hy, run_asInt, typeInfo, hi, hw, hneg, hnl', run_askRoom, run_sizeOf' hi, hn0, newRow, newObj, Sem.run, hz0]
              congr 2
              apply Array.ext
              · simp [hn0]
              · intro j h1 h2; simp at h2
            · simp [Instr.makeSlice, run_underlying (elem_of he), hx, hy, run_asInt, typeInfo, hi, hw, hneg, hnl', run_askRoom, run_sizeOf' hi, hn0, zeroValue, hz, hzc, newRow, newObj, Sem.run]
              congr 2
              apply Array.ext
              · simp [zerosOf, hsz]
              · intro j h1 h2; simp [zerosOf]
          have hexec : (execOp ev op).run X.P w = .ok (.value (.slice (some ⟨w.heap.size, 0, none⟩) l.toNat l.toNat)) { w with heap := w.heap.push (.cells (zerosOf τ l.toNat).toArray e0) } := by
            unfold execOp
            simp only [ho, Sem.run_bind, hrun, Result.andThen_ok, Sem.run_pure]
          have f := zerosOf_flat (w := w) (okOf Rd h ρ w) τ l.toNat
          refine grown_arr (cap := l.toNat) M hd (Ext.push w _) (World.push_new w _) ?_ (fun k _ => by simp) (by simp) f (fun j v hv => by simpa using hv) (by simp) hexec
          have := f.len
          simp only [List.size_toArray]
          rw [this]; simp
        · cases e
      · cases e
  · cases e
end
end Go.Rx
namespace Go.Rx
variable [Tabs]
section
variable {X : Ctx} {w0 w : World} {Ex Rd : Nat → Prop} {h : Heap} {ρ : Nat → Value} {slot : Nat}
variable {ev : Operand → Value} {op : Oper} {v : V}

theorem elemsOf_flat (M : Mem w0 Ex Rd h ρ w) {τ : Ty} : ∀ {n : Nat} {cs : List C} {xs : List τ.den} {us : List Value}, elemsOf h τ n cs = some xs → CsRep w (okOf Rd h ρ w) h ρ cs us → xs.length = n ∧ Flat w (okOf Rd h ρ w) τ xs us
  | 0, [], xs, _, e, .nil => by simp only [elemsOf, Option.some.injEq] at e; subst e; exact ⟨rfl, Flat.nil⟩
  | 0, _ :: _, _, _, e, _ => by simp [elemsOf] at e
  | n + 1, cs, xs, us, e, r => by
    simp only [elemsOf] at e
    split at e
    · rename_i x cs' h1
      split at e
      · rename_i xs' h2
        cases e
        obtain ⟨l, r', rfl, hr, t⟩ := ofCells_gen (hh := h) (ok' := okOf Rd h ρ w) (fun e r => cellTo_ro M e r) h1 r
        obtain ⟨hl, f⟩ := elemsOf_flat M h2 t
        refine ⟨by simp [hl], ?_⟩
        have := (Flat.snoc (xs := []) Flat.nil hr).append f
        simpa using this
      · cases e
    · cases e

theorem zerosOf_eq (τ : Ty) : ∀ n, zerosOf τ n = (List.replicate n (zeroVals τ)).flatten := by
  intro n
  have hzl : (zeroVals τ).length = τ.size := (zero_rep (w := default) (fun _ => True) τ).length
  apply List.ext_getElem?
  intro k
  have f := zerosOf_flat (w := default) (fun _ => True) τ n
  rcases Nat.eq_zero_or_pos τ.size with h0 | h0
  · have : zeroVals τ = [] := List.eq_nil_of_length_eq_zero (by omega)
    simp [zerosOf, h0, this]
  · rcases Nat.lt_or_ge k (n * τ.size) with hk | hk
    · have hi : k / τ.size < n := Nat.div_lt_of_lt_mul (by rw [Nat.mul_comm]; exact hk)
      have hm := Nat.mod_lt k h0
      obtain ⟨cs, hr, hl, hj⟩ := f.rep (k / τ.size) (by simpa using hi)
      have h1 := hj (k % τ.size) (by omega)
      rw [show k / τ.size * τ.size + k % τ.size = k from by rw [Nat.mul_comm]; exact Nat.div_add_mod k τ.size] at h1
      simp only [zerosOf] at h1 ⊢
      rw [List.getElem?_map, List.getElem?_range hk]
      have hms : k % (zeroVals τ).toArray.size = k % τ.size := by simp [hzl]
      simp only [Option.map_some, hms]
      rw [getElem!_pos (zeroVals τ).toArray _ (by simpa [hzl] using hm)]
      have key : ∀ (n k : Nat), k < n * τ.size → (List.replicate n (zeroVals τ)).flatten[k]? = (zeroVals τ)[k % τ.size]? := by
        intro n
        induction n with
        | zero => intro k hk; omega
        | succ n ih =>
          intro k hk
          rw [List.replicate_succ, List.flatten_cons]
          rcases Nat.lt_or_ge k τ.size with hlt | hge
          · rw [List.getElem?_append_left (by omega), Nat.mod_eq_of_lt hlt]
          · rw [List.getElem?_append_right (by omega), hzl, ih (k - τ.size) (by rw [Nat.add_mul] at hk; omega), ← Nat.mod_eq_sub_mod hge]
      rw [key n k hk, List.getElem?_eq_getElem (by rw [hzl]; exact hm)]
      simp
    · rw [List.getElem?_eq_none (by simp [zerosOf]; exact hk), List.getElem?_eq_none (by simp [hzl]; exact hk)]

theorem replicate_rep {ok : Nat → Prop} (τ : Ty) : ∀ n, CsRep w ok h ρ (List.replicate n (zeroCells τ)).flatten (List.replicate n (zeroVals τ)).flatten
  | 0 => by simpa using All2.nil
  | n + 1 => by
    rw [List.replicate_succ, List.replicate_succ, List.flatten_cons, List.flatten_cons]
    exact (zeroCells_rep τ).append (replicate_rep τ n)

theorem gives_buildSlice (hX : CtxOk X) (M : Mem w0 Ex Rd h ρ w) (hd : h[slot]? = some .free) {t : TypeId} {n : Nat} {parts : Array (Nat × Operand)} (ho : op.op = .buildSlice t n parts) {vs : List V}
    (ra : All2 (VRep w (okOf Rd h ρ w) h ρ) vs ((parts.toList.map (·.2)).map ev)) {r : V × List Blk} (e : (heapOp X (.buildSlice t n parts) vs h slot).eval = some r) : HeapGives X w0 Ex Rd h ρ w slot ev op r := by
  have e : (buildList X t n (parts.toList.map (·.1)) vs h slot).eval = some r := by
    cases vs with
    | nil => exact e
    | cons v1 vs => cases vs with
      | nil => exact e
      | cons v2 vs => exact e
  unfold buildList at e
  split at e
  · rename_i e0 he
    split at e
    · rename_i τ hτ
      split at e
      · rename_i hb
        rw [Tr.eval_bind, Tr.eval_of] at e
        obtain ⟨cs, hcs, e⟩ := Option.bind_eq_some_iff.1 e
        rw [Tr.eval_bind, Tr.eval_of] at e
        obtain ⟨xs, hxs, e⟩ := Option.bind_eq_some_iff.1 e
        cases e
        obtain ⟨i, hi, hsz, hz, h1, dd, hdd⟩ := hX.info e0 τ hτ
        have hzc := zeroVal_cells (τ := τ) h1
        obtain ⟨us', hfill, rr, hus⟩ := fill_sound (X := X) (slices_of M) (us := (zerosOf τ n).toArray) hcs (all2_zip ra) (by rw [zerosOf_eq]; simpa using replicate_rep τ n)
        obtain ⟨hlen, f⟩ := elemsOf_flat M hxs rr
        have hcells : ((Array.range (n * i.size)).map fun (j : Nat) => (zeroVals τ).toArray[j % (zeroVals τ).toArray.size]!) = (zerosOf τ n).toArray := by
          rw [hsz]
          apply Array.ext'
          simp [zerosOf]
        have hexec : (execOp ev op).run X.P w = .ok (.value (.slice (some ⟨w.heap.size, 0, none⟩) n n)) { w with heap := w.heap.push (.cells us' e0) } := by
          have hb' : ¬ (n * i.size > 2 ^ 24) := by rw [hsz]; omega
          have hrun : (Instr.buildSlice t n (parts.map fun (i, x) => (i, ev x))).run X.P w = .ok (.slice (some ⟨w.heap.size, 0, none⟩) n n) { w with heap := w.heap.push (.cells us' e0) } := by
            unfold Instr.buildSlice
            simp only [Sem.run_bind, run_underlying (elem_of he), Result.andThen_ok, run_sizeOf' hi, if_neg hb', Sem.run_pure]
            by_cases hn0 : n * i.size = 0
            · have hz0 : (zerosOf τ n) = [] := by simp [zerosOf, ← hsz, hn0]
              have hc0 : ((Array.range (n * i.size)).map fun (j : Nat) => (#[] : Array Value)[j % (#[] : Array Value).size]!) = (zerosOf τ n).toArray := by
                rw [hn0, hz0]; apply Array.ext'; simp
              rw [hn0] at hc0
              simp only [hn0, if_true, Sem.run_bind, Sem.run_pure, Result.andThen_ok]
              rw [hc0, parts_eq]
              rw [← hsz] at hfill
              simp only [hfill, Sem.run_bind, newRow, newObj, Sem.run, Result.andThen_ok, Sem.run_pure]
            · simp only [if_neg hn0, Sem.run_bind, zeroValue, typeInfo, run_program, Result.andThen_ok, hi, hz, Sem.run_pure, hzc, hcells]
              rw [parts_eq]
              rw [← hsz] at hfill
              simp only [hfill, Sem.run_bind, newRow, newObj, Sem.run, Result.andThen_ok, Sem.run_pure]
          unfold execOp
          simp only [ho, Sem.run_bind, hrun, Result.andThen_ok, Sem.run_pure]
        refine grown_arr (cap := n) M hd (Ext.push w _) (World.push_new w _) ?_ (fun k _ => by simp) (by omega) f (fun j v hv => by simpa using hv) (by rw [hlen]) hexec
        have := f.len
        rw [hlen] at this
        simp only [Array.length_toList] at this
        omega
      · cases e
    · cases e
  · cases e

/-- How long a list or a text is. -/
theorem lenV_sound (M : Mem w0 Ex Rd h ρ w) {t ty : TypeId} {a : V} {u : Value} {n : Int} (ra : VRep w (okOf Rd h ρ w) h ρ a u) (e : lenV X t a h = some n) : (Builtin.len_ #[t] ty #[u]).run X.P w = .ok (.int .i64 n) w := by
  unfold lenV at e
  split at e
  · rename_i s hu
    cases e
    cases List.singleton_inj.1 ra
    have hsz : (⟨(s : List UInt8).toArray⟩ : ByteArray).size = (s : List UInt8).length := by show (s : List UInt8).toArray.size = _; simp
    simp [Builtin.len_, run_underlying hu, hsz, goInt]
  · rename_i e' c xs hu
    cases e
    obtain ⟨A, cap, hx, _, _⟩ := ra
    cases List.singleton_inj.1 hx
    simp [Builtin.len_, run_underlying hu, goInt]
  · rename_i e' c xs hu
    cases e
    obtain ⟨A, cap, hx, _, _⟩ := ra
    cases List.singleton_inj.1 hx
    simp [Builtin.len_, run_underlying hu, goInt]
  · rename_i e' hu
    cases e
    cases ra
    simp [Builtin.len_, run_underlying hu, goInt]
  · rename_i e' id hu
    split at e
    · rename_i e0 c xs hg
      cases e
      have hg' := getD_some hg (by simp)
      obtain ⟨y, hy, _, _, hu'⟩ := ra
      rw [hg'] at hy
      cases hy
      have hu' := hu' (by simp)
      subst hu'
      obtain ⟨A, cap, hv, _, _⟩ := arr_of M hg'
      simp [Builtin.len_, run_underlying hu, hv, goInt]
    · cases e
  · cases e

theorem exec_builtin {c : Call} {b : Builtin} (ho : op.op = .call c) (hc : c.callee = .builtin b) {w' : World} {n : Next}
    (hr : (builtin b c.argTypes op.type (c.args.map fun | .const _ => true | _ => false) (c.args.map ev)).run X.P w = .ok n w') : (execOp ev op).run X.P w = .ok n w' := by
  unfold execOp
  simp only [ho, resolve, hc, Sem.run_bind, Sem.run_pure, Result.andThen_ok, invoke]
  exact hr

theorem gives_len (M : Mem w0 Ex Rd h ρ w) {c : Call} (ho : op.op = .call c) (hc : c.callee = .builtin .len) {vs : List V}
    (ra : All2 (VRep w (okOf Rd h ρ w) h ρ) vs (c.args.toList.map ev)) {r : V × List Blk} (e : (heapOp X (.call c) vs h slot).eval = some r) : HeapGives X w0 Ex Rd h ρ w slot ev op r := by
  simp only [heapOp, hc] at e
  split at e
  · rename_i v t hat
    rw [Tr.eval_bind, Tr.eval_of] at e
    obtain ⟨n, hn, e⟩ := Option.bind_eq_some_iff.1 e
    cases e
    match hargs : c.args.toList, ra with
    | [x], .cons rv .nil =>
      have hargs' : c.args = #[x] := by rw [← hargs]
      have hat' : c.argTypes = #[t] := by rw [← hat]
      refine heap_of_quiet (u := .int .i64 n) M (exec_builtin ho hc ?_) (rep_int _ _)
      have := lenV_sound (ty := op.type) M rv hn
      simp only [builtin, hat', hargs', Sem.run_bind]
      simp [this]
  · cases e

theorem gives_minmax (M : Mem w0 Ex Rd h ρ w) {c : Call} (ho : op.op = .call c) (hc : c.callee = .builtin .min ∨ c.callee = .builtin .max) {vs : List V}
    (ra : All2 (VRep w (okOf Rd h ρ w) h ρ) vs (c.args.toList.map ev)) {r : V × List Blk} (e : (heapOp X (.call c) vs h slot).eval = some r) : HeapGives X w0 Ex Rd h ρ w slot ev op r := by
  rcases hc with hc | hc
  · simp only [heapOp, hc] at e
    split at e
    · rename_i k x k' y
      match hargs : c.args.toList, ra with
      | [a, b], .cons rx (.cons ry .nil) =>
        have hargs' : c.args = #[a, b] := by rw [← hargs]
        split at e
        · cases e
          have hx : ev a = .int k x := List.singleton_inj.1 rx
          have hy : ev b = .int k' y := List.singleton_inj.1 ry
          refine heap_of_quiet (u := .int k (if y < x then y else x)) M (exec_builtin ho hc ?_) (rep_int _ _)
          simp [builtin, hargs', hx, hy, Builtin.min_, Builtin.min2]
        · cases e
    · rename_i x y
      match hargs : c.args.toList, ra with
      | [a, b], .cons rx (.cons ry .nil) =>
        have hargs' : c.args = #[a, b] := by rw [← hargs]
        cases e
        have hx : ev a = .string ⟨(x : List UInt8).toArray⟩ := List.singleton_inj.1 rx
        have hy : ev b = .string ⟨(y : List UInt8).toArray⟩ := List.singleton_inj.1 ry
        refine heap_of_quiet (u := .string ⟨((if Op.bytesLess x y || (x : List UInt8) == y then x else y : List UInt8)).toArray⟩) M (exec_builtin ho hc ?_) (rep_str _)
        simp [builtin, hargs', hx, hy, Builtin.min_, Builtin.min2, Op.stringOp, toList_mk, Go.asBool]
        split <;> rfl
    · cases e
  · simp only [heapOp, hc] at e
    split at e
    · rename_i k x k' y
      match hargs : c.args.toList, ra with
      | [a, b], .cons rx (.cons ry .nil) =>
        have hargs' : c.args = #[a, b] := by rw [← hargs]
        split at e
        · cases e
          have hx : ev a = .int k x := List.singleton_inj.1 rx
          have hy : ev b = .int k' y := List.singleton_inj.1 ry
          refine heap_of_quiet (u := .int k (if y > x then y else x)) M (exec_builtin ho hc ?_) (rep_int _ _)
          simp [builtin, hargs', hx, hy, Builtin.max_, Builtin.max2]
        · cases e
    · rename_i x y
      match hargs : c.args.toList, ra with
      | [a, b], .cons rx (.cons ry .nil) =>
        have hargs' : c.args = #[a, b] := by rw [← hargs]
        cases e
        have hx : ev a = .string ⟨(x : List UInt8).toArray⟩ := List.singleton_inj.1 rx
        have hy : ev b = .string ⟨(y : List UInt8).toArray⟩ := List.singleton_inj.1 ry
        refine heap_of_quiet (u := .string ⟨((if !Op.bytesLess x y then x else y : List UInt8)).toArray⟩) M (exec_builtin ho hc ?_) (rep_str _)
        simp [builtin, hargs', hx, hy, Builtin.max_, Builtin.max2, Op.stringOp, toList_mk, Go.asBool]
        split <;> rfl
    · cases e
end
end Go.Rx
