/- The abstract values, heaps and the symbolic evaluator: no statement of the claim is proved here; definitions only. What the abstract machine's values and heap say of a world: the relation, and that it abides. How the relation passes over new blocks and over stores. How the model's own operations on cells run. Types; loads and stores of values. The operations that make no block: each does what the evaluator says. Addresses, stores, new variables, aggregates. Stores; new variables. Literals of structs, arrays and slices; parts of values; arithmetic. -/
import Derived.RangeFuncLeaves
import Derived.OrdersIn
import Derived.Below
set_option linter.unusedSimpArgs false
set_option linter.unusedVariables false

section
namespace Go.Aw
open Go

/-- Pure data: what can be seen of memory that is never written again. Aggregates are flattened, as the model's are. -/
inductive D where
  | bool (b : Bool)
  | int (k : IntKind) (n : Int)
  | str (s : ByteArray)
  | sl (l : List D)
  | agg (l : List D)
  | nilp
  | nilf
  | nilm
  deriving Inhabited

/-- Values of the abstract machine. `slx`: a slice whose capacity is its length (nil, not nil, not known). `ptr`: into a block of the abstract heap.
`pp`: into memory that is never written again. `ref`, `ep`: a slice over, and a pointer into, a row of the abstract heap that had n elements. `csl`: a slice over all cells of a block. -/
inductive V where
  | und
  | d (x : D)
  | slx (nl : Option Bool) (l : List D)
  | ptr (id off : Nat)
  | pp (cs : List D)
  | ref (id n lo len : Nat)
  | ep (id n i off : Nat)
  | csl (id es len : Nat)
  | obj (id : Nat)
  | fn (f : Fn) (first captured : List V)
  | agg (cs : List V)
  | tup (vs : List V)
  deriving Inhabited

/-- Maps, and what ranges over a map that had so many entries. -/
inductive AObj where
  | map (es : List (D × D))
  | iter (mid n : Nat) (seen : List Nat)
  | sit (s : ByteArray) (pos : Nat)
  deriving Inhabited

def AObj.kind : AObj → Bool
  | .map _ => true
  | .iter _ _ _ => false
  | .sit _ _ => false

/-- Blocks of the abstract heap: a variable's cells; a row of elements of so many cells. -/
inductive Blk where
  | cells (cs : List V)
  | arr (sz : Nat) (nl : Bool) (els : List D)
  | loop (st : LoopState) (pend : Option Code) (E : List (Nat × V)) (ps : Array Tmp × Nat) (a b : Code)
  | obj (o : AObj)
  deriving Inhabited

abbrev Env := List (Nat × V)
abbrev Heap := List Blk

/-- What the evaluator knows of a type. -/
inductive Ty where
  | no
  | sc (z : D)
  | st (n : Nat) (fs : List (Nat × Nat × Nat)) (z : List D) (cmp : Bool)
  | ar (len es : Nat) (el : Nat) (z : List D) (cmp : Bool)
  | sl (es : Nat) (z : D)
  | mp (key z : D)
  deriving Inhabited

inductive Ex where
  | normal
  | exit (id : Nat)
  | ret

def Env.look (e : Env) (k : Nat) : V :=
  match e with
  | [] => .und
  | (j, v) :: r => if j = k then v else Env.look r k

def dcells : D → List D
  | .agg l => l
  | x => [x]

/-- A constant of the text. -/
def cvd : Value → Option D
  | .bool b => some (.bool b)
  | .int k n => some (.int k n)
  | .string s => some (.str s)
  | .pointer none => some .nilp
  | .nilFunc => some .nilf
  | .map none => some .nilm
  | .slice none 0 0 => some (.sl [])
  | _ => none

def cvds : List Value → Option (List D)
  | [] => some []
  | v :: r => match cvd v, cvds r with
    | some x, some l => some (x :: l)
    | _, _ => none

def cv : Value → V
  | .slice none 0 0 => .slx (some true) []
  | .agg cs => match cvds cs.toList with
    | some l => .d (.agg l)
    | none => .und
  | v => match cvd v with
    | some x => .d x
    | none => .und

def ge (e : Env) : Operand → V
  | .tmp t => e.look t
  | .const v => cv v
  | .func f => .fn (.func f) [] []
  | .global _ => .und

def put (e : Env) (dst : Option Tmp) (v : V) : Env :=
  match dst with
  | some d => (d, v) :: e
  | none => e

def toD : V → Option D
  | .d x => some x
  | .slx _ l => some (.sl l)
  | _ => none

def toDs : List V → Option (List D)
  | [] => some []
  | v :: r => match toD v, toDs r with
    | some x, some l => some (x :: l)
    | _, _ => none

/-- Is it one cell, and one that may lie in memory? -/
def V.one : V → Bool
  | .und | .agg _ | .tup _ | .d (.agg _) => false
  | _ => true

def vcells : V → Option (List V)
  | .d (.agg l) => some (l.map .d)
  | .agg l => some l
  | .und | .tup _ => none
  | x => some [x]

def norm (l : List V) : V :=
  match toDs l with
  | some ds => .d (.agg ds)
  | none => .agg l

def splice {α : Type} (cs : List α) (off : Nat) (vs : List α) : List α := cs.take off ++ vs ++ cs.drop (off + vs.length)

def idx? {α : Type} (l : List α) (n : Int) : Option α := if 0 ≤ n then l[n.toNat]? else none

def Br (b : Bool) (A B : Unit → Prop) : Prop :=
  match b with
  | true => A ()
  | false => B ()

theorem Br_true (A B : Unit → Prop) : Br true A B = A () := rfl
theorem Br_false (A B : Unit → Prop) : Br false A B = B () := rfl

/-- `some`: go on; `none`: stop. -/
def Som {α : Type} (o : Option α) (K : α → Prop) : Prop :=
  match o with
  | some x => K x
  | none => False

theorem Som_some {α : Type} (x : α) (K : α → Prop) : Som (some x) K = K x := rfl

def aeqs : List D → List D → Option Bool
  | [], [] => some true
  | .int k a :: r, .int k' b :: s => if k = k' then (aeqs r s).map fun t => (a == b && t) else none
  | .bool a :: r, .bool b :: s => (aeqs r s).map fun t => (a == b && t)
  | .str a :: r, .str b :: s => (aeqs r s).map fun t => (a == b && t)
  | _, _ => none

/-- Data of the same kinds. -/
def like : List D → List D → Bool
  | [], [] => true
  | .int k _ :: r, .int k' _ :: s => decide (k = k') && like r s
  | .bool _ :: r, .bool _ :: s => like r s
  | .str _ :: r, .str _ :: s => like r s
  | _, _ => false

def abin (ty : Ty) (op : BinOp) : D → D → Option D
  | .int k a, .int k' b =>
    match op with
    | .add => if k = k' then some (.int k (k.wrap (a + b))) else none
    | .sub => if k = k' then some (.int k (k.wrap (a - b))) else none
    | .mul => if k = k' then some (.int k (k.wrap (a * b))) else none
    | .quo => if k = k' then (if b = 0 then none else some (.int k (k.wrap (a.tdiv b)))) else none
    | .rem => if k = k' then (if b = 0 then none else some (.int k (a.tmod b))) else none
    | .lss => if k = k' then some (.bool (decide (a < b))) else none
    | .leq => if k = k' then some (.bool (decide (a ≤ b))) else none
    | .gtr => if k = k' then some (.bool (decide (a > b))) else none
    | .geq => if k = k' then some (.bool (decide (a ≥ b))) else none
    | .eql => if k = k' then some (.bool (a == b)) else none
    | .neq => if k = k' then some (.bool (a != b)) else none
    | .and => if k = k' then some (.int k (k.wrap (BitVec.ofInt k.bits a &&& BitVec.ofInt k.bits b).toNat)) else none
    | .or => if k = k' then some (.int k (k.wrap (BitVec.ofInt k.bits a ||| BitVec.ofInt k.bits b).toNat)) else none
    | .xor => if k = k' then some (.int k (k.wrap (BitVec.ofInt k.bits a ^^^ BitVec.ofInt k.bits b).toNat)) else none
    | .andNot => if k = k' then some (.int k (k.wrap (BitVec.ofInt k.bits a &&& ~~~(BitVec.ofInt k.bits b)).toNat)) else none
    | .shl => if b < 0 then none else some (.int k (k.wrap (a * 2 ^ min b.toNat k.bits)))
    | .shr => if b < 0 then none else some (.int k (a.fdiv (2 ^ min b.toNat k.bits)))
  | .bool a, .bool b =>
    match ty, op with
    | .sc (.bool _), .eql => some (.bool (a == b))
    | .sc (.bool _), .neq => some (.bool (!(a == b)))
    | _, _ => none
  | .str a, .str b =>
    match op with
    | .eql => some (.bool (a == b))
    | .neq => some (.bool (!(a == b)))
    | .lss => some (.bool (Op.bytesLess a.toList b.toList))
    | .add => if a.size + b.size ≤ 4611686018427387904 then some (.str (a ++ b)) else none
    | _ => none
  | .agg a, .agg b =>
    match ty, op with
    | .st _ _ z true, .eql => if like z a = true then (aeqs a b).map .bool else none
    | .st _ _ z true, .neq => if like z a = true then (aeqs a b).map fun t => .bool (!t) else none
    | .ar _ _ _ z true, .eql => if like z a = true then (aeqs a b).map .bool else none
    | .ar _ _ _ z true, .neq => if like z a = true then (aeqs a b).map fun t => .bool (!t) else none
    | _, _ => none
  | _, _ => none

/-- A test against nil. -/
def anil (ty : Ty) (x y : V) : Option Bool :=
  match ty, y with
  | .sl _ _, .slx (some true) [] => match x with
    | .slx (some nl) _ => some nl
    | .slx none (_ :: _) => some false
    | .d (.sl (_ :: _)) => some false
    | _ => none
  | .sc .nilp, .d .nilp => match x with
    | .ptr _ _ => some false
    | .pp _ => some false
    | .d .nilp => some true
    | _ => none
  | .sc .nilf, .d .nilf => match x with
    | .fn _ _ _ => some false
    | .d .nilf => some true
    | _ => none
  | _, _ => none

/-- A row of the abstract heap against nil. -/
def anilr (ty : Ty) (H : Heap) (x y : V) : Option Bool :=
  match ty, y, x with
  | .sl _ _, .slx (some true) [], .ref id n _ _ => match H[id]? with
    | some (.arr _ nl els) => if els.length = n then some nl else none
    | _ => none
  | _, _, _ => anil ty x y

variable (T : Nat → Ty) (hint : Nat → Bool)

def hinted (dst : Option Tmp) : Bool :=
  match dst with
  | some d => hint d
  | none => false

/-- The parts of a struct or an array, put over its zero value. -/
def fillAt (place : Nat → Option (Nat × Nat)) (E : Env) : List V → List (Nat × Operand) → Option (List V)
  | cs, [] => some cs
  | cs, (i, x) :: r =>
    match place i, vcells (ge E x) with
    | some (off, size), some vs => if vs.length = size ∧ off + size ≤ cs.length ∧ vs.all V.one = true then fillAt place E (splice cs off vs) r else none
    | _, _ => none

/-- The elements of a slice's literal: each one is given, in order. -/
def elems (E : Env) (es : Nat) : Nat → List (Nat × Operand) → Option (List D)
  | _, [] => some []
  | i, (j, x) :: r =>
    match toD (ge E x), elems E es (i + 1) r with
    | some y, some l => if i = j ∧ (dcells y).length = es then some (y :: l) else none
    | _, _ => none

def headD : List D → Option D
  | [] => none
  | .agg _ :: _ => none
  | c :: _ => some c

def headV : List V → Option V
  | [] => none
  | c :: _ => some c

def loadD (t : Ty) (cs : List D) : Option D :=
  match t with
  | .st n _ _ _ => if n ≤ cs.length then some (.agg (cs.take n)) else none
  | .ar n es _ _ _ => if n * es ≤ cs.length then some (.agg (cs.take (n * es))) else none
  | .no => none
  | _ => headD cs

def loadV (t : Ty) (cs : List V) : Option V :=
  match t with
  | .st n _ _ _ => if n ≤ cs.length then some (norm (cs.take n)) else none
  | .ar n es _ _ _ => if n * es ≤ cs.length then some (norm (cs.take (n * es))) else none
  | .no => none
  | _ => headV cs

def store1 : List V → Option (List V)
  | [c] => if c.one then some [c] else none
  | _ => none

/-- The cells of a value that is stored as one of a type. -/
def storeCells (t : Ty) (v : V) : Option (List V) :=
  match t, vcells v with
  | .st n _ _ _, some cs => if cs.length = n ∧ cs.all V.one = true then some cs else none
  | .ar n es _ _ _, some cs => if cs.length = n * es ∧ cs.all V.one = true then some cs else none
  | .no, _ => none
  | _, some l => store1 l
  | _, none => none

/-- Does an element hold slices? -/
def hasSl (z : D) : Bool := (dcells z).any fun x => match x with
  | .sl _ => true
  | _ => false

/-- The cells of an element's zero value. -/
def zcells (z : D) : List V := (dcells z).map fun x => match x with
  | .sl [] => .slx (some true) []
  | x => .d x

/-- The cells of a struct's zero value. -/
def zst (z : List D) : List V := z.map fun x => match x with
  | .sl [] => .slx (some true) []
  | x => .d x

def zfill (h : Bool) (z : List D) : List V :=
  match h with
  | true => zst z
  | false => z.map .d

def nrm (h : Bool) (cs : List V) : V :=
  match h with
  | true => .agg cs
  | false => norm cs

def rep {α : Type} (n : Nat) (l : List α) : List α := (List.replicate n l).flatten

def zeroV (t : Ty) : Option (List V) :=
  match t with
  | .no => none
  | .sc z => some [.d z]
  | .st _ _ z _ => some (z.map .d)
  | .ar _ _ _ z _ => some (z.map .d)
  | .sl _ _ => some [.slx (some true) []]
  | .mp _ _ => some [.d .nilm]

/-- A cell that is given away: the datum, and the heap then. -/
def giv1 (H : Heap) : V → Option (D × Heap)
  | .ref id n lo len => match H[id]? with
    | some (.arr sz nl els) => if els.length = n then some (.sl ((els.drop lo).take len), H.set id (.arr sz nl (els ++ [.nilp]))) else none
    | _ => none
  | .d (.agg _) => none
  | .d x => some (x, H)
  | .slx _ l => some (.sl l, H)
  | _ => none

def givs (H : Heap) : List V → Option (List D × Heap)
  | [] => some ([], H)
  | v :: r => match giv1 H v with
    | some (x, H1) => match givs H1 r with
      | some (l, H2) => some (x :: l, H2)
      | none => none
    | none => none

/-- A value that is given away. -/
def giv (H : Heap) : V → Option (D × Heap)
  | .agg cs => match givs H cs with
    | some (l, H') => some (.agg l, H')
    | none => none
  | .d (.agg l) => some (.agg l, H)
  | v => giv1 H v

/-- The elements of a slice's literal; rows among them are given away. -/
def elemG (E : Env) (es : Nat) : Nat → Heap → List (Nat × Operand) → Option (List D × Heap)
  | _, H, [] => some ([], H)
  | i, H, (j, x) :: r => match giv H (ge E x) with
    | some (y, H1) => match elemG E es (i + 1) H1 r with
      | some (l, H2) => if i = j ∧ (dcells y).length = es then some (y :: l, H2) else none
      | none => none
    | none => none

abbrev CallH := V → List V → Heap → (V → Heap → Prop) → Prop

def aidxAddr (t : Ty) (H : Heap) (x i : V) : Option V :=
  match t, x, i with
  | .sl es _, .d (.sl l), .d (.int _ n) => match idx? l n with
    | some e => if (dcells e).length = es then some (.pp (dcells e)) else none
    | none => none
  | .sl es _, .slx _ l, .d (.int _ n) => match idx? l n with
    | some e => if (dcells e).length = es then some (.pp (dcells e)) else none
    | none => none
  | .sl es _, .ref id n lo len, .d (.int _ k) => match H[id]? with
    | some (.arr sz _ els) => if els.length = n ∧ sz = es ∧ 0 ≤ k ∧ k < len then some (.ep id n (lo + k.toNat) 0) else none
    | _ => none
  | .sl es _, .csl id es' len, .d (.int _ k) => if es' = es ∧ 0 ≤ k ∧ k < len then some (.ptr id (k.toNat * es)) else none
  | .ar len es _ _ _, .ptr id off, .d (.int _ n) => if 0 ≤ n ∧ n < len then some (.ptr id (off + n.toNat * es)) else none
  | .ar len es _ _ _, .pp cs, .d (.int _ n) => if 0 ≤ n ∧ n < len then some (.pp (cs.drop (n.toNat * es))) else none
  | .ar len es _ _ _, .ep id m i off, .d (.int _ n) => if 0 ≤ n ∧ n < len then some (.ep id m i (off + n.toNat * es)) else none
  | _, _, _ => none

def afieldAddr (t : Ty) (x : V) (f : Nat) : Option V :=
  match t with
  | .st _ fs _ _ => match fs[f]? with
    | some (o, _, _) => match x with
      | .ptr id off => some (.ptr id (off + o))
      | .pp cs => some (.pp (cs.drop o))
      | .ep id n i off => some (.ep id n i (off + o))
      | _ => none
    | none => none
  | _ => none

def aload (t : Ty) (H : Heap) (a : V) : Option V :=
  match a with
  | .pp cs => (loadD t cs).map .d
  | .ptr id off => match H[id]? with
    | some (.cells cs) => loadV t (cs.drop off)
    | _ => none
  | .ep id n i off => match H[id]? with
    | some (.arr _ _ els) => if els.length = n then (match els[i]? with
        | some e => (loadD t ((dcells e).drop off)).map .d
        | none => none) else none
    | _ => none
  | _ => none

def recell (e : D) (cs : List D) : Option D :=
  match e, cs with
  | .agg _, cs => some (.agg cs)
  | _, [.agg _] => none
  | _, [c] => some c
  | _, _ => none

def astore (t : Ty) (H : Heap) (a v : V) : Option Heap :=
  match a, storeCells t v with
  | .ptr id off, some cs => match H[id]? with
    | some (.cells old) => if off + cs.length ≤ old.length then some (H.set id (.cells (splice old off cs))) else none
    | _ => none
  | .ep id n i off, some cs => match H[id]?, toDs cs with
    | some (.arr sz nl els), some ds => if els.length = n then (match els[i]? with
        | some e => if off + ds.length ≤ (dcells e).length then (match recell e (splice (dcells e) off ds) with
            | some e' => some (H.set id (.arr sz nl (els.set i e')))
            | none => none) else none
        | none => none) else none
    | _, _ => none
  | _, _ => none

def alen (t : Ty) (H : Heap) (x : V) : Option Nat :=
  match t, x with
  | .sl _ _, .d (.sl l) => some l.length
  | .sl _ _, .slx _ l => some l.length
  | .sl _ _, .csl _ _ len => some len
  | .sc (.str _), .d (.str s) => some s.size
  | .sl _ _, .ref id n _ len => match H[id]? with
    | some (.arr _ _ els) => if els.length = n then some len else none
    | _ => none
  | .mp _ _, .obj id => match H[id]? with
    | some (.obj (.map es)) => some es.length
    | _ => none
  | _, _ => none

def amin : D → D → Option D
  | .int k a, .int k' b => if k = k' then some (.int k (min a b)) else none
  | _, _ => none

def amax : D → D → Option D
  | .int k a, .int k' b => if k = k' then some (.int k (max a b)) else none
  | _, _ => none

def foldD (f : D → D → Option D) : V → List V → Option V
  | .d x, [] => some (.d x)
  | .d x, .d y :: r => match f x y with
    | some z => foldD f (.d z) r
    | none => none
  | _, _ => none

/-- The elements of a slice, as they are now. -/
def content (H : Heap) : V → Option (List D)
  | .d (.sl l) => some l
  | .slx _ l => some l
  | .ref id n lo len => match H[id]? with
    | some (.arr _ _ els) => if els.length = n then some ((els.drop lo).take len) else none
    | _ => none
  | _ => none

def sized (es : Nat) (l : List D) : Bool := l.all fun x => (dcells x).length == es

/-- An element of an array's value, a byte of a string. -/
def aindex (t : Ty) (x i : V) : Option V :=
  match x, i with
  | .d (.agg cs), .d (.int _ n) => match t with
    | .ar len es e _ _ => if 0 ≤ n ∧ n < len then (loadD (T e) (cs.drop (n.toNat * es))).map .d else none
    | _ => none
  | .agg cs, .d (.int _ n) => match t with
    | .ar len es e _ _ => if 0 ≤ n ∧ n < len ∧ cs.all V.one = true then loadV (T e) (cs.drop (n.toNat * es)) else none
    | _ => none
  | .d (.str s), .d (.int _ n) => match t with
    | .sc (.str _) => match (if 0 ≤ n then s[n.toNat]? else none) with
      | some b => some (.d (.int .u8 b.toNat))
      | none => none
    | _ => none
  | _, _ => none

def afield (t : Ty) (x : V) (f : Nat) : Option V :=
  match t with
  | .st _ fs _ _ => match fs[f]? with
    | some (o, _, e) => match x with
      | .d (.agg cs) => (loadD (T e) (cs.drop o)).map .d
      | .agg cs => if cs.all V.one = true then loadV (T e) (cs.drop o) else none
      | _ => none
    | none => none
  | _ => none

def bound? (E : Env) : Option Operand → Nat → Option Nat
  | none, n => some n
  | some x, _ => match ge E x with
    | .d (.int _ n) => if 0 ≤ n then some n.toNat else none
    | _ => none

/-- A part of a slice: of data, within its length; exact where the greatest capacity is its own length. -/
def aslice (t : Ty) (E : Env) (H : Heap) (x : V) (lo hi mx : Option Operand) : Option V :=
  match x with
  | .d (.str s) => match t, bound? E lo 0, bound? E hi s.size, mx with
    | .sc (.str _), some l, some h, none => if l ≤ h ∧ h ≤ s.size then some (.d (.str (s.extract l h))) else none
    | _, _, _, _ => none
  | .ref id n a len => match H[id]?, t with
    | some (.arr sz _ els), .sl es _ => match bound? E lo 0, bound? E hi len, mx with
      | some l, some h, none => if els.length = n ∧ sz = es ∧ l ≤ h ∧ h ≤ len ∧ (l < h ∨ l = 0) then some (.ref id n (a + l) (h - l)) else none
      | _, _, _ => none
    | _, _ => none
  | .pp cs => match t with
    | .ar len es _ _ _ => match bound? E lo 0, bound? E hi len, mx with
      | some l, some h, none => if es = 1 ∧ l ≤ h ∧ h ≤ len ∧ len ≤ cs.length then some (.d (.sl ((cs.take h).drop l))) else none
      | _, _, _ => none
    | _ => none
  | x => match content H x, t with
    | some s, .sl es _ => if sized es s then (match bound? E lo 0, bound? E hi s.length, mx with
        | some l, some h, none => if l ≤ h ∧ h ≤ s.length then some (.d (.sl ((s.take h).drop l))) else none
        | some l, some h, some _ => match hi, bound? E mx 0 with
          | some _, some k => if l ≤ h ∧ h ≤ s.length ∧ k = h then some (.slx none ((s.take h).drop l)) else none
          | _, _ => none
        | _, _, _ => none) else none
    | _, _ => none

def aappend (t : Ty) (hin : Bool) (H : Heap) (base x : V) (K : V → Heap → Prop) : Prop :=
  match t, content H x with
  | .sl es _, some ys =>
    match sized es ys with
    | true =>
      match base with
      | .slx nl l =>
        match sized es l && decide (l.length + ys.length ≤ 4294967296) with
        | true =>
          match hin with
          | true => match l, nl with
            | [], some b => K (.ref H.length ys.length 0 ys.length) (H ++ [.arr es (b && ys.isEmpty) ys])
            | _, _ => False
          | false => K (.d (.sl (l ++ ys))) H
        | false => False
      | .ref id n lo len => match H[id]? with
        | some (.arr sz nl els) =>
          match decide (els.length = n) && decide (sz = es) && decide (lo = 0) && decide (len = n) && decide (n + ys.length ≤ 4294967296) with
          | true => K (.ref id (n + ys.length) 0 (n + ys.length)) (H.set id (.arr sz (nl && ys.isEmpty) (els ++ ys)))
          | false => False
        | _ => False
      | _ => False
    | false => False
  | _, _ => False

/-- Are two keys the same? -/
def keq : D → D → Option Bool
  | .int k a, .int k' b => if k = k' then some (a == b) else none
  | .str a, .str b => some (a == b)
  | .bool a, .bool b => some (a == b)
  | _, _ => none

/-- Is it a key of a kind? -/
def kok : D → D → Bool
  | .int k _, .int k' _ => decide (k = k')
  | .str _, .str _ => true
  | .bool _, .bool _ => true
  | _, _ => false

def mfind (k : D) : List (D × D) → Option (Option D)
  | [] => some none
  | (a, b) :: r => match keq k a with
    | some true => some (some b)
    | some false => mfind k r
    | none => none

def mput (k v : D) : List (D × D) → Option (List (D × D))
  | [] => some [(k, v)]
  | (a, b) :: r => match keq k a with
    | some true => some ((k, v) :: r)
    | some false => match mput k v r with
      | some r' => some ((a, b) :: r')
      | none => none
    | none => none

/-- A copy of as many elements as a row has, into all of it. -/
def acopy (t : Ty) (H : Heap) (x y : V) : Option (Nat × Heap) :=
  match t, x, content H y with
  | .sl es _, .ref id n lo len, some ys => match H[id]? with
    | some (.arr sz nl els) => if (els.length = n ∧ lo = 0 ∧ len = n) ∧ ys.length = n ∧ sized es ys = true ∧ sz = es then some (n, H.set id (.arr sz nl ys)) else none
    | _ => none
  | _, _, _ => none

/-- The end of a row, made zero. -/
def aclear (t : Ty) (H : Heap) (x : V) : Option Heap :=
  match t, x with
  | .sl es z, .ref id n lo len => match H[id]? with
    | some (.arr sz nl els) => if els.length = n ∧ sz = es ∧ lo + len = n then some (H.set id (.arr sz nl (els.take lo ++ List.replicate len z))) else none
    | _ => none
  | _, _ => none

/-- What a map holds; a nil map holds nothing. -/
def mcont (H : Heap) : V → Option (List (D × D))
  | .obj id => match H[id]? with
    | some (.obj (.map es)) => some es
    | _ => none
  | .d .nilm => some []
  | _ => none

def alook (t : Ty) (ok : Bool) (H : Heap) (m k : V) : Option V :=
  match t, mcont H m, k with
  | .mp kz z, some es, .d k => if kok kz k = true then (match mfind k es with
      | some (some v) => some (if ok = true then .tup [.d v, .d (.bool true)] else .d v)
      | some none => some (if ok = true then .tup [.d z, .d (.bool false)] else .d z)
      | none => none) else none
  | _, _, _ => none

def aput (t : Ty) (H : Heap) (m k v : V) : Option Heap :=
  match t, m, k, toD v with
  | .mp kz _, .obj id, .d k, some v => match H[id]? with
    | some (.obj (.map es)) => if kok kz k = true then (match mput k v es with
      | some es' => some (H.set id (.obj (.map es')))
      | none => none) else none
    | _ => none
  | _, _, _, _ => none

/-- The next entry of a map that is ranged over: each of those that are left can be it. -/
def anext (H : Heap) (x : V) (K : V → Heap → Prop) : Prop :=
  match x with
  | .obj id => match H[id]? with
    | some (.obj (.iter mid n seen)) => match H[mid]? with
      | some (.obj (.map es)) => es.length = n ∧ ((∀ i, i < n → i ∈ seen) → K (.tup [.d (.bool false)]) H) ∧
          ∀ i p, es[i]? = some p → i ∉ seen → K (.tup [.d (.bool true), .d p.1, .d p.2]) (H.set id (.obj (.iter mid n (seen ++ [i]))))
      | _ => False
    | _ => False
  | _ => False

/-- The entry of a map that has just come. -/
def aentry (H : Heap) (x : V) : Option V :=
  match x with
  | .obj id => match H[id]? with
    | some (.obj (.iter mid n seen)) => match seen.getLast?, H[mid]? with
      | some i, some (.obj (.map es)) => if es.length = n then (match es[i]? with
        | some p => some (.tup [.d p.1, .d p.2])
        | none => none) else none
      | _, _ => none
    | _ => none
  | _ => none

/-- The next letter of a string that is ranged over. -/
def asnext (H : Heap) (x : V) (K : V → Heap → Prop) : Prop :=
  match x with
  | .obj id => match H[id]? with
    | some (.obj (.sit s pos)) => Br (decide (pos < s.size)) (fun _ => K (.tup [.d (.bool true), .d (.int .i64 pos), .d (.int .i32 (Utf8.decode s pos).1)]) (H.set id (.obj (.sit s (pos + (Utf8.decode s pos).2))))) (fun _ => K (.tup [.d (.bool false)]) H)
    | _ => False
  | _ => False

def evCall (call : CallH) (o : Oper) (c : Call) (E : Env) (H : Heap) (K : V → Heap → Prop) : Prop :=
  match c.callee with
  | .value f => call (ge E f) (c.args.toList.map (ge E)) H K
  | .builtin b => match b, c.args.toList, c.argTypes.toList with
    | .len, [x], [t] => Som (alen (T t) H (ge E x)) fun n => K (.d (.int .i64 n)) H
    | .min, x :: r, _ => Som (foldD amin (ge E x) (r.map (ge E))) fun v => K v H
    | .max, x :: r, _ => Som (foldD amax (ge E x) (r.map (ge E))) fun v => K v H
    | .append, [x, y], [t, u] => match T u with
      | .sl _ _ => aappend (T t) (hinted hint o.dst) H (ge E x) (ge E y) K
      | _ => False
    | .copy, [x, y], [t, _] => Som (acopy (T t) H (ge E x) (ge E y)) fun p => K (.d (.int .i64 p.1)) p.2
    | .clear, [x], [t] => Som (aclear (T t) H (ge E x)) fun H' => K (.tup []) H'
    | _, _, _ => False
  | .invoke _ _ => False

def evOp (call : CallH) (o : Oper) (E : Env) (H : Heap) (K : V → Heap → Prop) : Prop :=
  match o.op with
  | .move x => K (ge E x) H
  | .assign x => match hinted hint o.dst, ge E x with
    | true, .slx (some nl) [] => match T o.type with
      | .sl es _ => K (.ref H.length 0 0 0) (H ++ [.arr es nl []])
      | _ => False
    | _, v => K v H
  | .pick c a b => match ge E c with
    | .d (.bool t) => Br t (fun _ => K (ge E a) H) (fun _ => K (ge E b) H)
    | _ => False
  | .alloc t => Som (zeroV (T t)) fun cs => K (.ptr H.length 0) (H ++ [.cells cs])
  | .box t x => Som (storeCells (T t) (ge E x)) fun cs => K (.ptr H.length 0) (H ++ [.cells cs])
  | .build t parts => match T t with
    | .st _ fs z _ => Som (fillAt (fun i => (fs[i]?).map fun p => (p.1, p.2.1)) E (zfill (hinted hint o.dst) z) parts.toList) fun cs => K (nrm (hinted hint o.dst) cs) H
    | .ar _ es _ z _ => Som (fillAt (fun i => some (i * es, es)) E (z.map .d) parts.toList) fun cs => K (norm cs) H
    | _ => False
  | .buildSlice t len parts => match T t with
    | .sl es _ => match hinted hint o.dst with
      | true => Som (elems E es 0 parts.toList) fun l => match decide (l.length = len) && decide (len * es ≤ 16777216) with
        | true => K (.ref H.length len 0 len) (H ++ [.arr es false l])
        | false => False
      | false => Som (elemG E es 0 H parts.toList) fun p => match decide (p.1.length = len) && decide (len * es ≤ 16777216) with
        | true => K (.slx (some false) p.1) p.2
        | false => False
    | _ => False
  | .makeSlice t n c => match T t, ge E n, ge E c with
    | .sl es z, .d (.int _ n), .d (.int _ c) => match decide (0 ≤ n) && decide (n = c) && decide (n ≤ 4294967296) && decide ((dcells z).length = es) with
      | true => match hinted hint o.dst with
        | true => match hasSl z && (zcells z).all V.one with
          | true => K (.csl H.length es n.toNat) (H ++ [.cells (rep n.toNat (zcells z))])
          | false => K (.ref H.length n.toNat 0 n.toNat) (H ++ [.arr es false (List.replicate n.toNat z)])
        | false => K (.slx (some false) (List.replicate n.toNat z)) H
      | false => False
    | _, _, _ => False
  | .load t a => Som (aload (T t) H (ge E a)) fun v => K v H
  | .store t a x => Som (astore (T t) H (ge E a) (ge E x)) fun H' => K .und H'
  | .binOp op t x y _ => match ge E x, ge E y with
    | .d (.int k a), .d (.int k' b) => Som (abin .no op (.int k a) (.int k' b)) fun v => K (.d v) H
    | .d (.bool a), .d (.bool b) => Som (abin (T t) op (.bool a) (.bool b)) fun v => K (.d v) H
    | .d (.str a), .d (.str b) => Som (abin .no op (.str a) (.str b)) fun v => K (.d v) H
    | .d (.agg a), .d (.agg b) => Som (abin (T t) op (.agg a) (.agg b)) fun v => K (.d v) H
    | a, b => match op with
      | .eql => Som (anilr (T t) H a b) fun t => K (.d (.bool t)) H
      | .neq => Som (anilr (T t) H a b) fun t => K (.d (.bool (!t))) H
      | _ => False
  | .unOp op _ x => match op, ge E x with
    | .not, .d (.bool b) => K (.d (.bool (!b))) H
    | .neg, .d (.int k n) => K (.d (.int k (k.wrap (0 - n)))) H
    | _, _ => False
  | .convert s t x => match T s, T t, ge E x with
    | .sc _, .sc (.int k _), .d (.int _ n) => K (.d (.int k (k.wrap n))) H
    | _, _, _ => False
  | .makeFunc (.func f) first captured => K (.fn (.func f) (first.toList.map (ge E)) (captured.toList.map (ge E))) H
  | .slice t x lo hi mx => Som (aslice (T t) E H (ge E x) lo hi mx) fun v => K v H
  | .fieldAddr t x f => Som (afieldAddr (T t) (ge E x) f) fun v => K v H
  | .field t x f => Som (afield T (T t) (ge E x) f) fun v => K v H
  | .indexAddr t x i => Som (aidxAddr (T t) H (ge E x) (ge E i)) fun v => K v H
  | .index t x i => Som (aindex T (T t) (ge E x) (ge E i)) fun v => K v H
  | .nilCheck x => match ge E x with
    | .ptr id off => K (.ptr id off) H
    | .pp cs => K (.pp cs) H
    | .ep id n i off => K (.ep id n i off) H
    | .fn (.func k) p q => K (.fn (.func k) p q) H
    | _ => False
  | .extract x i => match ge E x with
    | .tup vs => Som vs[i]? fun v => K v H
    | _ => False
  | .makeMap _ none => K (.obj H.length) (H ++ [.obj (.map [])])
  | .lookup t m k ok => Som (alook (T t) ok H (ge E m) (ge E k)) fun v => K v H
  | .mapUpdate t m k v => Som (aput (T t) H (ge E m) (ge E k) (ge E v)) fun H' => K .und H'
  | .insert t m k v => Som (aput (T t) H (ge E m) (ge E k) (ge E v)) fun H' => K .und H'
  | .range t x => match T t, ge E x with
    | .mp _ _, .obj id => match H[id]? with
      | some (.obj (.map es)) => K (.obj H.length) (H ++ [.obj (.iter id es.length [])])
      | _ => False
    | .sc (.str _), .d (.str s) => K (.obj H.length) (H ++ [.obj (.sit s 0)])
    | _, _ => False
  | .entry x => Som (aentry H (ge E x)) fun v => K v H
  | .next x true => asnext H (ge E x) K
  | .call c => evCall T hint call o c E H K
  | _ => False

def nxt : Op → Option Operand
  | .next x false => some x
  | _ => none

/-- An operation where it stands alone: what comes next of a map can be asked there. -/
def evN (call : CallH) (o : Oper) (E : Env) (H : Heap) (K : V → Heap → Prop) : Prop :=
  match nxt o.op with
  | some x => anext H (ge E x) K
  | none => evOp T hint call o E H K

def gdst (all : List Oper) (j : Nat) : Option Nat :=
  match all[j]? with
  | some o => o.dst
  | none => none

def evOps (call : CallH) (all : List Oper) : List Oper → Env → Heap → (Env → Heap → Prop) → Prop
  | [], E, H, K => K E H
  | o :: os, E, H, K =>
    match o.guard with
    | none => evN T hint call o E H fun v H' => evOps call all os (put E o.dst v) H' K
    | some (j, w) =>
      match gdst all j with
      | some t => match Env.look E t with
        | .d (.bool b) => Br (b == w) (fun _ => evN T hint call o E H fun v H' => evOps call all os (put E o.dst v) H' K) (fun _ => evOps call all os (put E o.dst (.tup [])) H K)
        | .tup [] => evOps call all os (put E o.dst (.tup [])) H K
        | _ => False
      | none => False

abbrev LoopH := Code → Env → Heap → (Ex → Env → Heap → Prop) → Prop
abbrev DrawH := Array Oper → Env → Heap → (Env → Heap → Prop) → Prop

def thenEx (K : Env → Heap → Prop) (Q : Ex → Env → Heap → Prop) : Ex → Env → Heap → Prop
  | .normal, E, H => K E H
  | e, E, H => Q e E H

def blockEx (i : Nat) (Q : Ex → Env → Heap → Prop) : Ex → Env → Heap → Prop
  | .exit j, E, H => if j = i then Q .normal E H else Q (.exit j) E H
  | e, E, H => Q e E H

def ev (call : CallH) (loop rng : LoopH) (drw : DrawH) : Code → Env → Heap → (Ex → Env → Heap → Prop) → Prop
  | .skip, E, H, Q => Q .normal E H
  | .region _ ops true, E, H, Q => drw ops E H (Q .normal)
  | .region _ ops false, E, H, Q => evOps T hint call ops.toList ops.toList E H (Q .normal)
  | .seq a b, E, H, Q => ev call loop rng drw a E H (thenEx (fun E' H' => ev call loop rng drw b E' H' Q) Q)
  | .cond c a b, E, H, Q => match ge E c with
    | .d (.bool x) => Br x (fun _ => ev call loop rng drw a E H Q) (fun _ => ev call loop rng drw b E H Q)
    | _ => False
  | .block i c, E, H, Q => ev call loop rng drw c E H (blockEx i Q)
  | .scope c, E, H, Q => ev call loop rng drw c E H Q
  | .label _, E, H, Q => Q .normal E H
  | .loop c, E, H, Q => loop c E H Q
  | .rangeFunc f ps a b, E, H, Q => rng (.rangeFunc f ps a b) E H Q
  | .exit i, E, H, Q => Q (.exit i) E H
  | .ret, E, H, Q => Q .ret E H
  | _, _, _, _ => False

end Go.Aw
end

section
namespace Go.Aw
open Go

/-- Ghosts: the cells that are never written again; the block that each block of the abstract heap is. -/
structure G where
  Z : Nat → Nat → Prop
  φ : List (Option Nat)

mutual
/-- The cells of a datum. -/
def DC (w : World) (Z : Nat → Nat → Prop) : D → List Value → Prop
  | .bool b, cs => cs = [.bool b]
  | .int k n, cs => cs = [.int k n]
  | .str s, cs => cs = [.string s]
  | .nilp, cs => cs = [.pointer none]
  | .nilf, cs => cs = [.nilFunc]
  | .nilm, cs => cs = [.map none]
  | .agg l, cs => DCs w Z l cs
  | .sl l, cs => ∃ a len cap, cs = [.slice a len cap] ∧ len = l.length ∧ len ≤ cap ∧ (a = none → cap = 0) ∧
      ∀ ad, a = some ad → (l ≠ [] → ad.spot = none) ∧ ∃ sz, DCe w Z l ad.block ad.off sz
def DCs (w : World) (Z : Nat → Nat → Prop) : List D → List Value → Prop
  | [], cs => cs = []
  | d :: ds, cs => ∃ c r, cs = c :: r ∧ DC w Z d [c] ∧ DCs w Z ds r
/-- The elements from a place on, each of so many cells. -/
def DCe (w : World) (Z : Nat → Nat → Prop) : List D → Nat → Nat → Nat → Prop
  | [], _, _, _ => True
  | d :: ds, b, o, sz => (∃ cs, cs.length = sz ∧ (∀ j, j < sz → Z b (o + j) ∧ w.cell? ⟨b, o + j, none⟩ = cs[j]?) ∧ DC w Z d cs) ∧ DCe w Z ds b (o + sz) sz
end

def DR (w : World) (Z : Nat → Nat → Prop) (x : D) (v : Value) : Prop :=
  match x with
  | .agg l => ∃ cs, v = .agg cs ∧ DCs w Z l cs.toList
  | x => DC w Z x [v]

mutual
def VR (g : G) (H : Heap) (w : World) : V → Value → Prop
  | .und, _ => True
  | .d x, v => DR w g.Z x v
  | .slx nl l, v => ∃ a, v = .slice a l.length l.length ∧ (∀ b, nl = some b → (a = none ↔ b = true)) ∧ (a = none → l = []) ∧
      ∀ ad, a = some ad → (l ≠ [] → ad.spot = none) ∧ ∃ sz, DCe w g.Z l ad.block ad.off sz
  | .ptr id off, v => ∃ b cs, H[id]? = some (.cells cs) ∧ g.φ[id]? = some (some b) ∧ v = .pointer (some ⟨b, off, none⟩)
  | .pp cs, v => ∃ a vs, v = .pointer (some a) ∧ a.spot = none ∧ (∀ j, j < cs.length → g.Z a.block (a.off + j) ∧ w.cell? ⟨a.block, a.off + j, none⟩ = vs[j]?) ∧ DCs w g.Z cs vs
  | .ref id n lo len, v => (∃ a l c, v = .slice a l c) ∧ ∃ sz nl els, H[id]? = some (.arr sz nl els) ∧ n ≤ els.length ∧ (els.length = n →
      lo + len ≤ n ∧ (((g.φ[id]? = some none ∧ els = [] ∧ True) ∧ lo = 0 ∧ ∃ a, v = .slice a 0 0 ∧ (a = none ↔ nl = true)) ∨
       ∃ b cap vs t, g.φ[id]? = some (some b) ∧ v = .slice (some ⟨b, lo * sz, none⟩) len cap ∧ w.heap[b]? = some (.cells vs t (0, 0)) ∧ len ≤ cap ∧ (lo + cap) * sz ≤ vs.size))
  | .ep id n i off, v => (∃ p : Addr, v = .pointer (some p) ∧ p.spot = none) ∧ ∃ sz nl els, H[id]? = some (.arr sz nl els) ∧ n ≤ els.length ∧ (els.length = n →
      ∃ b, g.φ[id]? = some (some b) ∧ v = .pointer (some ⟨b, i * sz + off, none⟩))
  | .csl id es len, v => ∃ b cs cap, H[id]? = some (.cells cs) ∧ g.φ[id]? = some (some b) ∧ cs.length = len * es ∧ v = .slice (some ⟨b, 0, none⟩) len cap ∧ len ≤ cap
  | .obj id, v => ∃ b o, H[id]? = some (.obj o) ∧ g.φ[id]? = some (some b) ∧ v = (if o.kind = true then .map (some b) else .pointer (some ⟨b, 0, none⟩))
  | .fn (.yield id) x y, v => x = [] ∧ y = [] ∧ ∃ b st pend E ps p q, H[id]? = some (.loop st pend E ps p q) ∧ g.φ[id]? = some (some b) ∧ v = .func (.yield b) #[] #[]
  | .fn f x y, v => ∃ x' y', v = .func f x' y' ∧ VRs g H w x x'.toList ∧ VRs g H w y y'.toList
  | .agg l, v => ∃ cs, v = .agg cs ∧ VRs g H w l cs.toList
  | .tup l, v => ∃ cs, v = .tuple cs ∧ VRs g H w l cs.toList
def VRs (g : G) (H : Heap) (w : World) : List V → List Value → Prop
  | [], cs => cs = []
  | d :: ds, cs => ∃ c r, cs = c :: r ∧ VR g H w d c ∧ VRs g H w ds r
end

def ER (g : G) (H : Heap) (w : World) (E : Env) (tmps : Array Value) : Prop := ∀ t, VR g H w (E.look t) (tmps.getD t undef)

/-- The elements of a row, as its block holds them. -/
def AR (w : World) (Z : Nat → Nat → Prop) (sz : Nat) (els : List D) (vs : List Value) : Prop :=
  els.length * sz ≤ vs.length ∧ ∀ i x, els[i]? = some x → (dcells x).length = sz ∧ DC w Z x ((vs.drop (i * sz)).take sz)

/-- A map's entries, in the order in which they came. -/
def MR (w : World) (Z : Nat → Nat → Prop) : Nat → List (D × D) → List MapEntry → Prop
  | _, [], l => l = []
  | k, p :: r, l => ∃ e l', l = e :: l' ∧ e.born = k ∧ DR w Z p.1 e.key ∧ DR w Z p.2 e.val ∧ MR w Z (k + 1) r l'

def BR (g : G) (H : Heap) (w : World) (b : Nat) : Blk → Prop
  | .obj (.map es) => ∃ ents, w.heap[b]? = some (.map ents es.length) ∧ MR w g.Z 0 es ents.toList
  | .obj (.iter mid n seen) => ∃ mb es seenA, H[mid]? = some (.obj (.map es)) ∧ g.φ[mid]? = some (some mb) ∧ w.heap[b]? = some (.mapIter (some mb) n seenA n) ∧ seenA.toList = seen
  | .obj (.sit s pos) => w.heap[b]? = some (.stringIter s pos)
  | .cells cs => ∃ vs t, w.heap[b]? = some (.cells vs t (0, 0)) ∧ VRs g H w cs vs.toList ∧ ∀ c ∈ cs, c.one = true
  | .arr sz nl els => nl = false ∧ ∃ vs t, w.heap[b]? = some (.cells vs t (0, 0)) ∧ AR w g.Z sz els vs.toList
  | .loop st pend E ps x y => ∃ r : Loop, w.heap[b]? = some (.loop r) ∧ r.state = st ∧ r.pending = pend ∧ (r.params = ps.1 ∧ r.tmps.size = ps.2) ∧ r.assign = x ∧ r.body = y ∧ ER g H w E r.tmps

structure HR (g : G) (H : Heap) (w : World) : Prop where
  len : g.φ.length = H.length
  zlt : ∀ b o, g.Z b o → b < w.heap.size
  blk : ∀ (id : Nat) (b : Nat) (x : Blk), g.φ[id]? = some (some b) → H[id]? = some x → b < w.heap.size ∧ (∀ o, ¬ g.Z b o) ∧ BR g H w b x
  inj : ∀ i j b : Nat, g.φ[i]? = some (some b) → g.φ[j]? = some (some b) → i = j

/-- What abides from one state to a later one. -/
structure Kp (g : G) (w : World) (g' : G) (w' : World) : Prop where
  os : w'.os = w.os
  tape : w'.tape = w.tape
  out : w'.output = w.output
  size : w.heap.size ≤ w'.heap.size
  fr : ∀ b, b < w.heap.size → (∀ id : Nat, g.φ[id]? ≠ some (some b)) → w'.heap[b]? = w.heap[b]?
  z : ∀ b o, g.Z b o → g'.Z b o
  zn : ∀ b o, g'.Z b o → g.Z b o ∨ w.heap.size ≤ b ∨ ∃ id : Nat, g.φ[id]? = some (some b)
  pn : ∀ (id b : Nat), g'.φ[id]? = some (some b) → g.φ[id]? = some (some b) ∨ w.heap.size ≤ b

/-- Blocks of the abstract heap stay what they are. -/
def Ag (g : G) (H : Heap) (w : World) (g' : G) (H' : Heap) (w' : World) : Prop :=
  ∀ (id : Nat) (x : Blk), H[id]? = some x → match x with
    | .cells cs => (∃ cs' : List V, H'[id]? = some (.cells cs') ∧ cs'.length = cs.length) ∧ g'.φ[id]? = g.φ[id]?
    | .arr sz nl els => ∃ nl' els', H'[id]? = some (.arr sz nl' els') ∧ els.length ≤ els'.length ∧ (els'.length = els.length → nl' = nl ∧ g'.φ[id]? = g.φ[id]? ∧
        ∀ b vs t, g.φ[id]? = some (some b) → w.heap[b]? = some (.cells vs t (0, 0)) → ∃ vs', w'.heap[b]? = some (.cells vs' t (0, 0)) ∧ vs'.size = vs.size)
    | .loop _ _ E ps y z => (∃ st' pend', H'[id]? = some (.loop st' pend' E ps y z)) ∧ g'.φ[id]? = g.φ[id]?
    | .obj o => (∃ o', H'[id]? = some (.obj o') ∧ o'.kind = o.kind) ∧ g'.φ[id]? = g.φ[id]?

theorem Kp.refl (g : G) (w : World) : Kp g w g w :=
  ⟨rfl, rfl, rfl, Nat.le_refl _, fun _ _ _ => rfl, fun _ _ h => h, fun _ _ h => .inl h, fun id b h => .inl h⟩

theorem Kp.trans {g g' g'' : G} {w w' w'' : World} (h : Kp g w g' w') (k : Kp g' w' g'' w'') : Kp g w g'' w'' where
  os := k.os.trans h.os
  tape := k.tape.trans h.tape
  out := k.out.trans h.out
  size := Nat.le_trans h.size k.size
  fr := fun b hb hn => by
    rw [k.fr b (Nat.lt_of_lt_of_le hb h.size), h.fr b hb hn]
    intro id hid
    rcases h.pn id b hid with h' | h'
    · exact hn id h'
    · omega
  z := fun b o hz => k.z b o (h.z b o hz)
  zn := fun b o hz => by
    rcases k.zn b o hz with h' | h' | ⟨id, h'⟩
    · exact h.zn b o h'
    · exact .inr (.inl (Nat.le_trans h.size h'))
    · rcases h.pn id b h' with h' | h'
      · exact .inr (.inr ⟨id, h'⟩)
      · exact .inr (.inl h')
  pn := fun id b hp => by
    rcases k.pn id b hp with h' | h'
    · exact h.pn id b h'
    · exact .inr (Nat.le_trans h.size h')

theorem Ag.refl (g : G) (H : Heap) (w : World) : Ag g H w g H w := by
  intro id x hx
  cases x with
  | cells cs => exact ⟨⟨cs, hx, rfl⟩, rfl⟩
  | arr sz nl els => exact ⟨nl, els, hx, Nat.le_refl _, fun _ => ⟨rfl, rfl, fun b vs t _ h => ⟨vs, h, rfl⟩⟩⟩
  | loop st pend E ps a b => exact ⟨⟨st, pend, hx⟩, rfl⟩
  | obj o => exact ⟨⟨o, hx, rfl⟩, rfl⟩

theorem Ag.trans {g g' g'' : G} {H H' H'' : Heap} {w w' w'' : World} (h : Ag g H w g' H' w') (k : Ag g' H' w' g'' H'' w'') : Ag g H w g'' H'' w'' := by
  intro id x hx
  have hi := h id x hx
  cases x with
  | cells cs =>
    obtain ⟨⟨cs', h1, h1l⟩, h2⟩ := hi
    obtain ⟨⟨cs'', k1, k1l⟩, k2⟩ := k id _ h1
    exact ⟨⟨cs'', k1, k1l.trans h1l⟩, k2.trans h2⟩
  | arr sz nl els =>
    obtain ⟨nl', els', h1, h2, h3⟩ := hi
    obtain ⟨nl'', els'', k1, k2, k3⟩ := k id _ h1
    refine ⟨nl'', els'', k1, Nat.le_trans h2 k2, fun he => ?_⟩
    obtain ⟨e1, e2, e3⟩ := h3 (by omega)
    obtain ⟨f1, f2, f3⟩ := k3 (by omega)
    refine ⟨f1.trans e1, f2.trans e2, fun b vs t hb hw => ?_⟩
    obtain ⟨vs', hw', hs⟩ := e3 b vs t hb hw
    obtain ⟨vs'', hw'', hs'⟩ := f3 b vs' t (e2.trans hb) hw'
    exact ⟨vs'', hw'', hs'.trans hs⟩
  | loop st pend E ps a b =>
    obtain ⟨⟨st', pend', h1⟩, h2⟩ := hi
    obtain ⟨k1, k2⟩ := k id _ h1
    exact ⟨k1, k2.trans h2⟩
  | obj o =>
    obtain ⟨⟨o', h1, h1l⟩, h2⟩ := hi
    obtain ⟨⟨o'', k1, k1l⟩, k2⟩ := k id _ h1
    exact ⟨⟨o'', k1, k1l.trans h1l⟩, k2.trans h2⟩

/-- Cells that are never written again. -/
def Zk (Z Z' : Nat → Nat → Prop) (w w' : World) : Prop := ∀ b o, Z b o → Z' b o ∧ w'.cell? ⟨b, o, none⟩ = w.cell? ⟨b, o, none⟩

mutual
theorem DC_mono {w w' : World} {Z Z' : Nat → Nat → Prop} (hk : Zk Z Z' w w') : ∀ (x : D) (cs : List Value), DC w Z x cs → DC w' Z' x cs
  | .bool _, _, h => by simpa [DC] using h
  | .int _ _, _, h => by simpa [DC] using h
  | .str _, _, h => by simpa [DC] using h
  | .nilp, _, h => by simpa [DC] using h
  | .nilf, _, h => by simpa [DC] using h
  | .nilm, _, h => by simpa [DC] using h
  | .agg l, cs, h => by
    simp only [DC] at h ⊢
    exact DCs_mono hk l cs h
  | .sl l, cs, h => by
    simp only [DC] at h ⊢
    obtain ⟨a, len, cap, h1, h2, h3, h4, h5⟩ := h
    refine ⟨a, len, cap, h1, h2, h3, h4, fun ad ha => ?_⟩
    obtain ⟨h6, sz, h7⟩ := h5 ad ha
    exact ⟨h6, sz, DCe_mono hk l _ _ _ h7⟩
theorem DCs_mono {w w' : World} {Z Z' : Nat → Nat → Prop} (hk : Zk Z Z' w w') : ∀ (l : List D) (cs : List Value), DCs w Z l cs → DCs w' Z' l cs
  | [], _, h => by simpa [DCs] using h
  | d :: ds, cs, h => by
    simp only [DCs] at h ⊢
    obtain ⟨c, r, h1, h2, h3⟩ := h
    exact ⟨c, r, h1, DC_mono hk d _ h2, DCs_mono hk ds r h3⟩
theorem DCe_mono {w w' : World} {Z Z' : Nat → Nat → Prop} (hk : Zk Z Z' w w') : ∀ (l : List D) (b o sz : Nat), DCe w Z l b o sz → DCe w' Z' l b o sz
  | [], _, _, _, _ => by simp [DCe]
  | d :: ds, b, o, sz, h => by
    simp only [DCe] at h ⊢
    obtain ⟨⟨cs, h1, h2, h3⟩, h4⟩ := h
    refine ⟨⟨cs, h1, fun j hj => ?_, DC_mono hk d _ h3⟩, DCe_mono hk ds b (o + sz) sz h4⟩
    obtain ⟨z, e⟩ := h2 j hj
    obtain ⟨z', e'⟩ := hk _ _ z
    exact ⟨z', e'.trans e⟩
end

theorem DR_mono {w w' : World} {Z Z' : Nat → Nat → Prop} (hk : Zk Z Z' w w') {x : D} {v : Value} (h : DR w Z x v) : DR w' Z' x v := by
  unfold DR at h ⊢
  split at h
  · obtain ⟨cs, h1, h2⟩ := h
    exact ⟨cs, h1, DCs_mono hk _ _ h2⟩
  · exact DC_mono hk _ _ h

theorem HR.zk {g g' : G} {H : Heap} {w w' : World} (h : HR g H w) (k : Kp g w g' w') : Zk g.Z g'.Z w w' := by
  intro b o hz
  refine ⟨k.z b o hz, World.cell?_of_block (w := w) (k.fr b (h.zlt b o hz) ?_)⟩
  intro id hid
  have hlt : id < H.length := by
    rw [← h.len]
    rcases Nat.lt_or_ge id g.φ.length with h' | h'
    · exact h'
    · rw [List.getElem?_eq_none h'] at hid; cases hid
  exact (h.blk id b H[id] hid (List.getElem?_eq_getElem hlt)).2.1 o hz

section
variable {g g' : G} {H H' : Heap} {w w' : World}

mutual
theorem VR_mono (hz : Zk g.Z g'.Z w w') (ha : Ag g H w g' H' w') : ∀ (x : V) (v : Value), VR g H w x v → VR g' H' w' x v
  | .und, _, _ => by simp [VR]
  | .d x, v, h => by
    simp only [VR] at h ⊢
    exact DR_mono hz h
  | .slx nl l, v, h => by
    simp only [VR] at h ⊢
    obtain ⟨a, h1, h2, h3, h4⟩ := h
    refine ⟨a, h1, h2, h3, fun ad had => ?_⟩
    obtain ⟨h5, sz, h6⟩ := h4 ad had
    exact ⟨h5, sz, DCe_mono hz l _ _ _ h6⟩
  | .ptr id off, v, h => by
    simp only [VR] at h ⊢
    obtain ⟨b, cs, h0, h1, h2⟩ := h
    obtain ⟨⟨cs', h3, _⟩, h4⟩ := ha id _ h0
    exact ⟨b, cs', h3, h4.trans h1, h2⟩
  | .pp cs, v, h => by
    simp only [VR] at h ⊢
    obtain ⟨a, vs, h1, h2, h3, h4⟩ := h
    refine ⟨a, vs, h1, h2, fun j hj => ?_, DCs_mono hz _ _ h4⟩
    obtain ⟨z, e⟩ := h3 j hj
    obtain ⟨z', e'⟩ := hz _ _ z
    exact ⟨z', e'.trans e⟩
  | .ref id n lo len, v, h => by
    simp only [VR] at h ⊢
    obtain ⟨hs, sz, nl, els, h0, h1, h2⟩ := h
    obtain ⟨nl', els', h3, h4, h5⟩ := ha id _ h0
    refine ⟨hs, sz, nl', els', h3, Nat.le_trans h1 h4, fun he => ?_⟩
    obtain ⟨e1, e2, e3⟩ := h5 (by omega)
    obtain ⟨k1, k2⟩ := h2 (by omega)
    refine ⟨k1, ?_⟩
    rcases k2 with ⟨k3, k4, a, k5, k6⟩ | ⟨b, cap, vs, t, k3, k4, k5, k6, k7⟩
    · exact .inl ⟨⟨e2.trans k3.1, List.eq_nil_of_length_eq_zero (by rw [k3.2.1] at h1; simp at h1; omega), k3.2.2⟩, k4, a, k5, by rw [e1]; exact k6⟩
    · obtain ⟨vs', f1, f2⟩ := e3 b vs t k3 k5
      exact .inr ⟨b, cap, vs', t, e2.trans k3, k4, f1, k6, by omega⟩
  | .ep id n i off, v, h => by
    simp only [VR] at h ⊢
    obtain ⟨hs, sz, nl, els, h0, h1, h2⟩ := h
    obtain ⟨nl', els', h3, h4, h5⟩ := ha id _ h0
    refine ⟨hs, sz, nl', els', h3, Nat.le_trans h1 h4, fun he => ?_⟩
    obtain ⟨e1, e2, e3⟩ := h5 (by omega)
    obtain ⟨b, k3, k4⟩ := h2 (by omega)
    exact ⟨b, e2.trans k3, k4⟩
  | .csl id es len, v, h => by
    simp only [VR] at h ⊢
    obtain ⟨b, cs, cap, h0, h1, h2, h3⟩ := h
    obtain ⟨⟨cs', h4, h5⟩, h6⟩ := ha id _ h0
    exact ⟨b, cs', cap, h4, h6.trans h1, h5.trans h2, h3⟩
  | .obj id, v, h => by
    simp only [VR] at h ⊢
    obtain ⟨b, o, h0, h1, h2⟩ := h
    obtain ⟨⟨o', h3, h4⟩, h5⟩ := ha id _ h0
    exact ⟨b, o', h3, h5.trans h1, by rw [h4]; exact h2⟩
  | .fn f x y, v, h => by
    cases f with
    | yield id =>
      simp only [VR] at h ⊢
      obtain ⟨h1, h2, b, st, pend, E, ps, p, q, h3, h4, h5⟩ := h
      obtain ⟨⟨st', pend', k1⟩, k2⟩ := ha id _ h3
      exact ⟨h1, h2, b, st', pend', E, ps, p, q, k1, k2.trans h4, h5⟩
    | _ =>
      simp only [VR] at h ⊢
      obtain ⟨x', y', h1, h2, h3⟩ := h
      exact ⟨x', y', h1, VRs_mono hz ha x _ h2, VRs_mono hz ha y _ h3⟩
  | .agg l, v, h => by
    simp only [VR] at h ⊢
    obtain ⟨cs, h1, h2⟩ := h
    exact ⟨cs, h1, VRs_mono hz ha l _ h2⟩
  | .tup l, v, h => by
    simp only [VR] at h ⊢
    obtain ⟨cs, h1, h2⟩ := h
    exact ⟨cs, h1, VRs_mono hz ha l _ h2⟩
theorem VRs_mono (hz : Zk g.Z g'.Z w w') (ha : Ag g H w g' H' w') : ∀ (l : List V) (cs : List Value), VRs g H w l cs → VRs g' H' w' l cs
  | [], _, h => by simpa [VRs] using h
  | d :: ds, cs, h => by
    simp only [VRs] at h ⊢
    obtain ⟨c, r, h1, h2, h3⟩ := h
    exact ⟨c, r, h1, VR_mono hz ha d _ h2, VRs_mono hz ha ds r h3⟩
end

theorem MR_mono (hz : Zk g.Z g'.Z w w') : ∀ (es : List (D × D)) (k : Nat) (l : List MapEntry), MR w g.Z k es l → MR w' g'.Z k es l
  | [], _, _, h => h
  | p :: r, k, l, h => by
    obtain ⟨e, l', h1, h2, h3, h4, h5⟩ := h
    exact ⟨e, l', h1, h2, DR_mono hz h3, DR_mono hz h4, MR_mono hz r (k + 1) l' h5⟩
end
end Go.Aw
end

section
namespace Go.Aw
open Go

theorem getElem?_snoc {α : Type} {l : List α} {x y : α} {i : Nat} (h : (l ++ [x])[i]? = some y) : (i < l.length ∧ l[i]? = some y) ∨ (i = l.length ∧ x = y) := by
  rw [List.getElem?_append] at h
  split at h
  · rename_i hlt; exact .inl ⟨hlt, h⟩
  · rename_i hge
    have : i = l.length := by
      rcases Nat.lt_or_ge (i - l.length) 1 with h' | h'
      · omega
      · rw [List.getElem?_eq_none (by simpa using h')] at h; cases h
    subst this
    simp at h
    exact .inr ⟨rfl, h⟩

theorem getElem?_snoc_old {α : Type} {l : List α} {x y : α} {i : Nat} (h : l[i]? = some y) : (l ++ [x])[i]? = some y := by
  rw [List.getElem?_append_left (List.getElem?_eq_some_iff.1 h).1]; exact h

theorem lt_of_getElem? {α : Type} {l : List α} {y : α} {i : Nat} (h : l[i]? = some y) : i < l.length := (List.getElem?_eq_some_iff.1 h).1

theorem HR.lt {g : G} {H : Heap} {w : World} (h : HR g H w) {id b : Nat} (hp : g.φ[id]? = some (some b)) : b < w.heap.size := by
  have hlt : id < H.length := h.len ▸ lt_of_getElem? hp
  exact (h.blk id b H[id] hp (List.getElem?_eq_getElem hlt)).1

theorem HR.z_fr {g : G} {H : Heap} {w : World} (h : HR g H w) {id b o : Nat} (hp : g.φ[id]? = some (some b)) : ¬ g.Z b o := by
  have hlt : id < H.length := h.len ▸ lt_of_getElem? hp
  exact (h.blk id b H[id] hp (List.getElem?_eq_getElem hlt)).2.1 o

theorem alloc_heap (w : World) (o : Obj) (b : Nat) (h : b < w.heap.size) : (w.alloc o).heap[b]? = w.heap[b]? := Go.RowKit.Below.heap_alloc w o b h

theorem alloc_new (w : World) (o : Obj) : (w.alloc o).heap[w.heap.size]? = some o := by
  show (w.heap.push o)[w.heap.size]? = some o
  simp

theorem BR_mono {g g' : G} {H H' : Heap} {w w' : World} (hz : Zk g.Z g'.Z w w') (ha : Ag g H w g' H' w') {b : Nat} (hb : w'.heap[b]? = w.heap[b]?) {x : Blk} (h : BR g H w b x) : BR g' H' w' b x := by
  cases x with
  | cells cs =>
    obtain ⟨vs, t, h1, h2, h3⟩ := h
    exact ⟨vs, t, hb.trans h1, VRs_mono hz ha _ _ h2, h3⟩
  | arr sz nl els =>
    obtain ⟨h0, vs, t, h1, h2, h3⟩ := h
    exact ⟨h0, vs, t, hb.trans h1, h2, fun i x hx => ⟨(h3 i x hx).1, DC_mono hz _ _ (h3 i x hx).2⟩⟩
  | loop st pend E ps a c =>
    obtain ⟨r, h1, h2, h3, h4, h5, h6, h7⟩ := h
    exact ⟨r, hb.trans h1, h2, h3, h4, h5, h6, fun t => VR_mono hz ha _ _ (h7 t)⟩
  | obj o =>
    cases o with
    | map es =>
      obtain ⟨ents, h1, h2⟩ := h
      exact ⟨ents, hb.trans h1, MR_mono hz _ _ _ h2⟩
    | iter mid n seen =>
      obtain ⟨mb, es, sA, h1, h2, h3, h4⟩ := h
      obtain ⟨⟨o', k1, k2⟩, k3⟩ := ha mid _ h1
      cases o' with
      | map es' => exact ⟨mb, es', sA, k1, k3.trans h2, hb.trans h3, h4⟩
      | iter _ _ _ => simp [AObj.kind] at k2
      | sit _ _ => simp [AObj.kind] at k2
    | sit s p => exact hb.trans h

/-- A turn that leaves the heap alone. -/
theorem same_heap {g : G} {H : Heap} {w w' : World} (hh : w'.heap = w.heap) (ho : w'.os = w.os) (ht : w'.tape = w.tape) (hu : w'.output = w.output) (h : HR g H w) :
    HR g H w' ∧ Kp g w g w' ∧ Ag g H w g H w' := by
  have hc : ∀ a, w'.cell? a = w.cell? a := fun a => by unfold World.cell?; rw [hh]
  have hz : Zk g.Z g.Z w w' := fun b o z => ⟨z, hc _⟩
  have ha : Ag g H w g H w' := by
    intro id x hx
    cases x with
    | cells cs => exact ⟨⟨cs, hx, rfl⟩, rfl⟩
    | arr sz nl els => exact ⟨nl, els, hx, Nat.le_refl _, fun _ => ⟨rfl, rfl, fun b vs t _ h => ⟨vs, by rw [hh]; exact h, rfl⟩⟩⟩
    | loop st pend E ps a b => exact ⟨⟨st, pend, hx⟩, rfl⟩
    | obj o => exact ⟨⟨o, hx, rfl⟩, rfl⟩
  refine ⟨⟨h.len, fun b o z => by rw [hh]; exact h.zlt b o z, fun id b x hp hx => ?_, h.inj⟩, ⟨ho, ht, hu, by rw [hh]; exact Nat.le_refl _, fun b _ _ => by rw [hh], fun _ _ z => z, fun _ _ z => .inl z, fun id b hp => .inl hp⟩, ha⟩
  obtain ⟨h1, h2, h3⟩ := h.blk id b x hp hx
  exact ⟨by rw [hh]; exact h1, h2, BR_mono hz ha (by rw [hh]) h3⟩

/-- A new block of the abstract heap. -/
theorem alloc_blk {g : G} {H : Heap} {w : World} (h : HR g H w) (o : Obj) (x : Blk)
    (hx : ∀ g' w', Zk g.Z g'.Z w w' → Ag g H w g' (H ++ [x]) w' → w'.heap[w.heap.size]? = some o → g'.Z = g.Z → BR g' (H ++ [x]) w' w.heap.size x) :
    HR ⟨g.Z, g.φ ++ [some w.heap.size]⟩ (H ++ [x]) (w.alloc o) ∧ Kp g w ⟨g.Z, g.φ ++ [some w.heap.size]⟩ (w.alloc o) ∧ Ag g H w ⟨g.Z, g.φ ++ [some w.heap.size]⟩ (H ++ [x]) (w.alloc o) := by
  have hc : ∀ b o', g.Z b o' → (w.alloc o).cell? ⟨b, o', none⟩ = w.cell? ⟨b, o', none⟩ := fun b o' z => World.cell?_of_block (w := w) (alloc_heap w o b (h.zlt b o' z))
  have hz : Zk g.Z g.Z w (w.alloc o) := fun b o' z => ⟨z, hc b o' z⟩
  have hold : ∀ id : Nat, id < g.φ.length → (g.φ ++ [some w.heap.size])[id]? = g.φ[id]? := fun id hlt => List.getElem?_append_left hlt
  have ha : Ag g H w ⟨g.Z, g.φ ++ [some w.heap.size]⟩ (H ++ [x]) (w.alloc o) := by
    intro id y hy
    have hlt : id < g.φ.length := h.len ▸ lt_of_getElem? hy
    cases y with
    | cells cs => exact ⟨⟨cs, getElem?_snoc_old hy, rfl⟩, hold id hlt⟩
    | arr sz nl els => exact ⟨nl, els, getElem?_snoc_old hy, Nat.le_refl _, fun _ => ⟨rfl, hold id hlt, fun b vs t hb hv => ⟨vs, (alloc_heap w o b (h.lt hb)).trans hv, rfl⟩⟩⟩
    | loop st pend E ps a b => exact ⟨⟨st, pend, getElem?_snoc_old hy⟩, hold id hlt⟩
    | obj o => exact ⟨⟨o, getElem?_snoc_old hy, rfl⟩, hold id hlt⟩
  refine ⟨⟨by simp [h.len], fun b o' z => by simp; exact Nat.lt_succ_of_lt (h.zlt b o' z), fun id b y hp hy => ?_, fun i j b hi hj => ?_⟩,
    ⟨rfl, rfl, rfl, by simp, fun b hb _ => alloc_heap w o b hb, fun _ _ z => z, fun _ _ z => .inl z, fun id b hp => ?_⟩, ha⟩
  · rcases getElem?_snoc hp with ⟨hlt, hp'⟩ | ⟨hid, hb⟩
    · have hy' : H[id]? = some y := by
        rcases getElem?_snoc hy with ⟨_, h'⟩ | ⟨h', _⟩
        · exact h'
        · exact absurd h' (by rw [h.len] at hlt; omega)
      obtain ⟨h1, h2, h3⟩ := h.blk id b y hp' hy'
      exact ⟨by simp; omega, h2, BR_mono (g' := ⟨g.Z, g.φ ++ [some w.heap.size]⟩) hz ha (alloc_heap w o b h1) h3⟩
    · obtain rfl : w.heap.size = b := by simpa using hb
      have hxy : x = y := by
        rcases getElem?_snoc hy with ⟨h', _⟩ | ⟨_, h'⟩
        · exact absurd h' (by rw [hid, h.len]; omega)
        · exact h'
      subst hxy
      exact ⟨by simp, fun o' z => absurd (h.zlt _ o' z) (by omega), hx _ _ hz ha (alloc_new w o) rfl⟩
  · rcases getElem?_snoc hi with ⟨h1, h2⟩ | ⟨h1, h2⟩ <;> rcases getElem?_snoc hj with ⟨h3, h4⟩ | ⟨h3, h4⟩
    · exact h.inj i j b h2 h4
    · obtain rfl : w.heap.size = b := by simpa using h4
      exact absurd (h.lt h2) (by omega)
    · obtain rfl : w.heap.size = b := by simpa using h2
      exact absurd (h.lt h4) (by omega)
    · omega
  · rcases getElem?_snoc hp with ⟨_, h2⟩ | ⟨_, h2⟩
    · exact .inl h2
    · obtain rfl : w.heap.size = b := by simpa using h2
      exact .inr (Nat.le_refl _)

/-- A new row of the abstract heap that has no block yet: it is empty. -/
theorem alloc_nil {g : G} {H : Heap} {w : World} (h : HR g H w) (sz : Nat) (nl : Bool) :
    HR ⟨g.Z, g.φ ++ [none]⟩ (H ++ [.arr sz nl []]) w ∧ Kp g w ⟨g.Z, g.φ ++ [none]⟩ w ∧ Ag g H w ⟨g.Z, g.φ ++ [none]⟩ (H ++ [.arr sz nl []]) w := by
  have hz : Zk g.Z g.Z w w := fun b o' z => ⟨z, rfl⟩
  have hold : ∀ id : Nat, id < g.φ.length → (g.φ ++ [none])[id]? = g.φ[id]? := fun id hlt => List.getElem?_append_left hlt
  have ha : Ag g H w ⟨g.Z, g.φ ++ [none]⟩ (H ++ [.arr sz nl []]) w := by
    intro id y hy
    have hlt : id < g.φ.length := h.len ▸ lt_of_getElem? hy
    cases y with
    | cells cs => exact ⟨⟨cs, getElem?_snoc_old hy, rfl⟩, hold id hlt⟩
    | arr sz nl els => exact ⟨nl, els, getElem?_snoc_old hy, Nat.le_refl _, fun _ => ⟨rfl, hold id hlt, fun b vs t hb hv => ⟨vs, hv, rfl⟩⟩⟩
    | loop st pend E ps a b => exact ⟨⟨st, pend, getElem?_snoc_old hy⟩, hold id hlt⟩
    | obj o => exact ⟨⟨o, getElem?_snoc_old hy, rfl⟩, hold id hlt⟩
  have old : ∀ id b : Nat, (g.φ ++ [none])[id]? = some (some b) → g.φ[id]? = some (some b) := fun id b hp => by
    rcases getElem?_snoc hp with ⟨_, h'⟩ | ⟨_, h'⟩
    · exact h'
    · cases h'
  refine ⟨⟨by simp [h.len], h.zlt, fun id b y hp hy => ?_, fun i j b hi hj => h.inj i j b (old i b hi) (old j b hj)⟩,
    ⟨rfl, rfl, rfl, Nat.le_refl _, fun b hb _ => rfl, fun _ _ z => z, fun _ _ z => .inl z, fun id b hp => .inl (old id b hp)⟩, ha⟩
  · have hp' := old id b hp
    have hy' : H[id]? = some y := by
      rcases getElem?_snoc hy with ⟨_, h'⟩ | ⟨h', _⟩
      · exact h'
      · exact absurd h' (by have := lt_of_getElem? hp'; rw [h.len] at this; omega)
    obtain ⟨h1, h2, h3⟩ := h.blk id b y hp' hy'
    exact ⟨h1, h2, BR_mono (g' := ⟨g.Z, g.φ ++ [none]⟩) hz ha rfl h3⟩

/-- A new block whose cells are never written again. -/
theorem alloc_frozen {g : G} {H : Heap} {w : World} (h : HR g H w) (o : Obj) :
    HR ⟨fun b i => g.Z b i ∨ b = w.heap.size, g.φ⟩ H (w.alloc o) ∧ Kp g w ⟨fun b i => g.Z b i ∨ b = w.heap.size, g.φ⟩ (w.alloc o) ∧ Ag g H w ⟨fun b i => g.Z b i ∨ b = w.heap.size, g.φ⟩ H (w.alloc o) := by
  have hz : Zk g.Z (fun b i => g.Z b i ∨ b = w.heap.size) w (w.alloc o) := fun b o' z => ⟨.inl z, World.cell?_of_block (w := w) (alloc_heap w o b (h.zlt b o' z))⟩
  have ha : Ag g H w ⟨fun b i => g.Z b i ∨ b = w.heap.size, g.φ⟩ H (w.alloc o) := by
    intro id y hy
    cases y with
    | cells cs => exact ⟨⟨cs, hy, rfl⟩, rfl⟩
    | arr sz nl els => exact ⟨nl, els, hy, Nat.le_refl _, fun _ => ⟨rfl, rfl, fun b vs t hb hv => ⟨vs, (alloc_heap w o b (h.lt hb)).trans hv, rfl⟩⟩⟩
    | loop st pend E ps a b => exact ⟨⟨st, pend, hy⟩, rfl⟩
    | obj o => exact ⟨⟨o, hy, rfl⟩, rfl⟩
  refine ⟨⟨h.len, fun b o' z => ?_, fun id b y hp hy => ?_, h.inj⟩,
    ⟨rfl, rfl, rfl, by simp, fun b hb _ => alloc_heap w o b hb, fun _ _ z => .inl z, fun b o' z => ?_, fun id b hp => .inl hp⟩, ha⟩
  · rcases z with z | z
    · simp; exact Nat.lt_succ_of_lt (h.zlt b o' z)
    · simp [z]
  · obtain ⟨h1, h2, h3⟩ := h.blk id b y hp hy
    refine ⟨by simp; omega, fun o' z => ?_, BR_mono hz ha (alloc_heap w o b h1) h3⟩
    rcases z with z | z
    · exact h2 o' z
    · omega
  · rcases z with z | z
    · exact .inl z
    · exact .inr (.inl (by omega))

/-- A turn of one block of the abstract heap, which stays of its kind. -/
theorem set_blk {g : G} {H : Heap} {w : World} (h : HR g H w) {id b : Nat} (hp : g.φ[id]? = some (some b)) {x x' : Blk} (hx : H[id]? = some x) {o' : Obj} {w' : World}
    (hos : w'.os = w.os) (ht : w'.tape = w.tape) (hu : w'.output = w.output) (hsz : w'.heap.size = w.heap.size)
    (hb : w'.heap[b]? = some o') (hoth : ∀ k, k ≠ b → w'.heap[k]? = w.heap[k]?)
    (hkind : match x, x' with
      | .cells cs, .cells cs' => cs'.length = cs.length
      | .arr sz nl els, .arr sz' nl' els' => sz' = sz ∧ nl' = nl ∧ els'.length = els.length ∧ ∀ vs t, w.heap[b]? = some (.cells vs t (0, 0)) → ∃ vs', o' = .cells vs' t (0, 0) ∧ vs'.size = vs.size
      | .loop _ _ E ps y z, .loop _ _ E' ps' y' z' => E' = E ∧ ps' = ps ∧ y' = y ∧ z' = z
      | .obj o, .obj o' => o'.kind = o.kind
      | _, _ => False)
    (hbr : Zk g.Z g.Z w w' → Ag g H w g (H.set id x') w' → BR g (H.set id x') w' b x') :
    HR g (H.set id x') w' ∧ Kp g w g w' ∧ Ag g H w g (H.set id x') w' := by
  have hz : Zk g.Z g.Z w w' := fun k o z => ⟨z, World.cell?_of_block (w := w) (hoth k (fun e => h.z_fr hp (e ▸ z)))⟩
  have hlt := lt_of_getElem? hx
  have hset : (H.set id x')[id]? = some x' := by rw [List.getElem?_set_self hlt]
  have hne : ∀ j, j ≠ id → (H.set id x')[j]? = H[j]? := fun j hj => List.getElem?_set_ne (fun e => hj e.symm)
  have ha : Ag g H w g (H.set id x') w' := by
    intro j y hy
    by_cases hj : j = id
    · subst hj
      rw [hx] at hy; cases hy
      cases x with
      | cells cs =>
        cases x' with
        | cells cs' => exact ⟨⟨cs', hset, hkind⟩, rfl⟩
        | _ => exact absurd hkind (by simp)
      | arr sz nl els =>
        cases x' with
        | arr sz' nl' els' =>
          obtain ⟨rfl, rfl, hl, hv⟩ := hkind
          refine ⟨_, els', hset, by omega, fun _ => ⟨rfl, rfl, fun b' vs t hb' hw => ?_⟩⟩
          rw [hp] at hb'; cases hb'
          obtain ⟨vs', e1, e2⟩ := hv vs t hw
          exact ⟨vs', by rw [hb, e1], e2⟩
        | _ => exact absurd hkind (by simp)
      | loop st pend E ps y z =>
        cases x' with
        | loop st' pend' E' ps' y' z' =>
          obtain ⟨rfl, rfl, rfl, rfl⟩ := hkind
          exact ⟨⟨st', pend', hset⟩, rfl⟩
        | _ => exact absurd hkind (by simp)
      | obj o =>
        cases x' with
        | obj o' => exact ⟨⟨o', hset, hkind⟩, rfl⟩
        | _ => exact absurd hkind (by simp)
    · cases y with
      | cells cs => exact ⟨⟨cs, (hne j hj).trans hy, rfl⟩, rfl⟩
      | arr sz nl els =>
        refine ⟨nl, els, (hne j hj).trans hy, Nat.le_refl _, fun _ => ⟨rfl, rfl, fun b' vs t hb' hw => ⟨vs, ?_, rfl⟩⟩⟩
        rw [hoth b' (fun e => hj (h.inj j id b (e ▸ hb') hp))]; exact hw
      | loop st pend E ps y z => exact ⟨⟨st, pend, (hne j hj).trans hy⟩, rfl⟩
      | obj o => exact ⟨⟨o, (hne j hj).trans hy, rfl⟩, rfl⟩
  refine ⟨⟨by simp [h.len], fun k o z => by rw [hsz]; exact h.zlt k o z, fun j b' y hb' hy => ?_, h.inj⟩,
    ⟨hos, ht, hu, by omega, fun k _ hn => hoth k (fun e => hn id (e ▸ hp)), fun _ _ z => z, fun _ _ z => .inl z, fun j b' hb' => .inl hb'⟩, ha⟩
  · by_cases hj : j = id
    · subst hj
      rw [hp] at hb'; cases hb'
      rw [hset] at hy; cases hy
      exact ⟨by rw [hsz]; exact h.lt hp, fun o => h.z_fr hp, hbr hz ha⟩
    · rw [hne j hj] at hy
      obtain ⟨h1, h2, h3⟩ := h.blk j b' y hb' hy
      exact ⟨by rw [hsz]; exact h1, h2, BR_mono hz ha (hoth b' (fun e => hj (h.inj j id b (e ▸ hb') hp))) h3⟩

end Go.Aw
end

section
namespace Go.Aw
open Go

theorem add_eq {a : Addr} (h : a.spot = none) (n : Nat) : a.add n = ⟨a.block, a.off + n, none⟩ := by
  unfold Addr.add
  split
  · rename_i h0; subst h0; cases a; simp_all
  · rfl

theorem run_loadCellsFrom {P : Program} {w : World} {a : Addr} (hs : a.spot = none) : ∀ (vs : List Value) (i : Nat) (acc : Array Value),
    (∀ j, j < vs.length → w.cell? ⟨a.block, a.off + (i + j), none⟩ = vs[j]?) → (loadCellsFrom a i vs.length acc).run P w = .ok (acc ++ vs.toArray) w
  | [], i, acc, _ => by simp [loadCellsFrom]
  | v :: vs, i, acc, h => by
    have h0 := h 0 (by simp)
    have ih := run_loadCellsFrom (P := P) (w := w) hs vs (i + 1) (acc.push v) (fun j hj => by
      have := h (j + 1) (by simp; omega)
      rw [show a.off + (i + 1 + j) = a.off + (i + (j + 1)) by omega]
      simpa using this)
    simp only [List.length_cons, loadCellsFrom, Sem.run_bind, run_load, add_eq hs]
    rw [show a.off + i = a.off + (i + 0) by omega, h0]
    simp only [List.getElem?_cons_zero, Result.andThen_ok]
    rw [ih]
    simp

theorem run_loadCells {P : Program} {w : World} {a : Addr} (hs : a.spot = none) (vs : List Value)
    (h : ∀ j, j < vs.length → w.cell? ⟨a.block, a.off + j, none⟩ = vs[j]?) : (loadCells a vs.length).run P w = .ok vs.toArray w := by
  unfold loadCells
  rw [run_loadCellsFrom hs vs 0 #[] (fun j hj => by simpa using h j hj)]
  simp

theorem cell_of_block {w : World} {b : Nat} {vs : Array Value} {t : TypeId} {f : Nat × Nat} (h : w.heap[b]? = some (.cells vs t f)) (o : Nat) : w.cell? ⟨b, o, none⟩ = vs[o]? := by
  simp [World.cell?, h]

theorem frozen_of_block {w : World} {b : Nat} {vs : Array Value} {t : TypeId} (h : w.heap[b]? = some (.cells vs t (0, 0))) (o : Nat) : w.frozen? ⟨b, o, none⟩ = false := by
  simp [World.frozen?, h]

theorem setCell_heap_self {w : World} {b o : Nat} {v : Value} {vs : Array Value} {t : TypeId} {f : Nat × Nat} (h : w.heap[b]? = some (.cells vs t f)) :
    (w.setCell ⟨b, o, none⟩ v).heap[b]? = some (.cells (vs.setIfInBounds o v) t f) := by
  simp only [World.setCell]
  rw [Array.getElem?_modify]
  simp [h]

theorem setCell_heap_other {w : World} {b o k : Nat} {v : Value} (h : k ≠ b) : (w.setCell ⟨b, o, none⟩ v).heap[k]? = w.heap[k]? :=
  Go.RowKit.Below.heap_setCell w ⟨b, o, none⟩ v k h

theorem splice_cons {α : Type} (cs : List α) (off : Nat) (v : α) (vs : List α) (h : off < cs.length) : splice (cs.set off v) (off + 1) vs = splice cs off (v :: vs) := by
  unfold splice
  rw [List.take_set, List.drop_set_of_lt (by omega)]
  have e : (cs.take (off + 1)).set off v = cs.take off ++ [v] := by
    rw [List.take_succ_eq_append_getElem h, List.set_append_right _ _ (by simp; omega)]
    simp [List.length_take, Nat.min_eq_left (Nat.le_of_lt h)]
  rw [e, show off + 1 + vs.length = off + (v :: vs).length by simp; omega]
  simp

/-- What a run of stores leaves: one row of cells has turned. -/
structure Stored (w w' : World) (b : Nat) (vs' : List Value) (t : TypeId) : Prop where
  os : w'.os = w.os
  tape : w'.tape = w.tape
  out : w'.output = w.output
  size : w'.heap.size = w.heap.size
  self : ∃ a : Array Value, w'.heap[b]? = some (.cells a t (0, 0)) ∧ a.toList = vs'
  oth : ∀ k, k ≠ b → w'.heap[k]? = w.heap[k]?

theorem run_storeCells {P : Program} {a : Addr} (hs : a.spot = none) {t : TypeId} : ∀ (vs : List Value) (i : Nat) (w : World) (cs : Array Value),
    (∀ v ∈ vs, v.oneCell' = true) → w.heap[a.block]? = some (.cells cs t (0, 0)) → a.off + i + vs.length ≤ cs.size →
    ∃ w', (Go.storeCells a vs i).run P w = .ok () w' ∧ Stored w w' a.block (splice cs.toList (a.off + i) vs) t
  | [], i, w, cs, _, hb, _ => ⟨w, by simp [Go.storeCells], rfl, rfl, rfl, rfl, ⟨cs, hb, by simp [splice]⟩, fun _ _ => rfl⟩
  | v :: vs, i, w, cs, ho, hb, hl => by
    simp only [List.length_cons] at hl
    have hlt : a.off + i < cs.size := by omega
    obtain ⟨w', h1, h2⟩ := run_storeCells hs vs (i + 1) (w.setCell ⟨a.block, a.off + i, none⟩ v) (cs.setIfInBounds (a.off + i) v)
      (fun x hx => ho x (List.mem_cons_of_mem _ hx)) (setCell_heap_self hb) (by simp; omega)
    refine ⟨w', ?_, h2.os, h2.tape, h2.out, by rw [h2.size]; simp, ?_, fun k hk => (h2.oth k hk).trans (setCell_heap_other hk)⟩
    · simp only [Go.storeCells, Sem.run_bind, add_eq hs]
      rw [run_store P w ⟨a.block, a.off + i, none⟩ v .plain (ho v List.mem_cons_self), cell_of_block hb, frozen_of_block hb, Array.getElem?_eq_getElem hlt]
      simp only [Bool.false_eq_true, if_false, Result.andThen_ok]
      exact h1
    · obtain ⟨x, h3, h4⟩ := h2.self
      refine ⟨x, h3, ?_⟩
      rw [h4, Array.toList_setIfInBounds, ← Nat.add_assoc, splice_cons _ _ _ _ (by simpa using hlt)]

end Go.Aw
end

section
namespace Go.Aw
open Go

def scal : TypeDesc → Bool
  | .struct _ | .array _ _ => false
  | _ => true

/-- '==' at a type of structs or arrays compares the cells. -/
def EqOK (P : Program) (t : TypeId) (z : List D) : Prop :=
  P.eqGuardType P.depth t = false ∧ ∀ w Z ds es xs ys b, like z ds = true → DCs w Z ds xs → DCs w Z es ys → aeqs ds es = some b → (Op.equal t (.agg xs.toArray) (.agg ys.toArray)).run P w = .ok b w

def TyOK (P : Program) (t : TypeId) : Ty → Prop
  | .no => True
  | .sc z => ∃ i d zv, P.info? t = some i ∧ i.size = 1 ∧ i.zero = some zv ∧ P.underlying t = some d ∧ scal d = true ∧ (∀ w Z, DR w Z z zv) ∧ (V.d z).one = true ∧ (∀ k n, z = .int k n → d = .int k) ∧
      (∀ b, z = .bool b → d = .bool) ∧ (z = .nilp → ∃ e, d = .pointer e) ∧ (z = .nilf → ∃ a b c, d = .func a b c) ∧ (∀ x, z = .str x → d = .string)
  | .st n fs z cmp => (cmp = true → EqOK P t z) ∧ ∃ i zs fields, P.info? t = some i ∧ i.size = n ∧ i.zero = some (.agg zs) ∧ P.underlying t = some (.struct fields) ∧ ((∀ w Z, DCs w Z z zs.toList) ∧ ∀ g H w, VRs g H w (zst z) zs.toList) ∧ z.length = n ∧
      (∀ x ∈ z, (V.d x).one = true) ∧ fs.length = fields.size ∧ ∀ (k : Nat) f, fields[k]? = some f → ∃ j, P.info? f.type = some j ∧ fs[k]? = some (f.offset, j.size, f.type) ∧ j.size ≠ 0
  | .ar len es el z cmp => (cmp = true → EqOK P t z) ∧ ∃ i zs e j, P.info? t = some i ∧ i.size = len * es ∧ i.zero = some (.agg zs) ∧ P.underlying t = some (.array len e) ∧ (e = el ∧ P.info? e = some j) ∧ j.size = es ∧
      (∀ w Z, DCs w Z z zs.toList) ∧ z.length = len * es ∧ ∀ x ∈ z, (V.d x).one = true
  | .sl es z => ∃ i e j zv, P.info? t = some i ∧ i.size = 1 ∧ i.zero = some (.slice none 0 0) ∧ P.underlying t = some (.slice e) ∧ P.info? e = some j ∧ j.size = es ∧ 1 ≤ es ∧ j.bytes ≤ 4096 ∧
      j.zero = some zv ∧ ((∀ w Z, DC w Z z zv.cells.toList) ∧ ∀ g H w, VRs g H w (zcells z) zv.cells.toList) ∧ (dcells z).length = es

  | .mp kz z => (∃ kt et kd j zv, P.underlying t = some (.map kt et) ∧ P.underlying kt = some kd ∧ P.info? et = some j ∧ j.zero = some zv ∧ (∀ w Z, DR w Z z zv) ∧
      ((∀ i n, kz = .int i n → kd = .int i) ∧ (∀ s, kz = .str s → kd = .string) ∧ ∀ b, kz = .bool b → kd = .bool)) ∧ ∃ i, P.info? t = some i ∧ i.size = 1 ∧ i.zero = some (.map none)

def TOK (P : Program) (T : Nat → Ty) : Prop := ∀ t, TyOK P t (T t)

section
variable {P : Program} {w : World}

theorem run_underlying {t : TypeId} {d : TypeDesc} (h : P.underlying t = some d) : (underlying t).run P w = .ok d w := by
  simp [underlying, h]

theorem run_typeInfo {t : TypeId} {i : TypeInfo} (h : P.info? t = some i) : (typeInfo t).run P w = .ok i w := by
  simp [typeInfo, h]

theorem run_sizeOf {t : TypeId} {i : TypeInfo} (h : P.info? t = some i) : (sizeOf t).run P w = .ok i.size w := by
  simp [sizeOf, run_typeInfo h]

theorem run_zeroValue {t : TypeId} {i : TypeInfo} {z : Value} (h : P.info? t = some i) (hz : i.zero = some z) : (zeroValue t).run P w = .ok z w := by
  simp [zeroValue, run_typeInfo h, hz]

theorem run_isAgg_true {t : TypeId} {d : TypeDesc} (h : P.underlying t = some d) (hd : scal d = false) : (isAgg t).run P w = .ok true w := by
  unfold isAgg
  simp only [Sem.run_bind, run_underlying h, Result.andThen_ok]
  cases d <;> first | rfl | (simp [scal] at hd)

theorem run_isAgg_false {t : TypeId} {d : TypeDesc} (h : P.underlying t = some d) (hd : scal d = true) : (isAgg t).run P w = .ok false w := by
  unfold isAgg
  simp only [Sem.run_bind, run_underlying h, Result.andThen_ok]
  cases d <;> first | rfl | (simp [scal] at hd)
end

theorem DCs_length {w : World} {Z : Nat → Nat → Prop} : ∀ (l : List D) (cs : List Value), DCs w Z l cs → cs.length = l.length
  | [], cs, h => by simp [DCs] at h; simp [h]
  | d :: ds, cs, h => by
    simp only [DCs] at h
    obtain ⟨c, r, rfl, _, h3⟩ := h
    simp [DCs_length ds r h3]

theorem VRs_length {g : G} {H : Heap} {w : World} : ∀ (l : List V) (cs : List Value), VRs g H w l cs → cs.length = l.length
  | [], cs, h => by simp [VRs] at h; simp [h]
  | d :: ds, cs, h => by
    simp only [VRs] at h
    obtain ⟨c, r, rfl, _, h3⟩ := h
    simp [VRs_length ds r h3]

theorem DC_length {w : World} {Z : Nat → Nat → Prop} {x : D} {cs : List Value} (h : DC w Z x cs) : cs.length = (dcells x).length := by
  cases x with
  | agg l => simp only [DC] at h; simp [dcells, DCs_length l cs h]
  | sl l => simp only [DC] at h; obtain ⟨a, len, cap, rfl, _⟩ := h; simp [dcells]
  | _ => simp only [DC] at h; simp [h, dcells]

theorem DCs_drop {w : World} {Z : Nat → Nat → Prop} : ∀ (n : Nat) (l : List D) (cs : List Value), DCs w Z l cs → DCs w Z (l.drop n) (cs.drop n)
  | 0, _, _, h => by simpa using h
  | n + 1, [], cs, h => by simp [DCs] at h; simp [h, DCs]
  | n + 1, d :: ds, cs, h => by
    simp only [DCs] at h
    obtain ⟨c, r, rfl, _, h3⟩ := h
    simpa using DCs_drop n ds r h3

theorem DCs_take {w : World} {Z : Nat → Nat → Prop} : ∀ (n : Nat) (l : List D) (cs : List Value), DCs w Z l cs → DCs w Z (l.take n) (cs.take n)
  | 0, _, _, _ => by simp [DCs]
  | n + 1, [], cs, h => by simp [DCs] at h; simp [h, DCs]
  | n + 1, d :: ds, cs, h => by
    simp only [DCs] at h
    obtain ⟨c, r, rfl, h2, h3⟩ := h
    simp only [List.take_succ_cons, DCs]
    exact ⟨c, _, rfl, h2, DCs_take n ds r h3⟩

theorem VRs_drop {g : G} {H : Heap} {w : World} : ∀ (n : Nat) (l : List V) (cs : List Value), VRs g H w l cs → VRs g H w (l.drop n) (cs.drop n)
  | 0, _, _, h => by simpa using h
  | n + 1, [], cs, h => by simp [VRs] at h; simp [h, VRs]
  | n + 1, d :: ds, cs, h => by
    simp only [VRs] at h
    obtain ⟨c, r, rfl, _, h3⟩ := h
    simpa using VRs_drop n ds r h3

theorem VRs_take {g : G} {H : Heap} {w : World} : ∀ (n : Nat) (l : List V) (cs : List Value), VRs g H w l cs → VRs g H w (l.take n) (cs.take n)
  | 0, _, _, _ => by simp [VRs]
  | n + 1, [], cs, h => by simp [VRs] at h; simp [h, VRs]
  | n + 1, d :: ds, cs, h => by
    simp only [VRs] at h
    obtain ⟨c, r, rfl, h2, h3⟩ := h
    simp only [List.take_succ_cons, VRs]
    exact ⟨c, _, rfl, h2, VRs_take n ds r h3⟩

theorem VRs_append {g : G} {H : Heap} {w : World} : ∀ (l : List V) (cs : List Value) (l' : List V) (cs' : List Value), VRs g H w l cs → VRs g H w l' cs' → VRs g H w (l ++ l') (cs ++ cs')
  | [], cs, l', cs', h, h' => by simp [VRs] at h; simpa [h] using h'
  | d :: ds, cs, l', cs', h, h' => by
    simp only [VRs] at h
    obtain ⟨c, r, rfl, h2, h3⟩ := h
    simp only [List.cons_append, VRs]
    exact ⟨c, _, rfl, h2, VRs_append ds r l' cs' h3 h'⟩

theorem DCs_append {w : World} {Z : Nat → Nat → Prop} : ∀ (l : List D) (cs : List Value) (l' : List D) (cs' : List Value), DCs w Z l cs → DCs w Z l' cs' → DCs w Z (l ++ l') (cs ++ cs')
  | [], cs, l', cs', h, h' => by simp [DCs] at h; simpa [h] using h'
  | d :: ds, cs, l', cs', h, h' => by
    simp only [DCs] at h
    obtain ⟨c, r, rfl, h2, h3⟩ := h
    simp only [List.cons_append, DCs]
    exact ⟨c, _, rfl, h2, DCs_append ds r l' cs' h3 h'⟩

/-- A datum of one cell. -/
theorem DR_one {w : World} {Z : Nat → Nat → Prop} {x : D} {v : Value} (h1 : (V.d x).one = true) : DR w Z x v ↔ DC w Z x [v] := by
  cases x <;> first | exact Iff.rfl | (simp [V.one] at h1)

theorem one_cell {w : World} {Z : Nat → Nat → Prop} {x : D} {v : Value} (h1 : (V.d x).one = true) (h : DR w Z x v) : v.oneCell' = true := by
  cases x with
  | agg l => simp [V.one] at h1
  | sl l => simp only [DR, DC] at h; obtain ⟨a, len, cap, h, _⟩ := h; simp at h; simp [h, Value.oneCell']
  | _ => simp only [DR, DC] at h; simp at h; simp [h, Value.oneCell']

theorem VR_one_cell {g : G} {H : Heap} {w : World} {x : V} {v : Value} (h1 : x.one = true) (h : VR g H w x v) : v.oneCell' = true := by
  cases x with
  | und => simp [V.one] at h1
  | d x => simp only [VR] at h; exact one_cell h1 h
  | slx nl l => simp only [VR] at h; obtain ⟨a, h, _⟩ := h; simp [h, Value.oneCell']
  | ptr id off => simp only [VR] at h; obtain ⟨_, _, _, _, h⟩ := h; simp [h, Value.oneCell']
  | pp cs => simp only [VR] at h; obtain ⟨_, _, h, _⟩ := h; simp [h, Value.oneCell']
  | ref id n lo len => simp only [VR] at h; obtain ⟨⟨_, _, _, h⟩, _⟩ := h; simp [h, Value.oneCell']
  | ep id n i off => simp only [VR] at h; obtain ⟨⟨_, h, _⟩, _⟩ := h; simp [h, Value.oneCell']
  | csl id es len => simp only [VR] at h; obtain ⟨_, _, _, _, _, _, h, _⟩ := h; simp [h, Value.oneCell']
  | obj id => simp only [VR] at h; obtain ⟨_, o, _, _, h⟩ := h; cases o <;> simp [h, AObj.kind, Value.oneCell']
  | fn f a b =>
    cases f <;> simp only [VR] at h <;> first
      | (obtain ⟨_, _, h, _⟩ := h; simp [h, Value.oneCell']; done)
      | (obtain ⟨_, _, _, _, _, _, _, _, _, _, _, h⟩ := h; simp [h, Value.oneCell']; done)
  | agg l => simp [V.one] at h1
  | tup l => simp [V.one] at h1

/-- A value of one cell lies in its cell. -/
theorem cells_one {v : Value} (h : v.oneCell' = true) : v.cells.toList = [v] := by
  cases v <;> first | rfl | (simp [Value.oneCell'] at h)

theorem toDs_sound {g : G} {H : Heap} {w : World} : ∀ (l : List V) (ds : List D) (cs : List Value), toDs l = some ds → (∀ c ∈ l, c.one = true) → VRs g H w l cs → DCs w g.Z ds cs ∧ ∀ x ∈ ds, (V.d x).one = true
  | [], ds, cs, h, _, hv => by
    simp [toDs] at h; subst h
    simp [VRs] at hv; subst hv
    exact ⟨rfl, by simp⟩
  | v :: r, ds, cs, h, ho, hv => by
    simp only [toDs] at h
    split at h
    · rename_i x l hx hl
      simp at h; subst h
      simp only [VRs] at hv
      obtain ⟨c, cs', rfl, h2, h3⟩ := hv
      obtain ⟨h4, h5⟩ := toDs_sound r l cs' hl (fun c hc => ho c (List.mem_cons_of_mem _ hc)) h3
      have hone := ho v List.mem_cons_self
      cases v with
      | d y =>
        simp [toD] at hx; subst hx
        simp only [VR] at h2
        exact ⟨⟨c, cs', rfl, (DR_one hone).1 h2, h4⟩, fun z hz => by
          rcases List.mem_cons.1 hz with rfl | hz
          · exact hone
          · exact h5 z hz⟩
      | slx nl l' =>
        simp [toD] at hx; subst hx
        simp only [VR] at h2
        obtain ⟨a, k1, k2, k3, k4⟩ := h2
        refine ⟨⟨c, cs', rfl, ?_, h4⟩, fun z hz => by
          rcases List.mem_cons.1 hz with rfl | hz
          · rfl
          · exact h5 z hz⟩
        simp only [DC]
        refine ⟨a, _, _, by rw [k1], rfl, Nat.le_refl _, fun ha => ?_, k4⟩
        simp [k3 ha]
      | _ => simp [toD] at hx
    · cases h

theorem norm_sound {g : G} {H : Heap} {w : World} {l : List V} {cs : List Value} (ho : ∀ c ∈ l, c.one = true) (h : VRs g H w l cs) : VR g H w (norm l) (.agg cs.toArray) := by
  unfold norm
  split
  · rename_i ds hds
    simp only [VR, DR]
    exact ⟨_, rfl, by simpa using (toDs_sound l ds cs hds ho h).1⟩
  · simp only [VR]
    exact ⟨_, rfl, by simpa using h⟩

/-- A load out of memory that is never written again. -/
theorem loadD_sound {P : Program} {w : World} {Z : Nat → Nat → Prop} {t : TypeId} {ty : Ty} (hty : TyOK P t ty) {cs : List D} {vs : List Value} (hc : DCs w Z cs vs) {a : Addr} (hs : a.spot = none)
    (hv : ∀ j, j < cs.length → w.cell? ⟨a.block, a.off + j, none⟩ = vs[j]?) {r : D} (h : loadD ty cs = some r) : ∃ v, (loadVar t a).run P w = .ok v w ∧ DR w Z r v := by
  have hlen := DCs_length cs vs hc
  have agg : ∀ (n : Nat) (i : TypeInfo) (d : TypeDesc), P.info? t = some i → i.size = n → P.underlying t = some d → scal d = false → n ≤ cs.length → r = .agg (cs.take n) → ∃ v, (loadVar t a).run P w = .ok v w ∧ DR w Z r v := by
    intro n i d hi hn hd hsc hle hr
    have hl : (vs.take n).length = n := by simp; omega
    have hload := run_loadCells (P := P) (w := w) hs (vs.take n) (fun j hj => by
      rw [hl] at hj
      rw [hv j (by omega), List.getElem?_take_of_lt hj])
    rw [hl] at hload
    refine ⟨.agg (vs.take n).toArray, ?_, ?_⟩
    · simp [loadVar, run_isAgg_true hd hsc, run_sizeOf hi, hn, hload]
    · rw [hr]
      exact ⟨_, rfl, by simpa using DCs_take n cs vs hc⟩
  have one : ∀ (d : TypeDesc), P.underlying t = some d → scal d = true → (∃ c l, cs = c :: l ∧ (V.d c).one = true ∧ r = c) → ∃ v, (loadVar t a).run P w = .ok v w ∧ DR w Z r v := by
    rintro d hd hsc ⟨c, l, rfl, h1, rfl⟩
    simp only [DCs] at hc
    obtain ⟨v, vs', rfl, h2, _⟩ := hc
    refine ⟨v, ?_, (DR_one h1).2 h2⟩
    have := hv 0 (by simp)
    have ha : (⟨a.block, a.off + 0, none⟩ : Addr) = a := by
      obtain ⟨b, o, s⟩ := a
      simp only at hs
      subst hs
      rfl
    rw [ha] at this
    simp [loadVar, run_isAgg_false hd hsc, this]
  have shape : ∀ c, headD cs = some c → ∃ l, cs = c :: l ∧ (V.d c).one = true := by
    intro c hc'
    cases cs with
    | nil => simp [headD] at hc'
    | cons x l => cases x <;> simp [headD] at hc' <;> subst hc' <;> exact ⟨l, rfl, rfl⟩
  cases ty with
  | no => simp [loadD] at h
  | sc z =>
    obtain ⟨i, d, zv, _, _, _, hd, hsc, _⟩ := hty
    obtain ⟨l, h1, h2⟩ := shape r h
    exact one d hd hsc ⟨r, l, h1, h2, rfl⟩
  | st n fs z cmp =>
    obtain ⟨_, i, zs, fields, hi, hn, _, hd, _⟩ := hty
    simp only [loadD] at h
    split at h
    · rename_i hle
      exact agg n i _ hi hn hd rfl hle (by simpa using h.symm)
    · cases h
  | ar len es el z cmp =>
    obtain ⟨_, i, zs, e, j, hi, hn, _, hd, _⟩ := hty
    simp only [loadD] at h
    split at h
    · rename_i hle
      exact agg (len * es) i _ hi hn hd rfl hle (by simpa using h.symm)
    · cases h
  | sl es z =>
    obtain ⟨i, e, j, zv, _, _, _, hd, _⟩ := hty
    obtain ⟨l, h1, h2⟩ := shape r h
    exact one _ hd rfl ⟨r, l, h1, h2, rfl⟩
  | mp kz z =>
    obtain ⟨⟨kt, et, kd, j, zv, hd, _⟩, _⟩ := hty
    obtain ⟨l, h1, h2⟩ := shape r h
    exact one _ hd rfl ⟨r, l, h1, h2, rfl⟩

/-- A load out of the abstract heap's cells. -/
theorem loadV_sound {P : Program} {w : World} {g : G} {H : Heap} {t : TypeId} {ty : Ty} (hty : TyOK P t ty) {cs : List V} {vs : List Value} (hc : VRs g H w cs vs) (ho : ∀ c ∈ cs, c.one = true) {a : Addr} (hs : a.spot = none)
    (hv : ∀ j, j < cs.length → w.cell? ⟨a.block, a.off + j, none⟩ = vs[j]?) {r : V} (h : loadV ty cs = some r) : ∃ v, (loadVar t a).run P w = .ok v w ∧ VR g H w r v := by
  have hlen := VRs_length cs vs hc
  have agg : ∀ (n : Nat) (i : TypeInfo) (d : TypeDesc), P.info? t = some i → i.size = n → P.underlying t = some d → scal d = false → n ≤ cs.length → r = norm (cs.take n) → ∃ v, (loadVar t a).run P w = .ok v w ∧ VR g H w r v := by
    intro n i d hi hn hd hsc hle hr
    have hl : (vs.take n).length = n := by simp; omega
    have hload := run_loadCells (P := P) (w := w) hs (vs.take n) (fun j hj => by
      rw [hl] at hj
      rw [hv j (by omega), List.getElem?_take_of_lt hj])
    rw [hl] at hload
    refine ⟨.agg (vs.take n).toArray, ?_, ?_⟩
    · simp [loadVar, run_isAgg_true hd hsc, run_sizeOf hi, hn, hload]
    · rw [hr]
      exact norm_sound (fun c hc' => ho c (List.mem_of_mem_take hc')) (VRs_take n cs vs hc)
  have one : ∀ (d : TypeDesc), P.underlying t = some d → scal d = true → (∃ l, cs = r :: l) → ∃ v, (loadVar t a).run P w = .ok v w ∧ VR g H w r v := by
    rintro d hd hsc ⟨l, rfl⟩
    simp only [VRs] at hc
    obtain ⟨v, vs', rfl, h2, _⟩ := hc
    refine ⟨v, ?_, h2⟩
    have := hv 0 (by simp)
    have ha : (⟨a.block, a.off + 0, none⟩ : Addr) = a := by
      obtain ⟨b, o, s⟩ := a
      simp only at hs
      subst hs
      rfl
    rw [ha] at this
    simp [loadVar, run_isAgg_false hd hsc, this]
  have shape : headV cs = some r → ∃ l, cs = r :: l := by
    intro hc'
    cases cs with
    | nil => simp [headV] at hc'
    | cons x l => simp [headV] at hc'; subst hc'; exact ⟨l, rfl⟩
  cases ty with
  | no => simp [loadV] at h
  | sc z =>
    obtain ⟨i, d, zv, _, _, _, hd, hsc, _⟩ := hty
    exact one d hd hsc (shape h)
  | st n fs z cmp =>
    obtain ⟨_, i, zs, fields, hi, hn, _, hd, _⟩ := hty
    simp only [loadV] at h
    split at h
    · rename_i hle
      exact agg n i _ hi hn hd rfl hle (by simpa using h.symm)
    · cases h
  | ar len es el z cmp =>
    obtain ⟨_, i, zs, e, j, hi, hn, _, hd, _⟩ := hty
    simp only [loadV] at h
    split at h
    · rename_i hle
      exact agg (len * es) i _ hi hn hd rfl hle (by simpa using h.symm)
    · cases h
  | sl es z =>
    obtain ⟨i, e, j, zv, _, _, _, hd, _⟩ := hty
    exact one _ hd rfl (shape h)
  | mp kz z =>
    obtain ⟨⟨kt, et, kd, j, zv, hd, _⟩, _⟩ := hty
    exact one _ hd rfl (shape h)

end Go.Aw
end

section
namespace Go.Aw
open Go

def OpPost (g : G) (H : Heap) (w : World) (K : V → Heap → Prop) (res : Result Next) : Prop :=
  ∃ cv w' g' v H', (res = .ok (.value cv) w' ∨ (res = .ok .skip w' ∧ cv = undef)) ∧ K v H' ∧ VR g' H' w' v cv ∧ HR g' H' w' ∧ Kp g w g' w' ∧ Ag g H w g' H' w'

section
variable {P : Program} {g : G} {H : Heap} {w : World} {K : V → Heap → Prop}

theorem post_same (hr : HR g H w) {res : Result Next} {v : V} {cv : Value} (hres : res = .ok (.value cv) w) (hK : K v H) (hv : VR g H w v cv) : OpPost g H w K res :=
  ⟨cv, w, g, v, H, .inl hres, hK, hv, hr, Kp.refl g w, Ag.refl g H w⟩

theorem cvd_sound {Z : Nat → Nat → Prop} : ∀ (v : Value) (x : D), cvd v = some x → DR w Z x v ∧ DC w Z x [v] ∧ (V.d x).one = true := by
  intro v x h
  unfold cvd at h
  split at h <;> first | (simp at h; done) | (simp at h; subst h; simp [DR, DC, V.one, DCe]; done) | (simp at h; subst h; refine ⟨⟨none, 0, 0, rfl, rfl, Nat.le_refl _, fun _ => rfl, fun ad ha => by cases ha⟩, ⟨none, 0, 0, rfl, rfl, Nat.le_refl _, fun _ => rfl, fun ad ha => by cases ha⟩, rfl⟩)

theorem cvds_sound {Z : Nat → Nat → Prop} : ∀ (l : List Value) (ds : List D), cvds l = some ds → DCs w Z ds l
  | [], ds, h => by simp [cvds] at h; subst h; rfl
  | v :: r, ds, h => by
    simp only [cvds] at h
    split at h
    · rename_i x l hx hl
      simp at h; subst h
      exact ⟨v, r, rfl, (cvd_sound v x hx).2.1, cvds_sound r l hl⟩
    · cases h

theorem cv_sound (v : Value) : VR g H w (cv v) v := by
  unfold cv
  split
  · simp [VR]
  · split
    · rename_i l hl
      simp only [VR, DR]
      exact ⟨_, rfl, cvds_sound _ _ hl⟩
    · trivial
  · split
    · rename_i x hx
      simp only [VR]
      exact (cvd_sound v x hx).1
    · trivial

theorem ge_sound {E : Env} {a : Act} (he : ER g H w E a.tmps) (x : Operand) : VR g H w (ge E x) (a.eval x) := by
  cases x with
  | tmp t => exact he t
  | const v => exact cv_sound v
  | global g => trivial
  | func f => simp [ge, VR, VRs, Act.eval]

theorem toD_sound {x : V} {y : D} {v : Value} (h : toD x = some y) (hv : VR g H w x v) : DR w g.Z y v := by
  cases x with
  | d z => simp [toD] at h; subst h; exact hv
  | slx nl l =>
    simp [toD] at h; subst h
    simp only [VR] at hv
    obtain ⟨a, h1, h2, h3, h4⟩ := hv
    simp only [DR, DC]
    refine ⟨a, _, _, by rw [h1], rfl, Nat.le_refl _, fun ha => ?_, h4⟩
    simp [h3 ha]
  | _ => simp [toD] at h

theorem DR_cells {Z : Nat → Nat → Prop} {y : D} {v : Value} (h : DR w Z y v) : DC w Z y v.cells.toList := by
  cases y with
  | agg l =>
    simp only [DR] at h
    obtain ⟨cs, rfl, h⟩ := h
    exact h
  | sl l => simp only [DR, DC] at h; obtain ⟨a, len, cap, h1, h2⟩ := h; simp at h1; subst h1; exact ⟨a, len, cap, rfl, h2⟩
  | _ => simp only [DR, DC] at h; simp at h; subst h; simp [DC, Value.cells]

/-- The cells of a value. -/
theorem vcells_sound {x : V} {cs : List V} {v : Value} (h : vcells x = some cs) (ho : ∀ c ∈ cs, c.one = true) (hv : VR g H w x v) : VRs g H w cs v.cells.toList := by
  have single : ∀ y : V, y.one = true → VR g H w y v → VRs g H w [y] v.cells.toList := fun y hy h' => by
    rw [cells_one (VR_one_cell hy h')]
    exact ⟨v, [], rfl, h', rfl⟩
  cases x with
  | und => simp [vcells] at h
  | tup l => simp [vcells] at h
  | agg l =>
    simp [vcells] at h; subst h
    simp only [VR] at hv
    obtain ⟨vs, rfl, h2⟩ := hv
    exact h2
  | d y =>
    cases y with
    | agg l =>
      simp [vcells] at h; subst h
      simp only [VR, DR] at hv
      obtain ⟨vs, rfl, h2⟩ := hv
      have : ∀ (l : List D) (vs : List Value), (∀ c ∈ l.map V.d, c.one = true) → DCs w g.Z l vs → VRs g H w (l.map V.d) vs := by
        intro l
        induction l with
        | nil => intro vs _ h; simpa [DCs, VRs] using h
        | cons d ds ih =>
          intro vs ho h
          simp only [DCs] at h
          obtain ⟨c, r, rfl, h2, h3⟩ := h
          refine ⟨c, r, rfl, ?_, ih r (fun c hc => ho c (List.mem_cons_of_mem _ hc)) h3⟩
          simp only [VR]
          exact (DR_one (ho _ List.mem_cons_self)).2 h2
      exact this l _ ho h2
    | _ => simp [vcells] at h; subst h; exact single _ (ho _ List.mem_cons_self) hv
  | _ => simp [vcells] at h; subst h; exact single _ (ho _ List.mem_cons_self) hv

theorem store1_one {l cs : List V} (h : store1 l = some cs) : l = cs ∧ (∀ c ∈ cs, c.one = true) ∧ cs.length = 1 := by
  unfold store1 at h
  split at h
  · rename_i c
    split at h
    · rename_i ho
      simp at h; subst h
      exact ⟨rfl, by simpa using ho, rfl⟩
    · cases h
  · cases h

theorem storeCells_sound {t : TypeId} {ty : Ty} (hty : TyOK P t ty) {x : V} {cs : List V} {v : Value} (h : storeCells ty x = some cs) (hv : VR g H w x v) :
    VRs g H w cs v.cells.toList ∧ (∀ c ∈ cs, c.one = true) ∧ ∃ i, P.info? t = some i ∧ i.size = cs.length := by
  cases hc : vcells x with
  | none => cases ty <;> simp [storeCells, hc] at h
  | some l =>
    cases ty with
    | no => simp [storeCells] at h
    | st n fs z cmp =>
      obtain ⟨_, i, zs, fields, hi, hn, _⟩ := hty
      simp only [storeCells, hc] at h
      split at h
      · rename_i hl
        simp at h; subst h
        have ho : ∀ c ∈ l, c.one = true := List.all_eq_true.1 hl.2
        exact ⟨vcells_sound hc ho hv, ho, i, hi, hn.trans hl.1.symm⟩
      · cases h
    | ar len es el z cmp =>
      obtain ⟨_, i, zs, e, j, hi, hn, _⟩ := hty
      simp only [storeCells, hc] at h
      split at h
      · rename_i hl
        simp at h; subst h
        have ho : ∀ c ∈ l, c.one = true := List.all_eq_true.1 hl.2
        exact ⟨vcells_sound hc ho hv, ho, i, hi, hn.trans hl.1.symm⟩
      · cases h
    | sc z =>
      obtain ⟨i, d, zv, hi, hn, _⟩ := hty
      simp only [storeCells, hc] at h
      obtain ⟨h1, h2, h3⟩ := store1_one h
      subst h1
      exact ⟨vcells_sound hc h2 hv, h2, i, hi, hn.trans h3.symm⟩
    | mp kz z =>
      obtain ⟨_, i, hi, hn, _⟩ := hty
      simp only [storeCells, hc] at h
      obtain ⟨h1, h2, h3⟩ := store1_one h
      subst h1
      exact ⟨vcells_sound hc h2 hv, h2, i, hi, hn.trans h3.symm⟩
    | sl es z =>
      obtain ⟨i, e, j, zv, hi, hn, _⟩ := hty
      simp only [storeCells, hc] at h
      obtain ⟨h1, h2, h3⟩ := store1_one h
      subst h1
      exact ⟨vcells_sound hc h2 hv, h2, i, hi, hn.trans h3.symm⟩

/-! ### Addresses -/

theorem sureAddr_run (a : Addr) : (Instr.sureAddr (.pointer (some a))).run P w = .ok a w := rfl

theorem aload_sound {t : TypeId} {ty : Ty} (hty : TyOK P t ty) (hr : HR g H w) {x r : V} {cx : Value} (hx : VR g H w x cx) (h : aload ty H x = some r) :
    ∃ v, (Instr.loadAt t cx).run P w = .ok v w ∧ VR g H w r v := by
  cases x with
  | pp cs =>
    simp only [VR] at hx
    obtain ⟨a, vs, rfl, hs, hv, hd⟩ := hx
    simp only [aload, Option.map_eq_some_iff] at h
    obtain ⟨d, h1, rfl⟩ := h
    obtain ⟨v, h2, h3⟩ := loadD_sound hty hd hs (fun j hj => (hv j hj).2) h1
    exact ⟨v, by simp [Instr.loadAt, sureAddr_run, h2], h3⟩
  | ptr id off =>
    simp only [VR] at hx
    obtain ⟨b, cs, h0, h1, rfl⟩ := hx
    simp only [aload, h0] at h
    obtain ⟨hb, _, vs, t', hw, hvs, ho⟩ := hr.blk id b _ h1 h0
    obtain ⟨v, h2, h3⟩ := loadV_sound hty (VRs_drop off _ _ hvs) (fun c hc => ho c (List.mem_of_mem_drop hc)) (a := ⟨b, off, none⟩) rfl
      (fun j hj => by rw [cell_of_block hw]; simp) h
    exact ⟨v, by simp [Instr.loadAt, sureAddr_run, h2], h3⟩
  | ep id n i off =>
    simp only [VR] at hx
    obtain ⟨_, sz, nl, els, h0, h1, h2⟩ := hx
    simp only [aload, h0] at h
    split at h
    · rename_i hn
      obtain ⟨b, h3, rfl⟩ := h2 hn
      cases he : els[i]? with
      | none => simp [he] at h
      | some e =>
        simp only [he, Option.map_eq_some_iff] at h
        obtain ⟨d, h4, rfl⟩ := h
        obtain ⟨hb, _, _, vs, t', hw, hal, ha⟩ := hr.blk id b _ h3 h0
        obtain ⟨hsz, hdc⟩ := ha i e he
        have hlt := lt_of_getElem? he
        have hcs : DCs w g.Z (dcells e) ((vs.toList.drop (i * sz)).take sz) := by
          cases e with
          | agg l => simpa [DC, dcells] using hdc
          | _ =>
            have hl := DC_length hdc
            simp only [dcells, List.length_singleton] at hsz hl ⊢
            obtain ⟨c, hc⟩ := List.length_eq_one_iff.1 hl
            rw [hc] at hdc ⊢
            exact ⟨c, [], rfl, hdc, rfl⟩
        have hle : i * sz + sz ≤ vs.toList.length := by
          have : (i + 1) * sz ≤ els.length * sz := Nat.mul_le_mul_right _ hlt
          rw [Nat.add_mul, Nat.one_mul] at this
          omega
        obtain ⟨v, h5, h6⟩ := loadD_sound hty (DCs_drop off _ _ hcs) (a := ⟨b, i * sz + off, none⟩) rfl
          (fun j hj => by
            have hl := DCs_length _ _ hcs
            simp only [List.length_drop] at hj
            rw [cell_of_block hw]
            simp only [List.getElem?_drop]
            rw [List.getElem?_take_of_lt (by omega), List.getElem?_drop]
            simp [Nat.add_assoc]) h4
        exact ⟨v, by simp [Instr.loadAt, sureAddr_run, h5], h6⟩
    · cases h
  | _ => simp [aload] at h

end
end Go.Aw
end

section
namespace Go.Aw
open Go

theorem DC_dcells {w : World} {Z : Nat → Nat → Prop} {e : D} {cs : List Value} (h : DC w Z e cs) : DCs w Z (dcells e) cs := by
  have hl := DC_length h
  cases e with
  | agg l => simpa [DC, dcells] using h
  | _ =>
    simp only [dcells, List.length_singleton] at hl ⊢
    obtain ⟨c, hc⟩ := List.length_eq_one_iff.1 hl
    subst hc
    exact ⟨c, [], rfl, h, rfl⟩

theorem DCe_get {w : World} {Z : Nat → Nat → Prop} : ∀ (l : List D) (b o sz i : Nat) (e : D), DCe w Z l b o sz → l[i]? = some e →
    ∃ cs, cs.length = sz ∧ (∀ j, j < sz → Z b (o + i * sz + j) ∧ w.cell? ⟨b, o + i * sz + j, none⟩ = cs[j]?) ∧ DC w Z e cs
  | [], b, o, sz, i, e, _, he => by simp at he
  | d :: ds, b, o, sz, 0, e, h, he => by
    simp at he; subst he
    simp only [DCe] at h
    obtain ⟨⟨cs, h1, h2, h3⟩, _⟩ := h
    exact ⟨cs, h1, by simpa using h2, h3⟩
  | d :: ds, b, o, sz, i + 1, e, h, he => by
    simp only [DCe] at h
    obtain ⟨cs, h1, h2, h3⟩ := DCe_get ds b (o + sz) sz i e h.2 (by simpa using he)
    refine ⟨cs, h1, fun j hj => ?_, h3⟩
    have := h2 j hj
    rw [show o + (i + 1) * sz + j = o + sz + i * sz + j by rw [Nat.add_mul]; omega]
    exact this

theorem idx?_some {α : Type} {l : List α} {n : Int} {e : α} (h : idx? l n = some e) : 0 ≤ n ∧ l[n.toNat]? = some e ∧ n < l.length := by
  unfold idx? at h
  split at h
  · rename_i h0
    have := lt_of_getElem? h
    exact ⟨h0, h, by omega⟩
  · cases h

section
variable {P : Program} {g : G} {H : Heap} {w : World} {K : V → Heap → Prop}

theorem sl_elem {l : List D} {len cap : Nat} {a : Option Addr} (hlen : len = l.length) (hle : len ≤ cap) (hnil : a = none → cap = 0)
    (hel : ∀ ad, a = some ad → (l ≠ [] → ad.spot = none) ∧ ∃ sz, DCe w g.Z l ad.block ad.off sz) {n : Int} {e : D} (hi : idx? l n = some e) {es : Nat} (hes : (dcells e).length = es) :
    ∃ ad, a = some ad ∧ 0 ≤ n ∧ n < len ∧ VR g H w (.pp (dcells e)) (.pointer (some (ad.add (n.toNat * es)))) := by
  obtain ⟨h0, h1, h2⟩ := idx?_some hi
  cases a with
  | none =>
    have := hnil rfl
    omega
  | some ad =>
    obtain ⟨hs, sz, hd⟩ := hel ad rfl
    obtain ⟨cs, k1, k2, k3⟩ := DCe_get l _ _ _ _ e hd h1
    have : sz = es := by rw [← k1, DC_length k3, hes]
    subst this
    refine ⟨ad, rfl, h0, by omega, ?_⟩
    rw [add_eq (hs (fun e => by rw [e] at h1; simp at h1))]
    simp only [VR]
    exact ⟨_, cs, rfl, rfl, fun j hj => k2 j (by omega), DC_dcells k3⟩

theorem run_asIntOf (k : IntKind) (n : Int) : (asIntOf (.int k n)).run P w = .ok (k, n) w := rfl

theorem indexAt_slice {t e : TypeId} {i : TypeInfo} (hu : P.underlying t = some (.slice e)) (hi : P.info? e = some i) {ad : Addr} {len cap : Nat} {k : IntKind} {n : Int} (h0 : 0 ≤ n) (h1 : n < len) :
    (Instr.indexAt t (.slice (some ad) len cap) (.int k n)).run P w = .ok (.pointer (some (ad.add (n.toNat * i.size)))) w := by
  unfold Instr.indexAt
  simp [run_asIntOf, run_underlying hu, h0, h1, run_sizeOf hi]

theorem indexAt_array {t e : TypeId} {i : TypeInfo} {m : Nat} (hu : P.underlying t = some (.array m e)) (hi : P.info? e = some i) {ad : Addr} {k : IntKind} {n : Int} (h0 : 0 ≤ n) (h1 : n < m) :
    (Instr.indexAt t (.pointer (some ad)) (.int k n)).run P w = .ok (.pointer (some (ad.add (n.toNat * i.size)))) w := by
  unfold Instr.indexAt
  simp [run_asIntOf, run_underlying hu, h0, h1, run_sizeOf hi, sureAddr_run]

theorem aidxAddr_sound {t : TypeId} {ty : Ty} (hty : TyOK P t ty) (hr : HR g H w) {x i r : V} {cx ci : Value} (hx : VR g H w x cx) (hi : VR g H w i ci) (h : aidxAddr ty H x i = some r) :
    ∃ v, (Instr.indexAt t cx ci).run P w = .ok v w ∧ VR g H w r v := by
  have int : ∀ (k : IntKind) (n : Int), i = .d (.int k n) → ci = .int k n := by
    rintro k n rfl
    simpa [VR, DR, DC] using hi
  cases ty with
  | sl es z =>
    obtain ⟨ti, e, j, zv, _, _, _, hu, hj, hes, _⟩ := hty
    cases x with
    | d y =>
      cases y with
      | sl l =>
        cases i with
        | d y =>
          cases y with
          | int k n =>
            obtain rfl := int k n rfl
            simp only [aidxAddr] at h
            split at h
            · rename_i e' he
              split at h
              · rename_i hsz
                simp at h; subst h
                simp only [VR, DR, DC] at hx
                obtain ⟨a, len, cap, h1, h2, h3, h4, h5⟩ := hx
                simp at h1; subst h1
                obtain ⟨ad, rfl, k1, k2, k3⟩ := sl_elem (H := H) h2 h3 h4 h5 he hsz
                exact ⟨_, indexAt_slice hu hj k1 k2, by rw [hes]; exact k3⟩
              · cases h
            · cases h
          | _ => simp [aidxAddr] at h
        | _ => simp [aidxAddr] at h
      | _ => simp [aidxAddr] at h
    | csl id es' len =>
      cases i with
      | d y =>
        cases y with
        | int k n =>
          obtain rfl := int k n rfl
          simp only [aidxAddr] at h
          split at h
          · rename_i hc
            obtain ⟨rfl, h0, h1⟩ := hc
            simp at h; subst h
            simp only [VR] at hx
            obtain ⟨b, cs, cap, e1, e2, e3, rfl, e4⟩ := hx
            refine ⟨_, indexAt_slice hu hj h0 h1, ?_⟩
            simp only [VR]
            exact ⟨b, cs, e1, e2, by rw [hes, add_eq rfl]; simp⟩
          · cases h
        | _ => simp [aidxAddr] at h
      | _ => simp [aidxAddr] at h
    | slx nl l =>
      cases i with
      | d y =>
        cases y with
        | int k n =>
          obtain rfl := int k n rfl
          simp only [aidxAddr] at h
          split at h
          · rename_i e' he
            split at h
            · rename_i hsz
              simp at h; subst h
              simp only [VR] at hx
              obtain ⟨a, h1, h2, h3, h4⟩ := hx
              subst h1
              obtain ⟨ad, rfl, k1, k2, k3⟩ := sl_elem (H := H) (len := l.length) (cap := l.length) rfl (Nat.le_refl _) (fun ha => by simp [h3 ha]) h4 he hsz
              exact ⟨_, indexAt_slice hu hj k1 k2, by rw [hes]; exact k3⟩
            · cases h
          · cases h
        | _ => simp [aidxAddr] at h
      | _ => simp [aidxAddr] at h
    | ref id n lo len =>
      cases i with
      | d y =>
        cases y with
        | int k m =>
          obtain rfl := int k m rfl
          simp only [aidxAddr] at h
          split at h
          · rename_i sz nl els he
            split at h
            · rename_i hc
              obtain ⟨c1, c2, c3, c4⟩ := hc
              simp at h; subst h
              simp only [VR] at hx
              obtain ⟨hsh, sz', nl', els', e1, e2, e3⟩ := hx
              rw [he] at e1; cases e1
              obtain ⟨f1, f2⟩ := e3 c1
              rcases f2 with ⟨hn, _, a, rfl, _⟩ | ⟨b, cap, vs, t', f3, rfl, f4, f5, f6⟩
              · have := hn.2.1
                subst this
                simp at c1
                omega
              · refine ⟨_, indexAt_slice hu hj c3 c4, ?_⟩
                rw [add_eq rfl]
                simp only [VR]
                refine ⟨⟨_, rfl, rfl⟩, sz, nl, els, he, by omega, fun _ => ⟨b, f3, ?_⟩⟩
                rw [hes, c2, Nat.add_mul]
                simp
            · cases h
          · cases h
        | _ => simp [aidxAddr] at h
      | _ => simp [aidxAddr] at h
    | _ => simp [aidxAddr] at h
  | ar m es el z cmp =>
    obtain ⟨_, ti, zs, e, j, _, _, _, hu, ⟨_, hj⟩, hes, _⟩ := hty
    cases i with
    | d y =>
      cases y with
      | int k n =>
        obtain rfl := int k n rfl
        cases x with
        | ptr id off =>
          simp only [aidxAddr] at h
          split at h
          · rename_i hc
            simp at h; subst h
            simp only [VR] at hx ⊢
            obtain ⟨b, cs, h1, h2, rfl⟩ := hx
            refine ⟨_, indexAt_array hu hj hc.1 hc.2, b, cs, h1, h2, ?_⟩
            rw [add_eq rfl, hes]
          · cases h
        | pp cs =>
          simp only [aidxAddr] at h
          split at h
          · rename_i hc
            simp at h; subst h
            simp only [VR] at hx ⊢
            obtain ⟨a, vs, rfl, hs, hv, hd⟩ := hx
            refine ⟨_, indexAt_array hu hj hc.1 hc.2, _, vs.drop (n.toNat * es), rfl, by rw [add_eq hs], fun q hq => ?_, DCs_drop _ _ _ hd⟩
            simp only [List.length_drop] at hq
            rw [add_eq hs, hes]
            have := hv (n.toNat * es + q) (by omega)
            simpa [Nat.add_assoc] using this
          · cases h
        | ep id m' i off =>
          simp only [aidxAddr] at h
          split at h
          · rename_i hc
            simp at h; subst h
            simp only [VR] at hx ⊢
            obtain ⟨⟨p, rfl, hs⟩, sz', nl', els', e1, e2, e3⟩ := hx
            refine ⟨_, indexAt_array hu hj hc.1 hc.2, ⟨_, rfl, by rw [add_eq hs]⟩, sz', nl', els', e1, e2, fun hn => ?_⟩
            obtain ⟨b, k1, k2⟩ := e3 hn
            simp at k2; subst k2
            refine ⟨b, k1, ?_⟩
            rw [add_eq rfl, hes, Nat.add_assoc]
          · cases h
        | _ => simp [aidxAddr] at h
      | _ => cases x <;> simp [aidxAddr] at h
    | _ => cases x <;> simp [aidxAddr] at h
  | _ => simp [aidxAddr] at h

theorem run_fieldPlace {f : Field} {j : TypeInfo} (hj : P.info? f.type = some j) (hz : j.size ≠ 0) (a : Addr) : (fieldPlace a f).run P w = .ok (a.add f.offset) w := by
  unfold fieldPlace
  simp [run_sizeOf hj, hz]

theorem fieldAt_run {t : TypeId} {fields : Array Field} (hu : P.underlying t = some (.struct fields)) {k : Nat} {f : Field} (hf : fields[k]? = some f) {j : TypeInfo} (hj : P.info? f.type = some j) (hz : j.size ≠ 0) (a : Addr) :
    (Instr.fieldAt t (.pointer (some a)) k).run P w = .ok (.pointer (some (a.add f.offset))) w := by
  unfold Instr.fieldAt
  simp [run_underlying hu, hf, sureAddr_run, run_fieldPlace hj hz]

theorem afieldAddr_sound {t : TypeId} {ty : Ty} (hty : TyOK P t ty) {x r : V} {cx : Value} (hx : VR g H w x cx) {k : Nat} (h : afieldAddr ty x k = some r) :
    ∃ v, (Instr.fieldAt t cx k).run P w = .ok v w ∧ VR g H w r v := by
  cases ty with
  | st n fs z cmp =>
    obtain ⟨_, ti, zs, fields, _, _, _, hu, _, _, _, hlen, hfs⟩ := hty
    simp only [afieldAddr] at h
    split at h
    · rename_i o s tt ho
      have hlt : k < fields.size := by rw [← hlen]; exact lt_of_getElem? ho
      obtain ⟨j, hj, h1, hz⟩ := hfs k fields[k] (Array.getElem?_eq_getElem hlt)
      rw [ho] at h1
      have hoff : o = fields[k].offset := by simp at h1; exact h1.1
      have run := fun a => fieldAt_run (P := P) (w := w) hu (Array.getElem?_eq_getElem hlt) hj hz a
      cases x with
      | ptr id off =>
        simp at h; subst h
        simp only [VR] at hx ⊢
        obtain ⟨b, cs, h1, h2, rfl⟩ := hx
        exact ⟨_, run _, b, cs, h1, h2, by rw [add_eq rfl, hoff]⟩
      | pp cs =>
        simp at h; subst h
        simp only [VR] at hx ⊢
        obtain ⟨a, vs, rfl, hs, hv, hd⟩ := hx
        refine ⟨_, run _, _, vs.drop o, rfl, by rw [add_eq hs], fun q hq => ?_, DCs_drop _ _ _ hd⟩
        simp only [List.length_drop] at hq
        rw [add_eq hs, ← hoff]
        have := hv (o + q) (by omega)
        simpa [Nat.add_assoc] using this
      | ep id m i off =>
        simp at h; subst h
        simp only [VR] at hx ⊢
        obtain ⟨⟨p, rfl, hs⟩, sz', nl', els', e1, e2, e3⟩ := hx
        refine ⟨_, run _, ⟨_, rfl, by rw [add_eq hs]⟩, sz', nl', els', e1, e2, fun hn => ?_⟩
        obtain ⟨b, k1, k2⟩ := e3 hn
        simp at k2; subst k2
        refine ⟨b, k1, ?_⟩
        rw [add_eq rfl, hoff, Nat.add_assoc]
      | _ => simp at h
    · cases h
  | _ => simp [afieldAddr] at h

theorem run_storeVar {t : TypeId} {i : TypeInfo} (hi : P.info? t = some i) {a : Addr} {v : Value} (hsz : i.size = v.cells.size) :
    (storeVar t a v).run P w = (Go.storeCells a v.cells.toList).run P w := by
  unfold storeVar
  simp [run_sizeOf hi, hsz]

theorem VRs_splice {off : Nat} {old cs : List V} {vs nv : List Value} (h1 : VRs g H w old vs) (h2 : VRs g H w cs nv) : VRs g H w (splice old off cs) (splice vs off nv) := by
  unfold splice
  rw [VRs_length cs nv h2]
  exact VRs_append _ _ _ _ (VRs_append _ _ _ _ (VRs_take _ _ _ h1) h2) (VRs_drop _ _ _ h1)

theorem DCs_splice {Z : Nat → Nat → Prop} {off : Nat} {old cs : List D} {vs nv : List Value} (h1 : DCs w Z old vs) (h2 : DCs w Z cs nv) : DCs w Z (splice old off cs) (splice vs off nv) := by
  unfold splice
  rw [DCs_length cs nv h2]
  exact DCs_append _ _ _ _ (DCs_append _ _ _ _ (DCs_take _ _ _ h1) h2) (DCs_drop _ _ _ h1)

theorem mem_splice {α : Type} {old cs : List α} {off : Nat} {x : α} (h : x ∈ splice old off cs) : x ∈ old ∨ x ∈ cs := by
  unfold splice at h
  simp only [List.mem_append] at h
  rcases h with (h | h) | h
  · exact .inl (List.mem_of_mem_take h)
  · exact .inr h
  · exact .inl (List.mem_of_mem_drop h)

theorem length_splice {α : Type} {old cs : List α} {off : Nat} (h : off + cs.length ≤ old.length) : (splice old off cs).length = old.length := by
  unfold splice
  simp
  omega

end
end Go.Aw
end

section
namespace Go.Aw
open Go

theorem splice_get {α : Type} {old cs : List α} {off : Nat} (h : off + cs.length ≤ old.length) (q : Nat) :
    (splice old off cs)[q]? = if off ≤ q ∧ q < off + cs.length then cs[q - off]? else old[q]? := by
  unfold splice
  have hl : (old.take off).length = off := by simp; omega
  rw [List.append_assoc, List.getElem?_append, hl]
  split
  · rename_i h1
    rw [if_neg (by omega), List.getElem?_take_of_lt h1]
  · rename_i h1
    rw [List.getElem?_append]
    split
    · rename_i h2; rw [if_pos (by omega)]
    · rename_i h2
      rw [if_neg (by omega), List.getElem?_drop]
      congr 1
      omega

theorem chunk_get {α : Type} (l : List α) (a n q : Nat) : ((l.drop a).take n)[q]? = if q < n then l[a + q]? else none := by
  rw [List.getElem?_take]
  split <;> simp [List.getElem?_drop]

theorem chunk_splice_same {α : Type} {old cs : List α} {a n off : Nat} (h : off + cs.length ≤ n) (hn : a + n ≤ old.length) :
    ((splice old (a + off) cs).drop a).take n = splice ((old.drop a).take n) off cs := by
  apply List.ext_getElem?
  intro q
  rw [chunk_get, splice_get (by omega), splice_get (by simp; omega), chunk_get]
  by_cases hq : q < n
  · rw [if_pos hq, if_pos hq]
    by_cases h1 : off ≤ q ∧ q < off + cs.length
    · rw [if_pos (by omega), if_pos h1]
      congr 1
      omega
    · rw [if_neg (by omega), if_neg h1]
  · rw [if_neg hq, if_neg (by omega), if_neg hq]

theorem chunk_splice_other {α : Type} {old cs : List α} {a n p : Nat} (h : p + cs.length ≤ old.length) (ho : p + cs.length ≤ a ∨ a + n ≤ p) :
    ((splice old p cs).drop a).take n = (old.drop a).take n := by
  apply List.ext_getElem?
  intro q
  rw [chunk_get, chunk_get, splice_get h]
  by_cases hq : q < n
  · rw [if_pos hq, if_pos hq, if_neg (by omega)]
  · rw [if_neg hq, if_neg hq]

section
variable {P : Program} {g : G} {H : Heap} {w : World} {K : V → Heap → Prop}

theorem VRs_one : ∀ (cs : List V) (vs : List Value), (∀ c ∈ cs, c.one = true) → VRs g H w cs vs → ∀ v ∈ vs, v.oneCell' = true
  | [], vs, _, h => by simp [VRs] at h; simp [h]
  | c :: cs, vs, ho, h => by
    simp only [VRs] at h
    obtain ⟨v, r, rfl, h2, h3⟩ := h
    intro x hx
    rcases List.mem_cons.1 hx with rfl | hx
    · exact VR_one_cell (ho c List.mem_cons_self) h2
    · exact VRs_one cs r (fun y hy => ho y (List.mem_cons_of_mem _ hy)) h3 x hx

theorem recell_sound {Z : Nat → Nat → Prop} {e e' : D} {cs : List D} {vs : List Value} (h : recell e cs = some e') (hd : DCs w Z cs vs) (ho : ∀ c ∈ cs, c ∈ dcells e ∨ (V.d c).one = true) (hlen : cs.length = (dcells e).length) :
    DC w Z e' vs ∧ (dcells e').length = (dcells e).length := by
  cases e with
  | agg l =>
    simp [recell] at h; subst h
    exact ⟨by simpa [DC] using hd, by simpa [dcells] using hlen⟩
  | _ =>
    simp only [dcells, List.length_singleton] at hlen
    obtain ⟨c, rfl⟩ := List.length_eq_one_iff.1 hlen
    have h1 : (V.d c).one = true := by
      rcases ho c List.mem_cons_self with h' | h'
      · simp [dcells] at h'; subst h'; rfl
      · exact h'
    simp only [DCs] at hd
    obtain ⟨v, r, rfl, h2, rfl⟩ := hd
    cases c <;> simp [recell] at h <;> subst h <;> first
      | exact ⟨h2, rfl⟩
      | (simp [V.one] at h1)

theorem astore_sound {t : TypeId} {ty : Ty} (hty : TyOK P t ty) (hr : HR g H w) {x y : V} {cx cy : Value} (hx : VR g H w x cx) (hy : VR g H w y cy) {H' : Heap} (h : astore ty H x y = some H') :
    ∃ w', (Instr.storeAt t cx cy).run P w = .ok () w' ∧ HR g H' w' ∧ Kp g w g w' ∧ Ag g H w g H' w' := by
  cases hsc : storeCells ty y with
  | none => cases x <;> simp [astore, hsc] at h
  | some cs =>
    obtain ⟨hcells, hone, i, hi, hsz⟩ := storeCells_sound hty hsc hy
    have hclen := VRs_length _ _ hcells
    have hvone := VRs_one _ _ hone hcells
    cases x with
    | ptr id off =>
      simp only [VR] at hx
      obtain ⟨b, old, h0, h1, rfl⟩ := hx
      simp only [astore, hsc, h0] at h
      split at h
      · rename_i hle
        simp at h; subst h
        obtain ⟨hb, hz, vs, t', hw, hvs, ho⟩ := hr.blk id b _ h1 h0
        have hol := VRs_length _ _ hvs
        obtain ⟨w', k1, k2⟩ := run_storeCells (P := P) (a := ⟨b, off, none⟩) rfl cy.cells.toList 0 w vs hvone hw (by simp at hclen hol ⊢; omega)
        refine ⟨w', ?_, ?_⟩
        · simp only [Instr.storeAt, Sem.run_bind, sureAddr_run, Result.andThen_ok]
          rw [run_storeVar hi (by rw [hsz, ← hclen]; simp)]
          exact k1
        · obtain ⟨nv, k3, k4⟩ := k2.self
          exact set_blk hr h1 h0 (o' := .cells nv t' (0, 0)) k2.os k2.tape k2.out k2.size k3 k2.oth (length_splice hle)
            (fun hz ha => ⟨nv, t', k3, by rw [k4]; exact VRs_splice (VRs_mono hz ha _ _ hvs) (VRs_mono hz ha _ _ hcells), fun c hc => by
              rcases mem_splice hc with hc | hc
              · exact ho c hc
              · exact hone c hc⟩)
      · cases h
    | ep id n j off =>
      simp only [VR] at hx
      obtain ⟨_, sz, nl, els, h0, h1, h2⟩ := hx
      simp only [astore, hsc, h0] at h
      split at h
      · rename_i sz' nl' els' ds heq hds
        simp at heq
        obtain ⟨rfl, rfl, rfl⟩ := heq
        split at h
        · rename_i hn
          obtain ⟨b, h3, rfl⟩ := h2 hn
          cases he : els[j]? with
          | none => simp [he] at h
          | some e =>
            simp only [he] at h
            split at h
            · rename_i hle
              split at h
              · rename_i e' hre
                simp at h; subst h
                obtain ⟨hb, hz, hnl, vs, t', hw, hal, har⟩ := hr.blk id b _ h3 h0
                obtain ⟨hesz, hdc⟩ := har j e he
                have hlt := lt_of_getElem? he
                have hmul : j * sz + sz ≤ vs.toList.length := by
                  have : (j + 1) * sz ≤ els.length * sz := Nat.mul_le_mul_right _ hlt
                  rw [Nat.add_mul, Nat.one_mul] at this
                  omega
                obtain ⟨hdd, hdone⟩ := toDs_sound cs ds _ hds hone hcells
                have hdl := DCs_length _ _ hdd
                have hoff : off + cy.cells.toList.length ≤ sz := by omega
                obtain ⟨w', k1, k2⟩ := run_storeCells (P := P) (a := ⟨b, j * sz + off, none⟩) rfl cy.cells.toList 0 w vs hvone hw (by
                  simp only [Array.length_toList] at hmul hoff ⊢; omega)
                refine ⟨w', ?_, ?_⟩
                · simp only [Instr.storeAt, Sem.run_bind, sureAddr_run, Result.andThen_ok]
                  rw [run_storeVar hi (by rw [hsz, ← hclen]; simp)]
                  exact k1
                · obtain ⟨nv, k3, k4⟩ := k2.self
                  simp only [Nat.add_zero] at k4
                  have hvl : vs.toList.length = nv.toList.length := by rw [k4, length_splice (by omega)]
                  refine set_blk hr h3 h0 (o' := .cells nv t' (0, 0)) k2.os k2.tape k2.out k2.size k3 k2.oth ⟨rfl, rfl, by simp, fun vs0 t0 h' => ?_⟩
                    (fun hz ha => ⟨hnl, nv, t', k3, by rw [List.length_set, ← hvl]; exact hal, fun q x hq => ?_⟩)
                  · rw [hw] at h'; cases h'
                    exact ⟨nv, rfl, by simpa using hvl.symm⟩
                  · rw [k4]
                    by_cases hqj : q = j
                    · subst hqj
                      rw [List.getElem?_set_self hlt] at hq
                      simp at hq; subst hq
                      rw [chunk_splice_same hoff hmul]
                      have hold := DCs_mono hz _ _ (DC_dcells hdc)
                      have hsp := DCs_splice (off := off) hold (DCs_mono hz _ _ hdd)
                      obtain ⟨r1, r2⟩ := recell_sound hre hsp (fun c hc => by
                        rcases mem_splice hc with hc | hc
                        · exact .inl hc
                        · exact .inr (hdone c hc)) (length_splice hle)
                      exact ⟨by omega, r1⟩
                    · rw [List.getElem?_set_ne (fun e => hqj e.symm)] at hq
                      obtain ⟨r1, r2⟩ := har q x hq
                      refine ⟨r1, ?_⟩
                      rw [chunk_splice_other (by omega) (by
                        rcases Nat.lt_or_gt_of_ne hqj with h' | h'
                        · right
                          have : (q + 1) * sz ≤ j * sz := Nat.mul_le_mul_right _ h'
                          rw [Nat.add_mul, Nat.one_mul] at this; omega
                        · left
                          have : (j + 1) * sz ≤ q * sz := Nat.mul_le_mul_right _ h'
                          rw [Nat.add_mul, Nat.one_mul] at this; omega)]
                      exact DC_mono hz _ _ r2
              · cases h
            · cases h
        · cases h
      · cases h
    | _ => simp [astore] at h

/-! ### New variables -/

theorem run_newVar (t : TypeId) (v : Value) : (newVar t v).run P w = .ok ⟨w.heap.size, 0, none⟩ (w.alloc (.cells v.cells t)) := rfl

theorem dmap_VRs {Z : Nat → Nat → Prop} (hg : g.Z = Z) : ∀ (l : List D) (vs : List Value), (∀ x ∈ l, (V.d x).one = true) → DCs w Z l vs → VRs g H w (l.map .d) vs
  | [], vs, _, h => by simpa [DCs, VRs] using h
  | d :: ds, vs, ho, h => by
    simp only [DCs] at h
    obtain ⟨c, r, rfl, h2, h3⟩ := h
    refine ⟨c, r, rfl, ?_, dmap_VRs hg ds r (fun x hx => ho x (List.mem_cons_of_mem _ hx)) h3⟩
    simp only [VR]
    rw [hg]
    exact (DR_one (ho d List.mem_cons_self)).2 h2

/-- The zero value of a type, as cells. -/
theorem zeroV_sound {t : TypeId} {ty : Ty} (hty : TyOK P t ty) {cs : List V} (h : zeroV ty = some cs) :
    ∃ i z, P.info? t = some i ∧ i.zero = some z ∧ (∀ g H w, VRs g H w cs z.cells.toList) ∧ ∀ c ∈ cs, c.one = true := by
  cases ty with
  | no => simp [zeroV] at h
  | sc z =>
    obtain ⟨i, d, zv, h1, _, h2, _, _, h3, h4, _⟩ := hty
    simp [zeroV] at h; subst h
    refine ⟨i, zv, h1, h2, fun g H w => ?_, by simpa using h4⟩
    rw [cells_one (one_cell h4 (h3 w g.Z))]
    exact ⟨zv, [], rfl, h3 w g.Z, rfl⟩
  | st n fs z cmp =>
    obtain ⟨_, i, zs, fields, h1, _, h2, _, ⟨h3, _⟩, _, h4, _⟩ := hty
    simp [zeroV] at h; subst h
    exact ⟨i, _, h1, h2, fun g H w => dmap_VRs rfl z _ h4 (h3 w g.Z), by simpa using h4⟩
  | ar n es el z cmp =>
    obtain ⟨_, i, zs, e, j, h1, _, h2, _, _, _, h3, _, h4⟩ := hty
    simp [zeroV] at h; subst h
    exact ⟨i, _, h1, h2, fun g H w => dmap_VRs rfl z _ h4 (h3 w g.Z), by simpa using h4⟩
  | sl es z =>
    obtain ⟨i, e, j, zv, h1, _, h2, _⟩ := hty
    simp [zeroV] at h; subst h
    refine ⟨i, _, h1, h2, fun g H w => ?_, by simp [V.one]⟩
    refine ⟨_, [], rfl, ?_, rfl⟩
    simp [VR]
  | mp kz z =>
    obtain ⟨_, i, h1, _, h2⟩ := hty
    simp [zeroV] at h; subst h
    exact ⟨i, _, h1, h2, fun g H w => ⟨.map none, [], rfl, by simp [VR, DR, DC], rfl⟩, by simp [V.one]⟩

theorem new_cells (hr : HR g H w) {cs : List V} {v : Value} (t : TypeId) (h : VRs g H w cs v.cells.toList) (ho : ∀ c ∈ cs, c.one = true) :
    HR ⟨g.Z, g.φ ++ [some w.heap.size]⟩ (H ++ [.cells cs]) (w.alloc (.cells v.cells t)) ∧ Kp g w ⟨g.Z, g.φ ++ [some w.heap.size]⟩ (w.alloc (.cells v.cells t)) ∧
      Ag g H w ⟨g.Z, g.φ ++ [some w.heap.size]⟩ (H ++ [.cells cs]) (w.alloc (.cells v.cells t)) ∧
      VR ⟨g.Z, g.φ ++ [some w.heap.size]⟩ (H ++ [.cells cs]) (w.alloc (.cells v.cells t)) (.ptr H.length 0) (.pointer (some ⟨w.heap.size, 0, none⟩)) := by
  obtain ⟨h1, h2, h3⟩ := alloc_blk hr (.cells v.cells t) (.cells cs) (fun g' w' hz ha hn _ => ⟨v.cells, t, hn, VRs_mono hz ha _ _ h, ho⟩)
  refine ⟨h1, h2, h3, ?_⟩
  simp only [VR]
  exact ⟨_, cs, by simp, by rw [← hr.len]; simp, rfl⟩

theorem alloc_sound {t : TypeId} {ty : Ty} (hty : TyOK P t ty) (hr : HR g H w) {cs : List V} (h : zeroV ty = some cs) (hK : K (.ptr H.length 0) (H ++ [.cells cs])) :
    OpPost g H w K ((do pure (.value (← Instr.alloc t true (.tuple #[]))) : Sem Next).run P w) := by
  obtain ⟨i, z, h1, h2, h3, h4⟩ := zeroV_sound hty h
  obtain ⟨k1, k2, k3, k4⟩ := new_cells hr t (h3 g H w) h4
  exact ⟨_, _, _, _, _, .inl (by simp [Instr.alloc, run_zeroValue h1 h2, run_newVar]), hK, k4, k1, k2, k3⟩

theorem box_sound {t : TypeId} {ty : Ty} (hty : TyOK P t ty) (hr : HR g H w) {x : V} {cx : Value} (hx : VR g H w x cx) {cs : List V} (h : storeCells ty x = some cs) (hK : K (.ptr H.length 0) (H ++ [.cells cs])) :
    OpPost g H w K ((do pure (.value (← Instr.box t cx)) : Sem Next).run P w) := by
  obtain ⟨h1, h2, _⟩ := storeCells_sound hty h hx
  obtain ⟨k1, k2, k3, k4⟩ := new_cells hr t h1 h2
  exact ⟨_, _, _, _, _, .inl (by simp [Instr.box, run_newVar]), hK, k4, k1, k2, k3⟩

end
end Go.Aw
end

section
namespace Go.Aw
open Go

theorem foldl_set {α : Type} : ∀ (vs : List α) (off k : Nat) (cells : Array α), off + k + vs.length ≤ cells.size →
    ((vs.zipIdx k).foldl (fun cs (c, j) => cs.setIfInBounds (off + j) c) cells).toList = splice cells.toList (off + k) vs
  | [], off, k, cells, _ => by simp [splice]
  | v :: vs, off, k, cells, h => by
    simp only [List.length_cons] at h
    simp only [List.zipIdx_cons, List.foldl_cons]
    rw [foldl_set vs off (k + 1) _ (by simp; omega), Array.toList_setIfInBounds, ← Nat.add_assoc, splice_cons _ _ _ _ (by simp; omega)]

section
variable {P : Program} {g : G} {H : Heap} {w : World} {K : V → Heap → Prop}

theorem fill_sound {place : Nat → Option (Nat × Nat)} {E : Env} {a : Act} (he : ER g H w E a.tmps) : ∀ (parts : List (Nat × Operand)) (z cs : List V) (cells : Array Value),
    VRs g H w z cells.toList → (∀ c ∈ z, c.one = true) → fillAt place E z parts = some cs →
    ∃ cells', Instr.fill place cells (parts.map fun (i, x) => (i, a.eval x)) = some cells' ∧ VRs g H w cs cells'.toList ∧ ∀ c ∈ cs, c.one = true
  | [], z, cs, cells, hz, ho, h => by
    simp [fillAt] at h; subst h
    exact ⟨cells, rfl, hz, ho⟩
  | (i, x) :: r, z, cs, cells, hz, ho, h => by
    simp only [fillAt] at h
    split at h
    · rename_i off size vs hp hv
      split at h
      · rename_i hc
        obtain ⟨h1, h2, h3⟩ := hc
        have hone : ∀ c ∈ vs, c.one = true := List.all_eq_true.1 h3
        have hcs := vcells_sound hv hone (ge_sound he x)
        have hl := VRs_length _ _ hcs
        have hzl := VRs_length _ _ hz
        simp only [Array.length_toList] at hl hzl
        have hfold : (Array.foldl (fun cs (c, j) => cs.setIfInBounds (off + j) c) cells (a.eval x).cells.zipIdx).toList = splice cells.toList off (a.eval x).cells.toList := by
          have := foldl_set (a.eval x).cells.toList off 0 cells (by simp; omega)
          simp only [Nat.add_zero] at this
          rw [← this, ← Array.foldl_toList]
          congr 2
          simp
        obtain ⟨cells', k1, k2, k3⟩ := fill_sound he r (splice z off vs) cs _ (by rw [hfold]; exact VRs_splice hz hcs) (fun c hc => by
          rcases mem_splice hc with hc | hc
          · exact ho c hc
          · exact hone c hc) h
        refine ⟨cells', ?_, k2, k3⟩
        simp only [List.map_cons, Instr.fill, hp]
        rw [if_neg (by simp; omega)]
        exact k1
      · cases h
    · cases h

theorem run_mapM_list {α β : Type} (f : α → Sem β) (f' : α → β) : ∀ (l : List α), (∀ x ∈ l, (f x).run P w = .ok (f' x) w) → (l.mapM f).run P w = .ok (l.map f') w
  | [], _ => by simp
  | x :: l, h => by
    rw [List.mapM_cons]
    simp only [Sem.run_bind, h x List.mem_cons_self, Result.andThen_ok, run_mapM_list f f' l (fun y hy => h y (List.mem_cons_of_mem _ hy)), Sem.run_pure, List.map_cons]

theorem run_mapM_array {α β : Type} (f : α → Sem β) (f' : α → β) (l : Array α) (h : ∀ x ∈ l, (f x).run P w = .ok (f' x) w) : (l.mapM f).run P w = .ok (l.map f') w := by
  rw [Array.mapM_eq_mapM_toList]
  simp only [Sem.run_map]
  rw [run_mapM_list f f' l.toList (fun x hx => h x (by simpa using hx))]
  simp only [Result.andThen_ok]
  rw [← Array.toList_map]

theorem zst_one {z : List D} (h : ∀ x ∈ z, (V.d x).one = true) : ∀ c ∈ zst z, c.one = true := by
  intro c hc
  obtain ⟨x, hx, rfl⟩ := List.mem_map.1 hc
  split
  · rfl
  · exact h _ hx

theorem build_sound (hb : Bool) {t : TypeId} {ty : Ty} (hty : TyOK P t ty) {E : Env} {a : Act} (he : ER g H w E a.tmps) {parts : Array (Nat × Operand)} {cs : List V}
    (h : match ty with
      | .st _ fs z _ => fillAt (fun i => (fs[i]?).map fun p => (p.1, p.2.1)) E (zfill hb z) parts.toList = some cs
      | .ar _ es _ z _ => fillAt (fun i => some (i * es, es)) E (z.map .d) parts.toList = some cs
      | _ => False) :
    ∃ v, (Instr.build t (parts.map fun (i, x) => (i, a.eval x))).run P w = .ok v w ∧ VR g H w (match ty with
      | .st _ _ _ _ => nrm hb cs
      | _ => norm cs) v := by
  cases ty with
  | st n fs z cmp =>
    simp only at h
    obtain ⟨_, i, zs, fields, hi, hn, hz, hu, ⟨hzs, hzz⟩, hzl, hone, hlen, hfs⟩ := hty
    have hplace : (fields.mapM fun f => (do pure (f.offset, ← sizeOf f.type) : Sem (Nat × Nat))).run P w = .ok (fs.map fun p => (p.1, p.2.1)).toArray w := by
      rw [run_mapM_array _ (fun f => (f.offset, ((P.info? f.type).map (·.size)).getD 0)) fields (fun f hf => by
        obtain ⟨k, hk, hkf⟩ := Array.getElem_of_mem hf
        obtain ⟨j, hj, _, _⟩ := hfs k f (by rw [Array.getElem?_eq_getElem hk, hkf])
        simp [run_sizeOf hj, hj])]
      congr 1
      apply Array.ext_getElem?
      intro k
      simp only [Array.getElem?_map, List.getElem?_toArray]
      cases hk : fields[k]? with
      | none =>
        have : fields.size ≤ k := by
          rcases Nat.lt_or_ge k fields.size with h' | h'
          · rw [Array.getElem?_eq_getElem h'] at hk; cases hk
          · exact h'
        rw [List.getElem?_map, List.getElem?_eq_none (by omega)]
        rfl
      | some f =>
        obtain ⟨j, hj, h1, _⟩ := hfs k f hk
        rw [List.getElem?_map, h1]
        simp [hj]
    have start : VRs g H w (zfill hb z) zs.toList ∧ ∀ c ∈ zfill hb z, c.one = true := by
      cases hb with
      | true => exact ⟨hzz g H w, zst_one hone⟩
      | false => exact ⟨dmap_VRs rfl z _ hone (hzs w g.Z), by simpa [zfill] using hone⟩
    obtain ⟨cells', k1, k2, k3⟩ := fill_sound he parts.toList (zfill hb z) cs zs start.1 start.2 h
    refine ⟨.agg cells', ?_, ?_⟩
    rotate_left
    · cases hb with
      | true => simp only [nrm, VR]; exact ⟨_, rfl, k2⟩
      | false => simpa [nrm] using norm_sound k3 k2
    simp only [Instr.build, Sem.run_bind, run_zeroValue hi hz, Result.andThen_ok, run_underlying hu, hplace]
    simp only [List.getElem?_toArray, List.getElem?_map, Array.toList_map, Value.cells]
    rw [k1]
    rfl
  | ar n es el z cmp =>
    simp only at h
    obtain ⟨_, i, zs, e, j, hi, hn, hz, hu, ⟨_, hj⟩, hes, hzs, hzl, hone⟩ := hty
    obtain ⟨cells', k1, k2, k3⟩ := fill_sound he parts.toList (z.map .d) cs zs (dmap_VRs rfl z _ hone (hzs w g.Z)) (by simpa using hone) h
    refine ⟨.agg cells', ?_, by simpa using norm_sound k3 k2⟩
    simp only [Instr.build, Sem.run_bind, run_zeroValue hi hz, Result.andThen_ok, run_underlying hu, run_sizeOf hj, hes]
    simp only [Array.toList_map, Value.cells]
    rw [k1]
    rfl
  | _ => exact h.elim

/-! ### Slices' literals -/

theorem frozen_row (hr : HR g H w) {l : List D} {vs : Array Value} (t : TypeId) {es : Nat} (h : AR w g.Z es l vs.toList) :
    ∃ g', HR g' H (w.alloc (.cells vs t)) ∧ Kp g w g' (w.alloc (.cells vs t)) ∧ Ag g H w g' H (w.alloc (.cells vs t)) ∧ g'.φ = g.φ ∧
      DCe (w.alloc (.cells vs t)) g'.Z l w.heap.size 0 es := by
  obtain ⟨h1, h2, h3⟩ := alloc_frozen hr (.cells vs t)
  refine ⟨_, h1, h2, h3, rfl, ?_⟩
  have hz := hr.zk h2
  have hcell : ∀ o, (w.alloc (.cells vs t)).cell? ⟨w.heap.size, o, none⟩ = vs[o]? := fun o => cell_of_block (alloc_new w _) o
  have key : ∀ (l : List D) (k : Nat), (∀ i x, l[i]? = some x → (k + i + 1) * es ≤ vs.toList.length ∧ (dcells x).length = es ∧ DC w g.Z x ((vs.toList.drop ((k + i) * es)).take es)) →
      DCe (w.alloc (.cells vs t)) (fun b i => g.Z b i ∨ b = w.heap.size) l w.heap.size (k * es) es := by
    intro l
    induction l with
    | nil => intro k _; trivial
    | cons d ds ih =>
      intro k hk
      simp only [DCe]
      obtain ⟨k1, k2, k3⟩ := hk 0 d rfl
      simp only [Nat.add_zero] at k1 k3
      refine ⟨⟨_, by rw [DC_length k3, k2], fun j hj => ⟨by simp, ?_⟩, DC_mono hz _ _ k3⟩, ?_⟩
      · rw [hcell, chunk_get, if_pos hj]
        simp
      · have := ih (k + 1) (fun i x hx => by
          have := hk (i + 1) x (by simpa using hx)
          rw [show k + 1 + i = k + (i + 1) by omega]
          exact this)
        rwa [Nat.add_mul, Nat.one_mul] at this
  have := key l 0 (fun i x hx => by
    obtain ⟨k1, k2⟩ := h.2 i x hx
    have hlt := lt_of_getElem? hx
    refine ⟨?_, k1, by simpa using k2⟩
    have h3 : (0 + i + 1) * es ≤ l.length * es := Nat.mul_le_mul_right _ (by omega)
    exact Nat.le_trans h3 h.1)
  simpa using this

theorem new_row (hr : HR g H w) {l : List D} {vs : Array Value} (t : TypeId) {es : Nat} (h : AR w g.Z es l vs.toList) :
    HR ⟨g.Z, g.φ ++ [some w.heap.size]⟩ (H ++ [.arr es false l]) (w.alloc (.cells vs t)) ∧ Kp g w ⟨g.Z, g.φ ++ [some w.heap.size]⟩ (w.alloc (.cells vs t)) ∧
      Ag g H w ⟨g.Z, g.φ ++ [some w.heap.size]⟩ (H ++ [.arr es false l]) (w.alloc (.cells vs t)) ∧
      ∀ cap, l.length ≤ cap → cap * es ≤ vs.size → VR ⟨g.Z, g.φ ++ [some w.heap.size]⟩ (H ++ [.arr es false l]) (w.alloc (.cells vs t)) (.ref H.length l.length 0 l.length) (.slice (some ⟨w.heap.size, 0, none⟩) l.length cap) := by
  obtain ⟨h1, h2, h3⟩ := alloc_blk hr (.cells vs t) (.arr es false l) (fun g' w' hz ha hn hgz => ⟨rfl, vs, t, hn, h.1, fun i x hx => ⟨(h.2 i x hx).1, DC_mono hz _ _ (h.2 i x hx).2⟩⟩)
  refine ⟨h1, h2, h3, fun cap hc1 hc2 => ?_⟩
  simp only [VR]
  refine ⟨⟨_, _, _, rfl⟩, es, false, l, by simp, Nat.le_refl _, fun _ => ⟨by omega, .inr ⟨w.heap.size, cap, vs, t, by rw [← hr.len]; simp, by simp, alloc_new w _, hc1, by simpa using hc2⟩⟩⟩

/-- What the parts of a slice's literal are. -/
def PartsD (w : World) (Z : Nat → Nat → Prop) (a : Act) (es : Nat) : Nat → List (Nat × Operand) → List D → Prop
  | _, [], l => l = []
  | k, (j, x) :: r, l => ∃ y l', l = y :: l' ∧ k = j ∧ (dcells y).length = es ∧ DC w Z y (a.eval x).cells.toList ∧ PartsD w Z a es (k + 1) r l'

theorem elems_parts {E : Env} {a : Act} (he : ER g H w E a.tmps) {es : Nat} : ∀ (parts : List (Nat × Operand)) (k : Nat) (l : List D), elems E es k parts = some l → PartsD w g.Z a es k parts l
  | [], k, l, h => by simp [elems] at h; exact h
  | (j, x) :: r, k, l, h => by
    simp only [elems] at h
    split at h
    · rename_i y l' hy hl
      split at h
      · rename_i hc
        simp at h; subst h
        exact ⟨y, l', rfl, hc.1, hc.2, DR_cells (toD_sound hy (ge_sound he x)), elems_parts he r (k + 1) l' hl⟩
      · cases h
    · cases h

theorem elems_sound {Z : Nat → Nat → Prop} {a : Act} {es : Nat} : ∀ (parts : List (Nat × Operand)) (k : Nat) (l : List D) (cells : Array Value),
    PartsD w Z a es k parts l → (k + l.length) * es ≤ cells.size →
    ∃ cells', Instr.fill (fun i => some (i * es, es)) cells (parts.map fun (i, x) => (i, a.eval x)) = some cells' ∧ cells'.size = cells.size ∧ (∀ q, q < k * es → cells'[q]? = cells[q]?) ∧
      ∀ i x, l[i]? = some x → (dcells x).length = es ∧ DC w Z x ((cells'.toList.drop ((k + i) * es)).take es)
  | [], k, l, cells, h, _ => by
    simp only [PartsD] at h; subst h
    exact ⟨cells, rfl, rfl, fun _ _ => rfl, by simp⟩
  | (j, x) :: r, k, l, cells, h, hsz => by
    obtain ⟨y, l', rfl, rfl, hes, hcs, hl⟩ := h
    simp only [List.length_cons] at hsz
    have hcl := DC_length hcs
    simp only [Array.length_toList] at hcl
    have hk1 : k * es + es ≤ cells.size := by
      have : (k + 1) * es ≤ (k + (l'.length + 1)) * es := Nat.mul_le_mul_right _ (by omega)
      rw [Nat.add_mul, Nat.one_mul] at this
      omega
    have hfold : (Array.foldl (fun cs (c, j) => cs.setIfInBounds (k * es + j) c) cells (a.eval x).cells.zipIdx).toList = splice cells.toList (k * es) (a.eval x).cells.toList := by
      have := foldl_set (a.eval x).cells.toList (k * es) 0 cells (by simp; omega)
      simp only [Nat.add_zero] at this
      rw [← this, ← Array.foldl_toList]
      congr 2
      simp
    generalize hcells1 : Array.foldl (fun cs (c, j) => cs.setIfInBounds (k * es + j) c) cells (a.eval x).cells.zipIdx = cells1 at hfold
    have hs1 : cells1.size = cells.size := by
      rw [← Array.length_toList, hfold, length_splice (by simp; omega)]; simp
    obtain ⟨cells', k1, k2, k3, k4⟩ := elems_sound r (k + 1) l' cells1 hl (by rw [hs1, show k + 1 + l'.length = k + (l'.length + 1) by omega]; exact hsz)
    refine ⟨cells', ?_, k2.trans hs1, fun q hq => ?_, fun i z hz => ?_⟩
    · simp only [List.map_cons, Instr.fill]
      rw [if_neg (by simp; omega), hcells1]
      exact k1
    · rw [k3 q (by rw [Nat.add_mul]; omega), ← Array.getElem?_toList, hfold, splice_get (by simp; omega), if_neg (by omega)]
      simp
    · cases i with
      | zero =>
        simp at hz; subst hz
        refine ⟨hes, ?_⟩
        have : ((cells'.toList.drop ((k + 0) * es)).take es) = (a.eval x).cells.toList := by
          apply List.ext_getElem?
          intro q
          rw [chunk_get, Nat.add_zero]
          have hk2 : (k + 1) * es = k * es + es := by rw [Nat.add_mul, Nat.one_mul]
          by_cases hq : q < es
          · rw [if_pos hq, Array.getElem?_toList, k3 _ (by omega), ← Array.getElem?_toList, hfold, splice_get (by simp; omega),
              if_pos (by simp; omega)]
            congr 1
            simp
          · rw [if_neg hq, List.getElem?_eq_none (by simp; omega)]
        rw [this]
        exact hcs
      | succ i =>
        have := k4 i z (by simpa using hz)
        rw [show k + (i + 1) = k + 1 + i by omega]
        exact this

theorem buildSlice_sound {t : TypeId} {es : Nat} {zd : D} (hty : TyOK P t (.sl es zd)) {Z : Nat → Nat → Prop} {a : Act} {parts : Array (Nat × Operand)} {len : Nat} (hlen24 : len * es ≤ 16777216) {l : List D} (h : PartsD w Z a es 0 parts.toList l) (hl : l.length = len) :
    ∃ e vs, (Instr.buildSlice t len (parts.map fun (i, x) => (i, a.eval x))).run P w = .ok (.slice (some ⟨w.heap.size, 0, none⟩) len len) (w.alloc (.cells vs e)) ∧ AR w Z es l vs.toList ∧ vs.size = len * es := by
  obtain ⟨i, e, j, zv, h1, h2, h3, hu, hj, hes, hes1, _, hz, ⟨hzd, hzc⟩, hzl⟩ := hty
  obtain ⟨cells', k1, k2, k3, k4⟩ := elems_sound parts.toList 0 l ((Array.range (len * es)).map (fun q => (if len * es = 0 then #[] else zv.cells)[q % (if len * es = 0 then #[] else zv.cells : Array Value).size]!)) h (by simp [hl])
  refine ⟨e, cells', ?_, ⟨by simp [k2, hl], fun i x hx => by simpa using k4 i x hx⟩, by simp [k2]⟩
  by_cases h0 : len * es = 0
  · simp only [h0, if_true] at k1
    simp only [Instr.buildSlice, Sem.run_bind, run_underlying hu, Result.andThen_ok, run_sizeOf hj, hes, Sem.run_ite, h0, if_true, Sem.run_pure]
    rw [if_neg (by omega)]
    simp only [Array.toList_map]
    rw [k1]
    rfl
  · simp only [h0, if_false] at k1
    simp only [Instr.buildSlice, Sem.run_bind, run_underlying hu, Result.andThen_ok, run_sizeOf hj, hes, Sem.run_ite, h0, if_false, Sem.run_pure, run_zeroValue hj hz]
    rw [if_neg (by omega)]
    simp only [Array.toList_map]
    rw [k1]
    rfl

end
end Go.Aw
end
