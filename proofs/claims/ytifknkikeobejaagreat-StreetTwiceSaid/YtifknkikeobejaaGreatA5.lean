/- The evaluator's rules: the operations themselves, results, what is forgotten. Contracts on data put to use: slices as data. Regions that draw their order: what an operation looks at. Regions that draw their order: one outcome for each operation; the order does not matter. Regions that draw their order: operations of which the abstract heap is no part. Regions that draw their order: one walk in the text's order serves every order. Regions that draw their order: the rule. -/
import Derived.Test.YtifknkikeobejaaGreatA4
import Derived.OrdersIn
set_option linter.unusedSimpArgs false
set_option linter.unusedVariables false

section
namespace Go.Aw
open Go

section
variable {T : Nat → Ty} {hint : Nat → Bool} {call : CallH} {E : Env} {H : Heap} {K : V → Heap → Prop} {d : Option Tmp} {t : TypeId} {p : String} {a : Array Edge} {g : Option (Nat × Bool)}

@[go_sem] theorem hinted_none : hinted hint none = false := (Eq.refl _).trans rfl
@[go_sem] theorem hinted_some (k : Tmp) : hinted hint (some k) = hint k := (Eq.refl _).trans rfl

@[go_sem] theorem evOp_move (x : Operand) : evOp T hint call ⟨d, .move x, t, p, a, g⟩ E H K = K (ge E x) H := (Eq.refl _).trans rfl

def evAsg (b : Bool) (v : V) (ty : Ty) (H : Heap) (K : V → Heap → Prop) : Prop :=
  match b, v with
  | true, .slx (some nl) [] => match ty with
    | .sl es _ => K (.ref H.length 0 0 0) (H ++ [.arr es nl []])
    | _ => False
  | _, v => K v H
@[go_sem] theorem evAsg_false (v : V) (ty : Ty) : evAsg false v ty H K = K v H := (Eq.refl _).trans rfl
@[go_sem] theorem evAsg_nil (nl : Bool) (es : Nat) (z : D) : evAsg true (.slx (some nl) []) (.sl es z) H K = K (.ref H.length 0 0 0) (H ++ [.arr es nl []]) := (Eq.refl _).trans rfl
@[go_sem] theorem evAsg_d (x : D) (ty : Ty) : evAsg true (.d x) ty H K = K (.d x) H := (Eq.refl _).trans rfl
@[go_sem] theorem evAsg_csl (i e l : Nat) (ty : Ty) : evAsg true (.csl i e l) ty H K = K (.csl i e l) H := (Eq.refl _).trans rfl
@[go_sem] theorem evAsg_ref (i n lo len : Nat) (ty : Ty) : evAsg true (.ref i n lo len) ty H K = K (.ref i n lo len) H := (Eq.refl _).trans rfl
@[go_sem] theorem evAsg_slx (nl : Option Bool) (x : D) (r : List D) (ty : Ty) : evAsg true (.slx nl (x :: r)) ty H K = K (.slx nl (x :: r)) H := by
  cases nl <;> rfl
@[go_sem] theorem evOp_assign (x : Operand) : evOp T hint call ⟨d, .assign x, t, p, a, g⟩ E H K = evAsg (hinted hint d) (ge E x) (T t) H K := by
  simp only [evOp]
  cases hinted hint d <;> cases ge E x <;> first | rfl | (rename_i nl l; cases nl <;> cases l <;> first | rfl | (simp only [evAsg]; cases T t <;> rfl))

@[go_sem] theorem evOp_pick (c x y : Operand) : evOp T hint call ⟨d, .pick c x y, t, p, a, g⟩ E H K = evIf (ge E c) (fun _ => K (ge E x) H) (fun _ => K (ge E y) H) := (Eq.refl _).trans rfl
@[go_sem] theorem evOp_alloc (s : TypeId) : evOp T hint call ⟨d, .alloc s, t, p, a, g⟩ E H K = Som (zeroV (T s)) fun cs => K (.ptr H.length 0) (H ++ [.cells cs]) := (Eq.refl _).trans rfl
@[go_sem] theorem evOp_box (s : TypeId) (x : Operand) : evOp T hint call ⟨d, .box s x, t, p, a, g⟩ E H K = Som (storeCells (T s) (ge E x)) fun cs => K (.ptr H.length 0) (H ++ [.cells cs]) := (Eq.refl _).trans rfl
@[go_sem] theorem evOp_load (s : TypeId) (x : Operand) : evOp T hint call ⟨d, .load s x, t, p, a, g⟩ E H K = Som (aload (T s) H (ge E x)) fun v => K v H := (Eq.refl _).trans rfl
@[go_sem] theorem evOp_store (s : TypeId) (x y : Operand) : evOp T hint call ⟨d, .store s x y, t, p, a, g⟩ E H K = Som (astore (T s) H (ge E x) (ge E y)) fun H' => K .und H' := (Eq.refl _).trans rfl
@[go_sem] theorem evOp_slice (s : TypeId) (x : Operand) (lo hi mx : Option Operand) : evOp T hint call ⟨d, .slice s x lo hi mx, t, p, a, g⟩ E H K = Som (aslice (T s) E H (ge E x) lo hi mx) fun v => K v H := (Eq.refl _).trans rfl
@[go_sem] theorem evOp_fieldAddr (s : TypeId) (x : Operand) (f : Nat) : evOp T hint call ⟨d, .fieldAddr s x f, t, p, a, g⟩ E H K = Som (afieldAddr (T s) (ge E x) f) fun v => K v H := (Eq.refl _).trans rfl
@[go_sem] theorem evOp_field (s : TypeId) (x : Operand) (f : Nat) : evOp T hint call ⟨d, .field s x f, t, p, a, g⟩ E H K = Som (afield T (T s) (ge E x) f) fun v => K v H := (Eq.refl _).trans rfl
@[go_sem] theorem evOp_indexAddr (s : TypeId) (x i : Operand) : evOp T hint call ⟨d, .indexAddr s x i, t, p, a, g⟩ E H K = Som (aidxAddr (T s) H (ge E x) (ge E i)) fun v => K v H := (Eq.refl _).trans rfl
@[go_sem] theorem evOp_index (s : TypeId) (x i : Operand) : evOp T hint call ⟨d, .index s x i, t, p, a, g⟩ E H K = Som (aindex T (T s) (ge E x) (ge E i)) fun v => K v H := (Eq.refl _).trans rfl
@[go_sem] theorem evOp_makeFunc (f : FuncId) (x y : Array Operand) : evOp T hint call ⟨d, .makeFunc (.func f) x y, t, p, a, g⟩ E H K = K (.fn (.func f) (x.toList.map (ge E)) (y.toList.map (ge E))) H := (Eq.refl _).trans rfl

def evNot (v : V) (H : Heap) (K : V → Heap → Prop) : Prop :=
  match v with
  | .d (.bool b) => K (.d (.bool (!b))) H
  | _ => False
@[go_sem] theorem evNot_bool (b : Bool) : evNot (.d (.bool b)) H K = K (.d (.bool (!b))) H := (Eq.refl _).trans rfl
@[go_sem] theorem evOp_not (s : TypeId) (x : Operand) : evOp T hint call ⟨d, .unOp .not s x, t, p, a, g⟩ E H K = evNot (ge E x) H K := by
  simp only [evOp, evNot]
  cases ge E x with
  | d x => cases x <;> rfl
  | _ => rfl
def evNeg (v : V) (H : Heap) (K : V → Heap → Prop) : Prop :=
  match v with
  | .d (.int k n) => K (.d (.int k (k.wrap (0 - n)))) H
  | _ => False
@[go_sem] theorem evNeg_int (k : IntKind) (n : Int) : evNeg (.d (.int k n)) H K = K (.d (.int k (k.wrap (0 - n)))) H := (Eq.refl _).trans rfl
@[go_sem] theorem evOp_neg (s : TypeId) (x : Operand) : evOp T hint call ⟨d, .unOp .neg s x, t, p, a, g⟩ E H K = evNeg (ge E x) H K := by
  simp only [evOp, evNeg]
  cases ge E x with
  | d x => cases x <;> rfl
  | _ => rfl

def evCv (s r : Ty) (v : V) (H : Heap) (K : V → Heap → Prop) : Prop :=
  match s, r, v with
  | .sc _, .sc (.int k _), .d (.int _ n) => K (.d (.int k (k.wrap n))) H
  | _, _, _ => False
@[go_sem] theorem evCv_int (z : D) (k k' : IntKind) (m n : Int) : evCv (.sc z) (.sc (.int k m)) (.d (.int k' n)) H K = K (.d (.int k (k.wrap n))) H := (Eq.refl _).trans rfl
@[go_sem] theorem evOp_convert (s r : TypeId) (x : Operand) : evOp T hint call ⟨d, .convert s r x, t, p, a, g⟩ E H K = evCv (T s) (T r) (ge E x) H K := (Eq.refl _).trans rfl

def evNil (v : V) (H : Heap) (K : V → Heap → Prop) : Prop :=
  match v with
  | .ptr id off => K (.ptr id off) H
  | .pp cs => K (.pp cs) H
  | .ep id n i off => K (.ep id n i off) H
  | .fn (.func k) p q => K (.fn (.func k) p q) H
  | _ => False
@[go_sem] theorem evNil_ptr (i o : Nat) : evNil (.ptr i o) H K = K (.ptr i o) H := (Eq.refl _).trans rfl
@[go_sem] theorem evNil_pp (cs : List D) : evNil (.pp cs) H K = K (.pp cs) H := (Eq.refl _).trans rfl
@[go_sem] theorem evNil_ep (i n k o : Nat) : evNil (.ep i n k o) H K = K (.ep i n k o) H := (Eq.refl _).trans rfl
@[go_sem] theorem evNil_fn (k : FuncId) (x y : List V) : evNil (.fn (.func k) x y) H K = K (.fn (.func k) x y) H := (Eq.refl _).trans rfl
@[go_sem] theorem evOp_nilCheck (x : Operand) : evOp T hint call ⟨d, .nilCheck x, t, p, a, g⟩ E H K = evNil (ge E x) H K := (Eq.refl _).trans rfl

def evExt (v : V) (i : Nat) (H : Heap) (K : V → Heap → Prop) : Prop :=
  match v with
  | .tup vs => Som vs[i]? fun v => K v H
  | _ => False
@[go_sem] theorem evExt_tup (vs : List V) (i : Nat) : evExt (.tup vs) i H K = Som vs[i]? fun v => K v H := (Eq.refl _).trans rfl
@[go_sem] theorem evOp_extract (x : Operand) (i : Nat) : evOp T hint call ⟨d, .extract x i, t, p, a, g⟩ E H K = evExt (ge E x) i H K := (Eq.refl _).trans rfl

/-! ### Two operands -/

def evBin (op : BinOp) (ty : Ty) (x y : V) (H : Heap) (K : V → Heap → Prop) : Prop :=
  match x, y with
  | .d (.int k a), .d (.int k' b) => Som (abin .no op (.int k a) (.int k' b)) fun v => K (.d v) H
  | .d (.bool a), .d (.bool b) => Som (abin ty op (.bool a) (.bool b)) fun v => K (.d v) H
  | .d (.str a), .d (.str b) => Som (abin .no op (.str a) (.str b)) fun v => K (.d v) H
  | .d (.agg a), .d (.agg b) => Som (abin ty op (.agg a) (.agg b)) fun v => K (.d v) H
  | a, b => match op with
    | .eql => Som (anilr ty H a b) fun t => K (.d (.bool t)) H
    | .neq => Som (anilr ty H a b) fun t => K (.d (.bool (!t))) H
    | _ => False
@[go_sem] theorem evOp_binOp (op : BinOp) (s s' : TypeId) (x y : Operand) : evOp T hint call ⟨d, .binOp op s x y s', t, p, a, g⟩ E H K = evBin op (T s) (ge E x) (ge E y) H K := by
  simp only [evOp, evBin]
  cases ge E x <;> cases ge E y <;> first | rfl | (cases op <;> rfl) | (rename_i x y; cases x <;> cases y <;> first | rfl | (cases op <;> rfl)) | (rename_i x; cases x <;> first | rfl | (cases op <;> rfl))

section
variable {ty : Ty} {k : IntKind} {m n : Int}
@[go_sem] theorem bin_add : evBin .add ty (.d (.int k m)) (.d (.int k n)) H K = K (.d (.int k (k.wrap (m + n)))) H := by simp [evBin, abin, Som]
@[go_sem] theorem bin_sub : evBin .sub ty (.d (.int k m)) (.d (.int k n)) H K = K (.d (.int k (k.wrap (m - n)))) H := by simp [evBin, abin, Som]
@[go_sem] theorem bin_mul : evBin .mul ty (.d (.int k m)) (.d (.int k n)) H K = K (.d (.int k (k.wrap (m * n)))) H := by simp [evBin, abin, Som]
def quoO (k : IntKind) (m n : Int) : Option D := if n = 0 then none else some (.int k (k.wrap (m.tdiv n)))
def remO (k : IntKind) (m n : Int) : Option D := if n = 0 then none else some (.int k (m.tmod n))
@[go_sem] theorem quoO_ne (h : n ≠ 0) : quoO k m n = some (.int k (k.wrap (m.tdiv n))) := by simp [quoO, h]
@[go_sem] theorem remO_ne (h : n ≠ 0) : remO k m n = some (.int k (m.tmod n)) := by simp [remO, h]
@[go_sem] theorem bin_quo : evBin .quo ty (.d (.int k m)) (.d (.int k n)) H K = Som (quoO k m n) fun v => K (.d v) H := by simp [evBin, abin, quoO]
@[go_sem] theorem bin_rem : evBin .rem ty (.d (.int k m)) (.d (.int k n)) H K = Som (remO k m n) fun v => K (.d v) H := by simp [evBin, abin, remO]
@[go_sem] theorem bin_lss : evBin .lss ty (.d (.int k m)) (.d (.int k n)) H K = K (.d (.bool (decide (m < n)))) H := by simp [evBin, abin, Som]
@[go_sem] theorem bin_leq : evBin .leq ty (.d (.int k m)) (.d (.int k n)) H K = K (.d (.bool (decide (m ≤ n)))) H := by simp [evBin, abin, Som]
@[go_sem] theorem bin_gtr : evBin .gtr ty (.d (.int k m)) (.d (.int k n)) H K = K (.d (.bool (decide (n < m)))) H := by simp [evBin, abin, Som]
@[go_sem] theorem bin_geq : evBin .geq ty (.d (.int k m)) (.d (.int k n)) H K = K (.d (.bool (decide (n ≤ m)))) H := by simp [evBin, abin, Som]
@[go_sem] theorem bin_eql : evBin .eql ty (.d (.int k m)) (.d (.int k n)) H K = K (.d (.bool (decide (m = n)))) H := by
  have : (m == n) = decide (m = n) := by by_cases h : m = n <;> simp [h]
  simp [evBin, abin, Som, this]
@[go_sem] theorem bin_neq : evBin .neq ty (.d (.int k m)) (.d (.int k n)) H K = K (.d (.bool (!decide (m = n)))) H := by
  have : (m != n) = !decide (m = n) := by by_cases h : m = n <;> simp [h]
  simp [evBin, abin, Som, this]
def andI (k : IntKind) (m n : Int) : Int := k.wrap (BitVec.ofInt k.bits m &&& BitVec.ofInt k.bits n).toNat
@[go_sem] theorem bin_and : evBin .and ty (.d (.int k m)) (.d (.int k n)) H K = K (.d (.int k (andI k m n))) H := by simp [evBin, abin, Som, andI]
def shrO (k : IntKind) (m n : Int) : Option D := if n < 0 then none else some (.int k (m.fdiv (2 ^ min n.toNat k.bits)))
@[go_sem] theorem shrO_nn (h : 0 ≤ n) : shrO k m n = some (.int k (m.fdiv (2 ^ min n.toNat k.bits))) := by rw [shrO, if_neg (by omega)]
@[go_sem] theorem bin_shr (k' : IntKind) : evBin .shr ty (.d (.int k m)) (.d (.int k' n)) H K = Som (shrO k m n) fun v => K (.d v) H := by simp [evBin, abin, shrO]
def shlO (k : IntKind) (m n : Int) : Option D := if n < 0 then none else some (.int k (k.wrap (m * 2 ^ min n.toNat k.bits)))
@[go_sem] theorem shlO_nn (h : 0 ≤ n) : shlO k m n = some (.int k (k.wrap (m * 2 ^ min n.toNat k.bits))) := by rw [shlO, if_neg (by omega)]
@[go_sem] theorem bin_shl (k' : IntKind) : evBin .shl ty (.d (.int k m)) (.d (.int k' n)) H K = Som (shlO k m n) fun v => K (.d v) H := by simp [evBin, abin, shlO]
def andNotI (k : IntKind) (m n : Int) : Int := k.wrap (BitVec.ofInt k.bits m &&& ~~~(BitVec.ofInt k.bits n)).toNat
@[go_sem] theorem bin_andNot : evBin .andNot ty (.d (.int k m)) (.d (.int k n)) H K = K (.d (.int k (andNotI k m n))) H := by simp [evBin, abin, Som, andNotI]
def orI (k : IntKind) (m n : Int) : Int := k.wrap (BitVec.ofInt k.bits m ||| BitVec.ofInt k.bits n).toNat
@[go_sem] theorem bin_or : evBin .or ty (.d (.int k m)) (.d (.int k n)) H K = K (.d (.int k (orI k m n))) H := by simp [evBin, abin, Som, orI]
def xorI (k : IntKind) (m n : Int) : Int := k.wrap (BitVec.ofInt k.bits m ^^^ BitVec.ofInt k.bits n).toNat
@[go_sem] theorem bin_xor : evBin .xor ty (.d (.int k m)) (.d (.int k n)) H K = K (.d (.int k (xorI k m n))) H := by simp [evBin, abin, Som, xorI]
@[go_sem] theorem bin_eqlb (z b c : Bool) : evBin .eql (.sc (.bool z)) (.d (.bool b)) (.d (.bool c)) H K = K (.d (.bool (b == c))) H := (Eq.refl _).trans rfl
@[go_sem] theorem bin_neqb (z b c : Bool) : evBin .neq (.sc (.bool z)) (.d (.bool b)) (.d (.bool c)) H K = K (.d (.bool (!(b == c)))) H := (Eq.refl _).trans rfl
@[go_sem] theorem bin_eqls (b c : ByteArray) : evBin .eql ty (.d (.str b)) (.d (.str c)) H K = K (.d (.bool (b == c))) H := (Eq.refl _).trans rfl
@[go_sem] theorem bin_neqs (b c : ByteArray) : evBin .neq ty (.d (.str b)) (.d (.str c)) H K = K (.d (.bool (!(b == c)))) H := (Eq.refl _).trans rfl
def eqO (ok : Bool) (o : Option Bool) : Option Bool := if ok = true then o else none
@[go_sem] theorem eqO_true (o : Option Bool) : eqO true o = o := (Eq.refl _).trans rfl
@[go_sem] theorem bin_eqla (n : Nat) (fs : List (Nat × Nat × Nat)) (z l r : List D) : evBin .eql (.st n fs z true) (.d (.agg l)) (.d (.agg r)) H K = Som (eqO (like z l) (aeqs l r)) fun v => K (.d (.bool v)) H := by
  simp only [evBin, abin, eqO]
  by_cases h : like z l = true <;> simp [h, Som] <;> cases aeqs l r <;> rfl
@[go_sem] theorem bin_neqa (n : Nat) (fs : List (Nat × Nat × Nat)) (z l r : List D) : evBin .neq (.st n fs z true) (.d (.agg l)) (.d (.agg r)) H K = Som (eqO (like z l) (aeqs l r)) fun v => K (.d (.bool (!v))) H := by
  simp only [evBin, abin, eqO]
  by_cases h : like z l = true <;> simp [h, Som] <;> cases aeqs l r <;> rfl
@[go_sem] theorem like_nil : like [] [] = true := (Eq.refl _).trans rfl
@[go_sem] theorem like_int (k k' : IntKind) (m n : Int) (r s : List D) : like (.int k m :: r) (.int k' n :: s) = (decide (k = k') && like r s) := (Eq.refl _).trans rfl
@[go_sem] theorem like_bool (b c : Bool) (r s : List D) : like (.bool b :: r) (.bool c :: s) = like r s := (Eq.refl _).trans rfl
@[go_sem] theorem like_str (b c : ByteArray) (r s : List D) : like (.str b :: r) (.str c :: s) = like r s := (Eq.refl _).trans rfl
def eqA (b : Bool) (o : Option Bool) : Option Bool :=
  match o with
  | some t => some (b && t)
  | none => none
@[go_sem] theorem eqA_some (b t : Bool) : eqA b (some t) = some (b && t) := (Eq.refl _).trans rfl
@[go_sem] theorem aeqs_nil : aeqs [] [] = some true := (Eq.refl _).trans rfl
@[go_sem] theorem aeqs_int (m n : Int) (r s : List D) : aeqs (.int k m :: r) (.int k n :: s) = eqA (decide (m = n)) (aeqs r s) := by
  have : (m == n) = decide (m = n) := by by_cases h : m = n <;> simp [h]
  simp only [aeqs, if_true, this]
  cases aeqs r s <;> rfl
@[go_sem] theorem aeqs_bool (b c : Bool) (r s : List D) : aeqs (.bool b :: r) (.bool c :: s) = eqA (b == c) (aeqs r s) := by
  simp only [aeqs]
  cases aeqs r s <;> rfl
@[go_sem] theorem aeqs_str (b c : ByteArray) (r s : List D) : aeqs (.str b :: r) (.str c :: s) = eqA (b == c) (aeqs r s) := by
  simp only [aeqs]
  cases aeqs r s <;> rfl
@[go_sem] theorem nil_slx_ (es : Nat) (z : D) (b : Bool) (l : List D) : evBin .eql (.sl es z) (.slx (some b) l) (.slx (some true) []) H K = K (.d (.bool b)) H := (Eq.refl _).trans rfl
@[go_sem] theorem nnil_slx_ (es : Nat) (z : D) (b : Bool) (l : List D) : evBin .neq (.sl es z) (.slx (some b) l) (.slx (some true) []) H K = K (.d (.bool (!b))) H := (Eq.refl _).trans rfl
def nilR (b : Option Blk) (n : Nat) : Option Bool :=
  match b with
  | some (.arr _ nl els) => if els.length = n then some nl else none
  | _ => none
@[go_sem] theorem nilR_arr (sz : Nat) (nl : Bool) (els : List D) (n : Nat) : nilR (some (.arr sz nl els)) n = if els.length = n then some nl else none := (Eq.refl _).trans rfl
@[go_sem] theorem nil_ref_ (es : Nat) (z : D) (i m lo len : Nat) : evBin .eql (.sl es z) (.ref i m lo len) (.slx (some true) []) H K = Som (nilR H[i]? m) fun t => K (.d (.bool t)) H := by
  cases hb : H[i]? with
  | none => simp [evBin, anilr, nilR, hb]
  | some b => cases b <;> simp [evBin, anilr, nilR, hb] 
@[go_sem] theorem nnil_ref_ (es : Nat) (z : D) (i m lo len : Nat) : evBin .neq (.sl es z) (.ref i m lo len) (.slx (some true) []) H K = Som (nilR H[i]? m) fun t => K (.d (.bool (!t))) H := by
  cases hb : H[i]? with
  | none => simp [evBin, anilr, nilR, hb]
  | some b => cases b <;> simp [evBin, anilr, nilR, hb]
@[go_sem] theorem nil_ptr_ (i o : Nat) : evBin .eql (.sc .nilp) (.ptr i o) (.d .nilp) H K = K (.d (.bool false)) H := (Eq.refl _).trans rfl
@[go_sem] theorem nnil_ptr_ (i o : Nat) : evBin .neq (.sc .nilp) (.ptr i o) (.d .nilp) H K = K (.d (.bool true)) H := (Eq.refl _).trans rfl
@[go_sem] theorem nil_pp_ (cs : List D) : evBin .eql (.sc .nilp) (.pp cs) (.d .nilp) H K = K (.d (.bool false)) H := (Eq.refl _).trans rfl
@[go_sem] theorem nnil_pp_ (cs : List D) : evBin .neq (.sc .nilp) (.pp cs) (.d .nilp) H K = K (.d (.bool true)) H := (Eq.refl _).trans rfl
@[go_sem] theorem nil_nilp_ : evBin .eql (.sc .nilp) (.d .nilp) (.d .nilp) H K = K (.d (.bool true)) H := (Eq.refl _).trans rfl
@[go_sem] theorem nnil_nilp_ : evBin .neq (.sc .nilp) (.d .nilp) (.d .nilp) H K = K (.d (.bool false)) H := (Eq.refl _).trans rfl
@[go_sem] theorem nil_fn_ (f : Fn) (x y : List V) : evBin .eql (.sc .nilf) (.fn f x y) (.d .nilf) H K = K (.d (.bool false)) H := (Eq.refl _).trans rfl
@[go_sem] theorem nnil_fn_ (f : Fn) (x y : List V) : evBin .neq (.sc .nilf) (.fn f x y) (.d .nilf) H K = K (.d (.bool true)) H := (Eq.refl _).trans rfl
end

/-! ### Structs, literals, makes -/

def evBuild (ty : Ty) (h : Bool) (E : Env) (parts : List (Nat × Operand)) (H : Heap) (K : V → Heap → Prop) : Prop :=
  match ty with
  | .st _ fs z _ => Som (fillAt (fun i => (fs[i]?).map fun p => (p.1, p.2.1)) E (zfill h z) parts) fun cs => K (nrm h cs) H
  | .ar _ es _ z _ => Som (fillAt (fun i => some (i * es, es)) E (z.map .d) parts) fun cs => K (norm cs) H
  | _ => False
@[go_sem] theorem evBuild_st (n : Nat) (fs : List (Nat × Nat × Nat)) (z : List D) (c : Bool) (parts : List (Nat × Operand)) : evBuild (.st n fs z c) false E parts H K = Som (fillAt (fun i => (fs[i]?).map fun p => (p.1, p.2.1)) E (z.map .d) parts) fun cs => K (norm cs) H := (Eq.refl _).trans rfl
@[go_sem] theorem evBuild_sth (n : Nat) (fs : List (Nat × Nat × Nat)) (z : List D) (c : Bool) (parts : List (Nat × Operand)) : evBuild (.st n fs z c) true E parts H K = Som (fillAt (fun i => (fs[i]?).map fun p => (p.1, p.2.1)) E (zst z) parts) fun cs => K (.agg cs) H := (Eq.refl _).trans rfl
@[go_sem] theorem zst_nil : zst [] = [] := (Eq.refl _).trans rfl
@[go_sem] theorem zst_sl (r : List D) : zst (.sl [] :: r) = .slx (some true) [] :: zst r := (Eq.refl _).trans rfl
@[go_sem] theorem zst_int (k : IntKind) (n : Int) (r : List D) : zst (.int k n :: r) = .d (.int k n) :: zst r := (Eq.refl _).trans rfl
@[go_sem] theorem zst_bool (b : Bool) (r : List D) : zst (.bool b :: r) = .d (.bool b) :: zst r := (Eq.refl _).trans rfl
@[go_sem] theorem zst_str (b : ByteArray) (r : List D) : zst (.str b :: r) = .d (.str b) :: zst r := (Eq.refl _).trans rfl
@[go_sem] theorem evBuild_ar (hb : Bool) (n es el : Nat) (z : List D) (c : Bool) (parts : List (Nat × Operand)) : evBuild (.ar n es el z c) hb E parts H K = Som (fillAt (fun i => some (i * es, es)) E (z.map .d) parts) fun cs => K (norm cs) H := (Eq.refl _).trans rfl
@[go_sem] theorem evOp_build (s : TypeId) (parts : List (Nat × Operand)) : evOp T hint call ⟨d, .build s parts.toArray, t, p, a, g⟩ E H K = evBuild (T s) (hinted hint d) E parts H K := (Eq.refl _).trans rfl
def fillS (o : Option (Nat × Nat)) (v : Option (List V)) (cs : List V) (f : List V → Option (List V)) : Option (List V) :=
  match o, v with
  | some (off, size), some vs => if vs.length = size ∧ off + size ≤ cs.length ∧ vs.all V.one = true then f (splice cs off vs) else none
  | _, _ => none
@[go_sem] theorem fillS_some (off size : Nat) (vs cs : List V) (f : List V → Option (List V)) : fillS (some (off, size)) (some vs) cs f = if vs.length = size ∧ off + size ≤ cs.length ∧ vs.all V.one = true then f (splice cs off vs) else none := (Eq.refl _).trans rfl
@[go_sem] theorem fillAt_nil (pl : Nat → Option (Nat × Nat)) (cs : List V) : fillAt pl E cs [] = some cs := (Eq.refl _).trans rfl
@[go_sem] theorem fillAt_cons (pl : Nat → Option (Nat × Nat)) (cs : List V) (i : Nat) (x : Operand) (r : List (Nat × Operand)) : fillAt pl E cs ((i, x) :: r) = fillS (pl i) (vcells (ge E x)) cs fun cs' => fillAt pl E cs' r := by
  simp only [fillAt]
  cases h1 : pl i <;> cases h2 : vcells (ge E x) <;> rfl
@[congr] theorem fillS_congr {o o' : Option (Nat × Nat)} {v v' : Option (List V)} {cs cs' : List V} {f : List V → Option (List V)} (h1 : o = o') (h2 : v = v') (h3 : cs = cs') {one : Prop} (ho : (True ∧ True) = one) : fillS o v cs f = fillS o' v' cs' f := by rw [h1, h2, h3]

def evBS (b h : Bool) (es len : Nat) (l : List D) (H : Heap) (K : V → Heap → Prop) : Prop :=
  match b with
  | true => match h with
    | true => K (.ref H.length len 0 len) (H ++ [.arr es false l])
    | false => K (.slx (some false) l) H
  | false => False
@[go_sem] theorem evBS_ref (es len : Nat) (l : List D) : evBS true true es len l H K = K (.ref H.length len 0 len) (H ++ [.arr es false l]) := (Eq.refl _).trans rfl
@[go_sem] theorem evBS_slx (es len : Nat) (l : List D) : evBS true false es len l H K = K (.slx (some false) l) H := (Eq.refl _).trans rfl
def evBG (b : Bool) (l : List D) (H : Heap) (K : V → Heap → Prop) : Prop :=
  match b with
  | true => K (.slx (some false) l) H
  | false => False
@[go_sem] theorem evBG_true (l : List D) : evBG true l H K = K (.slx (some false) l) H := (Eq.refl _).trans rfl
def evBO (o : Option (List D × Heap)) (es len : Nat) (K : V → Heap → Prop) : Prop :=
  match o with
  | some (l, H) => evBG (decide (l.length = len) && decide (len * es ≤ 16777216)) l H K
  | none => False
@[go_sem] theorem evBO_some (l : List D) (H' : Heap) (es len : Nat) : evBO (some (l, H')) es len K = evBG (decide (l.length = len) && decide (len * es ≤ 16777216)) l H' K := (Eq.refl _).trans rfl
def evBSl (ty : Ty) (h : Bool) (E : Env) (len : Nat) (parts : List (Nat × Operand)) (H : Heap) (K : V → Heap → Prop) : Prop :=
  match ty with
  | .sl es _ => match h with
    | true => Som (elems E es 0 parts) fun l => evBS (decide (l.length = len) && decide (len * es ≤ 16777216)) true es len l H K
    | false => evBO (elemG E es 0 H parts) es len K
  | _ => False
@[go_sem] theorem evBSl_ref (es : Nat) (z : D) (len : Nat) (parts : List (Nat × Operand)) : evBSl (.sl es z) true E len parts H K = Som (elems E es 0 parts) fun l => evBS (decide (l.length = len) && decide (len * es ≤ 16777216)) true es len l H K := (Eq.refl _).trans rfl
@[go_sem] theorem evBSl_sl (es : Nat) (z : D) (len : Nat) (parts : List (Nat × Operand)) : evBSl (.sl es z) false E len parts H K = evBO (elemG E es 0 H parts) es len K := (Eq.refl _).trans rfl
@[go_sem] theorem evOp_buildSlice (s : TypeId) (len : Nat) (parts : List (Nat × Operand)) : evOp T hint call ⟨d, .buildSlice s len parts.toArray, t, p, a, g⟩ E H K = evBSl (T s) (hinted hint d) E len parts H K := by
  simp only [evOp]
  cases hTs : T s with
  | sl es z =>
    simp only [evBSl]
    cases hinted hint d with
    | false => cases h : elemG E es 0 H parts <;> simp [Som, evBO, evBG, h] <;> rfl
    | true => cases h : elems E es 0 parts <;> simp [Som, evBS, h] <;> rfl
  | _ => rfl
def givN (o : Option (D × Heap)) (f : Heap → Option (List D × Heap)) : Option (List D × Heap) :=
  match o with
  | some (x, H1) => match f H1 with
    | some (l, H2) => some (x :: l, H2)
    | none => none
  | none => none
def givL (x : D) (o : Option (List D × Heap)) : Option (List D × Heap) :=
  match o with
  | some (l, H2) => some (x :: l, H2)
  | none => none
@[go_sem] theorem givN_some (x : D) (H1 : Heap) (f : Heap → Option (List D × Heap)) : givN (some (x, H1)) f = givL x (f H1) := (Eq.refl _).trans rfl
@[go_sem] theorem givL_some (x : D) (l : List D) (H1 : Heap) : givL x (some (l, H1)) = some (x :: l, H1) := (Eq.refl _).trans rfl
@[congr] theorem givN_congr {o o' : Option (D × Heap)} {f : Heap → Option (List D × Heap)} (h : o = o') {one : Prop} (ho : (True ∧ True) = one) : givN o f = givN o' f := by rw [h]
def givO (b : Option Blk) (H : Heap) (id n lo len : Nat) : Option (D × Heap) :=
  match b with
  | some (.arr sz nl els) => if els.length = n then some (.sl ((els.drop lo).take len), H.set id (.arr sz nl (els ++ [.nilp]))) else none
  | _ => none
@[go_sem] theorem givO_arr (sz : Nat) (nl : Bool) (els : List D) (id n lo len : Nat) : givO (some (.arr sz nl els)) H id n lo len = if els.length = n then some (.sl ((els.drop lo).take len), H.set id (.arr sz nl (els ++ [.nilp]))) else none := (Eq.refl _).trans rfl
def givA (o : Option (List D × Heap)) : Option (D × Heap) :=
  match o with
  | some (l, H') => some (.agg l, H')
  | none => none
@[go_sem] theorem givA_some (l : List D) (H' : Heap) : givA (some (l, H')) = some (.agg l, H') := (Eq.refl _).trans rfl
@[go_sem] theorem giv1_ref (id n lo len : Nat) : giv1 H (.ref id n lo len) = givO H[id]? H id n lo len := by
  cases hb : H[id]? with
  | none => simp [giv1, givO, hb]
  | some b => cases b <;> simp [giv1, givO, hb]
@[go_sem] theorem giv1_int (k : IntKind) (n : Int) : giv1 H (.d (.int k n)) = some (.int k n, H) := (Eq.refl _).trans rfl
@[go_sem] theorem giv1_bool (b : Bool) : giv1 H (.d (.bool b)) = some (.bool b, H) := (Eq.refl _).trans rfl
@[go_sem] theorem giv1_str (b : ByteArray) : giv1 H (.d (.str b)) = some (.str b, H) := (Eq.refl _).trans rfl
@[go_sem] theorem giv1_sl (l : List D) : giv1 H (.d (.sl l)) = some (.sl l, H) := (Eq.refl _).trans rfl
@[go_sem] theorem giv1_nilp : giv1 H (.d .nilp) = some (.nilp, H) := (Eq.refl _).trans rfl
@[go_sem] theorem giv1_slx (b : Option Bool) (l : List D) : giv1 H (.slx b l) = some (.sl l, H) := (Eq.refl _).trans rfl
@[go_sem] theorem givs_nil : givs H [] = some ([], H) := (Eq.refl _).trans rfl
@[go_sem] theorem givs_cons (v : V) (r : List V) : givs H (v :: r) = givN (giv1 H v) fun H1 => givs H1 r := by
  simp only [givs, givN]
  cases giv1 H v with
  | none => rfl
  | some q => rfl
@[go_sem] theorem giv_ref (id n lo len : Nat) : giv H (.ref id n lo len) = givO H[id]? H id n lo len := giv1_ref id n lo len
@[go_sem] theorem giv_int (k : IntKind) (n : Int) : giv H (.d (.int k n)) = some (.int k n, H) := (Eq.refl _).trans rfl
@[go_sem] theorem giv_bool (b : Bool) : giv H (.d (.bool b)) = some (.bool b, H) := (Eq.refl _).trans rfl
@[go_sem] theorem giv_str (b : ByteArray) : giv H (.d (.str b)) = some (.str b, H) := (Eq.refl _).trans rfl
@[go_sem] theorem giv_sl (l : List D) : giv H (.d (.sl l)) = some (.sl l, H) := (Eq.refl _).trans rfl
@[go_sem] theorem giv_dagg (l : List D) : giv H (.d (.agg l)) = some (.agg l, H) := (Eq.refl _).trans rfl
@[go_sem] theorem giv_nilp : giv H (.d .nilp) = some (.nilp, H) := (Eq.refl _).trans rfl
@[go_sem] theorem giv_slx (b : Option Bool) (l : List D) : giv H (.slx b l) = some (.sl l, H) := (Eq.refl _).trans rfl
@[go_sem] theorem giv_agg (cs : List V) : giv H (.agg cs) = givA (givs H cs) := by
  simp only [giv, givA]
  cases givs H cs with
  | none => rfl
  | some q => rfl
def givE (c : Bool) (es : Nat) (o : Option (D × Heap)) (f : Heap → Option (List D × Heap)) : Option (List D × Heap) :=
  match o with
  | some (y, H1) => match f H1 with
    | some (l, H2) => if c = true ∧ (dcells y).length = es then some (y :: l, H2) else none
    | none => none
  | none => none
def givF (c : Bool) (es : Nat) (y : D) (o : Option (List D × Heap)) : Option (List D × Heap) :=
  match o with
  | some (l, H2) => if c = true ∧ (dcells y).length = es then some (y :: l, H2) else none
  | none => none
@[go_sem] theorem givE_some (c : Bool) (es : Nat) (y : D) (H1 : Heap) (f : Heap → Option (List D × Heap)) : givE c es (some (y, H1)) f = givF c es y (f H1) := (Eq.refl _).trans rfl
@[go_sem] theorem givF_some (c : Bool) (es : Nat) (y : D) (l : List D) (H1 : Heap) : givF c es y (some (l, H1)) = if c = true ∧ (dcells y).length = es then some (y :: l, H1) else none := (Eq.refl _).trans rfl
@[congr] theorem givE_congr {c c' : Bool} {es : Nat} {o o' : Option (D × Heap)} {f : Heap → Option (List D × Heap)} (h0 : c = c') (h : o = o') {one : Prop} (ho : (True ∧ True) = one) : givE c es o f = givE c' es o' f := by rw [h0, h]
@[go_sem] theorem elemG_nil (es i : Nat) : elemG E es i H [] = some ([], H) := (Eq.refl _).trans rfl
@[go_sem] theorem elemG_cons (es i j : Nat) (x : Operand) (r : List (Nat × Operand)) : elemG E es i H ((j, x) :: r) = givE (i == j) es (giv H (ge E x)) fun H1 => elemG E es (i + 1) H1 r := by
  simp only [elemG, givE]
  cases h1 : giv H (ge E x) with
  | none => rfl
  | some q =>
    simp only
    cases h2 : elemG E es (i + 1) q.2 r with
    | none => rfl
    | some q2 => simp
def elS (c : Bool) (es : Nat) (x : Option D) (r : Option (List D)) : Option (List D) :=
  match x, r with
  | some y, some l => if c = true ∧ (dcells y).length = es then some (y :: l) else none
  | _, _ => none
@[go_sem] theorem elS_some (es : Nat) (y : D) (l : List D) (c : Bool) : elS c es (some y) (some l) = if c = true ∧ (dcells y).length = es then some (y :: l) else none := (Eq.refl _).trans rfl
@[go_sem] theorem elems_nil (es i : Nat) : elems E es i [] = some [] := (Eq.refl _).trans rfl
@[go_sem] theorem elems_cons (es i j : Nat) (x : Operand) (r : List (Nat × Operand)) : elems E es i ((j, x) :: r) = elS (i == j) es (toD (ge E x)) (elems E es (i + 1) r) := by
  simp only [elems, elS]
  cases h1 : toD (ge E x) <;> cases h2 : elems E es (i + 1) r <;> simp

def evMk (ty : Ty) (n c : V) (h : Bool) (H : Heap) (K : V → Heap → Prop) : Prop :=
  match ty, n, c with
  | .sl es z, .d (.int _ n), .d (.int _ c) => match decide (0 ≤ n) && decide (n = c) && decide (n ≤ 4294967296) && decide ((dcells z).length = es) with
    | true => match h with
      | true => match hasSl z && (zcells z).all V.one with
        | true => K (.csl H.length es n.toNat) (H ++ [.cells (rep n.toNat (zcells z))])
        | false => K (.ref H.length n.toNat 0 n.toNat) (H ++ [.arr es false (List.replicate n.toNat z)])
      | false => K (.slx (some false) (List.replicate n.toNat z)) H
    | false => False
  | _, _, _ => False
def evMk3 (c : Bool) (es n : Nat) (z : D) (H : Heap) (K : V → Heap → Prop) : Prop :=
  match c with
  | true => K (.csl H.length es n) (H ++ [.cells (rep n (zcells z))])
  | false => K (.ref H.length n 0 n) (H ++ [.arr es false (List.replicate n z)])
@[go_sem] theorem evMk3_true (es n : Nat) (z : D) : evMk3 true es n z H K = K (.csl H.length es n) (H ++ [.cells (rep n (zcells z))]) := (Eq.refl _).trans rfl
@[go_sem] theorem evMk3_false (es n : Nat) (z : D) : evMk3 false es n z H K = K (.ref H.length n 0 n) (H ++ [.arr es false (List.replicate n z)]) := (Eq.refl _).trans rfl
def evMk2 (b h : Bool) (es n : Nat) (z : D) (H : Heap) (K : V → Heap → Prop) : Prop :=
  match b with
  | true => match h with
    | true => evMk3 (hasSl z && (zcells z).all V.one) es n z H K
    | false => K (.slx (some false) (List.replicate n z)) H
  | false => False
@[go_sem] theorem evMk2_ref (es n : Nat) (z : D) : evMk2 true true es n z H K = evMk3 (hasSl z && (zcells z).all V.one) es n z H K := (Eq.refl _).trans rfl
@[go_sem] theorem evMk2_slx (es n : Nat) (z : D) : evMk2 true false es n z H K = K (.slx (some false) (List.replicate n z)) H := (Eq.refl _).trans rfl
@[go_sem] theorem evMk_sl (es : Nat) (z : D) (k k' : IntKind) (n c : Int) (h : Bool) : evMk (.sl es z) (.d (.int k n)) (.d (.int k' c)) h H K = evMk2 (decide (0 ≤ n) && decide (n = c) && decide (n ≤ 4294967296) && decide ((dcells z).length = es)) h es n.toNat z H K := by
  simp only [evMk, evMk2, evMk3]
@[go_sem] theorem evOp_makeSlice (s : TypeId) (n c : Operand) : evOp T hint call ⟨d, .makeSlice s n c, t, p, a, g⟩ E H K = evMk (T s) (ge E n) (ge E c) (hinted hint d) H K := (Eq.refl _).trans rfl

/-! ### Calls -/

@[go_sem] theorem evOp_call (f : Operand) (xs : List Operand) (ts : Array TypeId) : evOp T hint call ⟨d, .call ⟨.value f, xs.toArray, ts⟩, t, p, a, g⟩ E H K = call (ge E f) (xs.map (ge E)) H K := (Eq.refl _).trans rfl
@[go_sem] theorem evOp_len (x : Operand) (s : TypeId) : evOp T hint call ⟨d, .call ⟨.builtin .len, #[x], #[s]⟩, t, p, a, g⟩ E H K = Som (alen (T s) H (ge E x)) fun n => K (.d (.int .i64 n)) H := (Eq.refl _).trans rfl
def acopyR (es : Nat) (b : Option Blk) (id n lo len : Nat) (H : Heap) (ys : List D) : Option (Nat × Heap) :=
  match b with
  | some (.arr sz nl els) => if (els.length = n ∧ lo = 0 ∧ len = n) ∧ ys.length = n ∧ sized es ys = true ∧ sz = es then some (n, H.set id (.arr sz nl ys)) else none
  | _ => none
@[go_sem] theorem acopyR_arr (es sz : Nat) (nl : Bool) (els : List D) (id n lo len : Nat) (H : Heap) (ys : List D) : acopyR es (some (.arr sz nl els)) id n lo len H ys = if (els.length = n ∧ lo = 0 ∧ len = n) ∧ ys.length = n ∧ sized es ys = true ∧ sz = es then some (n, H.set id (.arr sz nl ys)) else none := (Eq.refl _).trans rfl
@[go_sem] theorem acopy_d (es : Nat) (z : D) (id n lo len : Nat) (ys : List D) : acopy (.sl es z) H (.ref id n lo len) (.d (.sl ys)) = acopyR es H[id]? id n lo len H ys := by
  cases hb : H[id]? with
  | none => simp [acopy, acopyR, content, hb]
  | some b => cases b <;> simp [acopy, acopyR, content, hb]
@[go_sem] theorem evOp_copy (x y : Operand) (s u : TypeId) : evOp T hint call ⟨d, .call ⟨.builtin .copy, #[x, y], #[s, u]⟩, t, p, a, g⟩ E H K = Som (acopy (T s) H (ge E x) (ge E y)) fun p => K (.d (.int .i64 p.1)) p.2 := (Eq.refl _).trans rfl
def aclearR (es : Nat) (z : D) (b : Option Blk) (id n lo len : Nat) (H : Heap) : Option Heap :=
  match b with
  | some (.arr sz nl els) => if els.length = n ∧ sz = es ∧ lo + len = n then some (H.set id (.arr sz nl (els.take lo ++ List.replicate len z))) else none
  | _ => none
@[go_sem] theorem aclearR_arr (es sz : Nat) (z : D) (nl : Bool) (els : List D) (id n lo len : Nat) (H : Heap) : aclearR es z (some (.arr sz nl els)) id n lo len H = if els.length = n ∧ sz = es ∧ lo + len = n then some (H.set id (.arr sz nl (els.take lo ++ List.replicate len z))) else none := (Eq.refl _).trans rfl
@[go_sem] theorem aclear_ref (es : Nat) (z : D) (id n lo len : Nat) : aclear (.sl es z) H (.ref id n lo len) = aclearR es z H[id]? id n lo len H := (Eq.refl _).trans rfl
@[go_sem] theorem evOp_clear (x : Operand) (s : TypeId) : evOp T hint call ⟨d, .call ⟨.builtin .clear, #[x], #[s]⟩, t, p, a, g⟩ E H K = Som (aclear (T s) H (ge E x)) fun H' => K (.tup []) H' := (Eq.refl _).trans rfl
@[go_sem] theorem evOp_min (x : Operand) (r : List Operand) (ts : Array TypeId) : evOp T hint call ⟨d, .call ⟨.builtin .min, (x :: r).toArray, ts⟩, t, p, a, g⟩ E H K = Som (foldD amin (ge E x) (r.map (ge E))) fun v => K v H := (Eq.refl _).trans rfl
@[go_sem] theorem evOp_max (x : Operand) (r : List Operand) (ts : Array TypeId) : evOp T hint call ⟨d, .call ⟨.builtin .max, (x :: r).toArray, ts⟩, t, p, a, g⟩ E H K = Som (foldD amax (ge E x) (r.map (ge E))) fun v => K v H := (Eq.refl _).trans rfl
def foldS (f : D → D → Option D) (o : Option D) (r : List V) : Option V :=
  match o with
  | some z => foldD f (.d z) r
  | none => none
@[go_sem] theorem foldS_some (f : D → D → Option D) (z : D) (r : List V) : foldS f (some z) r = foldD f (.d z) r := (Eq.refl _).trans rfl
@[go_sem] theorem foldD_nil (f : D → D → Option D) (x : D) : foldD f (.d x) [] = some (.d x) := (Eq.refl _).trans rfl
@[go_sem] theorem foldD_cons (f : D → D → Option D) (x y : D) (r : List V) : foldD f (.d x) (.d y :: r) = foldS f (f x y) r := (Eq.refl _).trans rfl
@[go_sem] theorem amin_int (k : IntKind) (m n : Int) : amin (.int k m) (.int k n) = some (.int k (min m n)) := by simp [amin]
@[go_sem] theorem amax_int (k : IntKind) (m n : Int) : amax (.int k m) (.int k n) = some (.int k (max m n)) := by simp [amax]

def evApp (ty ty' : Ty) (h : Bool) (H : Heap) (x y : V) (K : V → Heap → Prop) : Prop :=
  match ty' with
  | .sl _ _ => aappend ty h H x y K
  | _ => False
def app1 (es : Nat) (b : Bool) (h : Bool) (H : Heap) (base : V) (ys : List D) (K : V → Heap → Prop) : Prop :=
  match b with
  | true => match base with
    | .slx nl l => match sized es l && decide (l.length + ys.length ≤ 4294967296) with
      | true => match h with
        | true => match l, nl with
          | [], some b => K (.ref H.length ys.length 0 ys.length) (H ++ [.arr es (b && ys.isEmpty) ys])
          | _, _ => False
        | false => K (.d (.sl (l ++ ys))) H
      | false => False
    | .ref id n lo len => match H[id]? with
      | some (.arr sz nl els) =>
        match decide (els.length = n) && decide (sz = es) && decide (lo = 0) && decide (len = n) && decide (n + ys.length ≤ 4294967296) with
        | true => K (.ref id (n + ys.length) 0 (n + ys.length)) (H.set id (.arr sz (nl && ys.isEmpty) (els ++ ys)))
        | false => False
      | _ => False
    | _ => False
  | false => False
def app0 (es : Nat) (h : Bool) (H : Heap) (base : V) (o : Option (List D)) (K : V → Heap → Prop) : Prop :=
  match o with
  | some ys => app1 es (sized es ys) h H base ys K
  | none => False
@[go_sem] theorem evOp_append (x y : Operand) (s u : TypeId) : evOp T hint call ⟨d, .call ⟨.builtin .append, #[x, y], #[s, u]⟩, t, p, a, g⟩ E H K = evApp (T s) (T u) (hinted hint d) H (ge E x) (ge E y) K := (Eq.refl _).trans rfl
@[go_sem] theorem evApp_sl (es es' : Nat) (z z' : D) (h : Bool) (x y : V) : evApp (.sl es z) (.sl es' z') h H x y K = app0 es h H x (content H y) K := by
  simp only [evApp, aappend, app0]
  cases content H y with
  | none => rfl
  | some ys =>
    simp only [app1]
    cases sized es ys with
    | false => rfl
    | true =>
      cases x <;> rfl
@[go_sem] theorem app0_some (es : Nat) (h : Bool) (base : V) (ys : List D) : app0 es h H base (some ys) K = app1 es (sized es ys) h H base ys K := (Eq.refl _).trans rfl
def app2 (b : Bool) (A : Unit → Prop) : Prop :=
  match b with
  | true => A ()
  | false => False
@[go_sem] theorem app2_true (A : Unit → Prop) : app2 true A = A () := (Eq.refl _).trans rfl
@[congr] theorem app2_congr {b b' : Bool} {A : Unit → Prop} (h : b = b') {one : Prop} (ho : (True ∧ True) = one) : app2 b A = app2 b' A := by rw [h]
@[go_sem] theorem app1_slx (es : Nat) (nl : Option Bool) (l ys : List D) : app1 es true false H (.slx nl l) ys K = app2 (sized es l && decide (l.length + ys.length ≤ 4294967296)) fun _ => K (.d (.sl (l ++ ys))) H := (Eq.refl _).trans rfl
@[go_sem] theorem app1_new (es : Nat) (nl : Bool) (ys : List D) : app1 es true true H (.slx (some nl) []) ys K = app2 (decide (ys.length ≤ 4294967296)) fun _ => K (.ref H.length ys.length 0 ys.length) (H ++ [.arr es (nl && ys.isEmpty) ys]) := by
  simp only [app1, app2, sized_nil, Bool.true_and, List.length_nil, Nat.zero_add]
def appR (b : Option Blk) (es id n lo len : Nat) (H : Heap) (ys : List D) (K : V → Heap → Prop) : Prop :=
  match b with
  | some (.arr sz nl els) => app2 (decide (els.length = n) && decide (sz = es) && decide (lo = 0) && decide (len = n) && decide (n + ys.length ≤ 4294967296)) fun _ => K (.ref id (n + ys.length) 0 (n + ys.length)) (H.set id (.arr sz (nl && ys.isEmpty) (els ++ ys)))
  | _ => False
@[go_sem] theorem appR_arr (es id n lo len sz : Nat) (nl : Bool) (els ys : List D) : appR (some (.arr sz nl els)) es id n lo len H ys K = app2 (decide (els.length = n) && decide (sz = es) && decide (lo = 0) && decide (len = n) && decide (n + ys.length ≤ 4294967296)) fun _ => K (.ref id (n + ys.length) 0 (n + ys.length)) (H.set id (.arr sz (nl && ys.isEmpty) (els ++ ys))) := (Eq.refl _).trans rfl
@[go_sem] theorem app1_ref (es id n lo len : Nat) (h : Bool) (ys : List D) : app1 es true h H (.ref id n lo len) ys K = appR H[id]? es id n lo len H ys K := by
  simp only [app1]
  cases hb : H[id]? with
  | none => rfl
  | some b => cases b <;> rfl
@[congr] theorem appR_congr {b b' : Option Blk} {es id n lo len : Nat} {H : Heap} {ys : List D} (h : b = b') {one : Prop} (ho : (True ∧ True) = one) : appR b es id n lo len H ys K = appR b' es id n lo len H ys K := by rw [h]

/-! ### Results; what is forgotten -/


def fin (T : Nat → Ty) (rs : List ResultVar) (n : Nat) (Q : V → Heap → Prop) (E : Env) (H : Heap) : Prop :=
  Som (resV T E H rs) fun vs => Som (pubV n H (mkRes vs)) fun v => BBq n H ∧ Q v (H.take n)
@[go_sem] theorem FnPost_normal (rs : List ResultVar) (n : Nat) (Q : V → Heap → Prop) : FnPost T rs n Q .normal E H = fin T rs n Q E H := (Eq.refl _).trans rfl
@[go_sem] theorem FnPost_ret (rs : List ResultVar) (n : Nat) (Q : V → Heap → Prop) : FnPost T rs n Q .ret E H = fin T rs n Q E H := (Eq.refl _).trans rfl
@[go_sem] theorem fin_eq (rs : List ResultVar) (n : Nat) (Q : V → Heap → Prop) : fin T rs n Q E H = Som (resV T E H rs) fun vs => Som (pubV n H (mkRes vs)) fun v => BBq n H ∧ Q v (H.take n) := (Eq.refl _).trans rfl
def resS (v : Option V) (o : Option (List V)) : Option (List V) :=
  match v, o with
  | some v, some vs => some (v :: vs)
  | _, _ => none
@[go_sem] theorem resS_some (v : V) (vs : List V) : resS (some v) (some vs) = some (v :: vs) := (Eq.refl _).trans rfl
@[go_sem] theorem resV_nil : resV T E H [] = some [] := (Eq.refl _).trans rfl
@[go_sem] theorem resV_tmp (s : Tmp) (r : List ResultVar) : resV T E H (.tmp s :: r) = resS (some (E.look s)) (resV T E H r) := by
  simp only [resV, resS]
  cases resV T E H r <;> rfl
@[go_sem] theorem resV_cell (s : Tmp) (y : TypeId) (r : List ResultVar) : resV T E H (.cell s y :: r) = resS (aload (T y) H (E.look s)) (resV T E H r) := by
  simp only [resV, resS]
  cases aload (T y) H (E.look s) <;> cases resV T E H r <;> rfl
@[go_sem] theorem mkRes_one (v : V) : mkRes [v] = v := (Eq.refl _).trans rfl
@[go_sem] theorem mkRes_nil : mkRes [] = .tup [] := (Eq.refl _).trans rfl
@[go_sem] theorem mkRes_two (v w : V) (r : List V) : mkRes (v :: w :: r) = .tup (v :: w :: r) := (Eq.refl _).trans rfl

variable {n : Nat}
@[go_sem] theorem pub_und : pubV n H .und = some .und := (Eq.refl _).trans rfl
@[go_sem] theorem pub_d (x : D) : pubV n H (.d x) = some (.d x) := (Eq.refl _).trans rfl
@[go_sem] theorem pub_slx (b : Option Bool) (l : List D) : pubV n H (.slx b l) = some (.slx b l) := (Eq.refl _).trans rfl
def pubC2 (es : Nat) (o : Option (List D)) : Option V :=
  match o with
  | some ds => if es = 1 then some (.d (.sl ds)) else none
  | none => none
def pubC (n : Nat) (H : Heap) (es : Nat) (b : Option Blk) : Option V :=
  match b with
  | some (.cells cs) => pubC2 es (pubDs n H cs)
  | _ => none
@[go_sem] theorem pubC2_some (es : Nat) (ds : List D) : pubC2 es (some ds) = if es = 1 then some (.d (.sl ds)) else none := (Eq.refl _).trans rfl
@[go_sem] theorem pubC_cells (es : Nat) (cs : List V) : pubC n H es (some (.cells cs)) = pubC2 es (pubDs n H cs) := (Eq.refl _).trans rfl
@[go_sem] theorem pub_csl (i es len : Nat) : pubV n H (.csl i es len) = if i < n then some (.csl i es len) else pubC n H es H[i]? := by
  simp only [pubV, pubC, pubC2]
  split
  · rfl
  · cases hb : H[i]? with
    | none => rfl
    | some b => cases b <;> rfl
def pubDR (b : Option Blk) (m lo len : Nat) : Option D :=
  match b with
  | some (.arr _ _ els) => if els.length = m then some (.sl ((els.drop lo).take len)) else none
  | _ => none
@[go_sem] theorem pubDR_arr (sz : Nat) (nl : Bool) (els : List D) (m lo len : Nat) : pubDR (some (.arr sz nl els)) m lo len = if els.length = m then some (.sl ((els.drop lo).take len)) else none := (Eq.refl _).trans rfl
@[go_sem] theorem pubD_ref (i m lo len : Nat) : pubD n H (.ref i m lo len) = if i < n then none else pubDR H[i]? m lo len := by
  simp only [pubD, pubDR]
  split
  · rfl
  · cases hb : H[i]? with
    | none => rfl
    | some b => cases b <;> rfl
@[go_sem] theorem pubD_d (x : D) : pubD n H (.d x) = some x := (Eq.refl _).trans rfl
@[go_sem] theorem pubD_slx (b : Option Bool) (l : List D) : pubD n H (.slx b l) = some (.sl l) := (Eq.refl _).trans rfl
def pubDS (x : Option D) (r : Option (List D)) : Option (List D) :=
  match x, r with
  | some x, some l => some (x :: l)
  | _, _ => none
@[go_sem] theorem pubDS_some (x : D) (l : List D) : pubDS (some x) (some l) = some (x :: l) := (Eq.refl _).trans rfl
@[go_sem] theorem pubDs_nil : pubDs n H [] = some [] := (Eq.refl _).trans rfl
@[go_sem] theorem pubDs_cons (v : V) (r : List V) : pubDs n H (v :: r) = pubDS (pubD n H v) (pubDs n H r) := by
  simp only [pubDs, pubDS]
  cases pubD n H v <;> cases pubDs n H r <;> rfl
@[go_sem] theorem pub_pp (cs : List D) : pubV n H (.pp cs) = some (.pp cs) := (Eq.refl _).trans rfl
def pubR (b : Option Blk) (m lo len : Nat) : Option V :=
  match b with
  | some (.arr _ _ els) => if els.length = m then some (.d (.sl ((els.drop lo).take len))) else none
  | _ => none
@[go_sem] theorem pubR_arr (sz : Nat) (nl : Bool) (els : List D) (m lo len : Nat) : pubR (some (.arr sz nl els)) m lo len = if els.length = m then some (.d (.sl ((els.drop lo).take len))) else none := (Eq.refl _).trans rfl
@[go_sem] theorem pub_ref (i m lo len : Nat) : pubV n H (.ref i m lo len) = if i < n then some (.ref i m lo len) else pubR H[i]? m lo len := by
  simp only [pubV, pubR]
  split
  · rfl
  · cases hb : H[i]? with
    | none => rfl
    | some b => cases b <;> rfl
def pubP2 (o : Option (List D)) (off : Nat) : Option V :=
  match o with
  | some ds => some (.pp (ds.drop off))
  | none => none
def pubP (b : Option Blk) (off : Nat) : Option V :=
  match b with
  | some (.cells cs) => pubP2 (toDs cs) off
  | _ => none
@[go_sem] theorem pubP2_some (ds : List D) (off : Nat) : pubP2 (some ds) off = some (.pp (ds.drop off)) := (Eq.refl _).trans rfl
@[go_sem] theorem pubP_cells (cs : List V) (off : Nat) : pubP (some (.cells cs)) off = pubP2 (toDs cs) off := (Eq.refl _).trans rfl
@[go_sem] theorem pub_obj (i : Nat) : pubV n H (.obj i) = if i < n then some (.obj i) else none := (Eq.refl _).trans rfl
@[go_sem] theorem pub_ptr (i off : Nat) : pubV n H (.ptr i off) = if i < n then some (.ptr i off) else pubP H[i]? off := by
  simp only [pubV, pubP]
  split
  · rfl
  · cases hb : H[i]? with
    | none => rfl
    | some b =>
      cases b <;> first | rfl | (simp only [pubP2]; rename_i cs; cases toDs cs <;> rfl)
@[go_sem] theorem pub_ep (i m k off : Nat) : pubV n H (.ep i m k off) = if i < n then some (.ep i m k off) else none := (Eq.refl _).trans rfl
def pubF (f : Fn) (x y : Option (List V)) : Option V :=
  match x, y with
  | some x', some y' => some (.fn f x' y')
  | _, _ => none
@[go_sem] theorem pubF_some (f : Fn) (x y : List V) : pubF f (some x) (some y) = some (.fn f x y) := (Eq.refl _).trans rfl
@[go_sem] theorem pub_fn (k : FuncId) (x y : List V) : pubV n H (.fn (.func k) x y) = pubF (.func k) (pubVs n H x) (pubVs n H y) := by
  simp only [pubV, pubF]
  cases pubVs n H x <;> cases pubVs n H y <;> rfl
@[go_sem] theorem pub_yield (i : Nat) (x y : List V) : pubV n H (.fn (.yield i) x y) = if i < n then some (.fn (.yield i) x y) else none := (Eq.refl _).trans rfl
def pubA (o : Option (List V)) : Option V :=
  match o with
  | some l => if l.all V.one = true then some (norm l) else none
  | none => none
def pubT (o : Option (List V)) : Option V :=
  match o with
  | some l => some (.tup l)
  | none => none
@[go_sem] theorem pubA_some (l : List V) : pubA (some l) = if l.all V.one = true then some (norm l) else none := (Eq.refl _).trans rfl
@[go_sem] theorem pubT_some (l : List V) : pubT (some l) = some (.tup l) := (Eq.refl _).trans rfl
@[go_sem] theorem pub_agg (l : List V) : pubV n H (.agg l) = pubA (pubVs n H l) := by
  simp only [pubV, pubA]
  cases pubVs n H l <;> rfl
@[go_sem] theorem pub_tup (l : List V) : pubV n H (.tup l) = pubT (pubVs n H l) := by
  simp only [pubV, pubT]
  cases pubVs n H l <;> rfl
def pubS (v : Option V) (o : Option (List V)) : Option (List V) :=
  match v, o with
  | some v, some vs => some (v :: vs)
  | _, _ => none
@[go_sem] theorem pubS_some (v : V) (vs : List V) : pubS (some v) (some vs) = some (v :: vs) := (Eq.refl _).trans rfl
@[go_sem] theorem pubs_nil : pubVs n H [] = some [] := (Eq.refl _).trans rfl
@[go_sem] theorem pubs_cons (v : V) (r : List V) : pubVs n H (v :: r) = pubS (pubV n H v) (pubVs n H r) := by
  simp only [pubVs, pubS]
  cases pubV n H v <;> cases pubVs n H r <;> rfl

@[go_sem] theorem BBq_eq : BBq n H = (H.length ≤ n ∨ BBs n (H.take n)) := (Eq.refl _).trans rfl
@[go_sem] theorem BBs_nil : BBs n [] = True := (Eq.refl _).trans rfl
@[go_sem] theorem BBs_cons (b : Blk) (r : List Blk) : BBs n (b :: r) = (BB n b ∧ BBs n r) := (Eq.refl _).trans rfl
@[go_sem] theorem BB_cells (cs : List V) : BB n (.cells cs) = (VBs n cs = true) := (Eq.refl _).trans rfl
@[go_sem] theorem BB_arr (sz : Nat) (nl : Bool) (els : List D) : BB n (.arr sz nl els) = True := (Eq.refl _).trans rfl
@[go_sem] theorem VBs_nil : VBs n [] = true := (Eq.refl _).trans rfl
@[go_sem] theorem VBs_cons (v : V) (r : List V) : VBs n (v :: r) = (VB n v && VBs n r) := (Eq.refl _).trans rfl
@[go_sem] theorem VB_d (x : D) : VB n (.d x) = true := (Eq.refl _).trans rfl
@[go_sem] theorem VB_und : VB n .und = true := (Eq.refl _).trans rfl
@[go_sem] theorem VB_slx (b : Option Bool) (l : List D) : VB n (.slx b l) = true := (Eq.refl _).trans rfl
@[go_sem] theorem VB_csl (i e l : Nat) : VB n (.csl i e l) = decide (i < n) := (Eq.refl _).trans rfl
@[go_sem] theorem VB_pp (cs : List D) : VB n (.pp cs) = true := (Eq.refl _).trans rfl
@[go_sem] theorem VB_ptr (i o : Nat) : VB n (.ptr i o) = decide (i < n) := (Eq.refl _).trans rfl
@[go_sem] theorem VB_ref (i m lo len : Nat) : VB n (.ref i m lo len) = decide (i < n) := (Eq.refl _).trans rfl
@[go_sem] theorem VB_ep (i m k o : Nat) : VB n (.ep i m k o) = decide (i < n) := (Eq.refl _).trans rfl
@[go_sem] theorem VB_fn (f : FuncId) (x y : List V) : VB n (.fn (.func f) x y) = (VBs n x && VBs n y) := (Eq.refl _).trans rfl
@[go_sem] theorem VB_yield (i : Nat) (x y : List V) : VB n (.fn (.yield i) x y) = decide (i < n) := (Eq.refl _).trans rfl
@[go_sem] theorem VB_agg (l : List V) : VB n (.agg l) = VBs n l := (Eq.refl _).trans rfl
@[go_sem] theorem VB_tup (l : List V) : VB n (.tup l) = VBs n l := (Eq.refl _).trans rfl

@[go_sem] theorem VB_obj (i : Nat) : VB n (.obj i) = decide (i < n) := (Eq.refl _).trans rfl
@[go_sem] theorem BB_map (es : List (D × D)) : BB n (.obj (.map es)) = True := (Eq.refl _).trans rfl
@[go_sem] theorem BB_sit (s : ByteArray) (k : Nat) : BB n (.obj (.sit s k)) = True := (Eq.refl _).trans rfl
@[go_sem] theorem BB_iter (m k : Nat) (s : List Nat) : BB n (.obj (.iter m k s)) = (m < n) := (Eq.refl _).trans rfl
@[go_sem] theorem flatV_d (x : D) : flatV (.d x) = flatD x := (Eq.refl _).trans rfl
@[go_sem] theorem flatV_tup (l : List V) : flatV (.tup l) = flatVs l := (Eq.refl _).trans rfl
@[go_sem] theorem flatVs_nil : flatVs [] = true := (Eq.refl _).trans rfl
@[go_sem] theorem flatVs_cons (v : V) (r : List V) : flatVs (v :: r) = (flatV v && flatVs r) := (Eq.refl _).trans rfl
@[go_sem] theorem flatD_int (k : IntKind) (m : Int) : flatD (.int k m) = true := (Eq.refl _).trans rfl
@[go_sem] theorem flatD_bool (b : Bool) : flatD (.bool b) = true := (Eq.refl _).trans rfl
@[go_sem] theorem flatD_str (b : ByteArray) : flatD (.str b) = true := (Eq.refl _).trans rfl
@[go_sem] theorem flatD_agg (l : List D) : flatD (.agg l) = flatDs l := (Eq.refl _).trans rfl
@[go_sem] theorem flatDs_nil : flatDs [] = true := (Eq.refl _).trans rfl
@[go_sem] theorem flatDs_cons (v : D) (r : List D) : flatDs (v :: r) = (flatD v && flatDs r) := (Eq.refl _).trans rfl


/-! ### Maps -/

@[go_sem] theorem evOp_makeMap (d : Option Tmp) (u t : TypeId) (p : String) (a : Array Edge) (g : Option (Nat × Bool)) :
    evOp T hint call { dst := d, op := .makeMap u none, type := t, pos := p, after := a, guard := g } E H K = K (.obj H.length) (H ++ [.obj (.map [])]) := (Eq.refl _).trans rfl
@[go_sem] theorem evOp_lookup (d : Option Tmp) (u t : TypeId) (m k : Operand) (ok : Bool) (p : String) (a : Array Edge) (g : Option (Nat × Bool)) :
    evOp T hint call { dst := d, op := .lookup u m k ok, type := t, pos := p, after := a, guard := g } E H K = Som (alook (T u) ok H (ge E m) (ge E k)) fun v => K v H := (Eq.refl _).trans rfl
@[go_sem] theorem evOp_mapUpdate (d : Option Tmp) (u t : TypeId) (m k v : Operand) (p : String) (a : Array Edge) (g : Option (Nat × Bool)) :
    evOp T hint call { dst := d, op := .mapUpdate u m k v, type := t, pos := p, after := a, guard := g } E H K = Som (aput (T u) H (ge E m) (ge E k) (ge E v)) fun H' => K .und H' := (Eq.refl _).trans rfl
@[go_sem] theorem evOp_insert (d : Option Tmp) (u t : TypeId) (m k v : Operand) (p : String) (a : Array Edge) (g : Option (Nat × Bool)) :
    evOp T hint call { dst := d, op := .insert u m k v, type := t, pos := p, after := a, guard := g } E H K = Som (aput (T u) H (ge E m) (ge E k) (ge E v)) fun H' => K .und H' := (Eq.refl _).trans rfl

def evRg (ty : Ty) (x : V) (H : Heap) (K : V → Heap → Prop) : Prop :=
  match ty, x with
  | .mp _ _, .obj id => match H[id]? with
    | some (.obj (.map es)) => K (.obj H.length) (H ++ [.obj (.iter id es.length [])])
    | _ => False
  | .sc (.str _), .d (.str s) => K (.obj H.length) (H ++ [.obj (.sit s 0)])
  | _, _ => False
@[go_sem] theorem evOp_range (d : Option Tmp) (u t : TypeId) (x : Operand) (p : String) (a : Array Edge) (g : Option (Nat × Bool)) :
    evOp T hint call { dst := d, op := .range u x, type := t, pos := p, after := a, guard := g } E H K = evRg (T u) (ge E x) H K := by
  simp only [evOp, evRg]
  cases T u <;> cases ge E x <;> rfl
def evRg1 (b : Option Blk) (id : Nat) (H : Heap) (K : V → Heap → Prop) : Prop :=
  match b with
  | some (.obj (.map es)) => K (.obj H.length) (H ++ [.obj (.iter id es.length [])])
  | _ => False
@[go_sem] theorem evRg_mp (kz z : D) (id : Nat) : evRg (.mp kz z) (.obj id) H K = evRg1 H[id]? id H K := (Eq.refl _).trans rfl
@[go_sem] theorem evRg_str (z s : ByteArray) : evRg (.sc (.str z)) (.d (.str s)) H K = K (.obj H.length) (H ++ [.obj (.sit s 0)]) := (Eq.refl _).trans rfl
def asn1 (b : Option Blk) (id : Nat) (H : Heap) (K : V → Heap → Prop) : Prop :=
  match b with
  | some (.obj (.sit s pos)) => Br (decide (pos < s.size)) (fun _ => K (.tup [.d (.bool true), .d (.int .i64 pos), .d (.int .i32 (Utf8.decode s pos).1)]) (H.set id (.obj (.sit s (pos + (Utf8.decode s pos).2))))) (fun _ => K (.tup [.d (.bool false)]) H)
  | _ => False
def evSn (x : V) (H : Heap) (K : V → Heap → Prop) : Prop := asnext H x K
@[go_sem] theorem evOp_nextS (d : Option Tmp) (t : TypeId) (x : Operand) (p : String) (a : Array Edge) (g : Option (Nat × Bool)) :
    evOp T hint call { dst := d, op := .next x true, type := t, pos := p, after := a, guard := g } E H K = evSn (ge E x) H K := (Eq.refl _).trans rfl
@[go_sem] theorem evSn_obj (id : Nat) : evSn (.obj id) H K = asn1 H[id]? id H K := (Eq.refl _).trans rfl
@[go_sem] theorem asn1_sit (id pos : Nat) (s : ByteArray) : asn1 (some (.obj (.sit s pos))) id H K = Br (decide (pos < s.size)) (fun _ => K (.tup [.d (.bool true), .d (.int .i64 pos), .d (.int .i32 (Utf8.decode s pos).1)]) (H.set id (.obj (.sit s (pos + (Utf8.decode s pos).2))))) (fun _ => K (.tup [.d (.bool false)]) H) := (Eq.refl _).trans rfl
@[congr] theorem evSn_congr {x x' : V} (h0 : x = x') {one : Prop} (ho : (True ∧ True) = one) : evSn x H K = evSn x' H K := by rw [h0]
@[congr] theorem asn1_congr {b b' : Option Blk} {id : Nat} (h0 : b = b') {one : Prop} (ho : (True ∧ True) = one) : asn1 b id H K = asn1 b' id H K := by rw [h0]
@[go_sem] theorem evRg1_map (es : List (D × D)) (id : Nat) : evRg1 (some (.obj (.map es))) id H K = K (.obj H.length) (H ++ [.obj (.iter id es.length [])]) := (Eq.refl _).trans rfl
@[congr] theorem evRg_congr {ty ty' : Ty} {x x' : V} (h0 : ty = ty') (h1 : x = x') {one : Prop} (ho : (True ∧ True) = one) : evRg ty x H K = evRg ty' x' H K := by rw [h0, h1]
@[congr] theorem evRg1_congr {b b' : Option Blk} {id : Nat} (h0 : b = b') {one : Prop} (ho : (True ∧ True) = one) : evRg1 b id H K = evRg1 b' id H K := by rw [h0]

@[go_sem] theorem evOp_entry (d : Option Tmp) (t : TypeId) (x : Operand) (p : String) (a : Array Edge) (g : Option (Nat × Bool)) :
    evOp T hint call { dst := d, op := .entry x, type := t, pos := p, after := a, guard := g } E H K = Som (aentry H (ge E x)) fun v => K v H := (Eq.refl _).trans rfl
theorem aentry_of {id mid n i : Nat} {seen : List Nat} {es : List (D × D)} {p : D × D} (h1 : H[id]? = some (.obj (.iter mid n seen))) (h2 : H[mid]? = some (.obj (.map es))) (hn : es.length = n) (hs : seen.getLast? = some i) (hp : es[i]? = some p) : aentry H (.obj id) = some (.tup [.d p.1, .d p.2]) := by
  simp only [aentry, h1, h2, hs, hn, hp, if_true]

/-- What was found. -/
def lookF (o : Option (Option D)) (ok : Bool) (z : D) : Option V :=
  match o with
  | some (some v) => some (if ok = true then .tup [.d v, .d (.bool true)] else .d v)
  | some none => some (if ok = true then .tup [.d z, .d (.bool false)] else .d z)
  | none => none
def lookB (b : Option Blk) (k : D) (ok : Bool) (z : D) : Option V :=
  match b with
  | some (.obj (.map es)) => lookF (mfind k es) ok z
  | _ => none
@[go_sem] theorem lookB_map (es : List (D × D)) (k : D) (ok : Bool) (z : D) : lookB (some (.obj (.map es))) k ok z = lookF (mfind k es) ok z := (Eq.refl _).trans rfl
@[go_sem] theorem lookF_yes (v : D) (z : D) : lookF (some (some v)) true z = some (.tup [.d v, .d (.bool true)]) := (Eq.refl _).trans rfl
@[go_sem] theorem lookF_no (z : D) : lookF (some none) true z = some (.tup [.d z, .d (.bool false)]) := (Eq.refl _).trans rfl
@[go_sem] theorem lookF_yes' (v : D) (z : D) : lookF (some (some v)) false z = some (.d v) := (Eq.refl _).trans rfl
@[go_sem] theorem lookF_no' (z : D) : lookF (some none) false z = some (.d z) := (Eq.refl _).trans rfl
theorem alook_obj {kz z k : D} {ok : Bool} {id : Nat} (hk : kok kz k = true) : alook (.mp kz z) ok H (.obj id) (.d k) = lookB H[id]? k ok z := by
  simp only [alook, mcont, lookB, lookF]
  generalize H[id]? = b
  cases b with
  | none => rfl
  | some b => cases b with
    | obj o => cases o with
      | map es => simp only [hk, if_true]; cases mfind k es with
        | none => rfl
        | some r => cases r <;> rfl
      | iter _ _ _ => rfl
      | sit _ _ => rfl
    | _ => rfl
theorem alook_nil {kz z k : D} {ok : Bool} (hk : kok kz k = true) : alook (.mp kz z) ok H (.d .nilm) (.d k) = lookF (some none) ok z := by
  simp [alook, mcont, lookF, mfind, hk]
@[go_sem] theorem alook_int (k : IntKind) (n a : Int) (z : D) (ok : Bool) (id : Nat) : alook (.mp (.int k n) z) ok H (.obj id) (.d (.int k a)) = lookB H[id]? (.int k a) ok z := alook_obj (by simp [kok])
@[go_sem] theorem alook_str (n a : ByteArray) (z : D) (ok : Bool) (id : Nat) : alook (.mp (.str n) z) ok H (.obj id) (.d (.str a)) = lookB H[id]? (.str a) ok z := alook_obj (by simp [kok])
@[go_sem] theorem alook_bool (n a : Bool) (z : D) (ok : Bool) (id : Nat) : alook (.mp (.bool n) z) ok H (.obj id) (.d (.bool a)) = lookB H[id]? (.bool a) ok z := alook_obj (by simp [kok])
@[go_sem] theorem alookn_int (k : IntKind) (n a : Int) (z : D) (ok : Bool) : alook (.mp (.int k n) z) ok H (.d .nilm) (.d (.int k a)) = lookF (some none) ok z := alook_nil (by simp [kok])
@[go_sem] theorem alookn_str (n a : ByteArray) (z : D) (ok : Bool) : alook (.mp (.str n) z) ok H (.d .nilm) (.d (.str a)) = lookF (some none) ok z := alook_nil (by simp [kok])

def putM (id : Nat) (H : Heap) (o : Option (List (D × D))) : Option Heap :=
  match o with
  | some es => some (H.set id (.obj (.map es)))
  | none => none
def putB (b : Option Blk) (id : Nat) (H : Heap) (k : D) (v : Option D) : Option Heap :=
  match b, v with
  | some (.obj (.map es)), some v => putM id H (mput k v es)
  | _, _ => none
@[go_sem] theorem putM_some (id : Nat) (es : List (D × D)) : putM id H (some es) = some (H.set id (.obj (.map es))) := (Eq.refl _).trans rfl
@[go_sem] theorem putB_map (id : Nat) (es : List (D × D)) (k v : D) : putB (some (.obj (.map es))) id H k (some v) = putM id H (mput k v es) := (Eq.refl _).trans rfl
theorem aput_obj {kz z k : D} {id : Nat} {v : V} (hk : kok kz k = true) : aput (.mp kz z) H (.obj id) (.d k) v = putB H[id]? id H k (toD v) := by
  unfold aput putB putM
  cases toD v with
  | none =>
    simp only
    cases H[id]? with
    | none => rfl
    | some b => cases b with
      | obj o => cases o <;> rfl
      | _ => rfl
  | some x =>
    simp only [hk, if_true]
    generalize H[id]? = b
    cases b with
    | none => rfl
    | some b => cases b with
      | obj o => cases o with
        | map es => simp only; cases mput k x es <;> rfl
        | iter _ _ _ => rfl
        | sit _ _ => rfl
      | _ => rfl
@[go_sem] theorem aput_int (k : IntKind) (n a : Int) (z : D) (id : Nat) (v : V) : aput (.mp (.int k n) z) H (.obj id) (.d (.int k a)) v = putB H[id]? id H (.int k a) (toD v) := aput_obj (by simp [kok])
@[go_sem] theorem aput_str (n a : ByteArray) (z : D) (id : Nat) (v : V) : aput (.mp (.str n) z) H (.obj id) (.d (.str a)) v = putB H[id]? id H (.str a) (toD v) := aput_obj (by simp [kok])
@[go_sem] theorem aput_bool (n a : Bool) (z : D) (id : Nat) (v : V) : aput (.mp (.bool n) z) H (.obj id) (.d (.bool a)) v = putB H[id]? id H (.bool a) (toD v) := aput_obj (by simp [kok])

/-! ### Where the simplifier looks -/

@[congr] theorem evAsg_congr {b b' : Bool} {v v' : V} {ty ty' : Ty} (h0 : b = b') (h1 : v = v') (h2 : ty = ty') {one : Prop} (ho : (True ∧ True) = one) : evAsg b v ty H K = evAsg b' v' ty' H K := by rw [h0, h1, h2]
@[congr] theorem evNot_congr {v v' : V} (h0 : v = v') {one : Prop} (ho : (True ∧ True) = one) : evNot v H K = evNot v' H K := by rw [h0]
@[congr] theorem evNeg_congr {v v' : V} (h0 : v = v') {one : Prop} (ho : (True ∧ True) = one) : evNeg v H K = evNeg v' H K := by rw [h0]
@[congr] theorem evNil_congr {v v' : V} (h0 : v = v') {one : Prop} (ho : (True ∧ True) = one) : evNil v H K = evNil v' H K := by rw [h0]
@[congr] theorem evCv_congr {s s' r r' : Ty} {v v' : V} (h0 : s = s') (h1 : r = r') (h2 : v = v') {one : Prop} (ho : (True ∧ True) = one) : evCv s r v H K = evCv s' r' v' H K := by rw [h0, h1, h2]
@[congr] theorem evExt_congr {v v' : V} {i : Nat} (h0 : v = v') {one : Prop} (ho : (True ∧ True) = one) : evExt v i H K = evExt v' i H K := by rw [h0]
@[congr] theorem evBin_congr {op : BinOp} {ty ty' : Ty} {x x' y y' : V} (h0 : ty = ty') (h1 : x = x') (h2 : y = y') {one : Prop} (ho : (True ∧ True) = one) : evBin op ty x y H K = evBin op ty' x' y' H K := by rw [h0, h1, h2]
@[congr] theorem evBuild_congr {ty ty' : Ty} {hb hb' : Bool} {parts : List (Nat × Operand)} (h0 : ty = ty') (h1 : hb = hb') {one : Prop} (ho : (True ∧ True) = one) : evBuild ty hb E parts H K = evBuild ty' hb' E parts H K := by rw [h0, h1]
@[congr] theorem evBS_congr {b b' h h' : Bool} {es len : Nat} {l : List D} (h0 : b = b') (h1 : h = h') {one : Prop} (ho : (True ∧ True) = one) : evBS b h es len l H K = evBS b' h' es len l H K := by rw [h0, h1]
@[congr] theorem evBSl_congr {ty ty' : Ty} {b b' : Bool} {len : Nat} {parts : List (Nat × Operand)} (h0 : ty = ty') (h1 : b = b') {one : Prop} (ho : (True ∧ True) = one) : evBSl ty b E len parts H K = evBSl ty' b' E len parts H K := by rw [h0, h1]
@[congr] theorem evMk_congr {ty ty' : Ty} {x x' y y' : V} {b b' : Bool} (h0 : ty = ty') (h1 : x = x') (h2 : y = y') (h3 : b = b') {one : Prop} (ho : (True ∧ True) = one) : evMk ty x y b H K = evMk ty' x' y' b' H K := by rw [h0, h1, h2, h3]
@[congr] theorem evMk3_congr {b b' : Bool} {es n n' : Nat} {z : D} (h0 : b = b') (h2 : n = n') {one : Prop} (ho : (True ∧ True) = one) : evMk3 b es n z H K = evMk3 b' es n' z H K := by rw [h0, h2]
@[congr] theorem evMk2_congr {b b' h h' : Bool} {es n n' : Nat} {z : D} (h0 : b = b') (h1 : h = h') (h2 : n = n') {one : Prop} (ho : (True ∧ True) = one) : evMk2 b h es n z H K = evMk2 b' h' es n' z H K := by rw [h0, h1, h2]
@[congr] theorem evApp_congr {ty ty' s s' : Ty} {b b' : Bool} {x x' y y' : V} (h0 : ty = ty') (h1 : s = s') (h2 : b = b') (h3 : x = x') (h4 : y = y') {one : Prop} (ho : (True ∧ True) = one) : evApp ty s b H x y K = evApp ty' s' b' H x' y' K := by rw [h0, h1, h2, h3, h4]
@[congr] theorem app0_congr {es : Nat} {b b' : Bool} {x x' : V} {o o' : Option (List D)} (h0 : b = b') (h1 : x = x') (h2 : o = o') {one : Prop} (ho : (True ∧ True) = one) : app0 es b H x o K = app0 es b' H x' o' K := by rw [h0, h1, h2]
@[congr] theorem app1_congr {es : Nat} {b b' c c' : Bool} {x x' : V} {l l' : List D} (h0 : b = b') (h1 : c = c') (h2 : x = x') (h3 : l = l') {one : Prop} (ho : (True ∧ True) = one) : app1 es b c H x l K = app1 es b' c' H x' l' K := by rw [h0, h1, h2, h3]
@[congr] theorem fin_congr {rs : List ResultVar} {n : Nat} {Q : V → Heap → Prop} {E' : Env} {H' : Heap} (h0 : E = E') (h1 : H = H') {one : Prop} (ho : (True ∧ True) = one) : fin T rs n Q E H = fin T rs n Q E' H' := by rw [h0, h1]
@[congr] theorem blockOne_congr {b b' : Bool} {j : Nat} {Q : Ex → Env → Heap → Prop} (h : b = b') {one : Prop} (ho : (True ∧ True) = one) : blockOne b j Q E H = blockOne b' j Q E H := by rw [h]

attribute [go_sem] or_self or_false false_or List.length_map Bool.or_true Bool.true_or Bool.false_or Bool.or_false Int.cast_ofNat_Int

end
attribute [go_sem] Nat.reduceBEq Nat.reduceEqDiff Nat.reduceLT Nat.reduceLeDiff Nat.reduceAdd Nat.reduceSub Nat.reduceMul reduceCtorEq Int.reduceToNat Int.reduceEq Int.reduceLT Int.reduceLE Int.reduceNe Int.reduceNeg
end Go.Aw
end

section
namespace Go.Aw
open Go

/-- A slice, as data. -/
def dz : V → V
  | .slx _ l => .d (.sl l)
  | v => v

theorem dz_sound {g : G} {H : Heap} {w : World} {v : V} {c : Value} (h : VR g H w v c) : VR g H w (dz v) c := by
  cases v with
  | slx nl l =>
    simp only [dz, VR]
    exact toD_sound (x := .slx nl l) rfl h
  | _ => exact h

theorem dzs_sound {g : G} {H : Heap} {w : World} : ∀ (vs : List V) (cs : List Value), VRs g H w vs cs → VRs g H w (vs.map dz) cs
  | [], _, h => by simpa [VRs] using h
  | v :: r, cs, h => by
    simp only [VRs, List.map_cons] at h ⊢
    obtain ⟨c, r', h1, h2, h3⟩ := h
    exact ⟨c, r', h1, dz_sound h2, dzs_sound r r' h3⟩

section
variable {P : Program}

theorem ACalls.dz {f : FuncId} {vs : List V} {H : Heap} {Q : V → Heap → Prop} (h : ACalls P f (vs.map dz) H Q) : ACalls P f vs H Q :=
  ⟨h.1, fun g w cvs hr hv => h.2 g w cvs hr (dzs_sound vs cvs hv)⟩

/-- A contract on data, where all that is handed over is data. -/
theorem PC.call {f : FuncId} {vs : List V} {v : V} {as : List V} {x y : List V} {H : Heap} {Q : V → Heap → Prop} (h : PC P f vs v) (h1 : (x ++ as ++ y).map Aw.dz = vs) (h2 : VBs 0 vs = true) (h3 : VB 0 v = true) (hq : Q v H) : ACallV P (.fn (.func f) x y) as H Q := by
  subst h1
  exact ACalls.dz (PC.use h h2 h3 hq)

/-- A contract on data, where rows are lent; what comes back says nothing of memory. -/
theorem PC.callL {f : FuncId} {vs us : List V} {v : V} {as : List V} {x y : List V} {H : Heap} {Q : V → Heap → Prop} (h : PC P f vs v) (h1 : (x ++ as ++ y).map Aw.dz = us) (h2 : pubVs 0 H us = some vs) (h3 : flatV v = true) (hq : Q v H) : ACallV P (.fn (.func f) x y) as H Q := by
  subst h1
  exact ACalls.dz (PC.lend h h2 h3 hq)

@[go_sem] theorem dz_slx (b : Option Bool) (l : List D) : dz (.slx b l) = .d (.sl l) := (Eq.refl _).trans rfl
@[go_sem] theorem dz_d (x : D) : dz (.d x) = .d x := (Eq.refl _).trans rfl
@[go_sem] theorem dz_ref (i n lo len : Nat) : dz (.ref i n lo len) = .ref i n lo len := (Eq.refl _).trans rfl
@[go_sem] theorem dz_ptr (i o : Nat) : dz (.ptr i o) = .ptr i o := (Eq.refl _).trans rfl
@[go_sem] theorem dz_csl (i e l : Nat) : dz (.csl i e l) = .csl i e l := (Eq.refl _).trans rfl
@[go_sem] theorem dz_pp (cs : List D) : dz (.pp cs) = .pp cs := (Eq.refl _).trans rfl
@[go_sem] theorem dz_fn (f : Fn) (x y : List V) : dz (.fn f x y) = .fn f x y := (Eq.refl _).trans rfl
@[go_sem] theorem dz_agg (l : List V) : dz (.agg l) = .agg l := (Eq.refl _).trans rfl
@[go_sem] theorem dz_tup (l : List V) : dz (.tup l) = .tup l := (Eq.refl _).trans rfl

theorem ACallV.of {f : FuncId} {x y as vs : List V} {H : Heap} {Q : V → Heap → Prop} (h1 : x ++ as ++ y = vs) (h : ACalls P f vs H Q) : ACallV P (.fn (.func f) x y) as H Q := by
  subst h1
  exact h

end
end Go.Aw
end

section
namespace Go.Aw
open Go

section
variable {T : Nat → Ty} {hint : Nat → Bool} {call : CallH} {E E' : Env} {H : Heap} {K : V → Heap → Prop}

theorem fillAt_same {pl : Nat → Option (Nat × Nat)} : ∀ {parts : List (Nat × Operand)} {cs : List V}, (∀ p ∈ parts, ge E p.2 = ge E' p.2) → fillAt pl E cs parts = fillAt pl E' cs parts
  | [], cs, _ => rfl
  | (i, x) :: r, cs, h => by
    have h1 := h (i, x) (by simp)
    have h2 : ∀ cs, fillAt pl E cs r = fillAt pl E' cs r := fun cs => fillAt_same fun p hp => h p (by simp [hp])
    simp only at h1
    simp only [fillAt, h1, h2]

theorem elems_same {es : Nat} : ∀ {parts : List (Nat × Operand)} {i : Nat}, (∀ p ∈ parts, ge E p.2 = ge E' p.2) → elems E es i parts = elems E' es i parts
  | [], i, _ => rfl
  | (j, x) :: r, i, h => by
    have h1 := h (j, x) (by simp)
    have h2 : ∀ i, elems E es i r = elems E' es i r := fun i => elems_same fun p hp => h p (by simp [hp])
    simp only at h1
    simp only [elems, h1, h2]

theorem elemG_same {es : Nat} : ∀ {parts : List (Nat × Operand)} {i : Nat} {H : Heap}, (∀ p ∈ parts, ge E p.2 = ge E' p.2) → elemG E es i H parts = elemG E' es i H parts
  | [], i, H, _ => rfl
  | (j, x) :: r, i, H, h => by
    have h1 := h (j, x) (by simp)
    have h2 : ∀ i H, elemG E es i H r = elemG E' es i H r := fun i H => elemG_same fun p hp => h p (by simp [hp])
    simp only at h1
    simp only [elemG, h1, h2]

theorem bound_same {x : Option Operand} {n : Nat} (h : ∀ y, x = some y → ge E y = ge E' y) : bound? E x n = bound? E' x n := by
  cases x with
  | none => rfl
  | some y => simp only [bound?, h y rfl]

theorem aslice_same {t : Ty} {x : V} {lo hi mx : Option Operand} (h1 : ∀ y, lo = some y → ge E y = ge E' y) (h2 : ∀ y, hi = some y → ge E y = ge E' y) (h3 : ∀ y, mx = some y → ge E y = ge E' y) : aslice t E H x lo hi mx = aslice t E' H x lo hi mx := by
  have e1 : ∀ n, bound? E lo n = bound? E' lo n := fun n => bound_same h1
  have e2 : ∀ n, bound? E hi n = bound? E' hi n := fun n => bound_same h2
  have e3 : ∀ n, bound? E mx n = bound? E' mx n := fun n => bound_same h3
  simp only [aslice, e1, e2, e3]

theorem map_same {l : List Operand} (h : ∀ x ∈ l, ge E x = ge E' x) : l.map (ge E) = l.map (ge E') := List.map_congr_left h

theorem evCall_same {o : Oper} {c : Call} (h : ∀ x ∈ c.operands, ge E x = ge E' x) : evCall T hint call o c E H K = evCall T hint call o c E' H K := by
  obtain ⟨ce, xs, ts⟩ := c
  have ha : ∀ x ∈ xs.toList, ge E x = ge E' x := fun x hx => h x (by simp [Call.operands]; right; simpa using hx)
  cases ce with
  | value f =>
    have hf : ge E f = ge E' f := h f (by simp [Call.operands])
    simp only [evCall, hf, map_same ha]
  | builtin b =>
    simp only [evCall]
    generalize xs.toList = l at ha
    generalize ts.toList = tl
    cases l with
    | nil => cases b <;> rfl
    | cons x r =>
      have hx := ha x (by simp)
      have hr : r.map (ge E) = r.map (ge E') := map_same fun y hy => ha y (by simp [hy])
      cases r with
      | nil =>
        cases b <;> (try rfl) <;> (try simp only [hx, List.map_nil])
        all_goals
          cases tl with
          | nil => rfl
          | cons t tl => cases tl <;> simp only [hx]
      | cons y r =>
        have hy := ha y (by simp)
        cases b <;> (try rfl) <;> (try simp only [hx, hr])
        all_goals
          cases r with
          | nil =>
            cases tl with
            | nil => rfl
            | cons t tl =>
              cases tl with
              | nil => rfl
              | cons u tl => cases tl <;> simp only [hx, hy]
          | cons z r => rfl
  | invoke a b => rfl

/-- Only its operands matter to an operation. -/
theorem evOp_same {o : Oper} (h : ∀ x ∈ o.op.operands, ge E x = ge E' x) : evOp T hint call o E H K = evOp T hint call o E' H K := by
  obtain ⟨d, op, t, p, a, g⟩ := o
  simp only at h
  cases op <;> simp only [Op.operands] at h <;> try (simp only [evOp]; done)
  case move x => simp only [evOp, h x (by simp)]
  case assign x => simp only [evOp, h x (by simp)]
  case pick c x y => simp only [evOp, h c (by simp), h x (by simp), h y (by simp)]
  case box t x => simp only [evOp, h x (by simp)]
  case build t parts => simp only [evOp, fillAt_same (E := E) (E' := E') (parts := parts.toList) (fun q hq => h q.2 (by simp; exact ⟨q.1, by simpa using hq⟩))]
  case buildSlice t n parts => simp only [evOp, elems_same (E := E) (E' := E') (parts := parts.toList) (fun q hq => h q.2 (by simp; exact ⟨q.1, by simpa using hq⟩)), elemG_same (E := E) (E' := E') (parts := parts.toList) (fun q hq => h q.2 (by simp; exact ⟨q.1, by simpa using hq⟩))]
  case load t x => simp only [evOp, h x (by simp)]
  case store t x y => simp only [evOp, h x (by simp), h y (by simp)]
  case nilCheck x => simp only [evOp, h x (by simp)]
  case binOp op t x y t' => simp only [evOp, h x (by simp), h y (by simp)]
  case unOp op t x => simp only [evOp, h x (by simp)]
  case convert s t x => simp only [evOp, h x (by simp)]
  case makeFunc f x y =>
    have h1 : ∀ z ∈ x.toList, ge E z = ge E' z := fun z hz => h z (by simp; left; simpa using hz)
    have h2 : ∀ z ∈ y.toList, ge E z = ge E' z := fun z hz => h z (by simp; right; simpa using hz)
    cases f <;> simp only [evOp, map_same h1, map_same h2]
  case makeSlice t n c => simp only [evOp, h n (by simp), h c (by simp)]
  case slice t x lo hi mx =>
    have h1 : ∀ y, lo = some y → ge E y = ge E' y := fun y hy => h y (by simp [hy])
    have h2 : ∀ y, hi = some y → ge E y = ge E' y := fun y hy => h y (by simp [hy])
    have h3 : ∀ y, mx = some y → ge E y = ge E' y := fun y hy => h y (by simp [hy])
    simp only [evOp, h x (by simp), aslice_same h1 h2 h3]
  case fieldAddr t x f => simp only [evOp, h x (by simp)]
  case field t x f => simp only [evOp, h x (by simp)]
  case indexAddr t x y => simp only [evOp, h x (by simp), h y (by simp)]
  case index t x y => simp only [evOp, h x (by simp), h y (by simp)]
  case extract x i => simp only [evOp, h x (by simp)]
  case makeMap t r => cases r <;> simp only [evOp]
  case lookup t x y b => simp only [evOp, h x (by simp), h y (by simp)]
  case mapUpdate t x y z => simp only [evOp, h x (by simp), h y (by simp), h z (by simp)]
  case insert t x y z => simp only [evOp, h x (by simp), h y (by simp), h z (by simp)]
  case range t x => simp only [evOp, h x (by simp)]
  case entry x => simp only [evOp, h x (by simp)]
  case next x b => cases b <;> simp only [evOp, h x (by simp)]
  case call c => simp only [evOp]; exact evCall_same h
end
end Go.Aw
end

section
namespace Go.Aw
open Go

/-- A call whose outcome is told. -/
def DCall (P : Program) : CallH := fun f vs H K => ∃ v H', ACallV P f vs H (fun r h => r = v ∧ h = H') ∧ K v H'

theorem AYield.mono {P : Program} {id : Nat} {vs : List V} {H : Heap} {Q Q' : V → Heap → Prop} (h : AYield P id vs H Q) (hq : ∀ v H', Q v H' → Q' v H') : AYield P id vs H Q' := by
  intro g w cvs b hr hv hφ
  obtain ⟨fn, tmps, x, y, h1, h2⟩ := h g w cvs b hr hv hφ
  refine ⟨fn, tmps, x, y, h1, RoundIn.mono h2 ?_⟩
  rintro e w' ⟨v, g', r, H', k1, k2, k3⟩
  exact ⟨v, g', r, H', k1, hq _ _ k2, k3⟩

theorem ACallV.mono {P : Program} {f : V} {vs : List V} {H : Heap} {Q Q' : V → Heap → Prop} (h : ACallV P f vs H Q) (hq : ∀ v H', Q v H' → Q' v H') : ACallV P f vs H Q' := by
  unfold ACallV at h ⊢
  split at h
  · exact ACalls.mono h hq
  · exact AYield.mono h hq
  · exact h.elim

theorem DCall_sound {P : Program} {f : V} {vs : List V} {H : Heap} {K : V → Heap → Prop} (h : DCall P f vs H K) : ACallV P f vs H K := by
  obtain ⟨v, H', h1, h2⟩ := h
  exact h1.mono fun r h hr => by rw [hr.1, hr.2]; exact h2

/-- Whatever is asked is asked of one outcome. -/
def Lin (F : (V → Heap → Prop) → Prop) : Prop := ∀ K, F K → ∃ v H', K v H' ∧ ∀ K' : V → Heap → Prop, K' v H' → F K'

theorem DCall_lin {P : Program} {H : Heap} (f : V) (vs : List V) : Lin (DCall P f vs H) := by
  intro K hk
  obtain ⟨v, H', h1, h2⟩ := hk
  exact ⟨v, H', h2, fun K' h' => ⟨v, H', h1, h'⟩⟩

/-- A call of which the abstract heap is no part. -/
def SCall (P : Program) : CallH := fun f vs H K => VB 0 f = true ∧ VBs 0 vs = true ∧ ∃ v, ACallV P f vs [] (fun r h => r = v ∧ h = []) ∧ K v H

theorem SCall_lin {P : Program} {H : Heap} (f : V) (vs : List V) : Lin (SCall P f vs H) := by
  intro K hk
  obtain ⟨h0, h1, v, h2, h3⟩ := hk
  exact ⟨v, H, h3, fun K' h' => ⟨h0, h1, v, h2, h'⟩⟩

section
variable {P : Program} {T : Nat → Ty} {hint : Nat → Bool} {E : Env} {H : Heap}

theorem lin_som {α : Type} (o : Option α) (f : α → V) (h : α → Heap) : Lin fun K => Som o fun x => K (f x) (h x) := by
  intro K hk
  obtain ⟨x, rfl, hk⟩ := Som_iff hk
  exact ⟨_, _, hk, fun K' h' => h'⟩

theorem lin_one (v : V) (H' : Heap) : Lin fun K => K v H' := fun K hk => ⟨v, H', hk, fun K' h' => h'⟩

theorem lin_false : Lin fun _ => False := fun K hk => hk.elim

theorem lin_br {b : Bool} {A B : (V → Heap → Prop) → Prop} (h1 : Lin A) (h2 : Lin B) : Lin fun K => Br b (fun _ => A K) (fun _ => B K) := by
  cases b
  · exact h2
  · exact h1

theorem lin_eq {F G : (V → Heap → Prop) → Prop} (h : ∀ K, F K = G K) (hl : Lin G) : Lin F := by
  have : F = G := funext h
  rw [this]; exact hl

theorem lin_app {b : Bool} {F : (V → Heap → Prop) → Prop} (h : Lin F) : Lin fun K => app2 b fun _ => F K := by
  cases b
  · exact lin_false
  · exact h

theorem lin_append (t : Ty) (hin : Bool) (x y : V) : Lin fun K => aappend t hin H x y K := by
  unfold aappend
  split
  · split
    · split
      · split
        · split
          · split
            · exact lin_one _ _
            · exact lin_false
          · exact lin_one _ _
        · exact lin_false
      · split
        · split
          · exact lin_one _ _
          · exact lin_false
        · exact lin_false
      · exact lin_false
    · exact lin_false
  · exact lin_false

theorem lin_call {call : CallH} (hc : ∀ f vs, Lin (call f vs H)) (o : Oper) (c : Call) : Lin fun K => evCall T hint call o c E H K := by
  unfold evCall
  split
  · exact hc _ _
  · split
    · exact lin_som _ _ _
    · exact lin_som _ _ _
    · exact lin_som _ _ _
    · split
      · exact lin_append _ _ _ _
      · exact lin_false
    · exact lin_som _ _ _
    · exact lin_som _ _ _
    · exact lin_false
  · exact lin_false

theorem lin_snext (x : V) : Lin fun K => asnext H x K := by
  unfold asnext
  split
  · split
    · exact lin_br (lin_one _ _) (lin_one _ _)
    · exact lin_false
  · exact lin_false

theorem evOp_lin {call : CallH} (hc : ∀ f vs, Lin (call f vs H)) (o : Oper) : Lin fun K => evOp T hint call o E H K := by
  unfold evOp
  split
  · exact lin_one _ _
  · split
    · split
      · exact lin_one _ _
      · exact lin_false
    · exact lin_one _ _
  · split
    · exact lin_br (lin_one _ _) (lin_one _ _)
    · exact lin_false
  · exact lin_som _ _ _
  · exact lin_som _ _ _
  · split
    · exact lin_som _ _ _
    · exact lin_som _ _ _
    · exact lin_false
  · split
    · split
      · intro K hk
        obtain ⟨l, hl, hk⟩ := Som_iff hk
        simp only [hl, Som]
        revert hk
        split
        · exact fun hk => ⟨_, _, hk, fun K' h' => h'⟩
        · exact fun hk => hk.elim
      · intro K hk
        obtain ⟨l, hl, hk⟩ := Som_iff hk
        simp only [hl, Som]
        revert hk
        split
        · exact fun hk => ⟨_, _, hk, fun K' h' => h'⟩
        · exact fun hk => hk.elim
    · exact lin_false
  · split
    · split
      · split
        · (first | exact lin_one _ _ | (split <;> exact lin_one _ _))
        · exact lin_one _ _
      · exact lin_false
    · exact lin_false
  · exact lin_som _ _ _
  · exact lin_som _ _ _
  · split
    · exact lin_som _ _ _
    · exact lin_som _ _ _
    · exact lin_som _ _ _
    · exact lin_som _ _ _
    · split
      · exact lin_som _ _ _
      · exact lin_som _ _ _
      · exact lin_false
  · split
    · exact lin_one _ _
    · exact lin_one _ _
    · exact lin_false
  · split
    · exact lin_one _ _
    · exact lin_false
  · exact lin_one _ _
  · exact lin_som _ _ _
  · exact lin_som _ _ _
  · exact lin_som _ _ _
  · exact lin_som _ _ _
  · exact lin_som _ _ _
  · split
    · exact lin_one _ _
    · exact lin_one _ _
    · exact lin_one _ _
    · exact lin_one _ _
    · exact lin_false
  · split
    · exact lin_som _ _ _
    · exact lin_false
  · exact lin_one _ _
  · exact lin_som _ _ _
  · exact lin_som _ _ _
  · exact lin_som _ _ _
  · split
    · split
      · exact lin_one _ _
      · exact lin_false
    · exact lin_one _ _
    · exact lin_false
  · exact lin_som _ _ _
  · exact lin_snext _
  · exact lin_call hc _ _
  · exact lin_false

end
end Go.Aw
end

section
namespace Go.Aw
open Go

theorem VBs_append {n : Nat} : ∀ {l r : List V}, VBs n l = true → VBs n r = true → VBs n (l ++ r) = true
  | [], r, _, h => h
  | v :: l, r, h1, h2 => by
    simp only [VBs, Bool.and_eq_true, List.cons_append] at h1 ⊢
    exact ⟨h1.1, VBs_append h1.2 h2⟩

section
variable {P : Program} {T : Nat → Ty} {hint : Nat → Bool} {E : Env} {H : Heap}

theorem ACalls.nil {f : FuncId} {vs : List V} {v : V} (hvs : VBs 0 vs = true) (h : ACalls P f vs [] (fun r h => r = v ∧ h = [])) : ACalls P f vs H (fun r h => r = v ∧ h = H) := by
  have h' : ACalls P f vs [] (fun r H' => H' = [] ∧ VB 0 r = true ∧ r = v) := by
    refine ⟨h.1, fun g w cvs hr hv => CallsIn.mono (h.2 g w cvs hr hv) ?_⟩
    rintro e w' ⟨c, g', r, H', rfl, ⟨k1, rfl⟩, k3, k4⟩
    exact ⟨c, g', r, [], rfl, ⟨rfl, VR_VB _ _ k3, k1⟩, k3, k4⟩
  exact (ACalls.iso hvs h').mono fun r h hr => ⟨hr.2, hr.1⟩

theorem SCall_sound {f : V} {vs : List V} {K : V → Heap → Prop} {H0 : Heap} (h : SCall P f vs H0 (fun v h => h = H0 ∧ K v H)) : ACallV P f vs H K := by
  obtain ⟨h0, h1, v, h2, _, h3⟩ := h
  unfold ACallV at h2 ⊢
  split at h2
  · rename_i k first cap
    simp only [VB, Bool.and_eq_true] at h0
    exact (ACalls.nil (VBs_append (VBs_append h0.1 h1) h0.2) h2).mono fun r h hr => by rw [hr.1, hr.2]; exact h3
  · simp [VB] at h0
  · exact h2.elim

theorem content_nil {x : V} {l : List D} (h : content [] x = some l) : content H x = some l := by
  unfold content at h ⊢
  split at h <;> simp_all

theorem aload_nil {t : Ty} {x v : V} (h : aload t [] x = some v) : aload t H x = some v := by
  unfold aload at h ⊢
  split at h <;> simp_all

theorem alook_nil0 {t : Ty} {ok : Bool} {m k v : V} (h : alook t ok [] m k = some v) : alook t ok H m k = some v := by
  unfold alook at h ⊢
  split at h
  · rename_i kz z es k hc
    have : mcont H m = some es := by
      unfold mcont at hc ⊢
      split at hc <;> simp_all
    rw [this]; exact h
  · cases h

theorem aentry_nil0 {x v : V} (h : aentry [] x = some v) : aentry H x = some v := by
  unfold aentry at h
  split at h
  · simp at h
  · cases h

theorem alen_nil {t : Ty} {x : V} {n : Nat} (h : alen t [] x = some n) : alen t H x = some n := by
  unfold alen at h ⊢
  split at h <;> simp_all

theorem aidx_nil {t : Ty} {x i v : V} (h : aidxAddr t [] x i = some v) : aidxAddr t H x i = some v := by
  unfold aidxAddr at h ⊢
  split at h <;> simp_all

theorem anilr_nil {t : Ty} {x y : V} {b : Bool} (h : anilr t [] x y = some b) : anilr t H x y = some b := by
  unfold anilr at h ⊢
  split at h <;> simp_all

theorem aslice_nil {t : Ty} {x v : V} {lo hi mx : Option Operand} (h : aslice t E [] x lo hi mx = some v) : aslice t E H x lo hi mx = some v := by
  unfold aslice at h ⊢
  split at h
  · exact h
  · simp at h
  · exact h
  · split at h
    · rename_i s es z hc
      rw [content_nil hc]
      exact h
    · cases h

theorem aappend_nil {t : Ty} {hin : Bool} {x y : V} {K : V → Heap → Prop} (h : aappend t hin [] x y (fun v h => h = [] ∧ K v H)) : aappend t hin H x y K := by
  unfold aappend at h ⊢
  split at h
  · rename_i es z ys hc
    rw [content_nil hc]
    simp only
    split at h
    · split at h
      · split at h
        · split at h
          · split at h
            · simp at h
            · exact h.elim
          · exact h.2
        · exact h.elim
      · simp at h
      · exact h.elim
    · exact h.elim
  · exact h.elim

theorem evCall_nil {o : Oper} {c : Call} {K : V → Heap → Prop} (h : evCall T hint (SCall P) o c E [] (fun v h => h = [] ∧ K v H)) : evCall T hint (ACallV P) o c E H K := by
  unfold evCall at h ⊢
  split at h
  · exact SCall_sound h
  · split at h
    · obtain ⟨n, hn, _, hk⟩ := Som_iff h
      simp only [alen_nil hn, Som]
      exact hk
    · obtain ⟨n, hn, _, hk⟩ := Som_iff h
      simp only [hn, Som]
      exact hk
    · obtain ⟨n, hn, _, hk⟩ := Som_iff h
      simp only [hn, Som]
      exact hk
    · split at h
      · exact aappend_nil h
      · exact h.elim
    · obtain ⟨p, hp, _⟩ := Som_iff h
      unfold acopy at hp
      split at hp <;> simp at hp
    · obtain ⟨p, hp, _⟩ := Som_iff h
      unfold aclear at hp
      split at hp <;> simp at hp
    · exact h.elim
  · exact h.elim

/-- What goes through without an abstract heap goes through with any. -/
theorem giv1_none {v : V} {x : D} {h : Heap} (e : giv1 [] v = some (x, h)) : h = [] ∧ ∀ H, giv1 H v = some (x, H) := by
  cases v with
  | ref id n lo len => simp [giv1] at e
  | d y => cases y <;> simp_all [giv1]
  | slx nl l => simp_all [giv1]
  | _ => simp [giv1] at e

theorem givs_none : ∀ {vs : List V} {l : List D} {h : Heap}, givs [] vs = some (l, h) → h = [] ∧ ∀ H, givs H vs = some (l, H)
  | [], l, h, e => by simp_all [givs]
  | v :: r, l, h, e => by
    simp only [givs] at e
    split at e
    · rename_i x H1 h1
      obtain ⟨rfl, k1⟩ := giv1_none h1
      split at e
      · rename_i l2 H2 h2
        obtain ⟨rfl, k2⟩ := givs_none h2
        simp only [Option.some.injEq, Prod.mk.injEq] at e
        obtain ⟨rfl, rfl⟩ := e
        exact ⟨rfl, fun H => by simp only [givs, k1, k2]⟩
      · cases e
    · cases e

theorem giv_none {v : V} {x : D} {h : Heap} (e : giv [] v = some (x, h)) : h = [] ∧ ∀ H, giv H v = some (x, H) := by
  have one : ∀ {v : V}, (∀ H, giv H v = giv1 H v) → giv [] v = some (x, h) → h = [] ∧ ∀ H, giv H v = some (x, H) := fun hv e => by
    rw [hv] at e
    obtain ⟨h1, h2⟩ := giv1_none e
    exact ⟨h1, fun H => by rw [hv]; exact h2 H⟩
  cases v with
  | agg cs =>
    simp only [giv] at e
    split at e
    · rename_i l H1 h1
      obtain ⟨rfl, k1⟩ := givs_none h1
      simp only [Option.some.injEq, Prod.mk.injEq] at e
      obtain ⟨rfl, rfl⟩ := e
      exact ⟨rfl, fun H => by simp only [giv, k1]⟩
    · cases e
  | d y =>
    cases y with
    | agg l => simp_all [giv]
    | _ => exact one (fun H => rfl) e
  | _ => exact one (fun H => rfl) e

theorem elemG_none {E : Env} {es : Nat} : ∀ (parts : List (Nat × Operand)) (i : Nat) {l : List D} {h : Heap}, elemG E es i [] parts = some (l, h) → h = [] ∧ ∀ H, elemG E es i H parts = some (l, H)
  | [], i, l, h, e => by simp_all [elemG]
  | (j, x) :: r, i, l, h, e => by
    simp only [elemG] at e
    split at e
    · rename_i y H1 h1
      obtain ⟨rfl, k1⟩ := giv_none h1
      split at e
      · rename_i l2 H2 h2
        obtain ⟨rfl, k2⟩ := elemG_none r (i + 1) h2
        split at e
        · rename_i hc
          simp only [Option.some.injEq, Prod.mk.injEq] at e
          obtain ⟨rfl, rfl⟩ := e
          exact ⟨rfl, fun H => by simp only [elemG, k1, k2]; rw [if_pos hc]⟩
        · cases e
      · cases e
    · cases e

theorem evOp_nil {o : Oper} {K : V → Heap → Prop} (h : evOp T hint (SCall P) o E [] (fun v h => h = [] ∧ K v H)) : evOp T hint (ACallV P) o E H K := by
  obtain ⟨d, op, t, p, a, g⟩ := o
  cases op <;> try (exact h.elim)
  case move x => exact h.2
  case assign x =>
    simp only [evOp_assign] at h ⊢
    unfold evAsg at h ⊢
    split at h
    · split at h
      · simp at h
      · exact h.elim
    · exact h.2
  case pick c x y =>
    simp only [evOp_pick] at h ⊢
    unfold evIf at h ⊢
    split at h
    · rcases Br_iff h with ⟨rfl, h⟩ | ⟨rfl, h⟩ <;> exact h.2
    · exact h.elim
  case alloc t => obtain ⟨cs, _, h, _⟩ := Som_iff h; simp at h
  case box t x => obtain ⟨cs, _, h, _⟩ := Som_iff h; simp at h
  case build t ps =>
    simp only [evOp] at h ⊢
    split at h
    · obtain ⟨cs, hc, _, hk⟩ := Som_iff h; simp only [hc, Som]; exact hk
    · obtain ⟨cs, hc, _, hk⟩ := Som_iff h; simp only [hc, Som]; exact hk
    · exact h.elim
  case buildSlice t n ps =>
    simp only [evOp] at h ⊢
    split at h
    · cases hh : hinted hint d <;> simp only [hh] at h ⊢
      · obtain ⟨⟨l, h1⟩, hl, h⟩ := Som_iff h
        obtain ⟨rfl, hl2⟩ := elemG_none _ _ hl
        simp only [hl2, Som]
        split at h
        · rename_i hc
          simp only at hc h
          simp only [hc]
          exact h.2
        · exact h.elim
      · obtain ⟨l, hl, h⟩ := Som_iff h
        split at h
        · simp at h
        · exact h.elim
    · exact h.elim
  case load t x =>
    obtain ⟨v, hv, _, hk⟩ := Som_iff h
    simp only [evOp_load, aload_nil hv, Som]; exact hk
  case store t x y =>
    obtain ⟨H', hv, hh, hk⟩ := Som_iff h
    subst hh
    unfold astore at hv
    split at hv <;> simp at hv
  case nilCheck x =>
    simp only [evOp] at h ⊢
    split at h <;> first | exact h.2 | exact h.elim
  case binOp op t x y t' =>
    simp only [evOp] at h ⊢
    split at h
    · obtain ⟨v, hv, _, hk⟩ := Som_iff h; simp only [hv, Som]; exact hk
    · obtain ⟨v, hv, _, hk⟩ := Som_iff h; simp only [hv, Som]; exact hk
    · obtain ⟨v, hv, _, hk⟩ := Som_iff h; simp only [hv, Som]; exact hk
    · obtain ⟨v, hv, _, hk⟩ := Som_iff h; simp only [hv, Som]; exact hk
    · split at h
      · obtain ⟨v, hv, _, hk⟩ := Som_iff h; simp only [anilr_nil hv, Som]; exact hk
      · obtain ⟨v, hv, _, hk⟩ := Som_iff h; simp only [anilr_nil hv, Som]; exact hk
      · exact h.elim
  case unOp op t x =>
    simp only [evOp] at h ⊢
    split at h <;> first | exact h.2 | exact h.elim
  case convert s t x =>
    simp only [evOp] at h ⊢
    split at h <;> first | exact h.2 | exact h.elim
  case makeFunc f x y =>
    cases f <;> first | exact h.2 | exact h.elim
  case makeSlice t n c =>
    simp only [evOp] at h ⊢
    split at h
    · split at h
      · split at h
        · split at h <;> simp at h
        · exact h.2
      · exact h.elim
    · exact h.elim
  case slice t x lo hi mx =>
    obtain ⟨v, hv, _, hk⟩ := Som_iff h
    simp only [evOp_slice, aslice_nil hv, Som]; exact hk
  case fieldAddr t x f =>
    obtain ⟨v, hv, _, hk⟩ := Som_iff h
    simp only [evOp_fieldAddr, hv, Som]; exact hk
  case field t x f =>
    obtain ⟨v, hv, _, hk⟩ := Som_iff h
    simp only [evOp_field, hv, Som]; exact hk
  case indexAddr t x i =>
    obtain ⟨v, hv, _, hk⟩ := Som_iff h
    simp only [evOp_indexAddr, aidx_nil hv, Som]; exact hk
  case index t x i =>
    obtain ⟨v, hv, _, hk⟩ := Som_iff h
    simp only [evOp_index, hv, Som]; exact hk
  case extract x i =>
    simp only [evOp] at h ⊢
    split at h
    · obtain ⟨v, hv, _, hk⟩ := Som_iff h; simp only [hv, Som]; exact hk
    · exact h.elim
  case makeMap t r => cases r <;> first | (obtain ⟨h, _⟩ := h; simp at h; done) | exact h.elim
  case lookup t m k ok =>
    obtain ⟨v, hv, _, hk⟩ := Som_iff h
    simp only [evOp_lookup, alook_nil0 hv, Som]; exact hk
  case mapUpdate t m k v =>
    obtain ⟨H', hv, hh, hk⟩ := Som_iff h
    subst hh
    unfold aput at hv
    split at hv <;> simp at hv
  case insert t m k v =>
    obtain ⟨H', hv, hh, hk⟩ := Som_iff h
    subst hh
    unfold aput at hv
    split at hv <;> simp at hv
  case entry x =>
    obtain ⟨v, hv, _, hk⟩ := Som_iff h
    simp only [evOp_entry, aentry_nil0 hv, Som]; exact hk
  case range t x =>
    simp only [evOp] at h
    split at h
    · simp at h
    · simp at h
    · exact h.elim
  case next x b =>
    cases b with
    | false => exact h.elim
    | true =>
      simp only [evOp, asnext] at h
      split at h <;> simp at h
  case call c => exact evCall_nil h
end
end Go.Aw
end

section
namespace Go.Aw
open Go

/-- S: the abstract heap is no part of it. R: it leaves the abstract heap alone. L: as R, and it calls nothing. A: a new block, no call. W: anything. -/
inductive Cl where
  | S | R | W | L | A
  deriving DecidableEq

def compat : Cl → Cl → Bool
  | .S, _ => true
  | _, .S => true
  | .R, .R => true
  | .L, .R => true
  | .R, .L => true
  | .L, .L => true
  | .L, .A => true
  | _, _ => false

def stepV (T : Nat → Ty) (hint : Nat → Bool) (call : CallH) (all : List Oper) (o : Oper) (E : Env) (H : Heap) (K : V → Heap → Prop) : Prop :=
  match o.guard with
  | none => evOp T hint call o E H K
  | some (j, w) => evGo (gval all j E) w (fun _ => evOp T hint call o E H K) (fun _ => K (.tup []) H)

/-- Operations that may look at the abstract heap and leave it alone. -/
def lop : Op → Bool
  | .move _ | .pick _ _ _ | .load _ _ | .fieldAddr _ _ _ | .indexAddr _ _ _ | .index _ _ _ | .field _ _ _ | .binOp _ _ _ _ _ | .unOp _ _ _ | .convert _ _ _ | .slice _ _ _ _ _ | .extract _ _ | .build _ _ | .nilCheck _ | .lookup _ _ _ _ | .entry _ => true
  | .call ⟨.builtin .len, _, _⟩ => true
  | .call ⟨.builtin .min, _, _⟩ => true
  | .call ⟨.builtin .max, _, _⟩ => true
  | .call ⟨.builtin .append, _, _⟩ => true
  | _ => false

/-- Operations that lay a block. -/
def aop (h : Bool) : Op → Bool
  | .alloc _ | .box _ _ | .makeSlice _ _ _ | .assign _ | .makeMap _ none | .range _ _ => true
  | .buildSlice _ _ _ => h
  | _ => false

def stepC (P : Program) (T : Nat → Ty) (hint : Nat → Bool) (all : List Oper) (c : Cl) (o : Oper) (E : Env) (H : Heap) (K : V → Heap → Prop) : Prop :=
  match c with
  | .S => stepV T hint (SCall P) all o E [] (fun v h => h = [] ∧ K v H)
  | .R => stepV T hint (DCall P) all o E H (fun v h => h = H ∧ K v H)
  | .W => stepV T hint (DCall P) all o E H K
  | .L => lop o.op = true ∧ stepV T hint (fun _ _ _ _ => False) all o E H (fun v h => h = H ∧ K v H)
  | .A => aop (hinted hint o.dst) o.op = true ∧ stepV T hint (fun _ _ _ _ => False) all o E H K

def OutC (P : Program) (T : Nat → Ty) (hint : Nat → Bool) (all : List Oper) (c : Cl) (o : Oper) (E : Env) (H : Heap) (v : V) (H' : Heap) : Prop :=
  match c with
  | .S => (∀ K : V → Heap → Prop, K v [] → stepV T hint (SCall P) all o E [] K) ∧ H' = H
  | .R => (∀ K : V → Heap → Prop, K v H → stepV T hint (DCall P) all o E H K) ∧ H' = H
  | .W => ∀ K : V → Heap → Prop, K v H' → stepV T hint (DCall P) all o E H K
  | .L => (lop o.op = true ∧ ∀ K : V → Heap → Prop, K v H → stepV T hint (fun _ _ _ _ => False) all o E H K) ∧ H' = H
  | .A => (aop (hinted hint o.dst) o.op = true ∧ ∀ K : V → Heap → Prop, K v H' → stepV T hint (fun _ _ _ _ => False) all o E H K) ∧ ∃ X, H' = H ++ X

section
variable {P : Program} {T : Nat → Ty} {hint : Nat → Bool} {ops : Array Oper} {cls : Nat → Cl} {KE : Env → Heap → Prop}

theorem lin_gd {x : V} {w : Bool} {A B : (V → Heap → Prop) → Prop} (h1 : Lin A) (h2 : Lin B) : Lin fun K => evGo x w (fun _ => A K) (fun _ => B K) := by
  unfold evGo
  split
  · exact lin_br h1 h2
  · exact h2
  · exact lin_false

theorem stepV_lin {call : CallH} {all : List Oper} {o : Oper} {E : Env} {H : Heap} (hc : ∀ f vs, Lin (call f vs H)) : Lin fun K => stepV T hint call all o E H K := by
  unfold stepV
  split
  · exact evOp_lin hc o
  · exact lin_gd (evOp_lin hc o) (lin_one _ _)

theorem ge_same {E E' : Env} {x : Operand} (h : ∀ t, x = .tmp t → E.look t = E'.look t) : ge E x = ge E' x := by
  cases x with
  | tmp t => exact h t rfl
  | _ => rfl

theorem stepV_same {call : CallH} {o : Oper} {E E' : Env} {H : Heap} {K : V → Heap → Prop} (h : ∀ t ∈ o.looksAt ops, E.look t = E'.look t) : stepV T hint call ops.toList o E H K = stepV T hint call ops.toList o E' H K := by
  have h1 : ∀ x ∈ o.op.operands, ge E x = ge E' x := fun x hx => ge_same fun t ht => h t (List.mem_append_left _ (List.mem_filterMap.2 ⟨x, by simpa using hx, by subst ht; rfl⟩))
  unfold stepV
  split
  · rw [evOp_same h1]
  · rename_i j w hg
    have h2 : gval ops.toList j E = gval ops.toList j E' := by
      unfold gval
      split
      · rename_i t ht
        refine h t (List.mem_append_right _ ?_)
        unfold gdst at ht
        rw [hg]
        simp only [Option.mem_toList]
        split at ht
        · rename_i o' ho'
          have : ops[j]? = some o' := by rw [← ho']; simp
          rw [this]; exact ht
        · cases ht
      · rfl
    rw [h2, evOp_same h1]

theorem false_lin (H : Heap) (f : V) (vs : List V) : Lin ((fun _ _ _ _ => False : CallH) f vs H) := fun _ h => h.elim

section
variable {H X : Heap} {E : Env} {K : V → Heap → Prop}

theorem some_app {α : Type} {l m : List α} {i : Nat} {x : α} (h : l[i]? = some x) : (l ++ m)[i]? = some x := by
  rw [List.getElem?_append_left (List.getElem?_eq_some_iff.1 h).1]; exact h

theorem content_app {x : V} {l : List D} (h : content H x = some l) : content (H ++ X) x = some l := by
  unfold content at h ⊢
  split at h <;> try exact h
  split at h
  · rename_i e
    simp only [some_app e]; exact h
  · cases h

theorem aload_app {t : Ty} {x v : V} (h : aload t H x = some v) : aload t (H ++ X) x = some v := by
  unfold aload at h ⊢
  split at h <;> try exact h
  · split at h
    · rename_i e
      simp only [some_app e]; exact h
    · cases h
  · split at h
    · rename_i e
      simp only [some_app e]; exact h
    · cases h

theorem alen_app {t : Ty} {x : V} {n : Nat} (h : alen t H x = some n) : alen t (H ++ X) x = some n := by
  unfold alen at h ⊢
  split at h <;> try exact h
  · split at h
    · rename_i e
      simp only [some_app e]; exact h
    · cases h
  · split at h
    · rename_i e
      simp only [some_app e]; exact h
    · cases h

theorem alook_app {t : Ty} {ok : Bool} {m k v : V} (h : alook t ok H m k = some v) : alook t ok (H ++ X) m k = some v := by
  unfold alook at h ⊢
  split at h
  · rename_i kz z es k hc
    have : mcont (H ++ X) m = some es := by
      unfold mcont at hc ⊢
      split at hc
      · split at hc
        · rename_i e
          simp only [some_app e]; exact hc
        · cases hc
      · exact hc
      · cases hc
    rw [this]; exact h
  · cases h

theorem aentry_app {x v : V} (h : aentry H x = some v) : aentry (H ++ X) x = some v := by
  unfold aentry at h ⊢
  split at h
  · split at h
    · rename_i e
      simp only [some_app e]
      split at h
      · rename_i e1 e2
        simp only [some_app e2, e1]; exact h
      · cases h
    · cases h
  · cases h

theorem aidx_app {t : Ty} {x i v : V} (h : aidxAddr t H x i = some v) : aidxAddr t (H ++ X) x i = some v := by
  unfold aidxAddr at h ⊢
  split at h <;> try exact h
  split at h
  · rename_i e
    simp only [some_app e]; exact h
  · cases h

theorem anilr_app {t : Ty} {x y : V} {b : Bool} (h : anilr t H x y = some b) : anilr t (H ++ X) x y = some b := by
  unfold anilr at h ⊢
  split at h <;> try exact h
  split at h
  · rename_i e
    simp only [some_app e]; exact h
  · cases h

theorem aslice_app {t : Ty} {x v : V} {lo hi mx : Option Operand} (h : aslice t E H x lo hi mx = some v) : aslice t E (H ++ X) x lo hi mx = some v := by
  unfold aslice at h ⊢
  split at h
  · exact h
  · split at h
    · rename_i e
      simp only [some_app e]; exact h
    · cases h
  · exact h
  · split at h
    · rename_i hc
      rw [content_app hc]
      exact h
    · cases h

theorem aclear_app {t : Ty} {x : V} {p : Heap} (h : aclear t H x = some p) : aclear t (H ++ X) x = some (p ++ X) := by
  unfold aclear at h ⊢
  split at h
  case h_2 => cases h
  split at h
  case h_2 => cases h
  rename_i sz nl els he
  have hid := lt_of_getElem? he
  simp only [List.getElem?_append_left hid, he]
  split at h
  · rename_i hcond
    cases h
    rw [if_pos hcond, List.set_append_left _ _ hid]
  · cases h

theorem acopy_app {t : Ty} {x y : V} {p : Nat × Heap} (h : acopy t H x y = some p) : acopy t (H ++ X) x y = some (p.1, p.2 ++ X) := by
  unfold acopy at h ⊢
  split at h
  case h_2 => cases h
  rename_i es z id n lo len ys hc
  rw [content_app hc]
  simp only
  split at h
  case h_2 => cases h
  rename_i sz nl els he
  have hid := lt_of_getElem? he
  rw [List.getElem?_append_left hid, he]
  simp only
  split at h
  · rename_i hcond
    cases h
    rw [if_pos hcond, List.set_append_left _ _ hid]
  · cases h

theorem aappend_app {t : Ty} {hin : Bool} {base x : V} (h : aappend t hin H base x (fun v h => h = H ∧ K v (H ++ X))) : aappend t hin (H ++ X) base x K := by
  unfold aappend at h ⊢
  cases hc : content H x with
  | none => rw [hc] at h; cases t <;> exact h.elim
  | some ys =>
    rw [hc] at h
    rw [content_app hc]
    cases t with
    | sl es z =>
      simp only at h ⊢
      cases hs : sized es ys with
      | false => rw [hs] at h; exact h.elim
      | true =>
        rw [hs] at h
        simp only at h ⊢
        cases base with
        | slx nl l =>
          simp only at h ⊢
          cases hz : sized es l && decide (l.length + ys.length ≤ 4294967296) with
          | false => rw [hz] at h; exact h.elim
          | true =>
            rw [hz] at h
            simp only at h ⊢
            cases hin with
            | true =>
              simp only at h ⊢
              split at h
              · exact absurd (congrArg List.length h.1) (by simp)
              · exact h.elim
            | false => exact h.2
        | ref id n lo len =>
          simp only at h ⊢
          cases e : H[id]? with
          | none => rw [e] at h; exact h.elim
          | some b =>
            rw [e] at h
            rw [some_app e]
            cases b with
            | arr sz nl els =>
              simp only at h ⊢
              split at h
              · have h1 := h.1
                rw [List.set_append_left _ _ (lt_of_getElem? e), h1]
                exact h.2
              · exact h.elim
            | _ => exact h.elim
        | _ => exact h.elim
    | _ => exact h.elim

/-- What only looks sees the same where there are more blocks. -/
theorem evOp_app {o : Oper} (hl : lop o.op = true) (h : evOp T hint (fun _ _ _ _ => False) o E H (fun v h => h = H ∧ K v (H ++ X))) : evOp T hint (fun _ _ _ _ => False) o E (H ++ X) K := by
  obtain ⟨d, op, t, p, a, g⟩ := o
  cases op <;> try (exact absurd hl Bool.false_ne_true)
  case move x => exact h.2
  case pick c x y =>
    simp only [evOp_pick] at h ⊢
    unfold evIf at h ⊢
    split at h
    · rcases Br_iff h with ⟨rfl, h⟩ | ⟨rfl, h⟩ <;> exact h.2
    · exact h.elim
  case build t ps =>
    simp only [evOp] at h ⊢
    split at h
    · obtain ⟨cs, hc, _, hk⟩ := Som_iff h; simp only [hc, Som]; exact hk
    · obtain ⟨cs, hc, _, hk⟩ := Som_iff h; simp only [hc, Som]; exact hk
    · exact h.elim
  case load t x =>
    obtain ⟨v, hv, _, hk⟩ := Som_iff h
    simp only [evOp_load, aload_app hv, Som]; exact hk
  case nilCheck x =>
    simp only [evOp] at h ⊢
    split at h <;> first | exact h.2 | exact h.elim
  case binOp op t x y t' =>
    simp only [evOp] at h ⊢
    split at h
    · obtain ⟨v, hv, _, hk⟩ := Som_iff h; simp only [hv, Som]; exact hk
    · obtain ⟨v, hv, _, hk⟩ := Som_iff h; simp only [hv, Som]; exact hk
    · obtain ⟨v, hv, _, hk⟩ := Som_iff h; simp only [hv, Som]; exact hk
    · obtain ⟨v, hv, _, hk⟩ := Som_iff h; simp only [hv, Som]; exact hk
    · split at h
      · obtain ⟨v, hv, _, hk⟩ := Som_iff h; simp only [anilr_app hv, Som]; exact hk
      · obtain ⟨v, hv, _, hk⟩ := Som_iff h; simp only [anilr_app hv, Som]; exact hk
      · exact h.elim
  case unOp op t x =>
    simp only [evOp] at h ⊢
    split at h <;> first | exact h.2 | exact h.elim
  case convert s t x =>
    simp only [evOp] at h ⊢
    split at h <;> first | exact h.2 | exact h.elim
  case slice t x lo hi mx =>
    obtain ⟨v, hv, _, hk⟩ := Som_iff h
    simp only [evOp_slice, aslice_app hv, Som]; exact hk
  case fieldAddr t x f =>
    obtain ⟨v, hv, _, hk⟩ := Som_iff h
    simp only [evOp_fieldAddr, hv, Som]; exact hk
  case field t x f =>
    obtain ⟨v, hv, _, hk⟩ := Som_iff h
    simp only [evOp_field, hv, Som]; exact hk
  case indexAddr t x i =>
    obtain ⟨v, hv, _, hk⟩ := Som_iff h
    simp only [evOp_indexAddr, aidx_app hv, Som]; exact hk
  case index t x i =>
    obtain ⟨v, hv, _, hk⟩ := Som_iff h
    simp only [evOp_index, hv, Som]; exact hk
  case extract x i =>
    simp only [evOp] at h ⊢
    split at h
    · obtain ⟨v, hv, _, hk⟩ := Som_iff h; simp only [hv, Som]; exact hk
    · exact h.elim
  case entry x =>
    obtain ⟨v, hv, _, hk⟩ := Som_iff h
    simp only [evOp_entry, aentry_app hv, Som]; exact hk
  case lookup t m k ok =>
    obtain ⟨v, hv, _, hk⟩ := Som_iff h
    simp only [evOp_lookup, alook_app hv, Som]; exact hk
  case call c =>
    obtain ⟨ce, xs, ts⟩ := c
    cases ce with
    | value f => simp [lop] at hl
    | invoke r m => exact h.elim
    | builtin b =>
      simp only [evOp, evCall] at h ⊢
      split at h
      · obtain ⟨n, hn, _, hk⟩ := Som_iff h; simp only [alen_app hn, Som]; exact hk
      · obtain ⟨n, hn, _, hk⟩ := Som_iff h; simp only [hn, Som]; exact hk
      · obtain ⟨n, hn, _, hk⟩ := Som_iff h; simp only [hn, Som]; exact hk
      · split at h
        · exact aappend_app h
        · exact h.elim
      · obtain ⟨p, hp, hh, hk⟩ := Som_iff h
        simp only [acopy_app hp, Som]
        rw [hh]
        exact hk
      · obtain ⟨p, hp, hh, hk⟩ := Som_iff h
        simp only [aclear_app hp, Som]
        rw [hh]
        exact hk
      · exact h.elim

/-- What lays a block leaves the others as they are. -/
theorem evOp_ext {o : Oper} (hl : aop (hinted hint o.dst) o.op = true) (h : evOp T hint (fun _ _ _ _ => False) o E H K) : evOp T hint (fun _ _ _ _ => False) o E H (fun v h => K v h ∧ ∃ X, h = H ++ X) := by
  obtain ⟨d, op, t, p, a, g⟩ := o
  cases op <;> try (exact absurd hl Bool.false_ne_true)
  case assign x =>
    simp only [evOp_assign] at h ⊢
    unfold evAsg at h ⊢
    split at h
    · split at h
      · exact ⟨h, _, rfl⟩
      · exact h.elim
    · exact ⟨h, [], by simp⟩
  case alloc t => obtain ⟨cs, hc, h⟩ := Som_iff h; simp only [evOp, hc, Som]; exact ⟨h, _, rfl⟩
  case makeMap t r => cases r <;> first | exact absurd hl Bool.false_ne_true | (simp only [evOp] at h ⊢; exact ⟨h, _, rfl⟩)
  case range t x =>
    simp only [evOp] at h ⊢
    split at h
    · split at h
      · exact ⟨h, _, rfl⟩
      · exact h.elim
    · exact ⟨h, _, rfl⟩
    · exact h.elim
  case box t x => obtain ⟨cs, hc, h⟩ := Som_iff h; simp only [evOp, hc, Som]; exact ⟨h, _, rfl⟩
  case buildSlice t n ps =>
    have hh : hinted hint d = true := hl
    simp only [evOp, hh] at h ⊢
    split at h
    · obtain ⟨l, hl, h⟩ := Som_iff h
      simp only [hl, Som]
      split at h
      · exact ⟨h, _, rfl⟩
      · exact h.elim
    · exact h.elim
  case makeSlice t n c =>
    simp only [evOp] at h ⊢
    split at h
    · split at h
      · split at h
        · split at h <;> exact ⟨h, _, rfl⟩
        · exact ⟨h, [], by simp⟩
      · exact h.elim
    · exact h.elim

theorem stepV_ext {all : List Oper} {o : Oper} (hl : aop (hinted hint o.dst) o.op = true) (h : stepV T hint (fun _ _ _ _ => False) all o E H K) : stepV T hint (fun _ _ _ _ => False) all o E H (fun v h => K v h ∧ ∃ X, h = H ++ X) := by
  unfold stepV at h ⊢
  split at h
  · exact evOp_ext hl h
  · unfold evGo at h ⊢
    split at h
    · rcases Br_iff h with ⟨hb, h⟩ | ⟨hb, h⟩
      · rw [hb]; exact evOp_ext hl h
      · rw [hb]; exact ⟨h, [], by simp⟩
    · exact ⟨h, [], by simp⟩
    · exact h.elim

theorem stepV_app {all : List Oper} {o : Oper} (hl : lop o.op = true) (h : stepV T hint (fun _ _ _ _ => False) all o E H (fun v h => h = H ∧ K v (H ++ X))) : stepV T hint (fun _ _ _ _ => False) all o E (H ++ X) K := by
  unfold stepV at h ⊢
  split at h
  · exact evOp_app hl h
  · unfold evGo at h ⊢
    split at h
    · rcases Br_iff h with ⟨hb, h⟩ | ⟨hb, h⟩
      · rw [hb]; exact evOp_app hl h
      · rw [hb]; exact h.2
    · exact h.2
    · exact h.elim

end

theorem stepC_out {c : Cl} {all : List Oper} {o : Oper} {E : Env} {H : Heap} {K : V → Heap → Prop} (h : stepC P T hint all c o E H K) : ∃ v H', OutC P T hint all c o E H v H' ∧ K v H' := by
  cases c with
  | S =>
    obtain ⟨v, H', ⟨rfl, h1⟩, h2⟩ := stepV_lin SCall_lin _ h
    exact ⟨v, H, ⟨h2, rfl⟩, h1⟩
  | R =>
    obtain ⟨v, H', ⟨rfl, h1⟩, h2⟩ := stepV_lin DCall_lin _ h
    exact ⟨v, _, ⟨h2, rfl⟩, h1⟩
  | W =>
    obtain ⟨v, H', h1, h2⟩ := stepV_lin DCall_lin _ h
    exact ⟨v, H', h2, h1⟩
  | L =>
    obtain ⟨v, H', ⟨rfl, h1⟩, h2⟩ := stepV_lin (false_lin H) _ h.2
    exact ⟨v, _, ⟨⟨h.1, h2⟩, rfl⟩, h1⟩
  | A =>
    obtain ⟨v, H', ⟨h1, hx⟩, h2⟩ := stepV_lin (false_lin H) _ (stepV_ext h.1 h.2)
    exact ⟨v, H', ⟨⟨h.1, h2⟩, hx⟩, h1⟩

theorem out_stepC {c : Cl} {all : List Oper} {o : Oper} {E : Env} {H H' : Heap} {v : V} {K : V → Heap → Prop} (h : OutC P T hint all c o E H v H') (hk : K v H') : stepC P T hint all c o E H K := by
  cases c with
  | S => obtain ⟨h, rfl⟩ := h; exact h _ ⟨rfl, hk⟩
  | R => obtain ⟨h, rfl⟩ := h; exact h _ ⟨rfl, hk⟩
  | W => exact h _ hk
  | L => obtain ⟨⟨h0, h⟩, rfl⟩ := h; exact ⟨h0, h _ ⟨rfl, hk⟩⟩
  | A => exact ⟨h.1.1, h.1.2 _ hk⟩

theorem outC_same {c : Cl} {o : Oper} {E E' : Env} {H H' : Heap} {v : V} (hl : ∀ t ∈ o.looksAt ops, E.look t = E'.look t) (h : OutC P T hint ops.toList c o E H v H') : OutC P T hint ops.toList c o E' H v H' := by
  cases c with
  | S => exact ⟨fun K hk => by rw [← stepV_same hl]; exact h.1 K hk, h.2⟩
  | R => exact ⟨fun K hk => by rw [← stepV_same hl]; exact h.1 K hk, h.2⟩
  | W => exact fun K hk => by rw [← stepV_same hl]; exact h K hk
  | L => exact ⟨⟨h.1.1, fun K hk => by rw [← stepV_same hl]; exact h.1.2 K hk⟩, h.2⟩
  | A => exact ⟨⟨h.1.1, fun K hk => by rw [← stepV_same hl]; exact h.1.2 K hk⟩, h.2⟩

theorem outC_L {o : Oper} {E : Env} {H X : Heap} {v : V} (h : OutC P T hint ops.toList .L o E H v H) : OutC P T hint ops.toList .L o E (H ++ X) v (H ++ X) :=
  ⟨⟨h.1.1, fun K hk => stepV_app h.1.1 (h.1.2 _ ⟨rfl, hk⟩)⟩, rfl⟩

theorem outC_S {o : Oper} {E : Env} {H H' : Heap} {v : V} (h : OutC P T hint ops.toList .S o E H v H) : OutC P T hint ops.toList .S o E H' v H' := ⟨h.1, rfl⟩

theorem put_look_ne {E : Env} {d : Option Tmp} {v : V} {t : Nat} (h : d ≠ some t) : (put E d v).look t = E.look t := by
  cases d with
  | none => rfl
  | some d =>
    simp only [put, Env.look]
    rw [if_neg (fun e => h (by rw [e]))]

theorem put_swap {E : Env} {d d' : Option Tmp} {v v' : V} (h : ∀ t, d = some t → d' ≠ some t) (t : Nat) : (put (put E d v) d' v').look t = (put (put E d' v') d v).look t := by
  cases d with
  | none => rfl
  | some d =>
    cases d' with
    | none => rfl
    | some d' =>
      have hne : d' ≠ d := fun e => h d rfl (by rw [e])
      simp only [put, Env.look]
      by_cases h1 : d' = t
      · subst h1; rw [if_pos rfl, if_neg (fun e => hne e.symm), if_pos rfl]
      · rw [if_neg h1, if_neg h1]

/-- Two operations that have nothing to do with one another. -/
theorem out_swap {ci cj : Cl} {oi oj : Oper} {E : Env} {H Hi Hj : Heap} {v u : V} (hc : compat ci cj = true) (hap : oi.apart ops oj = true)
    (hi : OutC P T hint ops.toList ci oi E H v Hi) (hj : OutC P T hint ops.toList cj oj (put E oi.dst v) Hi u Hj) :
    ∃ Hj', OutC P T hint ops.toList cj oj E H u Hj' ∧ OutC P T hint ops.toList ci oi (put E oj.dst u) Hj' v Hj := by
  obtain ⟨h1, h2, h3⟩ := Oper.apart_spec hap
  have ej : ∀ t ∈ oj.looksAt ops, (put E oi.dst v).look t = E.look t := fun t ht => put_look_ne fun e => h1 t e ht
  have ei : ∀ t ∈ oi.looksAt ops, E.look t = (put E oj.dst u).look t := fun t ht => (put_look_ne fun e => h3 t e ht).symm
  cases cj with
  | S =>
    have hj' := outC_same ej hj
    obtain rfl := hj'.2
    exact ⟨H, ⟨hj'.1, rfl⟩, outC_same ei hi⟩
  | R =>
    have hj' := outC_same ej hj
    obtain rfl := hj'.2
    cases ci with
    | S => obtain rfl := hi.2; exact ⟨_, hj', outC_same ei hi⟩
    | R => obtain rfl := hi.2; exact ⟨_, hj', outC_same ei hi⟩
    | L => obtain rfl := hi.2; exact ⟨_, hj', outC_same ei hi⟩
    | A => cases hc
    | W => cases hc
  | L =>
    have hj' := outC_same ej hj
    obtain rfl := hj'.2
    cases ci with
    | S => obtain rfl := hi.2; exact ⟨_, hj', outC_same ei hi⟩
    | R => obtain rfl := hi.2; exact ⟨_, hj', outC_same ei hi⟩
    | L => obtain rfl := hi.2; exact ⟨_, hj', outC_same ei hi⟩
    | A => cases hc
    | W => cases hc
  | A =>
    have hj' := outC_same ej hj
    cases ci with
    | S => obtain rfl := hi.2; exact ⟨Hj, hj', outC_same ei (outC_S hi)⟩
    | L =>
      obtain rfl := hi.2
      obtain ⟨X, rfl⟩ := hj'.2
      exact ⟨_, hj', outC_same ei (outC_L hi)⟩
    | R => cases hc
    | A => cases hc
    | W => cases hc
  | W =>
    have hj' := outC_same ej hj
    cases ci with
    | S => obtain rfl := hi.2; exact ⟨Hj, hj', outC_same ei (outC_S hi)⟩
    | R => cases hc
    | L => cases hc
    | A => cases hc
    | W => cases hc

def Kq (K : Env → Heap → Prop) (E : Env) (H : Heap) : Prop := ∃ E0, (∀ t, E.look t = E0.look t) ∧ K E0 H

/-- Whatever order is picked from here on. -/
def AnyA (P : Program) (T : Nat → Ty) (hint : Nat → Bool) (cls : Nat → Cl) (ops : Array Oper) (K : Env → Heap → Prop) : Nat → Array Bool → Env → Heap → Prop
  | 0, listed, E, H => Region.ready .any ops listed = [] ∧ Kq K E H
  | f + 1, listed, E, H => (Region.ready .any ops listed = [] → Kq K E H) ∧
    ∀ i ∈ Region.ready .any ops listed, ∀ o, ops[i]? = some o → stepC P T hint ops.toList (cls i) o E H fun v H' => AnyA P T hint cls ops K f (listed.setIfInBounds i true) (put E o.dst v) H'

theorem Kq_same {E E' : Env} {H : Heap} (h : ∀ t, E.look t = E'.look t) (hk : Kq KE E H) : Kq KE E' H := by
  obtain ⟨E0, h1, h2⟩ := hk
  exact ⟨E0, fun t => (h t).symm.trans (h1 t), h2⟩

theorem put_same {E E' : Env} (h : ∀ t, E.look t = E'.look t) (d : Option Tmp) (v : V) : ∀ t, (put E d v).look t = (put E' d v).look t := by
  intro t
  cases d with
  | none => exact h t
  | some d => simp only [put, Env.look, h t]

theorem anyA_same : ∀ (f : Nat) (listed : Array Bool) (E E' : Env) (H : Heap), (∀ t, E.look t = E'.look t) → AnyA P T hint cls ops KE f listed E H → AnyA P T hint cls ops KE f listed E' H
  | 0, _, _, _, _, h, hk => ⟨hk.1, Kq_same h hk.2⟩
  | f + 1, listed, E, E', H, h, hk => by
    refine ⟨fun he => Kq_same h (hk.1 he), fun i hi o ho => ?_⟩
    obtain ⟨v, H', h1, h2⟩ := stepC_out (hk.2 i hi o ho)
    exact out_stepC (outC_same (fun t _ => h t) h1) (anyA_same f _ _ _ _ (put_same h _ _) h2)

theorem anyA_first {i : Nat} {oi : Oper} (hi : ops[i]? = some oi) : ∀ (fuel : Nat) (listed : Array Bool) (E : Env) (H : Heap) (v : V) (Hi : Heap),
      (∀ j oj, ops[j]? = some oj → j ≠ i → listed.getD j true = false → (∀ e ∈ oj.after, Region.binds .any e = true → e.on ≠ i) → oi.apart ops oj = true ∧ compat (cls i) (cls j) = true) →
      i ∈ Region.ready .any ops listed → OutC P T hint ops.toList (cls i) oi E H v Hi →
      AnyA P T hint cls ops KE fuel (listed.setIfInBounds i true) (put E oi.dst v) Hi → AnyA P T hint cls ops KE (fuel + 1) listed E H := by
  intro fuel
  induction fuel with
  | zero =>
    intro listed E H v Hi _ hr ho h
    refine ⟨fun h => (by rw [h] at hr; cases hr), fun j hj o hoj => ?_⟩
    by_cases hji : j = i
    · subst hji; rw [hi] at hoj; cases hoj; exact out_stepC ho h
    · have := ready_mono hj hji
      rw [h.1] at this
      cases this
  | succ fuel ih =>
    intro listed E H v Hi hfree hr ho h
    refine ⟨fun h => (by rw [h] at hr; cases hr), fun j hj oj hoj => ?_⟩
    by_cases hji : j = i
    · subst hji; rw [hi] at hoj; cases hoj; exact out_stepC ho h
    · obtain ⟨u, Hj, hu, hk⟩ := stepC_out (h.2 j (ready_mono hj hji) oj hoj)
      obtain ⟨hjun, oj', hoj', hall⟩ := mem_ready.1 hj
      rw [hoj] at hoj'; cases hoj'
      have hnot : ∀ e ∈ oj.after, Region.binds .any e = true → e.on ≠ i := fun e he hb heq => by
        have h1 := hall e he hb
        have h0 := (mem_ready.1 hr).1
        rw [heq] at h1
        rcases Nat.lt_or_ge i listed.size with h' | h'
        · simp [h'] at h0 h1; rw [h0] at h1; cases h1
        · simp [Array.getElem?_eq_none h'] at h1
      obtain ⟨hap, hcm⟩ := hfree j oj hoj hji hjun hnot
      obtain ⟨Hj', hu', ho'⟩ := out_swap hcm hap ho hu
      have hfree' : ∀ k ok, ops[k]? = some ok → k ≠ i → (listed.setIfInBounds j true).getD k true = false →
          (∀ e ∈ ok.after, Region.binds .any e = true → e.on ≠ i) → oi.apart ops ok = true ∧ compat (cls i) (cls k) = true := fun k ok hk hki hun hno => by
        refine hfree k ok hk hki ?_ hno
        by_cases hjk : j = k
        · subst hjk; exact hjun
        · rw [getD_set_ne true hjk] at hun; exact hun
      refine out_stepC hu' (ih (listed.setIfInBounds j true) _ _ v Hj hfree' (ready_mono hr (Ne.symm hji)) ho' ?_)
      rw [Array.setIfInBounds_comm _ _ hji]
      exact anyA_same _ _ _ _ _ (fun t => put_swap (Oper.apart_spec hap).2.1 t) hk

/-- The walk in the text's order. -/
def evLex (P : Program) (T : Nat → Ty) (hint : Nat → Bool) (cls : Nat → Cl) (all : List Oper) (K : Env → Heap → Prop) : Nat → List Oper → Env → Heap → Prop
  | _, [], E, H => K E H
  | k, o :: r, E, H => stepC P T hint all (cls k) o E H fun v H' => evLex P T hint cls all K (k + 1) r (put E o.dst v) H'

def freeC (cls : Nat → Cl) (ops : Array Oper) (listed : Array Bool) (i : Nat) : Bool :=
  match ops[i]? with
  | some oi => (List.range ops.size).all fun j => match ops[j]? with
    | some oj => j == i || listed.getD j true || oj.after.any (fun e => Region.binds .any e && e.on == i) || (oi.apart ops oj && compat (cls i) (cls j))
    | none => true
  | none => false

def lexC (cls : Nat → Cl) (ops : Array Oper) : Nat → Nat → Array Bool → Bool
  | 0, _, listed => (Region.ready .any ops listed).isEmpty
  | fuel + 1, k, listed => (Region.ready .any ops listed).contains k && freeC cls ops listed k && lexC cls ops fuel (k + 1) (listed.setIfInBounds k true)

theorem freeC_spec {i : Nat} {oi : Oper} {listed : Array Bool} (hi : ops[i]? = some oi) (h : freeC cls ops listed i = true) (j : Nat) (oj : Oper) (hj : ops[j]? = some oj) (hne : j ≠ i) (hun : listed.getD j true = false)
    (hno : ∀ e ∈ oj.after, Region.binds .any e = true → e.on ≠ i) : oi.apart ops oj = true ∧ compat (cls i) (cls j) = true := by
  simp only [freeC, hi, List.all_eq_true, List.mem_range] at h
  have h1 := h j (Array.getElem?_eq_some_iff.1 hj).1
  simp only [hj, Bool.or_eq_true, beq_iff_eq, hne, false_or, hun, Bool.false_eq_true, Bool.and_eq_true] at h1
  rcases h1 with h1 | h1
  · obtain ⟨e, he, hb⟩ := Array.any_eq_true'.1 h1
    simp only [Bool.and_eq_true, beq_iff_eq] at hb
    exact absurd hb.2 (hno e he hb.1)
  · exact h1

theorem anyA_lex : ∀ (l : List Oper) (k : Nat) (listed : Array Bool) (E : Env) (H : Heap), (∀ j : Nat, l[j]? = ops[k + j]?) → lexC cls ops l.length k listed = true → evLex P T hint cls ops.toList KE k l E H → AnyA P T hint cls ops KE l.length listed E H
  | [], k, listed, E, H, _, hb, h => ⟨by simpa [lexC] using hb, E, fun _ => rfl, h⟩
  | o :: l, k, listed, E, H, hl, hb, h => by
    have h0 : ops[k]? = some o := by simpa using (hl 0).symm
    simp only [List.length_cons, lexC, Bool.and_eq_true] at hb
    obtain ⟨⟨hr, hf⟩, hb'⟩ := hb
    simp only [evLex] at h
    obtain ⟨v, H', h1, h2⟩ := stepC_out h
    exact anyA_first h0 l.length listed E H v H' (freeC_spec h0 hf) (by simpa using hr) h1
      (anyA_lex l (k + 1) _ _ _ (fun j => by have := hl (j + 1); simpa [Nat.add_assoc, Nat.add_comm 1 j] using this) hb' h2)

end
end Go.Aw
end

section
namespace Go.Aw
open Go

section
variable {P : Program} {T : Nat → Ty} {hint : Nat → Bool} {ops : Array Oper} {cls : Nat → Cl} {N n0 : Nat} {r : Option Nat}

theorem evCall_D {o : Oper} {c : Call} {E : Env} {H : Heap} {K : V → Heap → Prop} (h : evCall T hint (DCall P) o c E H K) : evCall T hint (ACallV P) o c E H K := by
  unfold evCall at h ⊢
  split at h
  · exact DCall_sound h
  · exact h
  · exact h.elim

theorem evOp_D {o : Oper} {E : Env} {H : Heap} {K : V → Heap → Prop} (h : evOp T hint (DCall P) o E H K) : evOp T hint (ACallV P) o E H K := by
  obtain ⟨d, op, t, p, a, g⟩ := o
  cases op with
  | call c => exact evCall_D h
  | makeFunc f x y => cases f <;> exact h
  | makeMap t r => cases r <;> exact h
  | next x b => cases b <;> exact h
  | _ => exact h

theorem evOp_N {o : Oper} {E : Env} {H : Heap} {K : V → Heap → Prop} (h : evOp T hint (fun _ _ _ _ => False) o E H K) : evOp T hint (ACallV P) o E H K := by
  obtain ⟨d, op, t, p, a, g⟩ := o
  cases op with
  | call c =>
    simp only [evOp, evCall] at h ⊢
    split at h
    · exact h.elim
    · exact h
    · exact h.elim
  | makeFunc f x y => cases f <;> exact h
  | makeMap t r => cases r <;> exact h
  | next x b => cases b <;> exact h
  | _ => exact h

theorem stepC_V {c : Cl} {o : Oper} {E : Env} {H : Heap} {K : V → Heap → Prop} (h : stepC P T hint ops.toList c o E H K) : stepV T hint (ACallV P) ops.toList o E H K := by
  have gd : ∀ {x : V} {w : Bool} {A B A' B' : Unit → Prop}, (A () → A' ()) → (B () → B' ()) → evGo x w A B → evGo x w A' B' := by
    intro x w A B A' B' h1 h2 h
    unfold evGo at h ⊢
    split at h
    · rcases Br_iff h with ⟨hb, h⟩ | ⟨hb, h⟩
      · rw [hb]; exact h1 h
      · rw [hb]; exact h2 h
    · exact h2 h
    · exact h.elim
  cases c with
  | S =>
    simp only [stepC, stepV] at h ⊢
    split at h
    · exact evOp_nil h
    · exact gd evOp_nil (fun h => h.2) h
  | R =>
    obtain ⟨v, H', ⟨rfl, h1⟩, h2⟩ := stepV_lin DCall_lin _ h
    have h3 := h2 K h1
    simp only [stepV] at h3 ⊢
    split at h3
    · exact evOp_D h3
    · exact gd evOp_D id h3
  | W =>
    simp only [stepC, stepV] at h ⊢
    split at h
    · exact evOp_D h
    · exact gd evOp_D id h
  | L =>
    obtain ⟨v, H', ⟨rfl, h1⟩, h2⟩ := stepV_lin (false_lin H) _ h.2
    have h3 := h2 K h1
    simp only [stepV] at h3 ⊢
    split at h3
    · exact evOp_N h3
    · exact gd evOp_N id h3
  | A =>
    have h3 := h.2
    simp only [stepV] at h3 ⊢
    split at h3
    · exact evOp_N h3
    · exact gd evOp_N id h3

theorem step_sound (hT : TOK P T) (hok : opsOk N ops.toList = true) {l : Option Nat} {g : G} {E : Env} {H : Heap} {w : World} {a : Act} {i : Nat} {o : Oper} {K : V → Heap → Prop} (hoi : ops[i]? = some o) (hr : HR g H w) (he : ER g H w E a.tmps) (hs : a.tmps.size = N)
    (h : stepV T hint (ACallV P) ops.toList o E H K) {next : Act → World → Prop} {Q : Exit → Act → World → Prop}
    (hnext : ∀ v H' cv w' g', K v H' → VR g' H' w' v cv → HR g' H' w' → Kp g w g' w' → Ag g H w g' H' w' → ER g' H' w' (put E o.dst v) (a.put o.dst cv).tmps → next (a.put o.dst cv) w') : wpOpIn (FR l) 0 P ops Q i next a w := by
  have hoi' : ops.toList[i]? = some o := by rw [← hoi]; simp
  have hdst : ∀ d, o.dst = some d → d < a.tmps.size := by
    intro d hod
    have := List.all_eq_true.1 hok o (List.mem_of_getElem? hoi')
    unfold opOk at this
    rw [hod] at this
    rw [hs]
    simpa using this
  unfold wpOpIn
  simp only [hoi]
  have run : ∀ (hev : evOp T hint (ACallV P) o E H K), o.wpIn (FR l) 0 P a w next Q := by
    intro hev
    refine evOp_sound hT (fun _ _ _ _ h => h) hr he hev ?_
    intro v H' cv w' g' hK hv hr' hk' ha'
    exact hnext v H' cv w' g' hK hv hr' hk' ha' (ER_put (ER_mono he (hr.zk hk') ha') hdst hv)
  have skip : ∀ (hev : K (.tup []) H), (∀ f, o.about P w a.eval = some f → (FR l).fn f) ∧ next (a.put o.dst undef) w := by
    intro hev
    exact ⟨fun _ _ => trivial, hnext _ H _ w g hev ⟨#[], rfl, rfl⟩ hr (Kp.refl g w) (Ag.refl g H w) (ER_put he hdst ⟨#[], rfl, rfl⟩)⟩
  unfold stepV at h
  split at h
  · rename_i hg
    have hw : Region.wanted o (yielded ops a.tmps) = true := by unfold Region.wanted; rw [hg]
    simp only [hw, if_true]
    exact run h
  · rename_i j want hg
    unfold evGo at h
    split at h
    · rename_i b hb
      unfold gval at hb
      split at hb
      · rename_i t ht
        have hv := he t
        rw [hb] at hv
        simp only [VR, DR, DC] at hv
        simp at hv
        have hy := yielded_of (ops := ops) (tmps := a.tmps) ht (by rw [Array.getD_eq_getD_getElem?]; exact hv)
        have hw : Region.wanted o (yielded ops a.tmps) = (b == want) := by
          unfold Region.wanted
          simp only [hg, hy]
          cases b <;> cases want <;> rfl
        rw [hw]
        rcases Br_iff h with ⟨h1, h⟩ | ⟨h1, h⟩
        · rw [h1]; simp only [if_true]; exact run h
        · rw [h1]; simp only [Bool.false_eq_true, if_false]; exact skip h
      · cases hb
    · rename_i hb
      unfold gval at hb
      split at hb
      · rename_i t ht
        have hv := he t
        rw [hb] at hv
        simp only [VR] at hv
        obtain ⟨cs, hv, hcs⟩ := hv
        have hy : yielded ops a.tmps j = none := yielded_no (ops := ops) (tmps := a.tmps) ht hv
        have hw : Region.wanted o (yielded ops a.tmps) = false := by
          unfold Region.wanted
          simp only [hg, hy]
          rfl
        rw [hw]
        simp only [Bool.false_eq_true, if_false]; exact skip h
      · cases hb
    · exact h.elim

theorem anyA_sound (hT : TOK P T) (hok : opsOk N ops.toList = true) {l : Option Nat} {g0 : G} {H0 : Heap} {w0 : World} {a0 : Act} {K : Env → Heap → Prop} {Q : Exit → Act → World → Prop}
    (hQ : ∀ E' H' a' w' g', K E' H' → HR g' H' w' → ER g' H' w' E' a'.tmps → a'.tmps.size = N → a'.defers = a0.defers → Kp g0 w0 g' w' → Ag g0 H0 w0 g' H' w' → Q .normal a' w') :
    ∀ (fuel : Nat) (listed : Array Bool) (E : Env) (H : Heap) (a : Act) (w : World) (g : G), AnyA P T hint cls ops K fuel listed E H → HR g H w → ER g H w E a.tmps → a.tmps.size = N → a.defers = a0.defers → Kp g0 w0 g w → Ag g0 H0 w0 g H w →
      wpAnyIn (FR l) 0 P .any ops Q fuel listed a w := by
  have fin : ∀ (E : Env) (H : Heap) (a : Act) (w : World) (g : G), Kq K E H → HR g H w → ER g H w E a.tmps → a.tmps.size = N → a.defers = a0.defers → Kp g0 w0 g w → Ag g0 H0 w0 g H w → Q .normal a w := by
    rintro E H a w g ⟨E0, h1, h2⟩ hr he hs hd hk ha
    exact hQ E0 H a w g h2 hr (fun t => by rw [← h1 t]; exact he t) hs hd hk ha
  intro fuel
  induction fuel with
  | zero =>
    intro listed E H a w g h hr he hs hd hk ha
    exact ⟨h.1, fin E H a w g h.2 hr he hs hd hk ha⟩
  | succ fuel ih =>
    intro listed E H a w g h hr he hs hd hk ha
    refine ⟨fun hem => fin E H a w g (h.1 hem) hr he hs hd hk ha, fun i hi => ?_⟩
    obtain ⟨_, o, ho, _⟩ := mem_ready.1 hi
    refine step_sound hT hok ho hr he hs (stepC_V (h.2 i hi o ho)) ?_
    intro v H' cv w' g' hK hv hr' hk' ha' he'
    exact ih _ _ _ _ _ _ hK hr' he' (by rw [put_size]; exact hs) (by rw [put_defers]; exact hd) (hk.trans hk') (ha.trans ha')

/-- A region that draws its order, by its walk in the text's order. -/
theorem ADrw.lex (hint : Nat → Bool) (hT : TOK P T) (hm : P.follows .mixedOrders = true) (cls : Nat → Cl) {E : Env} {H : Heap} {K : Env → Heap → Prop} (hn : n0 ≤ H.length) (hr : ∀ id, r = some id → id < n0)
    (hok : opsOk N ops.toList = true) (hs : lexC cls ops ops.size 0 (Array.replicate ops.size false) = true) (h : evLex P T hint cls ops.toList K 0 ops.toList E H) : ADrw P N n0 r ops E H K := by
  intro i
  refine ⟨hn, hr, fun g w a l m0 hrel => wpIn_region_any hm ?_⟩
  have hl := anyA_lex (P := P) (T := T) (hint := hint) (ops := ops) (cls := cls) (KE := K) ops.toList 0 (Array.replicate ops.size false) E H (by simp) (by simpa using hs) h
  obtain ⟨hr1, hk1, ha1⟩ := same_heap (g := g) (H := H) (w := w) (w' := { w with drawn := w.drawn + 1 }) rfl rfl rfl rfl hrel.hr
  have hsz : ops.toList.length = ops.size := by simp
  rw [hsz] at hl
  refine anyA_sound hT hok (l := l) (g0 := g) (H0 := H) (w0 := w) (a0 := a) (K := K) (fun E' H' a' w' g' hK hr' he hs hd hk ha => ?_) ops.size _ E H a { w with drawn := w.drawn + 1 } g hl hr1 (fun t => VR_mono (hrel.hr.zk hk1) ha1 _ _ (hrel.er t)) hrel.sz rfl hk1 ha1
  exact ⟨.normal, E', H', g', rfl, hK, hrel.of_agn hr hr' he hs hd hk (AgN.of_ag hn ha), hk, AgN.of_ag hn ha⟩

theorem ADrw.walk (hint : Nat → Bool) (hT : TOK P T) (hm : P.follows .mixedOrders = true) (cls : Nat → Cl) {l : List Oper} {E : Env} {H : Heap} {K : Env → Heap → Prop} (hn : n0 ≤ H.length) (hr : ∀ id, r = some id → id < n0)
    (hok : opsOk N l = true) (hs : lexC cls l.toArray l.length 0 (Array.replicate l.length false) = true) (h : evLex P T hint cls l K 0 l E H) : ADrw P N n0 r l.toArray E H K :=
  .lex hint hT hm cls hn hr hok (by simpa using hs) h

/-! ### The evaluator's rules -/

variable {E : Env} {H : Heap} {K : V → Heap → Prop} {KE : Env → Heap → Prop}

@[go_sem] theorem evLex_nil (all : List Oper) (k : Nat) : evLex P T hint cls all KE k [] E H = KE E H := (Eq.refl _).trans rfl
@[go_sem] theorem evLex_cons (all : List Oper) (k : Nat) (o : Oper) (l : List Oper) : evLex P T hint cls all KE k (o :: l) E H = stepC P T hint all (cls k) o E H fun v H' => evLex P T hint cls all KE (k + 1) l (put E o.dst v) H' := (Eq.refl _).trans rfl
@[go_sem] theorem stepC_S (all : List Oper) (o : Oper) : stepC P T hint all .S o E H K = stepV T hint (SCall P) all o E [] (fun v h => h = [] ∧ K v H) := (Eq.refl _).trans rfl
@[go_sem] theorem stepC_R (all : List Oper) (o : Oper) : stepC P T hint all .R o E H K = stepV T hint (DCall P) all o E H (fun v h => h = H ∧ K v H) := (Eq.refl _).trans rfl
@[go_sem] theorem stepC_W (all : List Oper) (o : Oper) : stepC P T hint all .W o E H K = stepV T hint (DCall P) all o E H K := (Eq.refl _).trans rfl
@[go_sem] theorem stepC_L (all : List Oper) (o : Oper) : stepC P T hint all .L o E H K = (lop o.op = true ∧ stepV T hint (fun _ _ _ _ => False) all o E H (fun v h => h = H ∧ K v H)) := (Eq.refl _).trans rfl
@[go_sem] theorem stepC_A (all : List Oper) (o : Oper) : stepC P T hint all .A o E H K = (aop (hinted hint o.dst) o.op = true ∧ stepV T hint (fun _ _ _ _ => False) all o E H K) := (Eq.refl _).trans rfl
attribute [go_sem] lop aop
@[go_sem] theorem stepV_none {call : CallH} (all : List Oper) (d : Option Tmp) (o : Op) (t : TypeId) (p : String) (a : Array Edge) : stepV T hint call all ⟨d, o, t, p, a, none⟩ E H K = evOp T hint call ⟨d, o, t, p, a, none⟩ E H K := (Eq.refl _).trans rfl
@[go_sem] theorem stepV_some {call : CallH} (all : List Oper) (d : Option Tmp) (o : Op) (t : TypeId) (p : String) (a : Array Edge) (j : Nat) (w : Bool) :
    stepV T hint call all ⟨d, o, t, p, a, some (j, w)⟩ E H K = evGo (gval all j E) w (fun _ => evOp T hint call ⟨d, o, t, p, a, some (j, w)⟩ E H K) (fun _ => K (.tup []) H) := (Eq.refl _).trans rfl

@[congr] theorem evLex_congr {all l : List Oper} {k k' : Nat} {E' : Env} {H' : Heap} (hk : k = k') (hE : E = E') (hH : H = H') {one : Prop} (ho : (True ∧ True) = one) : evLex P T hint cls all KE k l E H = evLex P T hint cls all KE k' l E' H' := by
  rw [hk, hE, hH]
@[congr] theorem stepC_congr {all : List Oper} {c c' : Cl} {o : Oper} {E' : Env} {H' : Heap} (hc : c = c') (hE : E = E') (hH : H = H') {one : Prop} (ho : (True ∧ True) = one) : stepC P T hint all c o E H K = stepC P T hint all c' o E' H' K := by
  rw [hc, hE, hH]
@[congr] theorem stepV_congr {call : CallH} {all : List Oper} {o : Oper} {E' : Env} {H' : Heap} (hE : E = E') (hH : H = H') {one : Prop} (ho : (True ∧ True) = one) : stepV T hint call all o E H K = stepV T hint call all o E' H' K := by
  rw [hE, hH]
@[congr] theorem DCall_congr {f f' : V} {vs vs' : List V} {H' : Heap} (hf : f = f') (hv : vs = vs') (hH : H = H') {one : Prop} (ho : (True ∧ True) = one) : DCall P f vs H K = DCall P f' vs' H' K := by
  rw [hf, hv, hH]
@[congr] theorem SCall_congr {f f' : V} {vs vs' : List V} {H' : Heap} (hf : f = f') (hv : vs = vs') (hH : H = H') {one : Prop} (ho : (True ∧ True) = one) : SCall P f vs H K = SCall P f' vs' H' K := by
  rw [hf, hv, hH]

/-- A contract on data, in a region that draws its order. -/
theorem PC.callS {f : FuncId} {vs : List V} {v : V} {as : List V} {x y : List V} {H : Heap} {Q : V → Heap → Prop} (h : PC P f vs v) (h1 : (x ++ as ++ y).map Aw.dz = vs) (h2 : VBs 0 vs = true) (h3 : VB 0 v = true) (h4 : VBs 0 x = true) (h5 : VBs 0 as = true) (h6 : VBs 0 y = true) (hq : Q v H) : SCall P (.fn (.func f) x y) as H Q :=
  ⟨by simp [VB, h4, h6], h5, v, PC.call h h1 h2 h3 ⟨rfl, rfl⟩, hq⟩

theorem PC.callD {f : FuncId} {vs us : List V} {v : V} {as : List V} {x y : List V} {H : Heap} {Q : V → Heap → Prop} (h : PC P f vs v) (h1 : (x ++ as ++ y).map Aw.dz = us) (h2 : pubVs 0 H us = some vs) (h3 : flatV v = true) (hq : Q v H) : DCall P (.fn (.func f) x y) as H Q :=
  ⟨v, H, PC.callL h h1 h2 h3 ⟨rfl, rfl⟩, hq⟩

/-- A contract on data, where row id is given away for good. -/
theorem PC.callF {f : FuncId} {vs us : List V} {v : V} {as : List V} {x y : List V} {H : Heap} {Q : V → Heap → Prop} (id : Nat) {sz : Nat} {nl : Bool} {els : List D} (h : PC P f vs v) (he : H[id]? = some (.arr sz nl els)) (h1 : (x ++ as ++ y).map Aw.dz = us) (h2 : frzVs id els us = vs)
    (h4 : VBs 0 vs = true) (h3 : VB 0 v = true) (hq : Q v (H.set id (.arr sz nl (els ++ [.nilp])))) : DCall P (.fn (.func f) x y) as H Q :=
  ⟨v, H.set id (.arr sz nl (els ++ [.nilp])), by
    subst h1; subst h2
    exact ACalls.dz (ACalls.frz he (PC.use h h4 h3 ⟨rfl, rfl⟩)), hq⟩

end
end Go.Aw
end
