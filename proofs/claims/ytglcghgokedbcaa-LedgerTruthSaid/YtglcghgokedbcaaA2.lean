/- Arithmetic, tests, conversions, parts of values, lengths. Fields and elements of values; lengths; make; slices of slices. append. append, as the evaluator has it. Parts of slices and of strings. Every operation: what the evaluator says is what the model does. Every operation: what the evaluator says is what the model does. Calls, regions that draw nothing, control. Code: what the evaluator says is what the model does. -/
import Derived.Test.YtglcghgokedbcaaA1
import Derived.Laws.StructEq
import Derived.IntWalk
import Derived.LoopNIn
set_option linter.unusedSimpArgs false
set_option linter.unusedVariables false

section
namespace Go.Aw
open Go

section
variable {P : Program} {g : G} {H : Heap} {w : World} {K : V → Heap → Prop}

theorem eqGuard_run {op : BinOp} {t : TypeId} {x y : Operand} {a b : Value} (h1 : ∀ (_ : a = .nilIface), b ≠ .nilIface) (h2 : ∀ cs ds, a = .agg cs → b = .agg ds → P.eqGuardType P.depth t = false) :
    (eqGuard op t x y a b).run P w = .ok () w := by
  unfold eqGuard
  have key : (match a, b with
    | .nilIface, .nilIface =>
      if (x matches .const _) || (y matches .const _) then (pure () : Sem Unit)
      else do if ← Op.eqGuardIn Op.maxDepth t a b then unsupported (.noEntry "binop/eql: two nil values of an interface type with methods, neither of them the literal nil")
    | .agg _, .agg _ => do
      if !(← program).eqGuardType (← program).depth t then pure ()
      else if ← Op.eqGuardIn Op.maxDepth t a b then unsupported (.noEntry "binop/eql: two nil values of an interface type with methods, in a part of a struct or an array")
    | _, _ => pure ()).run P w = .ok () w := by
    cases a with
    | nilIface => cases b <;> first | rfl | exact absurd rfl (h1 rfl)
    | agg cs => cases b <;> first | rfl | (simp [h2 _ _ rfl rfl])
    | _ => rfl
  cases op <;> simp only [Bool.not_true, Bool.not_false, Bool.false_eq_true, if_true, if_false, Sem.run_pure] <;> first
    | rfl
    | exact key
    | (revert key; cases a <;> cases b <;> simp)

def dval : D → Value
  | .bool b => .bool b
  | .int k n => .int k n
  | .str s => .string s
  | .nilp => .pointer none
  | .nilf => .nilFunc
  | .nilm => .map none
  | _ => .nilIface

def plainD : D → Bool
  | .bool _ | .int _ _ | .str _ | .nilp | .nilf | .nilm => true
  | _ => false

theorem DR_dval {Z : Nat → Nat → Prop} {x : D} (h : plainD x = true) : DR w Z x (dval x) := by
  cases x <;> simp [plainD] at h <;> simp [DR, DC, dval]

theorem abin_ar {op : BinOp} (k k' : IntKind) {a b : Int} (x : D) {r : D} {t : TypeId} (hp : plainD x = true) (h : (if k = k' then some x else none) = some r)
    (hrun : (binOp op t (.int k a) (.int k b)).run P w = .ok (dval x) w) : ∃ v, (binOp op t (.int k a) (.int k' b)).run P w = .ok v w ∧ DR w g.Z r v := by
  split at h
  · rename_i hk
    subst hk
    simp at h; subst h
    exact ⟨_, hrun, DR_dval hp⟩
  · cases h

theorem abin_int {op : BinOp} {k k' : IntKind} {a b : Int} {r : D} {t : TypeId} (h : abin .no op (.int k a) (.int k' b) = some r) :
    ∃ v, (binOp op t (.int k a) (.int k' b)).run P w = .ok v w ∧ DR w g.Z r v := by
  have ret : ∀ (v : Value) (hv : (binOp op t (.int k a) (.int k' b)).run P w = .ok v w), DR w g.Z r v → ∃ v, (binOp op t (.int k a) (.int k' b)).run P w = .ok v w ∧ DR w g.Z r v := fun v hv hd => ⟨v, hv, hd⟩
  cases op with
  | shl =>
    simp only [abin] at h
    split at h
    · cases h
    · rename_i h0
      simp at h; subst h
      exact ret (.int k (k.wrap (a * 2 ^ min b.toNat k.bits))) (by simp [binOp, Op.shift, h0]) (by simp [DR, DC])
  | shr =>
    simp only [abin] at h
    split at h
    · cases h
    · rename_i h0
      simp at h; subst h
      exact ret (.int k (a.fdiv (2 ^ min b.toNat k.bits))) (by simp [binOp, Op.shift, h0]) (by simp [DR, DC])
  | quo =>
    simp only [abin] at h
    split at h
    · rename_i hk
      subst hk
      split at h
      · cases h
      · rename_i h0
        simp at h; subst h
        exact ret (.int k (k.wrap (a.tdiv b))) (by simp [binOp, Op.intDiv, h0]) (by simp [DR, DC])
    · cases h
  | rem =>
    simp only [abin] at h
    split at h
    · rename_i hk
      subst hk
      split at h
      · cases h
      · rename_i h0
        simp at h; subst h
        exact ret (.int k (a.tmod b)) (by simp [binOp, Op.intDiv, h0]) (by simp [DR, DC])
    · cases h
  | add => exact abin_ar k k' (.int k (k.wrap (a + b))) rfl h (by simp [dval, binOp, Op.intArith])
  | sub => exact abin_ar k k' (.int k (k.wrap (a - b))) rfl h (by simp [dval, binOp, Op.intArith])
  | mul => exact abin_ar k k' (.int k (k.wrap (a * b))) rfl h (by simp [dval, binOp, Op.intArith])
  | and => exact abin_ar k k' (.int k (k.wrap (BitVec.ofInt k.bits a &&& BitVec.ofInt k.bits b).toNat)) rfl h (by simp [dval, binOp, Op.intBits])
  | or => exact abin_ar k k' (.int k (k.wrap (BitVec.ofInt k.bits a ||| BitVec.ofInt k.bits b).toNat)) rfl h (by simp [dval, binOp, Op.intBits])
  | xor => exact abin_ar k k' (.int k (k.wrap (BitVec.ofInt k.bits a ^^^ BitVec.ofInt k.bits b).toNat)) rfl h (by simp [dval, binOp, Op.intBits])
  | andNot => exact abin_ar k k' (.int k (k.wrap (BitVec.ofInt k.bits a &&& ~~~(BitVec.ofInt k.bits b)).toNat)) rfl h (by simp [dval, binOp, Op.intBits])
  | eql => exact abin_ar k k' (.bool (a == b)) rfl h (by simp [dval, binOp, Op.intCmp])
  | neq => exact abin_ar k k' (.bool (a != b)) rfl h (by simp [dval, binOp, Op.intCmp])
  | lss => exact abin_ar k k' (.bool (decide (a < b))) rfl h (by simp [dval, binOp, Op.intCmp])
  | leq => exact abin_ar k k' (.bool (decide (a ≤ b))) rfl h (by simp [dval, binOp, Op.intCmp])
  | gtr => exact abin_ar k k' (.bool (decide (a > b))) rfl h (by simp [dval, binOp, Op.intCmp])
  | geq => exact abin_ar k k' (.bool (decide (a ≥ b))) rfl h (by simp [dval, binOp, Op.intCmp])

theorem equal_succ (t : TypeId) (x y : Value) : Op.equal t x y = Op.equalIn (9999 + 1) t x y := rfl

theorem equal_bool {t : TypeId} (hu : P.underlying t = some .bool) (a b : Bool) : (Op.equal t (.bool a) (.bool b)).run P w = .ok (a == b) w := by
  rw [equal_succ]
  unfold Op.equalIn
  simp [run_underlying hu]

theorem equal_slice_nil {t e : TypeId} (hu : P.underlying t = some (.slice e)) (a : Option Addr) (len cap : Nat) : (Op.equal t (.slice a len cap) (.slice none 0 0)).run P w = .ok a.isNone w := by
  rw [equal_succ]
  unfold Op.equalIn
  cases a <;> simp [run_underlying hu]

theorem equal_pointer_nil {t e : TypeId} (hu : P.underlying t = some (.pointer e)) (a : Option Addr) : (Op.equal t (.pointer a) (.pointer none)).run P w = .ok a.isNone w := by
  rw [equal_succ]
  unfold Op.equalIn
  cases a <;> simp [run_underlying hu]

theorem equal_func_nil {t : TypeId} {p q : Array TypeId} {b : Bool} (hu : P.underlying t = some (.func p q b)) (f : Fn) (x y : Array Value) : (Op.equal t (.func f x y) .nilFunc).run P w = .ok false w := by
  rw [equal_succ]
  unfold Op.equalIn
  simp [run_underlying hu]

theorem equal_nil_func {t : TypeId} {p q : Array TypeId} {b : Bool} (hu : P.underlying t = some (.func p q b)) : (Op.equal t .nilFunc .nilFunc).run P w = .ok true w := by
  rw [equal_succ]
  unfold Op.equalIn
  simp [run_underlying hu]

theorem abin_bool {op : BinOp} {ty : Ty} {a b : Bool} {r : D} {t : TypeId} (hty : TyOK P t ty) (h : abin ty op (.bool a) (.bool b) = some r) :
    ∃ v, (binOp op t (.bool a) (.bool b)).run P w = .ok v w ∧ DR w g.Z r v := by
  simp only [abin] at h
  split at h
  · rename_i z
    obtain ⟨i, d, zv, _, _, _, hd, _, _, _, _, hb, _⟩ := hty
    have hu := hb z rfl
    subst hu
    simp at h; subst h
    exact ⟨.bool (a == b), by simp [binOp, equal_bool hd], by simp [DR, DC]⟩
  · rename_i z
    obtain ⟨i, d, zv, _, _, _, hd, _, _, _, _, hb, _⟩ := hty
    have hu := hb z rfl
    subst hu
    simp at h; subst h
    exact ⟨.bool (!(a == b)), by simp [binOp, equal_bool hd], by simp [DR, DC]⟩
  · cases h

theorem abin_str {op : BinOp} {a b : ByteArray} {r : D} {t : TypeId} (h : abin .no op (.str a) (.str b) = some r) :
    ∃ v, (binOp op t (.string a) (.string b)).run P w = .ok v w ∧ DR w g.Z r v := by
  cases op <;> simp only [abin] at h <;> try (cases h; done)
  case eql => simp at h; subst h; exact ⟨.bool (a == b), by simp [binOp, Op.stringOp, beq_toListBytes], by simp [DR, DC]⟩
  case neq => simp at h; subst h; exact ⟨.bool (!(a == b)), by simp [binOp, Op.stringOp, beq_toListBytes], by simp [DR, DC]⟩
  case lss => simp at h; subst h; exact ⟨.bool (Op.bytesLess a.toList b.toList), by simp [binOp, Op.stringOp], by simp [DR, DC]⟩
  case add =>
    split at h
    · rename_i hle
      simp at h; subst h
      refine ⟨.string (a ++ b), ?_, by simp [DR, DC]⟩
      have : ¬ ((a.size + b.size : Nat) : Int) > IntKind.i64.max := by
        have h9 : IntKind.i64.max = 9223372036854775807 := rfl
        rw [h9]
        omega
      simp only [binOp, Op.stringOp, if_neg this, Sem.run_pure]
    · cases h

theorem abin_agg {op : BinOp} {ty : Ty} {a b : List D} {r : D} {t : TypeId} (hty : TyOK P t ty) (h : abin ty op (.agg a) (.agg b) = some r) {xs ys : Array Value} (hx : DCs w g.Z a xs.toList) (hy : DCs w g.Z b ys.toList) :
    P.eqGuardType P.depth t = false ∧ ∃ v, (binOp op t (.agg xs) (.agg ys)).run P w = .ok v w ∧ DR w g.Z r v := by
  have key : ∀ z (heq : EqOK P t z) c, like z a = true → aeqs a b = some c → (op = .eql ∧ r = .bool c) ∨ (op = .neq ∧ r = .bool (!c)) → P.eqGuardType P.depth t = false ∧ ∃ v, (binOp op t (.agg xs) (.agg ys)).run P w = .ok v w ∧ DR w g.Z r v := by
    intro n heq c hn hc hop
    have := heq.2 w g.Z a b xs.toList ys.toList c hn hx hy hc
    simp only [Array.toArray_toList] at this
    rcases hop with ⟨rfl, rfl⟩ | ⟨rfl, rfl⟩
    · exact ⟨heq.1, .bool c, by simp [binOp, this], by simp [DR, DC]⟩
    · exact ⟨heq.1, .bool (!c), by simp [binOp, this], by simp [DR, DC]⟩
  simp only [abin] at h
  split at h <;> try (cases h; done)
  all_goals
    split at h
    · rename_i hn
      simp only [Option.map_eq_some_iff] at h
      obtain ⟨c, hc, rfl⟩ := h
      exact key _ (hty.1 rfl) c hn hc (by simp)
    · cases h

theorem VR_fn_shape {f : Fn} {a b : List V} {v : Value} (hx : VR g H w (.fn f a b) v) : ∃ f' x' y', v = .func f' x' y' := by
  cases f <;> simp only [VR] at hx <;> first
    | (obtain ⟨x', y', h, _⟩ := hx; exact ⟨_, x', y', h⟩)
    | (obtain ⟨_, _, _, _, _, _, _, _, _, _, _, h⟩ := hx; exact ⟨_, _, _, h⟩)

theorem nil_slx {cy : Value} (hy : VR g H w (.slx (some true) []) cy) : cy = .slice none 0 0 := by
  simp only [VR] at hy
  obtain ⟨a, rfl, ha, _⟩ := hy
  have : a = none := by simpa using ha
  subst this
  rfl

theorem anilr_sound {ty : Ty} {t : TypeId} (hty : TyOK P t ty) (hr : HR g H w) {x y : V} {cx cy : Value} (hx : VR g H w x cx) (hy : VR g H w y cy) {r : Bool} (h : anilr ty H x y = some r) :
    (Op.equal t cx cy).run P w = .ok r w ∧ (∀ (_ : cx = .nilIface), cy ≠ .nilIface) ∧ ∀ cs ds, cx = .agg cs → cy = .agg ds → P.eqGuardType P.depth t = false := by
  unfold anilr at h
  split at h
  · rename_i es z id n lo len
    obtain ⟨i, e, j, zv, _, _, _, hu, _⟩ := hty
    obtain rfl := nil_slx hy
    split at h
    · rename_i sz nl els he
      split at h
      · rename_i hn
        simp at h; subst h
        simp only [VR] at hx
        obtain ⟨_, sz', nl', els', e1, e2, e3⟩ := hx
        rw [he] at e1; cases e1
        obtain ⟨f1, f2⟩ := e3 hn
        rcases f2 with ⟨_, _, a, rfl, f3⟩ | ⟨b, cap, vs, t', f3, rfl, _⟩
        · refine ⟨?_, by simp, by simp⟩
          rw [equal_slice_nil hu]
          congr 1
          cases a <;> cases nl <;> simp_all
        · refine ⟨?_, by simp, by simp⟩
          rw [equal_slice_nil hu]
          obtain ⟨_, _, hnl, _⟩ := hr.blk id b _ f3 he
          simp [hnl]
      · cases h
    · cases h
  · unfold anil at h
    split at h
    · rename_i es z
      obtain ⟨i, e, j, zv, _, _, _, hu, _⟩ := hty
      obtain rfl := nil_slx hy
      split at h
      · rename_i nl l
        simp at h; subst h
        simp only [VR] at hx
        obtain ⟨a, rfl, h2, _⟩ := hx
        refine ⟨?_, by simp, by simp⟩
        rw [equal_slice_nil hu]
        have := h2 nl rfl
        congr 1
        cases a <;> cases nl <;> simp_all
      · simp at h; subst h
        simp only [VR] at hx
        obtain ⟨a, rfl, _, h3, _⟩ := hx
        refine ⟨?_, by simp, by simp⟩
        rw [equal_slice_nil hu]
        congr 1
        cases a <;> simp_all
      · rename_i d l
        simp at h; subst h
        simp only [VR, DR, DC] at hx
        obtain ⟨a, len, cap, h1, h2, h3, h4, _⟩ := hx
        simp at h1; subst h1
        refine ⟨?_, by simp, by simp⟩
        rw [equal_slice_nil hu]
        cases a with
        | none => have := h4 rfl; simp at h2; omega
        | some ad => rfl
      · cases h
    · obtain ⟨i, d, zv, _, _, _, hd, _, _, _, _, _, hp, _⟩ := hty
      obtain ⟨e, rfl⟩ := hp rfl
      simp only [VR, DR, DC] at hy
      simp at hy; subst hy
      split at h
      · simp at h; subst h
        simp only [VR] at hx
        obtain ⟨b, cs, _, _, rfl⟩ := hx
        exact ⟨by rw [equal_pointer_nil hd]; rfl, by simp, by simp⟩
      · simp at h; subst h
        simp only [VR] at hx
        obtain ⟨a, vs, rfl, _⟩ := hx
        exact ⟨by rw [equal_pointer_nil hd]; rfl, by simp, by simp⟩
      · simp at h; subst h
        simp only [VR, DR, DC] at hx
        simp at hx; subst hx
        exact ⟨by rw [equal_pointer_nil hd]; rfl, by simp, by simp⟩
      · cases h
    · obtain ⟨i, d, zv, _, _, _, hd, _, _, _, _, _, _, hf, _⟩ := hty
      obtain ⟨p, q, b, rfl⟩ := hf rfl
      simp only [VR, DR, DC] at hy
      simp at hy; subst hy
      split at h
      · simp at h; subst h
        obtain ⟨f', x', y', rfl⟩ := VR_fn_shape hx
        exact ⟨equal_func_nil hd _ _ _, by simp, by simp⟩
      · simp at h; subst h
        simp only [VR, DR, DC] at hx
        simp at hx; subst hx
        exact ⟨equal_nil_func hd, by simp, by simp⟩
      · cases h
    · cases h

theorem unOp_not (b : Bool) : (Op.unary .not (.bool b)).run P w = .ok (.bool (!b)) w := rfl
theorem unOp_neg (k : IntKind) (n : Int) : (Op.unary .neg (.int k n)).run P w = .ok (.int k (k.wrap (0 - n))) w := rfl


/-! ### Parts of values -/

theorem run_part_agg {t : TypeId} {d : TypeDesc} (h : P.underlying t = some d) (hd : scal d = false) {i : TypeInfo} (hi : P.info? t = some i) (cs : Array Value) (off : Nat) :
    (part t cs off).run P w = .ok (.agg (cs.extract off (off + i.size))) w := by
  unfold part
  simp [run_isAgg_true h hd, run_sizeOf hi]

theorem run_part_one {t : TypeId} {d : TypeDesc} (h : P.underlying t = some d) (hd : scal d = true) {cs : Array Value} {off : Nat} {v : Value} (hv : cs[off]? = some v) :
    (part t cs off).run P w = .ok v w := by
  unfold part
  simp [run_isAgg_false h hd, hv]

theorem extract_toList (cs : Array Value) (off n : Nat) : (cs.extract off (off + n)).toList = (cs.toList.drop off).take n := by
  simp [List.take_drop]

theorem partD_sound {t : TypeId} {ty : Ty} (hty : TyOK P t ty) {Z : Nat → Nat → Prop} {ds : List D} {cs : Array Value} (hd : DCs w Z ds cs.toList) {off : Nat} {r : D} (h : loadD ty (ds.drop off) = some r) :
    ∃ v, (part t cs off).run P w = .ok v w ∧ DR w Z r v := by
  have hdr := DCs_drop off _ _ hd
  have agg : ∀ (n : Nat) (i : TypeInfo) (d : TypeDesc), P.info? t = some i → i.size = n → P.underlying t = some d → scal d = false → r = .agg ((ds.drop off).take n) → ∃ v, (part t cs off).run P w = .ok v w ∧ DR w Z r v := by
    intro n i d hi hn hu hsc hr
    refine ⟨_, run_part_agg hu hsc hi cs off, ?_⟩
    rw [hr]
    exact ⟨_, rfl, by rw [extract_toList, hn]; exact DCs_take n _ _ hdr⟩
  have one : ∀ (d : TypeDesc), P.underlying t = some d → scal d = true → headD (ds.drop off) = some r → ∃ v, (part t cs off).run P w = .ok v w ∧ DR w Z r v := by
    intro d hu hsc hh
    cases hx : ds.drop off with
    | nil => rw [hx] at hh; simp [headD] at hh
    | cons x l =>
      rw [hx] at hh hdr
      simp only [DCs] at hdr
      obtain ⟨c, rest, h1, h2, _⟩ := hdr
      have hc : cs[off]? = some c := by
        have := congrArg (fun l => l[0]?) h1
        simpa using this
      refine ⟨c, run_part_one hu hsc hc, ?_⟩
      cases x <;> simp [headD] at hh <;> subst hh <;> exact h2
  cases ty with
  | no => simp [loadD] at h
  | sc z =>
    obtain ⟨i, d, zv, _, _, _, hu, hsc, _⟩ := hty
    exact one d hu hsc h
  | st n fs z cmp =>
    obtain ⟨_, i, zs, fields, hi, hn, _, hu, _⟩ := hty
    simp only [loadD] at h
    split at h
    · exact agg n i _ hi hn hu rfl (by simpa using h.symm)
    · cases h
  | ar m es el z cmp =>
    obtain ⟨_, i, zs, e, j, hi, hn, _, hu, _⟩ := hty
    simp only [loadD] at h
    split at h
    · exact agg (m * es) i _ hi hn hu rfl (by simpa using h.symm)
    · cases h
  | sl es z =>
    obtain ⟨i, e, j, zv, _, _, _, hu, _⟩ := hty
    exact one _ hu rfl h

theorem partV_sound {t : TypeId} {ty : Ty} (hty : TyOK P t ty) {ds : List V} {cs : Array Value} (hd : VRs g H w ds cs.toList) (ho : ∀ c ∈ ds, c.one = true) {off : Nat} {r : V} (h : loadV ty (ds.drop off) = some r) :
    ∃ v, (part t cs off).run P w = .ok v w ∧ VR g H w r v := by
  have hdr := VRs_drop off _ _ hd
  have agg : ∀ (n : Nat) (i : TypeInfo) (d : TypeDesc), P.info? t = some i → i.size = n → P.underlying t = some d → scal d = false → r = norm ((ds.drop off).take n) → ∃ v, (part t cs off).run P w = .ok v w ∧ VR g H w r v := by
    intro n i d hi hn hu hsc hr
    refine ⟨_, run_part_agg hu hsc hi cs off, ?_⟩
    rw [hr]
    have := norm_sound (fun c hc => ho c (List.mem_of_mem_drop (List.mem_of_mem_take hc))) (VRs_take n _ _ hdr)
    rw [hn]
    rwa [← extract_toList, Array.toArray_toList] at this
  have one : ∀ (d : TypeDesc), P.underlying t = some d → scal d = true → headV (ds.drop off) = some r → ∃ v, (part t cs off).run P w = .ok v w ∧ VR g H w r v := by
    intro d hu hsc hh
    cases hx : ds.drop off with
    | nil => rw [hx] at hh; simp [headV] at hh
    | cons x l =>
      rw [hx] at hh hdr
      simp only [VRs] at hdr
      obtain ⟨c, rest, h1, h2, _⟩ := hdr
      have hc : cs[off]? = some c := by
        have := congrArg (fun l => l[0]?) h1
        simpa using this
      simp [headV] at hh; subst hh
      exact ⟨c, run_part_one hu hsc hc, h2⟩
  cases ty with
  | no => simp [loadV] at h
  | sc z =>
    obtain ⟨i, d, zv, _, _, _, hu, hsc, _⟩ := hty
    exact one d hu hsc h
  | st n fs z cmp =>
    obtain ⟨_, i, zs, fields, hi, hn, _, hu, _⟩ := hty
    simp only [loadV] at h
    split at h
    · exact agg n i _ hi hn hu rfl (by simpa using h.symm)
    · cases h
  | ar m es el z cmp =>
    obtain ⟨_, i, zs, e, j, hi, hn, _, hu, _⟩ := hty
    simp only [loadV] at h
    split at h
    · exact agg (m * es) i _ hi hn hu rfl (by simpa using h.symm)
    · cases h
  | sl es z =>
    obtain ⟨i, e, j, zv, _, _, _, hu, _⟩ := hty
    exact one _ hu rfl h

end
end Go.Aw
end

section
namespace Go.Aw
open Go

section
variable {P : Program} {g : G} {H : Heap} {w : World} {K : V → Heap → Prop} {T : Nat → Ty}

theorem afield_sound (hT : TOK P T) {t : TypeId} {x r : V} {cx : Value} (hx : VR g H w x cx) {k : Nat} (h : afield T (T t) x k = some r) :
    ∃ v, (Instr.field t cx k).run P w = .ok v w ∧ VR g H w r v := by
  have hty := hT t
  cases hTt : T t with
  | st n fs z cmp =>
    rw [hTt] at h hty
    obtain ⟨_, ti, zs, fields, _, _, _, hu, _, _, _, hlen, hfs⟩ := hty
    simp only [afield] at h
    split at h
    · rename_i o s e ho
      have hlt : k < fields.size := by rw [← hlen]; exact lt_of_getElem? ho
      have hf := Array.getElem?_eq_getElem hlt
      obtain ⟨j, hj, h1, hz⟩ := hfs k fields[k] hf
      rw [ho] at h1
      simp at h1
      obtain ⟨rfl, rfl, rfl⟩ := h1
      split at h
      · rename_i cs
        simp only [Option.map_eq_some_iff] at h
        obtain ⟨d, h2, rfl⟩ := h
        simp only [VR, DR] at hx
        obtain ⟨vs, rfl, hd⟩ := hx
        obtain ⟨v, h3, h4⟩ := partD_sound (P := P) (hT _) hd h2
        exact ⟨v, by simp [Instr.field, run_underlying hu, hf, asAgg, h3], h4⟩
      · rename_i cs
        split at h
        · rename_i hone
          simp only [VR] at hx
          obtain ⟨vs, rfl, hd⟩ := hx
          obtain ⟨v, h3, h4⟩ := partV_sound (P := P) (hT _) hd (List.all_eq_true.1 hone) h
          exact ⟨v, by simp [Instr.field, run_underlying hu, hf, asAgg, h3], h4⟩
        · cases h
      · cases h
    · cases h
  | _ => rw [hTt] at h; simp [afield] at h

theorem aindex_sound (hT : TOK P T) {t : TypeId} {x i r : V} {cx ci : Value} (hx : VR g H w x cx) (hi : VR g H w i ci) (h : aindex T (T t) x i = some r) :
    ∃ v, (Instr.index t cx ci).run P w = .ok v w ∧ VR g H w r v := by
  have hty := hT t
  unfold aindex at h
  split at h
  · rename_i cs k n
    simp only [VR, DR, DC] at hx hi
    simp at hi; subst hi
    obtain ⟨vs, rfl, hd⟩ := hx
    split at h
    · rename_i len es e z cmp hTt
      rw [hTt] at hty
      obtain ⟨_, ti, zs, e', j, _, _, _, hu, ⟨rfl, hj⟩, hes, _⟩ := hty
      split at h
      · rename_i hn
        simp only [Option.map_eq_some_iff] at h
        obtain ⟨d, h2, rfl⟩ := h
        obtain ⟨v, h3, h4⟩ := partD_sound (P := P) (hT _) hd h2
        exact ⟨v, by simp [Instr.index, run_asIntOf, run_underlying hu, hn.1, hn.2, run_sizeOf hj, hes, h3], h4⟩
      · cases h
    · cases h
  · rename_i cs k n
    simp only [VR, DR, DC] at hx hi
    simp at hi; subst hi
    obtain ⟨vs, rfl, hd⟩ := hx
    split at h
    · rename_i len es e z cmp hTt
      rw [hTt] at hty
      obtain ⟨_, ti, zs, e', j, _, _, _, hu, ⟨rfl, hj⟩, hes, _⟩ := hty
      split at h
      · rename_i hn
        obtain ⟨v, h3, h4⟩ := partV_sound (P := P) (hT _) hd (List.all_eq_true.1 hn.2.2) h
        exact ⟨v, by simp [Instr.index, run_asIntOf, run_underlying hu, hn.1, hn.2.1, run_sizeOf hj, hes, h3], h4⟩
      · cases h
    · cases h
  · rename_i s k n
    simp only [VR, DR, DC] at hx hi
    simp at hi hx; subst hi; subst hx
    split at h
    · rename_i z hTt
      rw [hTt] at hty
      obtain ⟨ti, d, zv, _, _, _, hu, _, _, _, _, _, _, _, hs⟩ := hty
      have := hs _ rfl
      subst this
      split at h
      · rename_i b hb
        simp at h; subst h
        refine ⟨.int .u8 b.toNat, ?_, by simp [VR, DR, DC]⟩
        unfold Instr.index
        simp only [Sem.run_bind, run_asIntOf, Result.andThen_ok, run_underlying hu]
        simp only [hb]
        rfl
      · cases h
    · cases h
  · cases h

theorem convert_int {s t : TypeId} {z : Int} {kd k : IntKind} {n : Int} (hs : ∃ d, P.underlying s = some d) (hT : TyOK P t (.sc (.int kd z))) :
    (convert s t (.int k n)).run P w = .ok (.int kd (kd.wrap n)) w := by
  obtain ⟨ti, d, zv, _, _, _, hu, _, _, _, hd, _⟩ := hT
  have := hd _ _ rfl
  subst this
  obtain ⟨ds, hds⟩ := hs
  unfold convert
  simp only [Sem.run_bind, run_underlying hu, run_underlying hds, Result.andThen_ok]
  rfl

theorem alen_sound {t rt : TypeId} {ty : Ty} (hT : TyOK P t ty) (hr : HR g H w) {x : V} {cx : Value} (hx : VR g H w x cx) {n : Nat} (h : alen ty H x = some n) :
    (Builtin.len_ #[t] rt #[cx]).run P w = .ok (.int .i64 n) w := by
  have sl : ∀ (e : TypeId) (a : Option Addr) (cap : Nat), P.underlying t = some (.slice e) → (Builtin.len_ #[t] rt #[.slice a n cap]).run P w = .ok (.int .i64 n) w := by
    intro e a cap hu
    simp [Builtin.len_, run_underlying hu, goInt]
  unfold alen at h
  split at h
  · rename_i es z l
    obtain ⟨i, e, j, zv, _, _, _, hu, _⟩ := hT
    simp at h; subst h
    simp only [VR, DR, DC] at hx
    obtain ⟨a, len, cap, h1, h2, _⟩ := hx
    simp at h1; subst h1; subst h2
    exact sl e a cap hu
  · rename_i es z nl l
    obtain ⟨i, e, j, zv, _, _, _, hu, _⟩ := hT
    simp at h; subst h
    simp only [VR] at hx
    obtain ⟨a, rfl, _⟩ := hx
    exact sl e a _ hu
  · rename_i es z id es' len
    obtain ⟨i, e, j, zv, _, _, _, hu, _⟩ := hT
    simp at h; subst h
    simp only [VR] at hx
    obtain ⟨b, cs, cap, _, _, _, rfl, _⟩ := hx
    exact sl e _ _ hu
  · rename_i z s
    obtain ⟨ti, d, zv, _, _, _, hu, _, _, _, _, _, _, _, hs⟩ := hT
    have := hs _ rfl
    subst this
    simp at h; subst h
    simp only [VR, DR, DC] at hx
    simp at hx; subst hx
    simp [Builtin.len_, run_underlying hu, goInt]
  · rename_i es z id m lo len
    obtain ⟨i, e, j, zv, _, _, _, hu, _⟩ := hT
    split at h
    · rename_i sz nl els he
      split at h
      · rename_i hm
        simp at h; subst h
        simp only [VR] at hx
        obtain ⟨_, sz', nl', els', e1, e2, e3⟩ := hx
        rw [he] at e1; cases e1
        obtain ⟨f1, f2⟩ := e3 hm
        rcases f2 with ⟨f2, _, a, rfl, _⟩ | ⟨b, cap, vs, t', _, rfl, _⟩
        · have := f2.2.1
          subst this
          simp at hm
          have h0 : len = 0 := by omega
          subst h0
          exact sl e a 0 hu
        · exact sl e _ cap hu
      · cases h
    · cases h
  · cases h

theorem amin_sound {x y r : D} {cx cy : Value} (hx : DR w g.Z x cx) (hy : DR w g.Z y cy) (h : amin x y = some r) : ∃ v, (Builtin.min2 cx cy).run P w = .ok v w ∧ DR w g.Z r v := by
  unfold amin at h
  split at h
  · rename_i k a k' b
    split at h
    · rename_i hk
      subst hk
      simp at h; subst h
      simp only [DR, DC] at hx hy
      simp at hx hy; subst hx; subst hy
      refine ⟨.int k (if b < a then b else a), by simp [Builtin.min2], ?_⟩
      simp only [DR, DC]
      congr 2
      split <;> omega
    · cases h
  · cases h

theorem amax_sound {x y r : D} {cx cy : Value} (hx : DR w g.Z x cx) (hy : DR w g.Z y cy) (h : amax x y = some r) : ∃ v, (Builtin.max2 cx cy).run P w = .ok v w ∧ DR w g.Z r v := by
  unfold amax at h
  split at h
  · rename_i k a k' b
    split at h
    · rename_i hk
      subst hk
      simp at h; subst h
      simp only [DR, DC] at hx hy
      simp at hx hy; subst hx; subst hy
      refine ⟨.int k (if b > a then b else a), by simp [Builtin.max2], ?_⟩
      simp only [DR, DC]
      congr 2
      split <;> omega
    · cases h
  · cases h

theorem foldD_sound {f : D → D → Option D} {f' : Value → Value → Sem Value} (hf : ∀ x y r cx cy, DR w g.Z x cx → DR w g.Z y cy → f x y = some r → ∃ v, (f' cx cy).run P w = .ok v w ∧ DR w g.Z r v) :
    ∀ (l : List V) (cl : List Value) (x r : V) (cx : Value), VR g H w x cx → VRs g H w l cl → foldD f x l = some r → ∃ v, (cl.foldlM f' cx).run P w = .ok v w ∧ VR g H w r v
  | [], cl, x, r, cx, hx, hl, h => by
    simp [VRs] at hl; subst hl
    cases x <;> simp [foldD] at h
    subst h
    exact ⟨cx, rfl, hx⟩
  | y :: l, cl, x, r, cx, hx, hl, h => by
    simp only [VRs] at hl
    obtain ⟨cy, cl', rfl, hy, hl'⟩ := hl
    cases x with
    | d a =>
      cases y with
      | d b =>
        simp only [foldD] at h
        split at h
        · rename_i z hz
          obtain ⟨v, h1, h2⟩ := hf a b z cx cy hx hy hz
          obtain ⟨v', h3, h4⟩ := foldD_sound hf l cl' (.d z) r v h2 hl' h
          refine ⟨v', ?_, h4⟩
          simp only [List.foldlM_cons, Sem.run_bind, h1, Result.andThen_ok]
          exact h3
        · cases h
      | _ => simp [foldD] at h
    | _ => simp [foldD] at h

theorem ges_sound {E : Env} {a : Act} (he : ER g H w E a.tmps) : ∀ (l : List Operand), VRs g H w (l.map (ge E)) (l.map a.eval)
  | [] => rfl
  | x :: l => ⟨_, _, rfl, ge_sound he x, ges_sound he l⟩

/-! ### make -/

theorem i64_wrap {n : Int} (h0 : -9223372036854775808 ≤ n) (h1 : n ≤ 9223372036854775807) : IntKind.i64.wrap n = n := Go.IntWalk.i64_in n ⟨h0, h1⟩

theorem AR_zero {Z : Nat → Nat → Prop} {z : D} {zv : Value} {es n : Nat} (hz : DC w Z z zv.cells.toList) (hl : (dcells z).length = es) (h1 : 1 ≤ es) :
    AR w Z es (List.replicate n z) ((Array.range (n * es)).map (fun q => zv.cells[q % zv.cells.size]!)).toList := by
  have hzs : zv.cells.size = es := by have := DC_length hz; simp at this; omega
  refine ⟨by simp, fun i x hx => ?_⟩
  have hi := lt_of_getElem? hx
  simp at hi
  have hxz : x = z := by
    rw [List.getElem?_replicate] at hx
    simp [hi] at hx
    exact hx.symm
  subst hxz
  refine ⟨hl, ?_⟩
  have : ((((Array.range (n * es)).map (fun q => zv.cells[q % zv.cells.size]!)).toList.drop (i * es)).take es) = zv.cells.toList := by
    apply List.ext_getElem?
    intro q
    rw [chunk_get]
    by_cases hq : q < es
    · have hle : (i + 1) * es ≤ n * es := Nat.mul_le_mul_right _ hi
      rw [Nat.add_mul, Nat.one_mul] at hle
      rw [if_pos hq, Array.getElem?_toList, Array.getElem?_map, Array.getElem?_range, if_pos (by omega)]
      simp only [Option.map_some, hzs]
      rw [show (i * es + q) % es = q by rw [Nat.mul_comm, Nat.mul_add_mod, Nat.mod_eq_of_lt hq], Array.getElem?_toList, getElem!_pos zv.cells q (by omega), Array.getElem?_eq_getElem (by omega)]
    · rw [if_neg hq, List.getElem?_eq_none (by simp; omega)]
  rw [this]
  exact hz

theorem VRs_rep {g : G} {H : Heap} {l : List V} {cs : List Value} (h : VRs g H w l cs) (h1 : 1 ≤ cs.length) : ∀ n, VRs g H w (rep n l) ((List.range (n * cs.length)).map fun q => cs[q % cs.length]!)
  | 0 => by simp [rep, VRs]
  | n + 1 => by
    have e1 : rep (n + 1) l = l ++ rep n l := by simp [rep, List.replicate_succ]
    have e2 : (List.range ((n + 1) * cs.length)).map (fun q => cs[q % cs.length]!) = cs ++ (List.range (n * cs.length)).map fun q => cs[q % cs.length]! := by
      rw [show (n + 1) * cs.length = cs.length + n * cs.length by rw [Nat.add_mul]; omega, List.range_add, List.map_append, List.map_map]
      congr 1
      · apply List.ext_getElem
        · simp
        · intro i h2 h3
          simp only [List.length_map, List.length_range] at h2
          simp only [List.getElem_map, List.getElem_range, Nat.mod_eq_of_lt h2]
          rw [getElem!_pos cs i h2]
      · apply List.map_congr_left
        intro q _
        simp
    rw [e1, e2]
    exact VRs_append _ _ _ _ h (VRs_rep h h1 n)

theorem makeSlice_sound {t : TypeId} {es : Nat} {z : D} (hty : TyOK P t (.sl es z)) {k k' : IntKind} {n : Int} (h0 : 0 ≤ n) (h1 : n ≤ 4294967296) :
    ∃ e vs, (Instr.makeSlice t (.int k n) (.int k' n)).run P w = .ok (.slice (some ⟨w.heap.size, 0, none⟩) n.toNat n.toNat) (w.alloc (.cells vs e)) ∧ (∀ Z, AR w Z es (List.replicate n.toNat z) vs.toList) ∧ vs.size = n.toNat * es ∧ ∀ g H w, VRs g H w (rep n.toNat (zcells z)) vs.toList := by
  obtain ⟨i, e, j, zv, _, _, _, hu, hj, hes, hes1, hby, hz, ⟨hzd, hzc⟩, hzl⟩ := hty
  refine ⟨e, (Array.range (n.toNat * es)).map (fun q => zv.cells[q % zv.cells.size]!), ?_, fun Z => AR_zero (hzd w Z) hzl hes1, by simp, fun g H w' => ?_⟩
  rotate_left
  · have hsz : zv.cells.toList.length = es := by have := DC_length (hzd w fun _ _ => True); omega
    have := VRs_rep (hzc g H w') (by omega) n.toNat
    simp only [Array.getElem!_toList, Array.length_toList] at this hsz
    rw [← hsz]
    simpa only [Array.toList_map, Array.toList_range] using this
  have hw : IntKind.i64.wrap n = n := i64_wrap (by omega) (by omega)
  have hb : ¬ ((j.bytes : Int) * n > 2 ^ 48) := by
    have h2 : (j.bytes : Int) * n ≤ 4096 * 4294967296 := Int.mul_le_mul (by omega) h1 h0 (by omega)
    have : (2 : Int) ^ 48 = 281474976710656 := rfl
    omega
  have h3 : decide (n < 0) = false := by simp; omega
  have hb' : decide ((j.bytes : Int) * n > 2 ^ 48) = false := by simp only [decide_eq_false_iff_not]; exact hb
  have key : (Instr.makeSlice t (.int k n) (.int k' n)).run P w = ((do
      let nn := n.toNat * (← sizeOf e)
      let zero ← if nn = 0 then pure #[] else do pure (← zeroValue e).cells
      let a ← newRow e ((Array.range nn).map (zero[· % zero.size]!))
      pure (.slice (some a) n.toNat n.toNat) : Sem Value)).run P w := by
    unfold Instr.makeSlice
    simp only [Sem.run_bind, run_underlying hu, Result.andThen_ok, asInt, run_asIntOf, run_typeInfo hj, hw, h3, hb', Bool.or_false, Bool.false_or, Sem.run_pure]
    simp only [show decide (n > n) = false from by simp, Bool.false_eq_true, if_false, Sem.run_bind, run_askRoom, Result.andThen_ok]
  rw [key]
  simp only [Sem.run_bind, run_sizeOf hj, hes, Result.andThen_ok]
  by_cases hn : n.toNat * es = 0
  · have hz0 : ∀ f : Nat → Value, (Array.range 0).map f = #[] := fun f => by simp
    simp only [hn, if_true, Sem.run_bind, Sem.run_pure, Result.andThen_ok, hz0]
    rfl
  · simp only [hn, if_false, Sem.run_bind, run_zeroValue hj hz, Result.andThen_ok, Sem.run_pure]
    rfl

end
end Go.Aw
end

section
namespace Go.Aw
open Go

/-- What a slice holds, whatever its memory: its elements' cells, one after another. -/
structure Row (w : World) (Z : Nat → Nat → Prop) (es : Nat) (l : List D) (a : Option Addr) (len cap : Nat) (vs : List Value) : Prop where
  hlen : len = l.length
  hcap : len ≤ cap
  hnil : a = none → cap = 0
  spot : ∀ ad, a = some ad → l ≠ [] → ad.spot = none
  vlen : vs.length = l.length * es
  cell : ∀ ad, a = some ad → ∀ q, q < vs.length → w.cell? ⟨ad.block, ad.off + q, none⟩ = vs[q]?
  ar : AR w Z es l vs

section
variable {P : Program} {g : G} {H : Heap} {w : World} {K : V → Heap → Prop}

theorem sized_get {es : Nat} {l : List D} (h : sized es l = true) {i : Nat} {x : D} (hx : l[i]? = some x) : (dcells x).length = es := by
  have := List.all_eq_true.1 h x (List.mem_of_getElem? hx)
  simpa using this

theorem row_of {Z : Nat → Nat → Prop} {es : Nat} {l : List D} {a : Option Addr} {len cap : Nat} (h1 : len = l.length) (h2 : len ≤ cap) (h3 : a = none → cap = 0) (hs : sized es l = true)
    (h4 : ∀ ad, a = some ad → (l ≠ [] → ad.spot = none) ∧ ∃ sz, ∀ i x, l[i]? = some x → ∃ cs : List Value, cs.length = sz ∧ (∀ j, j < sz → w.cell? ⟨ad.block, ad.off + i * sz + j, none⟩ = cs[j]?) ∧ DC w Z x cs) :
    ∃ vs, Row w Z es l a len cap vs := by
  cases a with
  | none =>
    have h0 : l = [] := by have := h3 rfl; exact List.length_eq_zero_iff.1 (by omega)
    subst h0
    exact ⟨[], h1, h2, h3, by simp, by simp, by simp, by simp, by simp⟩
  | some ad =>
    obtain ⟨hsp, sz, hel⟩ := h4 ad rfl
    have hsz : ∀ i x, l[i]? = some x → sz = es := fun i x hx => by
      obtain ⟨cs, k1, _, k3⟩ := hel i x hx
      rw [← k1, DC_length k3, sized_get hs hx]
    have hcells : ∀ q, q < l.length * es → ∃ v, w.cell? ⟨ad.block, ad.off + q, none⟩ = some v := by
      intro q hq
      have hes : 0 < es := by
        rcases Nat.eq_zero_or_pos es with h0 | h0
        · rw [h0] at hq; omega
        · exact h0
      have hi : q / es < l.length := Nat.div_lt_of_lt_mul (by rw [Nat.mul_comm]; exact hq)
      have hx := List.getElem?_eq_getElem hi
      have he := hsz _ _ hx
      subst he
      obtain ⟨cs, k1, k2, _⟩ := hel _ _ hx
      have hj : q % sz < sz := Nat.mod_lt _ hes
      have := k2 (q % sz) hj
      rw [show ad.off + q / sz * sz + q % sz = ad.off + q by rw [Nat.add_assoc, Nat.mul_comm (q / sz) sz, Nat.div_add_mod], List.getElem?_eq_getElem (by omega)] at this
      exact ⟨_, this⟩
    refine ⟨(List.range (l.length * es)).map fun q => (w.cell? ⟨ad.block, ad.off + q, none⟩).getD undef, h1, h2, h3, fun ad' h hne => by cases h; exact hsp hne, by simp, fun ad' h q hq => ?_, by simp, fun i x hx => ?_⟩
    · cases h
      simp at hq
      obtain ⟨v, hv⟩ := hcells q hq
      simp [hq, hv]
    · have he := hsz _ _ hx
      subst he
      have hi := lt_of_getElem? hx
      obtain ⟨cs, k1, k2, k3⟩ := hel i x hx
      refine ⟨by rw [← DC_length k3, k1], ?_⟩
      have : ((((List.range (l.length * sz)).map fun q => (w.cell? ⟨ad.block, ad.off + q, none⟩).getD undef).drop (i * sz)).take sz) = cs := by
        apply List.ext_getElem?
        intro q
        rw [chunk_get]
        by_cases hq : q < sz
        · have hle : (i + 1) * sz ≤ l.length * sz := Nat.mul_le_mul_right _ hi
          rw [Nat.add_mul, Nat.one_mul] at hle
          have hc := k2 q hq
          rw [if_pos hq, List.getElem?_map, List.getElem?_range (by omega)]
          rw [Nat.add_assoc] at hc
          simp only [Option.map_some, hc]
          rw [List.getElem?_eq_getElem (by omega)]
          rfl
        · rw [if_neg hq, List.getElem?_eq_none (by omega)]
      rw [this]
      exact k3

theorem DCe_cells {Z : Nat → Nat → Prop} {l : List D} {b o sz : Nat} (h : DCe w Z l b o sz) : ∀ i x, l[i]? = some x → ∃ cs : List Value, cs.length = sz ∧ (∀ j, j < sz → w.cell? ⟨b, o + i * sz + j, none⟩ = cs[j]?) ∧ DC w Z x cs :=
  fun i x hx => by
    obtain ⟨cs, k1, k2, k3⟩ := DCe_get l b o sz i x h hx
    exact ⟨cs, k1, fun j hj => (k2 j hj).2, k3⟩

/-- The elements that are there now. -/
theorem content_row (hr : HR g H w) {es : Nat} {x : V} {cx : Value} (hx : VR g H w x cx) {l : List D} (h : content H x = some l) (hs : sized es l = true) :
    ∃ a len cap vs, cx = .slice a len cap ∧ Row w g.Z es l a len cap vs := by
  unfold content at h
  split at h
  · simp at h; subst h
    simp only [VR, DR, DC] at hx
    obtain ⟨a, len, cap, h1, h2, h3, h4, h5⟩ := hx
    simp at h1
    obtain ⟨vs, hvs⟩ := row_of (w := w) (Z := g.Z) h2 h3 h4 hs (fun ad ha => ⟨(h5 ad ha).1, (h5 ad ha).2.choose, DCe_cells (h5 ad ha).2.choose_spec⟩)
    exact ⟨a, len, cap, vs, h1, hvs⟩
  · simp at h; subst h
    simp only [VR] at hx
    obtain ⟨a, h1, _, h3, h5⟩ := hx
    obtain ⟨vs, hvs⟩ := row_of (w := w) (Z := g.Z) rfl (Nat.le_refl _) (fun ha => by simp [h3 ha]) hs (fun ad ha => ⟨(h5 ad ha).1, (h5 ad ha).2.choose, DCe_cells (h5 ad ha).2.choose_spec⟩)
    exact ⟨a, _, _, vs, h1, hvs⟩
  · rename_i id n lo len
    split at h
    · rename_i sz nl els he
      split at h
      · rename_i hn
        simp at h; subst h
        simp only [VR] at hx
        obtain ⟨_, sz', nl', els', e1, e2, e3⟩ := hx
        rw [he] at e1; cases e1
        obtain ⟨f1, f2⟩ := e3 hn
        rcases f2 with ⟨f2, f3, a, rfl, _⟩ | ⟨b, cap, vs, t', f2, rfl, f4, f5, f6⟩
        · have := f2.2.1
          subst this
          exact ⟨a, 0, 0, [], rfl, by simp, Nat.le_refl _, fun _ => rfl, fun ad ha hne => by simp at hne, by simp, by simp, by simp, by simp⟩
        · obtain ⟨_, _, _, vs', t'', hw, hal, har⟩ := hr.blk id b _ f2 he
          obtain ⟨vs, hvs⟩ := row_of (w := w) (Z := g.Z) (es := es) (l := (els.drop lo).take len) (a := some ⟨b, lo * sz, none⟩) (len := len) (cap := cap) (by simp; omega) f5 (fun h => by cases h) hs (fun ad ha => by
            cases ha
            refine ⟨fun _ => rfl, sz, fun i x hx => ?_⟩
            rw [List.getElem?_take] at hx
            split at hx
            · rename_i hi
              rw [List.getElem?_drop] at hx
              obtain ⟨k1, k2⟩ := har _ _ hx
              refine ⟨_, by rw [DC_length k2, k1], fun j hj => ?_, k2⟩
              rw [chunk_get, if_pos hj, cell_of_block hw, Array.getElem?_toList]
              congr 1
              rw [Nat.add_mul]
            · cases hx)
          exact ⟨_, _, _, vs, rfl, hvs⟩
      · cases h
    · cases h
  · cases h

theorem run_firstCells {Z : Nat → Nat → Prop} {es : Nat} {l : List D} {a : Option Addr} {len cap : Nat} {vs : List Value} (h : Row w Z es l a len cap vs) :
    (Builtin.firstCells es len (.slice a len cap)).run P w = .ok vs.toArray w := by
  cases a with
  | none =>
    have h0 : l.length = 0 := by have := h.hnil rfl; have := h.hcap; have := h.hlen; omega
    have hv : vs = [] := by
      have := h.vlen
      rw [h0, Nat.zero_mul] at this
      exact List.length_eq_zero_iff.1 this
    subst hv
    rfl
  | some ad =>
    simp only [Builtin.firstCells]
    rw [show len * es = vs.length by rw [h.vlen, h.hlen]]
    by_cases hl : l = []
    · subst hl
      have hv : vs = [] := by
        have := h.vlen
        simp at this
        exact this
      subst hv
      rfl
    · exact run_loadCells (h.spot ad rfl hl) vs (h.cell ad rfl)

theorem append_grow {t u rt e : TypeId} {i : TypeInfo} {z : Value} (ht : P.underlying t = some (.slice e)) (hu : ∃ e', P.underlying u = some (.slice e')) (hi : P.info? e = some i) (hz : i.zero = some z) (hby : i.bytes ≤ 4096)
    {Z : Nat → Nat → Prop} {l ys : List D} {a a2 : Option Addr} {len cap len2 cap2 : Nat} {vs vs2 : List Value} (h : Row w Z i.size l a len cap vs) (h2 : Row w Z i.size ys a2 len2 cap2 vs2)
    (hlt : cap < len + len2) (hmax : len + len2 ≤ 4294967296) :
    ∃ nc rest, len + len2 ≤ nc ∧ rest.length = (nc - (len + len2)) * z.cells.size ∧
    (Builtin.append_ #[t, u] rt #[.slice a len cap, .slice a2 len2 cap2]).run P w = .ok (.slice (some ⟨w.heap.size, 0, none⟩) (len + len2) nc) (w.drew.alloc (.cells (vs ++ vs2 ++ rest).toArray e)) := by
  obtain ⟨e', hu⟩ := hu
  have hb : (len + len2) * i.bytes ≤ 140737488355328 := by
    have : (len + len2) * i.bytes ≤ 4294967296 * 4096 := Nat.mul_le_mul hmax hby
    omega
  have hfit := growslice_fits (need := len + len2) (old := cap) (bytes := i.bytes) hlt hb
  have hfit' : ¬ (Builtin.nextslicecap (len + len2) cap * i.bytes > 2 ^ 48) := by
    have : (2 : Nat) ^ 48 = 281474976710656 := rfl
    omega
  have h63 : ¬ (((len + len2 : Nat) : Int) > IntKind.i64.max) := by
    have : IntKind.i64.max = 9223372036854775807 := rfl
    rw [this]; omega
  let nc := Question.cut (.appendCap (len + len2) cap e) (w.tape w.drawn (.appendCap (len + len2) cap e))
  have hnc : len + len2 ≤ nc := Nat.le_add_right _ _
  refine ⟨nc, (Builtin.zeroCells z.cells (nc - (len + len2))).toList, hnc, by simp [Builtin.zeroCells], ?_⟩
  have r1 := run_firstCells (P := P) h
  have r2 := run_firstCells (P := P) h2
  have hd : ∀ {Z' : Nat → Nat → Prop} {l' : List D} {a' : Option Addr} {n' c' : Nat} {vs' : List Value}, Row w Z' i.size l' a' n' c' vs' → (Builtin.firstCells i.size n' (.slice a' n' c')).run P w.drew = .ok vs'.toArray w.drew := by
    intro Z' l' a' n' c' vs' hh
    refine run_firstCells (Z := fun _ _ => True) ⟨hh.hlen, hh.hcap, hh.hnil, hh.spot, hh.vlen, hh.cell, hh.ar.1, fun q x hx => ⟨(hh.ar.2 q x hx).1, ?_⟩⟩
    exact DC_mono (w := w) (w' := w.drew) (Z := Z') (fun b o _ => ⟨trivial, rfl⟩) _ _ (hh.ar.2 q x hx).2
  have hneed : ¬ (len + len2 ≤ cap) := by omega
  have h63' : ¬ (9223372036854775807 < ((len : Int) + (len2 : Int))) := by omega
  have h48' : ¬ (281474976710656 < Builtin.nextslicecap (len + len2) cap * i.bytes) := by omega
  have hf := hd h
  have hf2 := hd h2
  simp [Builtin.append_, run_underlying ht, run_underlying hu, sizeOf, typeInfo, zeroValue, hi, hz, Builtin.lenOf, hneed, h63', h48', Question.forced, hf, hf2, newRow, nc]
  congr 2
  apply Array.ext'
  simp

theorem append_fits {t u rt e : TypeId} {i : TypeInfo} (ht : P.underlying t = some (.slice e)) (hu : ∃ e', P.underlying u = some (.slice e')) (hi : P.info? e = some i)
    {Z : Nat → Nat → Prop} {ys : List D} {a a2 : Option Addr} {len cap len2 cap2 : Nat} {vs2 : List Value} (h2 : Row w Z i.size ys a2 len2 cap2 vs2) (hle : len + len2 ≤ cap) :
    (Builtin.append_ #[t, u] rt #[.slice a len cap, .slice a2 len2 cap2]).run P w =
      ((do if let some ad := a then Go.storeCells (ad.add (len * i.size)) vs2
           pure (.slice a (len + len2) cap) : Sem Value)).run P w := by
  obtain ⟨e', hu⟩ := hu
  have r2 := run_firstCells (P := P) h2
  cases a <;> simp [Builtin.append_, run_underlying ht, run_underlying hu, sizeOf, typeInfo, hi, Builtin.lenOf, hle, r2]

/-- A row of the abstract heap grows: in its block, or in a new one. -/
theorem grow_arr (hr : HR g H w) {id sz : Nat} {nl : Bool} {els els' : List D} (hx : H[id]? = some (.arr sz nl els)) {b : Nat} {w' : World} {vs : Array Value} {t : TypeId}
    (hos : w'.os = w.os) (ht : w'.tape = w.tape) (hu : w'.output = w.output) (hsz : w.heap.size ≤ w'.heap.size) (hbl : b < w'.heap.size)
    (hold : g.φ[id]? = some (some b) ∨ w.heap.size ≤ b)
    (hb : w'.heap[b]? = some (.cells vs t (0, 0))) (hoth : ∀ k, k < w.heap.size → k ≠ b → w'.heap[k]? = w.heap[k]?) (hlen : els.length < els'.length)
    (har : Zk g.Z g.Z w w' → AR w' g.Z sz els' vs.toList) :
    HR ⟨g.Z, g.φ.set id (some b)⟩ (H.set id (.arr sz false els')) w' ∧ Kp g w ⟨g.Z, g.φ.set id (some b)⟩ w' ∧ Ag g H w ⟨g.Z, g.φ.set id (some b)⟩ (H.set id (.arr sz false els')) w' := by
  have hzb : ∀ o, ¬ g.Z b o := fun o z => by
    rcases hold with h | h
    · exact hr.z_fr h z
    · have := hr.zlt b o z; omega
  have hz : Zk g.Z g.Z w w' := fun k o z => ⟨z, World.cell?_of_block (w := w) (hoth k (hr.zlt k o z) (fun e => hzb o (e ▸ z)))⟩
  have hlt := lt_of_getElem? hx
  have hltφ : id < g.φ.length := by rw [hr.len]; exact hlt
  have hset : (H.set id (.arr sz false els'))[id]? = some (.arr sz false els') := by rw [List.getElem?_set_self hlt]
  have hne : ∀ j, j ≠ id → (H.set id (.arr sz false els'))[j]? = H[j]? := fun j hj => List.getElem?_set_ne (fun e => hj e.symm)
  have hsφ : (g.φ.set id (some b))[id]? = some (some b) := by rw [List.getElem?_set_self hltφ]
  have hnφ : ∀ j, j ≠ id → (g.φ.set id (some b))[j]? = g.φ[j]? := fun j hj => List.getElem?_set_ne (fun e => hj e.symm)
  have hdiff : ∀ (j b' : Nat), j ≠ id → g.φ[j]? = some (some b') → b' ≠ b := fun j b' hj hp e => by
    rcases hold with h | h
    · exact hj (hr.inj j id b (e ▸ hp) h)
    · have := hr.lt hp; omega
  have ha : Ag g H w ⟨g.Z, g.φ.set id (some b)⟩ (H.set id (.arr sz false els')) w' := by
    intro j y hy
    by_cases hj : j = id
    · subst hj
      rw [hx] at hy; cases hy
      exact ⟨false, els', hset, by omega, fun e => by omega⟩
    · cases y with
      | cells cs => exact ⟨⟨cs, (hne j hj).trans hy, rfl⟩, hnφ j hj⟩
      | arr sz2 nl2 els2 =>
        refine ⟨nl2, els2, (hne j hj).trans hy, Nat.le_refl _, fun _ => ⟨rfl, hnφ j hj, fun b' vs' t' hb' hw => ⟨vs', ?_, rfl⟩⟩⟩
        rw [hoth b' (hr.lt hb') (hdiff j b' hj hb')]; exact hw
      | loop st pend E ps y z => exact ⟨⟨st, pend, (hne j hj).trans hy⟩, hnφ j hj⟩
  refine ⟨⟨by simp [hr.len], fun k o z => Nat.lt_of_lt_of_le (hr.zlt k o z) hsz, fun j b' y hb' hy => ?_, fun i j b' hi hj => ?_⟩,
    ⟨hos, ht, hu, hsz, fun k hk hn => hoth k hk (fun e => ?_), fun _ _ z => z, fun _ _ z => .inl z, fun j b' hb' => ?_⟩, ha⟩
  · by_cases hj : j = id
    · subst hj
      rw [hsφ] at hb'; cases hb'
      rw [hset] at hy; cases hy
      exact ⟨hbl, hzb, rfl, vs, t, hb, har hz⟩
    · simp only at hb'
      rw [hnφ j hj] at hb'
      rw [hne j hj] at hy
      obtain ⟨h1, h2, h3⟩ := hr.blk j b' y hb' hy
      exact ⟨Nat.lt_of_lt_of_le h1 hsz, h2, BR_mono (g' := ⟨g.Z, g.φ.set id (some b)⟩) hz ha (hoth b' h1 (hdiff j b' hj hb')) h3⟩
  · by_cases h1 : i = id <;> by_cases h2 : j = id
    · omega
    · subst h1
      rw [hsφ] at hi; cases hi
      simp only at hj
      rw [hnφ j h2] at hj
      exact absurd rfl (hdiff j _ h2 hj)
    · subst h2
      rw [hsφ] at hj; cases hj
      simp only at hi
      rw [hnφ i h1] at hi
      exact absurd rfl (hdiff i _ h1 hi)
    · simp only at hi hj
      rw [hnφ i h1] at hi
      rw [hnφ j h2] at hj
      exact hr.inj i j b' hi hj
  · rcases hold with h | h
    · exact hn id (e ▸ h)
    · omega
  · by_cases hj : j = id
    · subst hj
      simp only at hb'
      rw [hsφ] at hb'; cases hb'
      rcases hold with h | h
      · exact .inl h
      · exact .inr h
    · simp only at hb'
      rw [hnφ j hj] at hb'
      exact .inl hb'

theorem AR_append {Z : Nat → Nat → Prop} {es : Nat} {l ys : List D} {vs vs2 rest : List Value} (h1 : AR w Z es l vs) (hl : vs.length = l.length * es) (h2 : AR w Z es ys vs2) (hl2 : vs2.length = ys.length * es) :
    AR w Z es (l ++ ys) (vs ++ vs2 ++ rest) := by
  refine ⟨by simp [Nat.add_mul]; omega, fun i x hx => ?_⟩
  rw [List.getElem?_append] at hx
  split at hx
  · rename_i hi
    obtain ⟨k1, k2⟩ := h1.2 i x hx
    refine ⟨k1, ?_⟩
    have hle : (i + 1) * es ≤ l.length * es := Nat.mul_le_mul_right _ hi
    rw [Nat.add_mul, Nat.one_mul] at hle
    have : ((vs ++ vs2 ++ rest).drop (i * es)).take es = (vs.drop (i * es)).take es := by
      apply List.ext_getElem?
      intro q
      rw [chunk_get, chunk_get]
      by_cases hq : q < es
      · rw [if_pos hq, if_pos hq, List.append_assoc, List.getElem?_append_left (by omega)]
      · rw [if_neg hq, if_neg hq]
    rw [this]; exact k2
  · rename_i hi
    obtain ⟨k1, k2⟩ := h2.2 _ x hx
    refine ⟨k1, ?_⟩
    have hlt := lt_of_getElem? hx
    have hle : (i - l.length + 1) * es ≤ ys.length * es := Nat.mul_le_mul_right _ hlt
    rw [Nat.add_mul, Nat.one_mul] at hle
    have hi2 : i * es = l.length * es + (i - l.length) * es := by
      rw [← Nat.add_mul]; congr 1; omega
    have : ((vs ++ vs2 ++ rest).drop (i * es)).take es = (vs2.drop ((i - l.length) * es)).take es := by
      apply List.ext_getElem?
      intro q
      rw [chunk_get, chunk_get]
      by_cases hq : q < es
      · rw [if_pos hq, if_pos hq, List.append_assoc, List.getElem?_append_right (by omega), List.getElem?_append_left (by omega)]
        congr 1
        omega
      · rw [if_neg hq, if_neg hq]
    rw [this]; exact k2

theorem AR_mono {Z Z' : Nat → Nat → Prop} {w' : World} (hz : Zk Z Z' w w') {es : Nat} {l : List D} {vs : List Value} (h : AR w Z es l vs) : AR w' Z' es l vs :=
  ⟨h.1, fun i x hx => ⟨(h.2 i x hx).1, DC_mono hz _ _ (h.2 i x hx).2⟩⟩

end
end Go.Aw
end

section
namespace Go.Aw
open Go

section
variable {P : Program} {g : G} {H : Heap} {w : World} {K : V → Heap → Prop}

theorem Row.mono {Z Z' : Nat → Nat → Prop} {es : Nat} {l : List D} {a : Option Addr} {len cap : Nat} {vs : List Value} (h : Row w Z es l a len cap vs) : Row w Z es l a len cap vs := h

theorem post_kp {g1 : G} {w1 : World} (k1 : Kp g w g1 w1) (a1 : Ag g H w g1 H w1) {res : Result Next} (h : OpPost g1 H w1 K res) : OpPost g H w K res := by
  obtain ⟨cv, w', g', v, H', h1, h2, h3, h4, h5, h6⟩ := h
  exact ⟨cv, w', g', v, H', h1, h2, h3, h4, k1.trans h5, a1.trans h6⟩

theorem val_run {s : Sem Value} {v : Value} {w' : World} (h : s.run P w = .ok v w') : ((do pure (.value (← s)) : Sem Next)).run P w = .ok (.value v) w' := by
  simp only [Sem.run_bind, h, Result.andThen_ok, Sem.run_pure]

/-- A slice in new memory that is never written again. -/
theorem frozen_post (hr : HR g H w) {l : List D} {vs : Array Value} (t : TypeId) {es : Nat} (h : AR w g.Z es l vs.toList) {cap : Nat} (hc : l.length ≤ cap) {res : Result Next}
    (hres : res = .ok (.value (.slice (some ⟨w.heap.size, 0, none⟩) l.length cap)) (w.alloc (.cells vs t)))
    (hK : K (.d (.sl l)) H ∨ (cap = l.length ∧ K (.slx (some false) l) H)) : OpPost g H w K res := by
  obtain ⟨g', h1, h2, h3, h4, h5⟩ := frozen_row hr t h
  rcases hK with hK | ⟨rfl, hK⟩
  · refine ⟨_, _, g', _, H, .inl hres, hK, ?_, h1, h2, h3⟩
    simp only [VR, DR, DC]
    exact ⟨_, _, _, rfl, rfl, hc, (fun h => nomatch h), fun ad ha => by cases ha; exact ⟨fun _ => rfl, es, h5⟩⟩
  · refine ⟨_, _, g', _, H, .inl hres, hK, ?_, h1, h2, h3⟩
    simp only [VR]
    exact ⟨_, rfl, (fun b hb => by cases hb; simp), (fun h => nomatch h), fun ad ha => by cases ha; exact ⟨fun _ => rfl, es, h5⟩⟩

theorem row_post (hr : HR g H w) {l : List D} {vs : Array Value} (t : TypeId) {es : Nat} (h : AR w g.Z es l vs.toList) {cap : Nat} (hc : l.length ≤ cap) (hcs : cap * es ≤ vs.size) {res : Result Next}
    (hres : res = .ok (.value (.slice (some ⟨w.heap.size, 0, none⟩) l.length cap)) (w.alloc (.cells vs t)))
    (hK : K (.ref H.length l.length 0 l.length) (H ++ [.arr es false l])) : OpPost g H w K res := by
  obtain ⟨h1, h2, h3, h4⟩ := new_row hr t h
  exact ⟨_, _, _, _, _, .inl hres, hK, h4 cap hc hcs, h1, h2, h3⟩

theorem drew_post (hr : HR g H w) {res : Result Next} (h : HR g H w.drew → Kp g w g w.drew → OpPost g H w.drew K res) : OpPost g H w K res := by
  obtain ⟨h1, h2, h3⟩ := same_heap (w := w) (w' := w.drew) (g := g) (H := H) rfl rfl rfl rfl hr
  exact post_kp h2 h3 (h h1 h2)

theorem zk_drew (hr : HR g H w) : Zk g.Z g.Z w w.drew := fun _ _ z => ⟨z, rfl⟩

theorem nil_post (hr : HR g H w) {es : Nat} {nl : Bool} {a : Option Addr} (ha : a = none ↔ nl = true) {res : Result Next} (hres : res = .ok (.value (.slice a 0 0)) w)
    (hK : K (.ref H.length 0 0 0) (H ++ [.arr es nl []])) : OpPost g H w K res := by
  obtain ⟨h1, h2, h3⟩ := alloc_nil hr es nl
  refine ⟨_, _, _, _, _, .inl hres, hK, ?_, h1, h2, h3⟩
  simp only [VR]
  refine ⟨⟨_, _, _, rfl⟩, es, nl, [], by simp, Nat.le_refl _, fun _ => ⟨Nat.le_refl _, .inl ⟨⟨by rw [← hr.len]; simp, rfl, trivial⟩, by simp, a, rfl, ha⟩⟩⟩

mutual
theorem DC_cell {w : World} {Z : Nat → Nat → Prop} : ∀ (x : D) (cs : List Value), DC w Z x cs → ∀ c ∈ cs, c.oneCell' = true
  | .bool _, cs, h, c, hc => by simp only [DC] at h; subst h; simp at hc; subst hc; rfl
  | .int _ _, cs, h, c, hc => by simp only [DC] at h; subst h; simp at hc; subst hc; rfl
  | .str _, cs, h, c, hc => by simp only [DC] at h; subst h; simp at hc; subst hc; rfl
  | .nilp, cs, h, c, hc => by simp only [DC] at h; subst h; simp at hc; subst hc; rfl
  | .nilf, cs, h, c, hc => by simp only [DC] at h; subst h; simp at hc; subst hc; rfl
  | .nilm, cs, h, c, hc => by simp only [DC] at h; subst h; simp at hc; subst hc; rfl
  | .agg l, cs, h, c, hc => DCs_cell l cs (by simpa only [DC] using h) c hc
  | .sl l, cs, h, c, hc => by
    simp only [DC] at h
    obtain ⟨a, len, cap, rfl, _⟩ := h
    simp at hc; subst hc; rfl
theorem DCs_cell {w : World} {Z : Nat → Nat → Prop} : ∀ (l : List D) (cs : List Value), DCs w Z l cs → ∀ c ∈ cs, c.oneCell' = true
  | [], cs, h, c, hc => by simp only [DCs] at h; subst h; simp at hc
  | d :: ds, cs, h, c, hc => by
    simp only [DCs] at h
    obtain ⟨v, r, rfl, h2, h3⟩ := h
    rcases List.mem_cons.1 hc with rfl | hc
    · exact DC_cell d _ h2 c List.mem_cons_self
    · exact DCs_cell ds r h3 c hc
end

theorem AR_cell {w : World} {Z : Nat → Nat → Prop} {es : Nat} {l : List D} {vs : List Value} (h : AR w Z es l vs) (hl : vs.length = l.length * es) : ∀ v ∈ vs, v.oneCell' = true := by
  intro v hv
  obtain ⟨q, hq, hqv⟩ := List.getElem_of_mem hv
  have hes : 0 < es := by
    rcases Nat.eq_zero_or_pos es with h0 | h0
    · rw [h0] at hl; omega
    · exact h0
  have hi : q / es < l.length := Nat.div_lt_of_lt_mul (by rw [Nat.mul_comm]; omega)
  have hd := (h.2 _ _ (List.getElem?_eq_getElem hi)).2
  refine DC_cell _ _ hd v ?_
  have hq2 : q % es < es := Nat.mod_lt _ hes
  have hget : ((vs.drop (q / es * es)).take es)[q % es]? = some v := by
    rw [chunk_get, if_pos hq2, Nat.mul_comm (q / es) es, Nat.div_add_mod, List.getElem?_eq_getElem hq, hqv]
  exact List.mem_of_getElem? hget

theorem AR_take {w : World} {Z : Nat → Nat → Prop} {es : Nat} {l : List D} {vs : List Value} (h : AR w Z es l vs) : AR w Z es l (vs.take (l.length * es)) := by
  refine ⟨by have := h.1; simp; omega, fun i x hx => ⟨(h.2 i x hx).1, ?_⟩⟩
  have hi := lt_of_getElem? hx
  have hle : (i + 1) * es ≤ l.length * es := Nat.mul_le_mul_right _ hi
  rw [Nat.add_mul, Nat.one_mul] at hle
  have : ((vs.take (l.length * es)).drop (i * es)).take es = (vs.drop (i * es)).take es := by
    apply List.ext_getElem?
    intro q
    rw [chunk_get, chunk_get]
    by_cases hq : q < es
    · rw [if_pos hq, if_pos hq, List.getElem?_take_of_lt (by omega)]
    · rw [if_neg hq, if_neg hq]
  rw [this]; exact (h.2 i x hx).2

theorem append_ref {t u rt e : TypeId} {j : TypeInfo} {zv : Value} (hr : HR g H w) (hu1 : P.underlying t = some (.slice e)) (hu' : ∃ e', P.underlying u = some (.slice e')) (hj : P.info? e = some j) (hz : j.zero = some zv)
    (hby : j.bytes ≤ 4096) (hes1 : 1 ≤ j.size) (hzs : zv.cells.size = j.size) {id len : Nat} {nl : Bool} {els ys : List D} (he : H[id]? = some (.arr j.size nl els)) (hn : els.length = len) (hmax : len + ys.length ≤ 4294967296)
    {cb : Value} (hb : VR g H w (.ref id len 0 len) cb) {a2 : Option Addr} {len2 cap2 : Nat} {vs2 : List Value} (hrow2 : Row w g.Z j.size ys a2 len2 cap2 vs2)
    (h : K (.ref id (len + ys.length) 0 (len + ys.length)) (H.set id (.arr j.size (nl && ys.isEmpty) (els ++ ys)))) :
    OpPost g H w K ((do pure (.value (← Builtin.append_ #[t, u] rt #[cb, .slice a2 len2 cap2])) : Sem Next).run P w) := by
  have hl2 := hrow2.hlen
  have hidlt := lt_of_getElem? he
  have hcont : content H (.ref id len 0 len) = some els := by
    simp only [content, he, hn, if_true, List.drop_zero]
    rw [List.take_of_length_le (by omega)]
  have hb' := hb
  simp only [VR] at hb'
  obtain ⟨_, sz', nl', els', e1, e2, e3⟩ := hb'
  rw [he] at e1; cases e1
  obtain ⟨f1, f2⟩ := e3 hn
  have hels : sized j.size els = true := by
    rcases f2 with ⟨f2, _⟩ | ⟨b, cap, vs, t', f2, _⟩
    · rw [f2.2.1]; rfl
    · obtain ⟨_, _, _, vs', t'', hw, _, har⟩ := hr.blk id b _ f2 he
      refine List.all_eq_true.2 fun x hx => ?_
      obtain ⟨q, hq, hqx⟩ := List.getElem_of_mem hx
      have := (har q x (by rw [List.getElem?_eq_getElem hq, hqx])).1
      simpa using this
  obtain ⟨a, len', cap, vs, rfl, hrow⟩ := content_row hr hb hcont hels
  obtain rfl : len' = els.length := hrow.hlen
  by_cases h0 : ys = []
  · subst h0
    simp at hl2; subst hl2
    have hv2 : vs2 = [] := by have := hrow2.vlen; simpa using this
    subst hv2
    have hcl := hrow.hcap
    have hrun : (Builtin.append_ #[t, u] rt #[.slice a els.length cap, .slice a2 0 cap2]).run P w = .ok (.slice a els.length cap) w := by
      rw [append_fits hu1 hu' hj hrow2 (by omega)]
      cases a <;> simp [Go.storeCells]
    refine post_same hr (val_run hrun) ?_ hb
    simp only [List.length_nil, Nat.add_zero, List.isEmpty_nil, Bool.and_true, List.append_nil] at h
    rwa [show H.set id (.arr j.size nl els) = H from by
      apply List.ext_getElem?
      intro q
      by_cases hq : q = id
      · subst hq; rw [List.getElem?_set_self hidlt, he]
      · rw [List.getElem?_set_ne (fun e => hq e.symm)]] at h
  · have hpos : 0 < ys.length := by
      rcases Nat.eq_zero_or_pos ys.length with h' | h'
      · exact absurd (List.length_eq_zero_iff.1 h') h0
      · exact h'
    have hne : ys.isEmpty = false := by cases ys <;> simp_all
    rw [hne, Bool.and_false] at h
    subst hn
    by_cases hfit : els.length + len2 ≤ cap
    · -- in place
      rcases f2 with ⟨f2, _, a', f3, _⟩ | ⟨b, cap', vs0, t', f2, f3, f4, f5, f6⟩
      · simp at f3; omega
      · simp at f3
        obtain ⟨rfl, rfl⟩ := f3
        obtain ⟨hbl, hbz, hnl, vs1, t1, hw1, hal1⟩ := hr.blk id b _ f2 he
        rw [f4] at hw1; cases hw1
        have hfitc : (els.length + ys.length) * j.size ≤ vs0.size := by
          have : (els.length + ys.length) * j.size ≤ (0 + cap) * j.size := Nat.mul_le_mul_right _ (by omega)
          omega
        have hv2 := hrow2.vlen
        have hone : ∀ v ∈ vs2, v.oneCell' = true := AR_cell hrow2.ar hv2
        obtain ⟨w', k1, k2⟩ := run_storeCells (P := P) (a := ⟨b, els.length * j.size, none⟩) rfl vs2 0 w vs0 hone f4 (by
          rw [Nat.add_mul] at hfitc; simp only; omega)
        obtain ⟨nv, k3, k4⟩ := k2.self
        have hrun : (Builtin.append_ #[t, u] rt #[.slice (some ⟨b, 0, none⟩) els.length cap, .slice a2 len2 cap2]).run P w = .ok (.slice (some ⟨b, 0, none⟩) (els.length + ys.length) cap) w' := by
          rw [append_fits hu1 hu' hj hrow2 hfit]
          have hadd : (⟨b, 0, none⟩ : Addr).add (els.length * j.size) = ⟨b, els.length * j.size, none⟩ := by
            rw [add_eq rfl]; simp
          simp only [Sem.run_bind, hadd, k1, Result.andThen_ok, Sem.run_pure, hl2]
        obtain ⟨r1, r2, r3⟩ := grow_arr hr he (els' := els ++ ys) k2.os k2.tape k2.out (Nat.le_of_eq k2.size.symm) (by rw [k2.size]; exact hbl) (.inl f2) k3 (fun k _ hk => k2.oth k hk) (by simp; omega) (fun hz => by
          rw [k4]
          simp only [Nat.add_zero]
          have := AR_append (rest := vs0.toList.drop (els.length * j.size + vs2.length)) (AR_take hal1) (by simp only [List.length_take, Array.length_toList]; have := hal1.1; simp only [Array.length_toList] at this; omega) hrow2.ar hv2
          exact AR_mono hz this)
        refine ⟨_, _, _, _, _, .inl (val_run hrun), h, ?_, r1, r2, r3⟩
        simp only [VR]
        refine ⟨⟨_, _, _, rfl⟩, j.size, false, els ++ ys, by rw [List.getElem?_set_self hidlt], by simp, fun _ => ⟨by omega, .inr ⟨b, cap, nv, t', ?_, by simp, k3, by omega, ?_⟩⟩⟩
        · rw [List.getElem?_set_self (by rw [hr.len]; exact hidlt)]
        · have : nv.size = vs0.size := by
            rw [← Array.length_toList, k4, length_splice (by simp; rw [Nat.add_mul] at hfitc; omega)]; simp
          omega
    · -- in a new block
      obtain ⟨nc, rest, hnc, hrl, hrun⟩ := append_grow (t := t) (u := u) (rt := rt) hu1 hu' hj hz hby hrow hrow2 (by omega) (by omega)
      refine drew_post hr fun hr' _ => ?_
      have har := AR_append (rest := rest) hrow.ar hrow.vlen hrow2.ar hrow2.vlen
      obtain ⟨r1, r2, r3⟩ := grow_arr (w' := w.drew.alloc (.cells (vs ++ vs2 ++ rest).toArray e)) hr' he (els' := els ++ ys) (b := w.heap.size) rfl rfl rfl (by simp) (by simp) (.inr (Nat.le_refl _)) (alloc_new _ _)
        (fun k hk hkb => alloc_heap _ _ k hk) (by simp; omega) (fun hz => AR_mono (w := w) (fun b o z => ⟨z, (hz b o z).2⟩) har)
      rw [hl2] at hnc hrl
      have hrun' := hrun.trans (by rw [hl2] : _ = .ok (.slice (some ⟨w.heap.size, 0, none⟩) (els.length + ys.length) nc) (w.drew.alloc (.cells (vs ++ vs2 ++ rest).toArray e)))
      refine ⟨_, _, _, _, _, .inl (val_run hrun'), h, ?_, r1, r2, r3⟩
      simp only [VR]
      refine ⟨⟨_, _, _, rfl⟩, j.size, false, els ++ ys, by rw [List.getElem?_set_self hidlt], by simp, fun _ => ⟨by omega, .inr ⟨w.heap.size, nc, (vs ++ vs2 ++ rest).toArray, e, ?_, by simp, alloc_new _ _, hnc, ?_⟩⟩⟩
      · rw [List.getElem?_set_self (by rw [hr.len]; exact hidlt)]
      · have h1 := hrow.vlen
        have h3 := hrow2.vlen
        simp only [List.size_toArray, List.length_append, h1, h3, hrl, hzs]
        rw [← Nat.add_mul, ← Nat.add_mul]
        exact Nat.mul_le_mul_right _ (by omega)

theorem aappend_sound {t u rt : TypeId} {ty ty2 : Ty} (hT : TyOK P t ty) (hu : ∃ es z, ty2 = .sl es z) (hT2 : TyOK P u ty2) (hr : HR g H w) {hin : Bool} {base x : V} {cb cx : Value}
    (hb : VR g H w base cb) (hx : VR g H w x cx) (h : aappend ty hin H base x K) :
    OpPost g H w K ((do pure (.value (← Builtin.append_ #[t, u] rt #[cb, cx])) : Sem Next).run P w) := by
  obtain ⟨es2, z2, rfl⟩ := hu
  obtain ⟨_, e2, _, _, _, _, _, hu2, _⟩ := hT2
  have hu' : ∃ e', P.underlying u = some (.slice e') := ⟨e2, hu2⟩
  unfold aappend at h
  split at h
  case h_2 => exact h.elim
  rename_i es z ys hc
  obtain ⟨i, e, j, zv, _, _, _, hu1, hj, rfl, hes1, hby, hz, ⟨hzd, hzc⟩, hzl⟩ := hT
  have hzs : zv.cells.size = j.size := by have := DC_length (hzd w g.Z); simp at this; omega
  split at h
  case h_2 => exact h.elim
  rename_i hys
  obtain ⟨a2, len2, cap2, vs2, rfl, hrow2⟩ := content_row hr hx hc hys
  have hl2 := hrow2.hlen
  split at h
  · -- a slice whose capacity is its length
    rename_i nl l
    split at h
    case h_2 => exact h.elim
    rename_i hcond
    simp only [Bool.and_eq_true, decide_eq_true_eq] at hcond
    obtain ⟨hsl, hmax⟩ := hcond
    obtain ⟨a, len, cap, vs, hcb, hrow⟩ := content_row hr hb (l := l) rfl hsl
    have hb' := hb
    simp only [VR] at hb'
    obtain ⟨a', hcb', hnl, hnil, hel⟩ := hb'
    rw [hcb'] at hcb
    simp at hcb
    obtain ⟨rfl, rfl, rfl⟩ := hcb
    subst hcb'
    by_cases h0 : ys = []
    · subst h0
      simp at hl2; subst hl2
      have hv2 : vs2 = [] := by have := hrow2.vlen; simpa using this
      subst hv2
      have hrun : (Builtin.append_ #[t, u] rt #[.slice a' l.length l.length, .slice a2 0 cap2]).run P w = .ok (.slice a' l.length l.length) w := by
        rw [append_fits hu1 hu' hj hrow2 (by omega)]
        cases a' <;> simp [Go.storeCells]
      split at h
      · split at h
        · rename_i b
          refine nil_post hr (es := j.size) (nl := b) (a := a') (hnl b rfl) (val_run hrun) ?_
          simpa using h
        · exact h.elim
      · refine post_same hr (val_run hrun) h ?_
        simp only [VR, DR, DC, List.append_nil]
        exact ⟨a', _, _, rfl, rfl, Nat.le_refl _, fun ha => by simp [hnil ha], hel⟩
    · have hpos : 0 < ys.length := by
        rcases Nat.eq_zero_or_pos ys.length with h' | h'
        · exact absurd (List.length_eq_zero_iff.1 h') h0
        · exact h'
      obtain ⟨nc, rest, hnc, hrl, hrun⟩ := append_grow (t := t) (u := u) (rt := rt) hu1 hu' hj hz hby hrow hrow2 (by omega) (by omega)
      refine drew_post hr fun hr' _ => ?_
      have har : AR w.drew g.Z j.size (l ++ ys) (vs ++ vs2 ++ rest).toArray.toList := AR_mono (zk_drew hr) (AR_append hrow.ar hrow.vlen hrow2.ar hrow2.vlen)
      have hlen : l.length + len2 = (l ++ ys).length := by simp [hl2]
      split at h
      · split at h
        · rename_i b
          have hne : ys.isEmpty = false := by cases ys <;> simp_all
          rw [hne, Bool.and_false] at h
          have hrun' := hrun.trans (by simp [hl2] : _ = .ok (.slice (some ⟨w.heap.size, 0, none⟩) ys.length nc) (w.drew.alloc (.cells (vs ++ vs2 ++ rest).toArray e)))
          simp only [List.length_nil, Nat.zero_add, List.nil_append] at hlen har hnc hrl
          rw [hl2] at hnc hrl
          refine row_post hr' e har hnc ?_ (val_run hrun') h
          have h1 := hrow.vlen
          have h3 := hrow2.vlen
          simp only [List.length_nil, Nat.zero_mul] at h1
          simp only [List.size_toArray, List.length_append, h1, h3, hrl, hzs]
          rw [Nat.zero_add, ← Nat.add_mul]
          exact Nat.le_of_eq (by congr 1; omega)
        · exact h.elim
      · have hrun' := hrun.trans (by rw [hlen] : _ = .ok (.slice (some ⟨w.heap.size, 0, none⟩) (l ++ ys).length nc) (w.drew.alloc (.cells (vs ++ vs2 ++ rest).toArray e)))
        rw [hlen] at hnc
        exact frozen_post hr' e har hnc (val_run hrun') (.inl h)
  · -- a row of the abstract heap
    rename_i id n lo len
    split at h
    case h_2 => exact h.elim
    rename_i sz nl els he
    split at h
    case h_2 => exact h.elim
    rename_i hcond
    simp only [Bool.and_eq_true, decide_eq_true_eq] at hcond
    obtain ⟨⟨⟨⟨hn, rfl⟩, rfl⟩, rfl⟩, hmax⟩ := hcond
    exact append_ref hr hu1 hu' hj hz hby hes1 hzs he hn hmax hb hrow2 h
  · exact h.elim

end
end Go.Aw
end

section
namespace Go.Aw
open Go

theorem DCe_drop {w : World} {Z : Nat → Nat → Prop} : ∀ (n : Nat) (l : List D) (b o sz : Nat), DCe w Z l b o sz → DCe w Z (l.drop n) b (o + n * sz) sz
  | 0, _, _, _, _, h => by simpa using h
  | n + 1, [], _, _, _, _ => by simp [DCe]
  | n + 1, d :: ds, b, o, sz, h => by
    simp only [DCe] at h
    have := DCe_drop n ds b (o + sz) sz h.2
    rw [show o + (n + 1) * sz = o + sz + n * sz by rw [Nat.add_mul]; omega]
    simpa using this

theorem DCe_take {w : World} {Z : Nat → Nat → Prop} : ∀ (n : Nat) (l : List D) (b o sz : Nat), DCe w Z l b o sz → DCe w Z (l.take n) b o sz
  | 0, _, _, _, _, _ => by simp [DCe]
  | n + 1, [], _, _, _, _ => by simp [DCe]
  | n + 1, d :: ds, b, o, sz, h => by
    simp only [DCe] at h
    simp only [List.take_succ_cons, DCe]
    exact ⟨h.1, DCe_take n ds b (o + sz) sz h.2⟩

section
variable {P : Program} {g : G} {H : Heap} {w : World} {K : V → Heap → Prop}

theorem bound_sound {E : Env} {a : Act} (he : ER g H w E a.tmps) {x : Option Operand} {n m : Nat} (h : bound? E x n = some m) :
    (x = none ∧ m = n) ∨ ∃ y k, x = some y ∧ a.eval y = .int k m := by
  cases x with
  | none => simp [bound?] at h; exact .inl ⟨rfl, h.symm⟩
  | some y =>
    simp only [bound?] at h
    split at h
    · rename_i k q hq
      split at h
      · rename_i h0
        simp at h; subst h
        have := ge_sound he y
        rw [hq] at this
        simp only [VR, DR, DC] at this
        simp at this
        exact .inr ⟨y, k, rfl, by rw [this]; congr 1; omega⟩
      · cases h
    · cases h

theorem sliceBound_run {k : IntKind} {m n : Nat} (h : m ≤ n) (c : BoundsCode) : (Instr.sliceBound (.int k m) n c).run P w = .ok m w := by
  unfold Instr.sliceBound
  simp [run_asIntOf, h]

/-- The bounds of a slice expression without a third one. -/
theorem sliceBounds_two {E : Env} {a : Act} (he : ER g H w E a.tmps) (isS : Bool) {len cap l h dl : Nat} {lo hi : Option Operand} (hlo : bound? E lo 0 = some l) (hhi : bound? E hi dl = some h) (hdl : dl = len) (h1 : l ≤ h) (h2 : h ≤ cap) :
    (Instr.sliceBounds isS len cap (lo.map a.eval) (hi.map a.eval) none).run P w = .ok (l, h, cap) w := by
  subst hdl
  unfold Instr.sliceBounds
  rcases bound_sound he hlo with ⟨rfl, rfl⟩ | ⟨y, k, rfl, hy⟩ <;> rcases bound_sound he hhi with ⟨rfl, rfl⟩ | ⟨y', k', rfl, hy'⟩ <;>
    simp [*, sliceBound_run]

theorem sliceBounds_three {E : Env} {a : Act} (he : ER g H w E a.tmps) (isS : Bool) {len cap l h dl : Nat} {lo hi : Option Operand} {mx : Operand} (hlo : bound? E lo 0 = some l) (hhi : bound? E hi dl = some h) (hne : ∃ y, hi = some y) (hm : bound? E (some mx) 0 = some h) (h1 : l ≤ h) (h2 : h ≤ cap) :
    (Instr.sliceBounds isS len cap (lo.map a.eval) (hi.map a.eval) (some (a.eval mx))).run P w = .ok (l, h, h) w := by
  obtain ⟨y0, rfl⟩ := hne
  unfold Instr.sliceBounds
  rcases bound_sound he hm with ⟨hf, _⟩ | ⟨ym, km, hym, hm'⟩
  · cases hf
  · cases hym
    rcases bound_sound he hlo with ⟨rfl, rfl⟩ | ⟨y, k, rfl, hy⟩ <;> rcases bound_sound he hhi with ⟨hf, _⟩ | ⟨y', k', hyy, hy'⟩
    · cases hf
    · cases hyy
      simp [*, sliceBound_run]
    · cases hf
    · cases hyy
      simp [*, sliceBound_run]

/-- What a slice of frozen data is. -/
theorem frozen_content {x : V} {cx : Value} (hx : VR g H w x cx) {s : List D} (h : (∃ l, x = .d (.sl l) ∧ l = s) ∨ ∃ nl, x = .slx nl s) :
    ∃ a cap, cx = .slice a s.length cap ∧ s.length ≤ cap ∧ (a = none → cap = 0) ∧ ∀ ad, a = some ad → (s ≠ [] → ad.spot = none) ∧ ∃ sz, DCe w g.Z s ad.block ad.off sz := by
  rcases h with ⟨l, rfl, rfl⟩ | ⟨nl, rfl⟩
  · simp only [VR, DR, DC] at hx
    obtain ⟨a, len, cap, h1, h2, h3, h4, h5⟩ := hx
    simp at h1; subst h1; subst h2
    exact ⟨a, cap, rfl, h3, h4, h5⟩
  · simp only [VR] at hx
    obtain ⟨a, rfl, _, h3, h4⟩ := hx
    exact ⟨a, _, rfl, Nat.le_refl _, fun ha => by simp [h3 ha], h4⟩

theorem aslice_sound {t : TypeId} {ty : Ty} (hT : TyOK P t ty) (hr : HR g H w) {E : Env} {a : Act} (he : ER g H w E a.tmps) {x r : V} {cx : Value} (hx : VR g H w x cx) {lo hi mx : Option Operand}
    (h : aslice ty E H x lo hi mx = some r) : ∃ v, (Instr.sliceAt t cx (lo.map a.eval) (hi.map a.eval) (mx.map a.eval)).run P w = .ok v w ∧ VR g H w r v := by
  have notarr : ∀ d, P.underlying t = some d → scal d = true → (Instr.sliceAt t cx (lo.map a.eval) (hi.map a.eval) (mx.map a.eval)).run P w = (Instr.slice t cx (lo.map a.eval) (hi.map a.eval) (mx.map a.eval)).run P w := by
    intro d hd hs
    unfold Instr.sliceAt
    simp only [Sem.run_bind, run_underlying hd, Result.andThen_ok]
    cases d <;> first | rfl | (simp [scal] at hs)
  unfold aslice at h
  split at h
  · -- a string
    rename_i s
    split at h
    · rename_i z l hh hlo hhi
      split at h
      · rename_i hb
        simp at h; subst h
        obtain ⟨ti, d, zv, _, _, _, hu, hsc, _, _, _, _, _, _, hstr⟩ := hT
        have := hstr _ rfl
        subst this
        simp only [VR, DR, DC] at hx
        simp at hx; subst hx
        refine ⟨.string (s.extract l hh), ?_, by simp [VR, DR, DC]⟩
        rw [notarr _ hu rfl]
        have := sliceBounds_two (P := P) (w := w) he false (len := s.size) (cap := s.size) hlo hhi rfl hb.1 hb.2
        simp [Instr.slice, run_underlying hu, this]
      · cases h
    · cases h
  · -- a row of the abstract heap
    rename_i id n al len
    split at h
    · rename_i sz nl els es z hH
      split at h
      · rename_i l hh hlo hhi
        split at h
        · rename_i hb
          obtain ⟨hn, rfl, hb1, hb2, hb3⟩ := hb
          simp at h; subst h
          obtain ⟨ti, e, j, zv, _, _, _, hu, hj, hes, _⟩ := hT
          simp only [VR] at hx
          obtain ⟨_, sz', nl', els', e1, e2, e3⟩ := hx
          rw [hH] at e1; cases e1
          obtain ⟨f1, f2⟩ := e3 hn
          rcases f2 with ⟨f2, f3, a', rfl, _⟩ | ⟨b, cap, vs, t', f2, rfl, f4, f5, f6⟩
          · have := f2.2.1
            subst this
            simp at hn
            subst hn
            obtain rfl : len = 0 := by omega
            obtain rfl : hh = 0 := by omega
            obtain rfl : l = 0 := by omega
            subst f3
            have hsb := sliceBounds_two (P := P) (w := w) he true (len := 0) (cap := 0) hlo hhi rfl (Nat.le_refl _) (Nat.le_refl _)
            refine ⟨.slice a' 0 0, ?_, ?_⟩
            · rw [notarr _ hu rfl]
              simp only [Instr.slice, Sem.run_bind, run_underlying hu, Result.andThen_ok, Option.map_none, hsb, run_sizeOf hj, hes, Sem.run_pure, if_true, Nat.sub_self]
            · simp only [VR]
              refine ⟨⟨_, _, _, rfl⟩, sz, nl, [], hH, by simp, fun _ => ⟨by simp, .inl ⟨f2, trivial, a', rfl, by assumption⟩⟩⟩
          · have hsb := sliceBounds_two (P := P) (w := w) he true (len := len) (cap := cap) hlo hhi rfl hb1 (by omega)
            refine ⟨.slice (some ⟨b, (al + l) * sz, none⟩) (hh - l) (cap - l), ?_, ?_⟩
            · rw [notarr _ hu rfl]
              have hadd : (⟨b, al * sz, none⟩ : Addr).add (l * sz) = ⟨b, (al + l) * sz, none⟩ := by rw [add_eq rfl, Nat.add_mul]
              by_cases hcl : cap = l
              · obtain rfl : l = 0 := by omega
                subst hcl
                simp only [Instr.slice, Sem.run_bind, run_underlying hu, Result.andThen_ok, Option.map_none, hsb, run_sizeOf hj, hes, Sem.run_pure, if_true, Option.map_some, Nat.add_zero]
              · simp only [Instr.slice, Sem.run_bind, run_underlying hu, Result.andThen_ok, Option.map_none, hsb, run_sizeOf hj, hes, Sem.run_pure, hcl, if_false, Option.map_some, hadd]
            · simp only [VR]
              refine ⟨⟨_, _, _, rfl⟩, sz, nl, els, hH, by omega, fun _ => ⟨by omega, .inr ⟨b, cap - l, vs, t', f2, rfl, f4, by omega, ?_⟩⟩⟩
              rw [show al + l + (cap - l) = al + cap by omega]; exact f6
        · cases h
      · cases h
    · cases h
  · -- data
    rename_i hns hnr
    split at h
    · rename_i s es z hc
      obtain ⟨ti, e, j, zv, _, _, _, hu, hj, hes, _⟩ := hT
      have hcont : (∃ l, x = .d (.sl l) ∧ l = s) ∨ ∃ nl, x = .slx nl s := by
        unfold content at hc
        split at hc
        · simp at hc; exact .inl ⟨_, rfl, hc⟩
        · simp at hc; subst hc; exact .inr ⟨_, rfl⟩
        · exact absurd rfl (hnr _ _ _ _)
        · cases hc
      obtain ⟨a', cap, rfl, h2, h3, h4⟩ := frozen_content hx hcont
      split at h
      · rename_i hsz
        have hel : ∀ (l hh : Nat) (ad : Addr), a' = some ad → hh ≤ s.length → ((s.take hh).drop l ≠ [] → (ad.add (l * es)).spot = none) ∧ ∃ sz, DCe w g.Z ((s.take hh).drop l) (ad.add (l * es)).block (ad.add (l * es)).off sz := by
          intro l hh ad ha hle
          obtain ⟨hsp, sz, hd⟩ := h4 ad ha
          by_cases hs : s = []
          · subst hs; exact ⟨fun h => absurd (by simp) h, 0, by simp [DCe]⟩
          · rw [add_eq (hsp hs)]
            refine ⟨fun _ => rfl, ?_⟩
            obtain ⟨q, hq⟩ : ∃ q, s[0]? = some q := by
              cases s with
              | nil => exact absurd rfl hs
              | cons q r => exact ⟨q, rfl⟩
            obtain ⟨cs, k1, _, k3⟩ := DCe_get s _ _ _ 0 q hd hq
            have : sz = es := by rw [← k1, DC_length k3, sized_get hsz hq]
            subst this
            exact ⟨sz, DCe_drop l _ _ _ _ (DCe_take hh _ _ _ _ hd)⟩
        split at h
        · rename_i l hh hlo hhi
          split at h
          · rename_i hb
            simp at h; subst h
            have hsb := sliceBounds_two (P := P) (w := w) he true (len := s.length) (cap := cap) hlo hhi rfl hb.1 (by omega)
            refine ⟨.slice (if cap = l then a' else a'.map (·.add (l * es))) (hh - l) (cap - l), ?_, ?_⟩
            · rw [notarr _ hu rfl]
              simp only [Instr.slice, Sem.run_bind, run_underlying hu, Result.andThen_ok, Option.map_none, hsb, run_sizeOf hj, hes, Sem.run_pure]
            · simp only [VR, DR, DC]
              refine ⟨_, _, _, rfl, by simp; omega, by omega, fun ha => ?_, fun ad ha => ?_⟩
              · split at ha
                · omega
                · simp at ha; have := h3 ha; omega
              · split at ha
                · rename_i hcl
                  have h0 : (s.take hh).drop l = [] := by
                    apply List.eq_nil_of_length_eq_zero
                    simp; omega
                  rw [h0]
                  exact ⟨fun h => absurd rfl h, 0, by simp [DCe]⟩
                · cases a' with
                  | none => simp at ha
                  | some ad' =>
                    simp at ha; subst ha
                    exact hel l hh ad' rfl hb.2
          · cases h
        · rename_i l hh m hlo hhi
          split at h
          · rename_i y k hm
            split at h
            · rename_i hb
              obtain ⟨hb1, hb2, rfl⟩ := hb
              simp at h; subst h
              have hsb := sliceBounds_three (P := P) (w := w) he true (len := s.length) (cap := cap) hlo hhi ⟨_, rfl⟩ hm hb1 (by omega)
              refine ⟨.slice (if k = l then a' else a'.map (·.add (l * es))) (k - l) (k - l), ?_, ?_⟩
              · rw [notarr _ hu rfl]
                simp only [Option.map_some] at hsb
                simp only [Instr.slice, Sem.run_bind, run_underlying hu, Result.andThen_ok, Option.map_some, hsb, run_sizeOf hj, hes, Sem.run_pure]
              · have hlen : ((s.take k).drop l).length = k - l := by simp; omega
                simp only [VR]
                refine ⟨_, by rw [hlen], (fun b hb => nomatch hb), fun ha => ?_, fun ad ha => ?_⟩
                · apply List.eq_nil_of_length_eq_zero
                  rw [hlen]
                  split at ha
                  · omega
                  · simp at ha; have := h3 ha; omega
                · split at ha
                  · have h0 : (s.take k).drop l = [] := by
                      apply List.eq_nil_of_length_eq_zero
                      rw [hlen]; omega
                    rw [h0]
                    exact ⟨fun h => absurd rfl h, 0, by simp [DCe]⟩
                  · cases a' with
                    | none => simp at ha
                    | some ad' =>
                      simp at ha; subst ha
                      exact hel l k ad' rfl hb2
            · cases h
          · cases h
        · cases h
      · cases h
    · cases h

end
end Go.Aw
end

section
namespace Go.Aw
open Go

def FR (r : Option Nat) : Fence := { Fence.wide with round := r }

def CPost (g : G) (H : Heap) (w : World) (Q : V → Heap → Prop) (e : Ending) (w' : World) : Prop :=
  ∃ v g' r H', e = .returned v ∧ Q r H' ∧ VR g' H' w' r v ∧ HR g' H' w' ∧ Kp g w g' w' ∧ Ag g H w g' H' w'

def HasBody (P : Program) (f : FuncId) : Prop := ∃ fn, P.funcs[f]? = some fn ∧ fn.body.isSome = true ∧ (fn.name == "runtime.NumGoroutine") = false

/-- A call of a function of the text, on abstract values. -/
def ACalls (P : Program) (f : FuncId) (vs : List V) (H : Heap) (Q : V → Heap → Prop) : Prop :=
  HasBody P f ∧ ∀ g w cvs, HR g H w → VRs g H w vs cvs → CallsIn (FR none) 0 P f cvs.toArray w (CPost g H w Q)

/-- A call of a loop's own yield. -/
def AYield (P : Program) (id : Nat) (vs : List V) (H : Heap) (Q : V → Heap → Prop) : Prop :=
  ∀ g w cvs b, HR g H w → VRs g H w vs cvs → g.φ[id]? = some (some b) →
    ∃ fn tmps x y, (Instr.yield b cvs.toArray).run P w = .ok (.round b fn tmps x y) w ∧ RoundIn (FR none) 0 P b fn tmps x y w (CPost g H w Q)

def ACallV (P : Program) (f : V) (vs : List V) (H : Heap) (Q : V → Heap → Prop) : Prop :=
  match f with
  | .fn (.func k) first cap => ACalls P k (first ++ vs ++ cap) H Q
  | .fn (.yield id) [] [] => AYield P id vs H Q
  | _ => False

theorem run_callFunc {P : Program} {w : World} {f : FuncId} (h : HasBody P f) (args : Array Value) : (callFunc f args).run P w = .ok (.enter f args) w := by
  obtain ⟨fn, h1, h2, h3⟩ := h
  have h3' : fn.name ≠ "runtime.NumGoroutine" := by simpa using h3
  have h4 : fn.body ≠ none := by intro hb; rw [hb] at h2; cases h2
  unfold callFunc
  simp [h1, h3', h4]

section
variable {P : Program} {g : G} {H : Heap} {w : World} {K : V → Heap → Prop} {T : Nat → Ty} {hint : Nat → Bool}

theorem wpIn_of_post {r : Option Nat} {o : Oper} {a : Act} {next : Act → World → Prop} {Q : Exit → Act → World → Prop} (hnd : ∀ c, o.op ≠ .defer c)
    (h : OpPost g H w K ((execOp a.eval o).run P w))
    (hnext : ∀ v H' cv w' g', K v H' → VR g' H' w' v cv → HR g' H' w' → Kp g w g' w' → Ag g H w g' H' w' → next (a.put o.dst cv) w') : o.wpIn (FR r) 0 P a w next Q := by
  obtain ⟨cv, w', g', v, H', h1, h2, h3, h4, h5, h6⟩ := h
  refine ⟨fun _ _ => trivial, ?_⟩
  rw [Oper.semAt_eq _ _ _ hnd]
  rcases h1 with h1 | ⟨h1, rfl⟩
  · rw [h1]
    exact hnext v H' cv w' g' h2 h3 h4 h5 h6
  · rw [h1]
    exact hnext v H' _ w' g' h2 h3 h4 h5 h6

theorem unit_run {s : Sem Unit} {w' : World} (h : s.run P w = .ok () w') : ((do s; pure .skip : Sem Next)).run P w = .ok .skip w' := by
  simp only [Sem.run_bind, h, Result.andThen_ok, Sem.run_pure]

theorem binOp_exec {op : BinOp} {t : TypeId} {x y : Operand} {a b v : Value} (h1 : ∀ (_ : a = .nilIface), b ≠ .nilIface) (h2 : ∀ cs ds, a = .agg cs → b = .agg ds → P.eqGuardType P.depth t = false) (h : (Go.binOp op t a b).run P w = .ok v w) :
    ((do pure (.value (← (do eqGuard op t x y a b; Go.binOp op t a b))) : Sem Next)).run P w = .ok (.value v) w := by
  simp only [Sem.run_bind, eqGuard_run h1 h2, Result.andThen_ok, h, Sem.run_pure]

theorem binOp_eql_other {t : TypeId} {x y : V} {a b : Value} {r : Bool} (hx : VR g H w x a) (hy : VR g H w y b) (hanil : anilr (T t) H x y = some r) (h : (Op.equal t a b).run P w = .ok r w) :
    ((Go.binOp .eql t a b).run P w = .ok (.bool r) w) ∧ ((Go.binOp .neq t a b).run P w = .ok (.bool (!r)) w) := by
  have shape : (∃ q l c, b = .slice q l c) ∨ b = .pointer none ∨ b = .nilFunc := by
    unfold anilr at hanil
    split at hanil
    · exact .inl ⟨_, _, _, nil_slx hy⟩
    · unfold anil at hanil
      split at hanil
      · exact .inl ⟨_, _, _, nil_slx hy⟩
      · right; left; simpa [VR, DR, DC] using hy
      · right; right; simpa [VR, DR, DC] using hy
      · cases hanil
  constructor
  all_goals
    rcases shape with ⟨q, l, c, rfl⟩ | rfl | rfl <;> cases a <;> simp [Go.binOp, h]

theorem Som_iff {α : Type} {o : Option α} {K : α → Prop} (h : Som o K) : ∃ x, o = some x ∧ K x := by
  cases o with
  | none => exact h.elim
  | some x => exact ⟨x, rfl, h⟩

theorem Br_iff {b : Bool} {A B : Unit → Prop} (h : Br b A B) : (b = true ∧ A ()) ∨ (b = false ∧ B ()) := by
  cases b
  · exact .inr ⟨rfl, h⟩
  · exact .inl ⟨rfl, h⟩

theorem binOp_sound (hT : TOK P T) (hr : HR g H w) {E : Env} {a : Act} (he : ER g H w E a.tmps) {op : BinOp} {t : TypeId} {x y : Operand}
    (h : match ge E x, ge E y with
    | .d (.int k a), .d (.int k' b) => Som (abin .no op (.int k a) (.int k' b)) fun v => K (.d v) H
    | .d (.bool a), .d (.bool b) => Som (abin (T t) op (.bool a) (.bool b)) fun v => K (.d v) H
    | .d (.str a), .d (.str b) => Som (abin .no op (.str a) (.str b)) fun v => K (.d v) H
    | .d (.agg a), .d (.agg b) => Som (abin (T t) op (.agg a) (.agg b)) fun v => K (.d v) H
    | a, b => match op with
      | .eql => Som (anilr (T t) H a b) fun t => K (.d (.bool t)) H
      | .neq => Som (anilr (T t) H a b) fun t => K (.d (.bool (!t))) H
      | _ => False) :
    OpPost g H w K ((do pure (.value (← (do eqGuard op t x y (a.eval x) (a.eval y); Go.binOp op t (a.eval x) (a.eval y)))) : Sem Next).run P w) := by
  have hx := ge_sound he x
  have hy := ge_sound he y
  revert h hx hy
  generalize ge E x = vx
  generalize ge E y = vy
  generalize a.eval x = cx
  generalize a.eval y = cy
  intro h hx hy
  have data : ∀ {r : D} {v : Value}, (∀ (_ : cx = .nilIface), cy ≠ .nilIface) → (∀ cs ds, cx = .agg cs → cy = .agg ds → P.eqGuardType P.depth t = false) → (Go.binOp op t cx cy).run P w = .ok v w → DR w g.Z r v → K (.d r) H →
      OpPost g H w K ((do pure (.value (← (do eqGuard op t x y cx cy; Go.binOp op t cx cy))) : Sem Next).run P w) :=
    fun h1 h2 h3 h4 h5 => post_same hr (binOp_exec h1 h2 h3) h5 h4
  split at h
  · rename_i k a1 k' b1
    simp only [VR, DR, DC] at hx hy
    simp at hx hy; subst hx; subst hy
    obtain ⟨r, hr', h⟩ := Som_iff h
    · obtain ⟨v, h1, h2⟩ := abin_int (P := P) (g := g) (w := w) (t := t) hr'
      exact data (r := r) (v := v) (by intro h; cases h) (by intro _ _ h; cases h) h1 h2 h
  · rename_i a1 b1
    simp only [VR, DR, DC] at hx hy
    simp at hx hy; subst hx; subst hy
    obtain ⟨r, hr', h⟩ := Som_iff h
    · obtain ⟨v, h1, h2⟩ := abin_bool (P := P) (g := g) (w := w) (hT t) hr'
      exact data (r := r) (v := v) (by intro h; cases h) (by intro _ _ h; cases h) h1 h2 h
  · rename_i a1 b1
    simp only [VR, DR, DC] at hx hy
    simp at hx hy; subst hx; subst hy
    obtain ⟨r, hr', h⟩ := Som_iff h
    · obtain ⟨v, h1, h2⟩ := abin_str (P := P) (g := g) (w := w) (t := t) hr'
      exact data (r := r) (v := v) (by intro h; cases h) (by intro _ _ h; cases h) h1 h2 h
  · rename_i a1 b1
    simp only [VR, DR] at hx hy
    obtain ⟨xs, rfl, hx⟩ := hx
    obtain ⟨ys, rfl, hy⟩ := hy
    obtain ⟨r, hr', h⟩ := Som_iff h
    · obtain ⟨h0, v, h1, h2⟩ := abin_agg (P := P) (g := g) (w := w) (hT t) hr' hx hy
      exact data (r := r) (v := v) (by intro h; cases h) (fun _ _ _ _ => h0) h1 h2 h
  · rename_i hn1 hn2 hn3 hn4
    split at h
    · obtain ⟨r, hr', h⟩ := Som_iff h
      · obtain ⟨h1, h2, h3⟩ := anilr_sound (hT t) hr hx hy hr'
        exact data (r := .bool r) h2 h3 (binOp_eql_other hx hy hr' h1).1 (by simp [DR, DC]) h
    · obtain ⟨r, hr', h⟩ := Som_iff h
      · obtain ⟨h1, h2, h3⟩ := anilr_sound (hT t) hr hx hy hr'
        exact data (r := .bool (!r)) h2 h3 (binOp_eql_other hx hy hr' h1).2 (by simp [DR, DC]) h
    · exact h.elim

end
end Go.Aw
end

section
namespace Go.Aw
open Go

section
variable {P : Program} {g : G} {H : Heap} {w : World} {K : V → Heap → Prop} {T : Nat → Ty} {hint : Nat → Bool}

variable {g' : G} {H' : Heap} {n : Nat}

theorem row_DCe {Z : Nat → Nat → Prop} {b es : Nat} {vs : Array Value} {t : TypeId} (hb : w.heap[b]? = some (.cells vs t (0, 0))) (hZ : ∀ o, Z b o) :
    ∀ (l : List D) (k : Nat), (∀ i x, l[i]? = some x → (k + i + 1) * es ≤ vs.toList.length ∧ (dcells x).length = es ∧ DC w Z x ((vs.toList.drop ((k + i) * es)).take es)) → DCe w Z l b (k * es) es
  | [], k, _ => trivial
  | d :: ds, k, hk => by
    simp only [DCe]
    obtain ⟨k1, k2, k3⟩ := hk 0 d rfl
    simp only [Nat.add_zero] at k1 k3
    refine ⟨⟨_, by rw [DC_length k3, k2], fun j hj => ⟨hZ _, ?_⟩, k3⟩, ?_⟩
    · rw [cell_of_block hb, chunk_get, if_pos hj]
      simp
    · have := row_DCe hb hZ ds (k + 1) (fun i x hx => by
        have := hk (i + 1) x (by simpa using hx)
        rw [show k + 1 + i = k + (i + 1) by omega]
        exact this)
      rwa [Nat.add_mul, Nat.one_mul] at this

/-- A slice over a row whose block is never written again. -/
theorem ref_frozen {Z' : Nat → Nat → Prop} (hr : HR g H w) (hz : ∀ b o, g.Z b o → Z' b o) {id m lo len sz : Nat} {nl : Bool} {els : List D} (he : H[id]? = some (.arr sz nl els)) (hm : els.length = m)
    (hf : ∀ b o, g.φ[id]? = some (some b) → Z' b o) {v : Value} (h : VR g H w (.ref id m lo len) v) : DR w Z' (.sl ((els.drop lo).take len)) v := by
  simp only [VR] at h
  obtain ⟨_, sz', nl', els', e1, e2, e3⟩ := h
  rw [he] at e1; cases e1
  obtain ⟨f1, f2⟩ := e3 hm
  simp only [DR, DC]
  rcases f2 with ⟨f2, f3, a, rfl, _⟩ | ⟨b, cap, vs, t, f2, rfl, f4, f5, f6⟩
  · rw [f2.2.1] at hm ⊢
    simp at hm
    exact ⟨a, 0, 0, rfl, by simp, Nat.le_refl _, fun _ => rfl, fun ad ha => ⟨fun h => absurd (by simp) h, 0, by simp [DCe]⟩⟩
  · refine ⟨_, len, cap, rfl, by simp; omega, f5, (fun h => nomatch h), fun ad ha => ?_⟩
    cases ha
    refine ⟨fun _ => rfl, sz, ?_⟩
    obtain ⟨_, _, _, vs', t', hw, har⟩ := hr.blk id b _ f2 he
    rw [f4] at hw; cases hw
    refine row_DCe f4 (fun o => hf b o f2) _ lo (fun i x hx => ?_)
    rw [chunk_get] at hx
    split at hx
    · rename_i hi
      obtain ⟨k1, k2⟩ := har.2 (lo + i) x hx
      have hle : (lo + i + 1) * sz ≤ els.length * sz := Nat.mul_le_mul_right _ (lt_of_getElem? hx)
      exact ⟨Nat.le_trans hle har.1, k1, DC_mono (fun b o z => ⟨hz b o z, rfl⟩) _ _ k2⟩
    · cases hx

theorem frz_state (hr : HR g H w) {id sz : Nat} {nl : Bool} {els : List D} (he : H[id]? = some (.arr sz nl els)) :
    ∃ g', HR g' (H.set id (.arr sz nl (els ++ [.nilp]))) w ∧ Kp g w g' w ∧ Ag g H w g' (H.set id (.arr sz nl (els ++ [.nilp]))) w ∧ (∀ b o, g.Z b o → g'.Z b o) ∧ ∀ b o, g.φ[id]? = some (some b) → g'.Z b o := by
  have hlt := lt_of_getElem? he
  have hltφ : id < g.φ.length := by rw [hr.len]; exact hlt
  have hset : (H.set id (.arr sz nl (els ++ [.nilp])))[id]? = some (.arr sz nl (els ++ [.nilp])) := by rw [List.getElem?_set_self hlt]
  have hne : ∀ j, j ≠ id → (H.set id (.arr sz nl (els ++ [.nilp])))[j]? = H[j]? := fun j hj => List.getElem?_set_ne (fun e => hj e.symm)
  have hsφ : (g.φ.set id none)[id]? = some none := by rw [List.getElem?_set_self hltφ]
  have hnφ : ∀ j, j ≠ id → (g.φ.set id none)[j]? = g.φ[j]? := fun j hj => List.getElem?_set_ne (fun e => hj e.symm)
  have old : ∀ j b : Nat, (g.φ.set id none)[j]? = some (some b) → j ≠ id ∧ g.φ[j]? = some (some b) := fun j b h => by
    by_cases hj : j = id
    · subst hj; rw [hsφ] at h; cases h
    · exact ⟨hj, by rw [← hnφ j hj]; exact h⟩
  have ha : Ag g H w ⟨fun b o => g.Z b o ∨ g.φ[id]? = some (some b), g.φ.set id none⟩ (H.set id (.arr sz nl (els ++ [.nilp]))) w := by
    intro j x hx
    by_cases hj : j = id
    · subst hj
      rw [he] at hx; cases hx
      exact ⟨nl, els ++ [.nilp], hset, by simp, fun h => by simp at h⟩
    · cases x with
      | cells cs => exact ⟨⟨cs, (hne j hj).trans hx, rfl⟩, hnφ j hj⟩
      | arr sz2 nl2 els2 => exact ⟨nl2, els2, (hne j hj).trans hx, Nat.le_refl _, fun _ => ⟨rfl, hnφ j hj, fun b vs t _ h => ⟨vs, h, rfl⟩⟩⟩
      | loop st pend E ps y z => exact ⟨⟨st, pend, (hne j hj).trans hx⟩, hnφ j hj⟩
  have hz : Zk g.Z (fun b o => g.Z b o ∨ g.φ[id]? = some (some b)) w w := fun b o z => ⟨.inl z, rfl⟩
  refine ⟨⟨fun b o => g.Z b o ∨ g.φ[id]? = some (some b), g.φ.set id none⟩, ⟨by simp [hr.len], fun b o z => ?_, fun j b x hp hx => ?_, fun i j b hi hj => ?_⟩, ⟨rfl, rfl, rfl, Nat.le_refl _, fun _ _ _ => rfl, fun _ _ z => .inl z, fun b o z => ?_, fun j b hp => .inl (old j b hp).2⟩, ha, fun _ _ z => .inl z, fun b o h => .inr h⟩
  · rcases z with z | z
    · exact hr.zlt b o z
    · exact hr.lt z
  · obtain ⟨hj, hp'⟩ := old j b hp
    rw [hne j hj] at hx
    obtain ⟨h1, h2, h3⟩ := hr.blk j b x hp' hx
    refine ⟨h1, fun o z => ?_, BR_mono hz ha rfl h3⟩
    rcases z with z | z
    · exact h2 o z
    · exact hj (hr.inj _ _ _ hp' z)
  · exact hr.inj i j b (old i b hi).2 (old j b hj).2
  · rcases z with z | z
    · exact .inl z
    · exact .inr (.inr ⟨id, z⟩)

theorem Zk.same' {g' : G} (h : ∀ b o, g.Z b o → g'.Z b o) : Zk g.Z g'.Z w w := fun b o z => ⟨h b o z, rfl⟩

/-- What giving away comes to. -/
def Giv (g : G) (H : Heap) (w : World) (g' : G) (H' : Heap) : Prop := HR g' H' w ∧ Kp g w g' w ∧ Ag g H w g' H' w ∧ ∀ b o, g.Z b o → g'.Z b o

theorem Giv.refl (hr : HR g H w) : Giv g H w g H := ⟨hr, .refl g w, .refl g H w, fun _ _ z => z⟩

theorem Giv.trans {g' g'' : G} {H' H'' : Heap} (h : Giv g H w g' H') (k : Giv g' H' w g'' H'') : Giv g H w g'' H'' :=
  ⟨k.1, h.2.1.trans k.2.1, h.2.2.1.trans k.2.2.1, fun b o z => k.2.2.2 b o (h.2.2.2 b o z)⟩

theorem giv1_sound (hr : HR g H w) {v : V} {x : D} {H' : Heap} (h : giv1 H v = some (x, H')) : ∃ g', Giv g H w g' H' ∧ ∀ c, VR g H w v c → DC w g'.Z x [c] := by
  cases v with
  | ref id n lo len =>
    simp only [giv1] at h
    split at h
    · rename_i sz nl els he
      split at h
      · rename_i hn
        simp only [Option.some.injEq, Prod.mk.injEq] at h
        obtain ⟨rfl, rfl⟩ := h
        obtain ⟨g', h1, h2, h3, h4, h5⟩ := frz_state hr he
        exact ⟨g', ⟨h1, h2, h3, h4⟩, fun c hc => by simpa only [DR] using ref_frozen hr h4 he hn h5 hc⟩
      · cases h
    · cases h
  | d y =>
    cases y with
    | agg l => simp [giv1] at h
    | _ =>
      simp only [giv1, Option.some.injEq, Prod.mk.injEq] at h
      obtain ⟨rfl, rfl⟩ := h
      exact ⟨g, .refl hr, fun c hc => by simpa only [VR, DR] using hc⟩
  | slx nl l =>
    simp only [giv1, Option.some.injEq, Prod.mk.injEq] at h
    obtain ⟨rfl, rfl⟩ := h
    exact ⟨g, .refl hr, fun c hc => by simpa only [DR] using toD_sound (x := .slx nl l) rfl hc⟩
  | _ => simp [giv1] at h

theorem givs_sound : ∀ (vs : List V) {g : G} {H : Heap} (_ : HR g H w) {l : List D} {H' : Heap} (_ : givs H vs = some (l, H')), ∃ g', Giv g H w g' H' ∧ ∀ cs, VRs g H w vs cs → DCs w g'.Z l cs
  | [], g, H, hr, l, H', h => by
    simp only [givs, Option.some.injEq, Prod.mk.injEq] at h
    obtain ⟨rfl, rfl⟩ := h
    exact ⟨g, .refl hr, fun cs hc => by simpa only [VRs, DCs] using hc⟩
  | v :: r, g, H, hr, l, H', h => by
    simp only [givs] at h
    split at h
    · rename_i x H1 h1
      split at h
      · rename_i l2 H2 h2
        simp only [Option.some.injEq, Prod.mk.injEq] at h
        obtain ⟨rfl, rfl⟩ := h
        obtain ⟨g1, k1, k2⟩ := giv1_sound hr h1
        obtain ⟨g2, k3, k4⟩ := givs_sound r k1.1 h2
        refine ⟨g2, k1.trans k3, fun cs hc => ?_⟩
        simp only [VRs] at hc
        obtain ⟨c, cs', rfl, hc1, hc2⟩ := hc
        simp only [DCs]
        exact ⟨c, cs', rfl, DC_mono (Zk.same' k3.2.2.2) _ _ (k2 c hc1), k4 cs' (VRs_mono (Zk.same' k1.2.2.2) k1.2.2.1 _ _ hc2)⟩
      · cases h
    · cases h

theorem giv_sound (hr : HR g H w) {v : V} {x : D} {H' : Heap} (h : giv H v = some (x, H')) : ∃ g', Giv g H w g' H' ∧ ∀ c, VR g H w v c → DR w g'.Z x c := by
  have one : ∀ {v : V} {x : D} {H' : Heap}, giv1 H v = some (x, H') → ∃ g', Giv g H w g' H' ∧ ∀ c, VR g H w v c → DR w g'.Z x c := by
    intro v x H' h
    obtain ⟨g', h1, h2⟩ := giv1_sound hr h
    refine ⟨g', h1, fun c hc => ?_⟩
    have := h2 c hc
    cases x with
    | agg l =>
      exfalso
      cases v with
      | ref id n lo len =>
        simp only [giv1] at h
        split at h
        · split at h
          · simp at h
          · cases h
        · cases h
      | d y => cases y <;> simp [giv1] at h
      | slx nl l => simp [giv1] at h
      | _ => simp [giv1] at h
    | _ => exact this
  cases v with
  | agg cs =>
    simp only [giv] at h
    split at h
    · rename_i l H1 h1
      simp only [Option.some.injEq, Prod.mk.injEq] at h
      obtain ⟨rfl, rfl⟩ := h
      obtain ⟨g', k1, k2⟩ := givs_sound cs hr h1
      refine ⟨g', k1, fun c hc => ?_⟩
      simp only [VR] at hc
      obtain ⟨vs, rfl, hc⟩ := hc
      exact ⟨vs, rfl, k2 _ hc⟩
    · cases h
  | d y =>
    cases y with
    | agg l =>
      simp only [giv, Option.some.injEq, Prod.mk.injEq] at h
      obtain ⟨rfl, rfl⟩ := h
      exact ⟨g, .refl hr, fun c hc => hc⟩
    | _ => exact one h
  | _ => exact one h

theorem PartsD_mono {Z Z' : Nat → Nat → Prop} (hz : Zk Z Z' w w) {a : Act} {es : Nat} : ∀ (parts : List (Nat × Operand)) (k : Nat) (l : List D), PartsD w Z a es k parts l → PartsD w Z' a es k parts l
  | [], _, _, h => h
  | (j, x) :: r, k, l, h => by
    obtain ⟨y, l', h1, h2, h3, h4, h5⟩ := h
    exact ⟨y, l', h1, h2, h3, DC_mono hz _ _ h4, PartsD_mono hz r _ _ h5⟩

theorem elemG_sound {E : Env} {a : Act} {es : Nat} : ∀ (parts : List (Nat × Operand)) (k : Nat) {g : G} {H : Heap} (_ : HR g H w) (_ : ER g H w E a.tmps) {l : List D} {H' : Heap}, elemG E es k H parts = some (l, H') →
    ∃ g', Giv g H w g' H' ∧ PartsD w g'.Z a es k parts l
  | [], k, g, H, hr, he, l, H', h => by
    simp only [elemG, Option.some.injEq, Prod.mk.injEq] at h
    obtain ⟨rfl, rfl⟩ := h
    exact ⟨g, .refl hr, rfl⟩
  | (j, x) :: r, k, g, H, hr, he, l, H', h => by
    simp only [elemG] at h
    split at h
    · rename_i y H1 h1
      split at h
      · rename_i l2 H2 h2
        split at h
        · rename_i hc
          simp only [Option.some.injEq, Prod.mk.injEq] at h
          obtain ⟨rfl, rfl⟩ := h
          obtain ⟨g1, k1, k2⟩ := giv_sound hr h1
          obtain ⟨g2, k3, k4⟩ := elemG_sound r (k + 1) k1.1 (fun t => VR_mono (Zk.same' k1.2.2.2) k1.2.2.1 _ _ (he t)) h2
          exact ⟨g2, k1.trans k3, y, l2, rfl, hc.1, hc.2, DC_mono (Zk.same' k3.2.2.2) _ _ (DR_cells (k2 _ (ge_sound he x))), k4⟩
        · cases h
      · cases h
    · cases h

theorem extract_sound (hr : HR g H w) {vs : List V} {i : Nat} {v : V} {cx : Value} (hx : VR g H w (.tup vs) cx) (h : vs[i]? = some v) : ∃ c, (Instr.extract cx i).run P w = .ok c w ∧ VR g H w v c := by
  simp only [VR] at hx
  obtain ⟨cs, rfl, hx⟩ := hx
  have key : ∀ (vs : List V) (cs : List Value) (i : Nat) (v : V), VRs g H w vs cs → vs[i]? = some v → ∃ c, cs[i]? = some c ∧ VR g H w v c := by
    intro vs
    induction vs with
    | nil => intro cs i v _ h; simp at h
    | cons x xs ih =>
      intro cs i v h h'
      simp only [VRs] at h
      obtain ⟨c, r, rfl, h2, h3⟩ := h
      cases i with
      | zero => simp at h'; subst h'; exact ⟨c, rfl, h2⟩
      | succ i => exact ih r i v h3 (by simpa using h')
  obtain ⟨c, h1, h2⟩ := key vs cs.toList i v hx h
  refine ⟨c, ?_, h2⟩
  have : cs[i]? = some c := by simpa using h1
  simp [Instr.extract, this]

theorem nilCheck_exec {o : Oper} {x : Operand} (ho : o.op = .nilCheck x) {ρ : Operand → Value} (h : (∃ p : Addr, ρ x = .pointer (some p)) ∨ ∃ f a b, ρ x = .func f a b ∧ ∀ name, f ≠ .method name) :
    (execOp ρ o).run P w = .ok (.value (ρ x)) w := by
  unfold execOp
  rw [ho]
  rcases h with ⟨p, h⟩ | ⟨f, a, b, h, hm⟩
  · simp only [h]; rfl
  · simp only [h]
    cases f <;> first | rfl | exact absurd rfl (hm _)

theorem exec_assign {o : Oper} {x : Operand} (ho : o.op = .assign x) (ρ : Operand → Value) : (execOp ρ o).run P w = .ok (.value (ρ x)) w := by
  unfold execOp; rw [ho]; rfl

theorem exec_move {o : Oper} {x : Operand} (ho : o.op = .move x) (ρ : Operand → Value) : (execOp ρ o).run P w = .ok (.value (ρ x)) w := by
  unfold execOp; rw [ho]; rfl

theorem exec_makeFunc {o : Oper} {f : Fn} {x y : Array Operand} (ho : o.op = .makeFunc f x y) (ρ : Operand → Value) : (execOp ρ o).run P w = .ok (.value (.func f (x.map ρ) (y.map ρ))) w := by
  unfold execOp; rw [ho]; rfl

theorem exec_pick {o : Oper} {c x y : Operand} (ho : o.op = .pick c x y) {ρ : Operand → Value} {b : Bool} (hc : ρ c = .bool b) : (execOp ρ o).run P w = .ok (.value (if b then ρ x else ρ y)) w := by
  unfold execOp; rw [ho]; simp [hc, asBool]

/-- The operations that call no function of the text. -/
theorem op_post (hT : TOK P T) (hr : HR g H w) {E : Env} {a : Act} (he : ER g H w E a.tmps) {call : CallH} {o : Oper} (hnc : ∀ c f, o.op = .call c → c.callee ≠ .value f) (h : evOp T hint call o E H K) :
    OpPost g H w K ((execOp a.eval o).run P w) := by
  have ge1 := fun x => ge_sound he x
  unfold evOp at h
  split at h <;> rename_i ho
  · -- move
    exact post_same hr (exec_move ho _) h (ge1 _)
  · -- assign
    split at h
    · rename_i nl hh hg
      split at h
      · rename_i es z hTt
        have hx := ge1 ‹Operand›
        rw [hg] at hx
        simp only [VR] at hx
        obtain ⟨q, hq, hq2, _, hq4⟩ := hx
        exact nil_post hr (hq2 nl rfl) (by rw [exec_assign ho, hq]; rfl) h
      · exact h.elim
    · exact post_same hr (exec_assign ho _) h (ge1 _)
  · -- pick
    rename_i c x y
    split at h
    · rename_i t hg
      have hc := ge1 c
      rw [hg] at hc
      simp only [VR, DR, DC] at hc
      simp at hc
      rcases Br_iff h with ⟨rfl, h⟩ | ⟨rfl, h⟩
      · exact post_same hr (exec_pick ho hc) h (ge1 x)
      · exact post_same hr (exec_pick ho hc) h (ge1 y)
    · exact h.elim
  · -- alloc
    unfold execOp; rw [ho]; dsimp only
    obtain ⟨cs, h1, h2⟩ := Som_iff h
    exact alloc_sound (hT _) hr h1 h2
  · -- box
    unfold execOp; rw [ho]; dsimp only
    obtain ⟨cs, h1, h2⟩ := Som_iff h
    exact box_sound (hT _) hr (ge1 _) h1 h2
  · -- build
    unfold execOp; rw [ho]; dsimp only
    rename_i t parts
    split at h
    · rename_i n fs z cmp hTt
      obtain ⟨cs, h1, h2⟩ := Som_iff h
      have hty := hT t
      rw [hTt] at hty
      obtain ⟨v, h3, h4⟩ := build_sound (hinted hint o.dst) hty he (parts := parts) h1
      exact post_same hr (val_run h3) h2 h4
    · rename_i len es el z cmp hTt
      obtain ⟨cs, h1, h2⟩ := Som_iff h
      have hty := hT t
      rw [hTt] at hty
      obtain ⟨v, h3, h4⟩ := build_sound (hinted hint o.dst) hty he (parts := parts) h1
      exact post_same hr (val_run h3) h2 h4
    · exact h.elim
  · -- buildSlice
    unfold execOp; rw [ho]; dsimp only
    rename_i t len parts
    split at h
    · rename_i es z hTt
      have hty := hT t
      rw [hTt] at hty
      split at h
      · obtain ⟨l, h1, h2⟩ := Som_iff h
        split at h2
        · rename_i hc
          simp only [Bool.and_eq_true, decide_eq_true_eq] at hc
          obtain ⟨rfl, hc2⟩ := hc
          obtain ⟨e, vs, h3, h4, h5⟩ := buildSlice_sound hty (parts := parts) hc2 (elems_parts he _ _ _ h1) rfl
          exact row_post hr e h4 (Nat.le_refl _) (by omega) (val_run h3) h2
        · exact h2.elim
      · obtain ⟨⟨l, H1⟩, h1, h2⟩ := Som_iff h
        simp only at h2
        split at h2
        · rename_i hc
          simp only [Bool.and_eq_true, decide_eq_true_eq] at hc
          obtain ⟨rfl, hc2⟩ := hc
          obtain ⟨g1, ⟨k1, k2, k3, _⟩, k5⟩ := elemG_sound parts.toList 0 hr he h1
          obtain ⟨e, vs, h3, h4, h5⟩ := buildSlice_sound hty (parts := parts) hc2 k5 rfl
          obtain ⟨cv, w2, g2, v2, H2, m1, m2, m3, m4, m5, m6⟩ := frozen_post k1 e h4 (Nat.le_refl _) (val_run h3) (.inr ⟨rfl, h2⟩)
          exact ⟨cv, w2, g2, v2, H2, m1, m2, m3, m4, k2.trans m5, k3.trans m6⟩
        · exact h2.elim
    · exact h.elim
  · -- makeSlice
    unfold execOp; rw [ho]; dsimp only
    rename_i t n c
    split at h
    · rename_i es z k1 n1 k2 c1 hTt hn hc
      have hty := hT t
      rw [hTt] at hty
      have hxn := ge1 n
      have hxc := ge1 c
      rw [hn] at hxn
      rw [hc] at hxc
      simp only [VR, DR, DC] at hxn hxc
      simp at hxn hxc
      split at h
      · rename_i hcond
        simp only [Bool.and_eq_true, decide_eq_true_eq] at hcond
        obtain ⟨⟨⟨h0, rfl⟩, h1⟩, _⟩ := hcond
        obtain ⟨e, vs, h3, h4, h5, h6⟩ := makeSlice_sound (P := P) (w := w) hty (k := k1) (k' := k2) h0 h1
        rw [hxn, hxc]
        have hlen : (List.replicate n1.toNat z).length = n1.toNat := by simp
        split at h
        · split at h
          · have hall : (zcells z).all V.one = true := by first | assumption | (rename_i hsl; exact (Bool.and_eq_true_iff.1 hsl).2)
            have hone : ∀ c ∈ rep n1.toNat (zcells z), c.one = true := by
              intro c hc
              simp only [rep, List.mem_flatten, List.mem_replicate] at hc
              obtain ⟨l, ⟨_, rfl⟩, hc⟩ := hc
              exact List.all_eq_true.1 hall c hc
            obtain ⟨k1', k2', k3'⟩ := alloc_blk hr (.cells vs e) (.cells (rep n1.toNat (zcells z))) (fun g' w' hz ha hn hgz => ⟨vs, e, hn, h6 _ _ _, hone⟩)
            refine ⟨_, _, _, _, _, .inl (val_run h3), h, ?_, k1', k2', k3'⟩
            simp only [VR]
            have hl6 := VRs_length _ _ (h6 g H w)
            exact ⟨w.heap.size, rep n1.toNat (zcells z), n1.toNat, List.getElem?_concat_length .., by rw [← hr.len]; exact List.getElem?_concat_length .., by simp only [Array.length_toList] at hl6; omega, rfl, Nat.le_refl _⟩
          have := row_post (K := K) (res := ((do pure (.value (← Instr.makeSlice t (.int k1 n1) (.int k2 n1))) : Sem Next)).run P w) hr e (h4 g.Z) (cap := n1.toNat) (by simp) (by omega) (by rw [hlen]; exact val_run h3) (by rw [hlen]; exact h)
          exact this
        · exact frozen_post hr e (h4 g.Z) (cap := n1.toNat) (by simp) (by rw [hlen]; exact val_run h3) (.inr ⟨by simp, h⟩)
      · exact h.elim
    · exact h.elim
  · -- load
    unfold execOp; rw [ho]; dsimp only
    obtain ⟨v, h1, h2⟩ := Som_iff h
    obtain ⟨c, h3, h4⟩ := aload_sound (hT _) hr (ge1 _) h1
    exact post_same hr (val_run h3) h2 h4
  · -- store
    unfold execOp; rw [ho]; dsimp only
    obtain ⟨H', h1, h2⟩ := Som_iff h
    obtain ⟨w', h3, h4, h5, h6⟩ := astore_sound (hT _) hr (ge1 _) (ge1 _) h1
    exact ⟨undef, w', g, .und, H', .inr ⟨unit_run h3, rfl⟩, h2, trivial, h4, h5, h6⟩
  · -- binOp
    unfold execOp; rw [ho]; dsimp only
    exact binOp_sound hT hr he h
  · -- unOp
    unfold execOp; rw [ho]; dsimp only
    split at h
    · rename_i b hg
      have hx := ge1 ‹Operand›
      rw [hg] at hx
      simp only [VR, DR, DC] at hx
      simp at hx
      rw [hx]
      exact post_same hr (val_run (unOp_not b)) h (by simp [VR, DR, DC])
    · rename_i k n hg
      have hx := ge1 ‹Operand›
      rw [hg] at hx
      simp only [VR, DR, DC] at hx
      simp at hx
      rw [hx]
      exact post_same hr (val_run (unOp_neg k n)) h (by simp [VR, DR, DC])
    · exact h.elim
  · -- convert
    unfold execOp; rw [ho]; dsimp only
    rename_i s t x
    split at h
    · rename_i z1 kd z2 k n h1 h2 hg
      have hs := hT s
      rw [h1] at hs
      obtain ⟨_, d, _, _, _, _, hd, _⟩ := hs
      have ht := hT t
      rw [h2] at ht
      have hx := ge1 x
      rw [hg] at hx
      simp only [VR, DR, DC] at hx
      simp at hx
      rw [hx]
      exact post_same hr (val_run (convert_int ⟨d, hd⟩ ht)) h (by simp [VR, DR, DC])
    · exact h.elim
  · -- makeFunc
    rename_i f first cap
    refine post_same hr (exec_makeFunc ho _) h ?_
    have h1 := ges_sound he first.toList
    have h2 := ges_sound he cap.toList
    rw [show List.map a.eval first.toList = (first.map a.eval).toList by simp] at h1
    rw [show List.map a.eval cap.toList = (cap.map a.eval).toList by simp] at h2
    simp only [VR]
    exact ⟨_, _, rfl, h1, h2⟩
  · -- slice
    unfold execOp; rw [ho]; dsimp only
    obtain ⟨v, h1, h2⟩ := Som_iff h
    obtain ⟨c, h3, h4⟩ := aslice_sound (hT _) hr he (ge1 _) h1
    exact post_same hr (val_run h3) h2 h4
  · -- fieldAddr
    unfold execOp; rw [ho]; dsimp only
    obtain ⟨v, h1, h2⟩ := Som_iff h
    obtain ⟨c, h3, h4⟩ := afieldAddr_sound (hT _) (ge1 _) h1
    exact post_same hr (val_run h3) h2 h4
  · -- field
    unfold execOp; rw [ho]; dsimp only
    obtain ⟨v, h1, h2⟩ := Som_iff h
    obtain ⟨c, h3, h4⟩ := afield_sound hT (ge1 _) h1
    exact post_same hr (val_run h3) h2 h4
  · -- indexAddr
    unfold execOp; rw [ho]; dsimp only
    obtain ⟨v, h1, h2⟩ := Som_iff h
    obtain ⟨c, h3, h4⟩ := aidxAddr_sound (hT _) hr (ge1 _) (ge1 _) h1
    exact post_same hr (val_run h3) h2 h4
  · -- index
    unfold execOp; rw [ho]; dsimp only
    obtain ⟨v, h1, h2⟩ := Som_iff h
    obtain ⟨c, h3, h4⟩ := aindex_sound hT (ge1 _) (ge1 _) h1
    exact post_same hr (val_run h3) h2 h4
  · -- nilCheck
    rename_i x
    have hx := ge1 x
    split at h
    · rename_i id off hg
      rw [hg] at hx
      have hx' := hx
      simp only [VR] at hx'
      obtain ⟨b, cs, _, _, hp⟩ := hx'
      exact post_same hr (nilCheck_exec ho (.inl ⟨_, hp⟩)) h hx
    · rename_i cs hg
      rw [hg] at hx
      have hx' := hx
      simp only [VR] at hx'
      obtain ⟨q, vs, hp, _⟩ := hx'
      exact post_same hr (nilCheck_exec ho (.inl ⟨_, hp⟩)) h hx
    · rename_i id n i off hg
      rw [hg] at hx
      have hx' := hx
      simp only [VR] at hx'
      obtain ⟨⟨q, hp, _⟩, _⟩ := hx'
      exact post_same hr (nilCheck_exec ho (.inl ⟨_, hp⟩)) h hx
    · rename_i k p q hg
      rw [hg] at hx
      have hx' := hx
      simp only [VR] at hx'
      obtain ⟨x', y', hp, _⟩ := hx'
      exact post_same hr (nilCheck_exec ho (.inr ⟨_, _, _, hp, by simp⟩)) h hx
    · exact h.elim
  · -- extract
    unfold execOp; rw [ho]; dsimp only
    split at h
    · rename_i vs hg
      obtain ⟨v, h1, h2⟩ := Som_iff h
      have hx := ge1 ‹Operand›
      rw [hg] at hx
      obtain ⟨c, h3, h4⟩ := extract_sound (P := P) hr hx h1
      exact post_same hr (val_run h3) h2 h4
    · exact h.elim
  · -- call
    rename_i c
    unfold evCall at h
    split at h
    · rename_i f hf
      exact absurd hf (hnc c f ho)
    · rename_i b hf
      have hexec : (execOp a.eval o).run P w = (builtin b c.argTypes o.type (c.args.map fun | .const _ => true | _ => false) (c.args.map a.eval)).run P w := by
        unfold execOp
        rw [ho]
        simp only [resolve, hf, Sem.run_bind, Sem.run_pure, Result.andThen_ok, invoke]
        rfl
      rw [hexec]
      have hargs := ges_sound he c.args.toList
      split at h
      · rename_i x t hx ht
        obtain ⟨n, h1, h2⟩ := Som_iff h
        have e1 : c.args.map a.eval = #[a.eval x] := by
          apply Array.ext'; rw [Array.toList_map, hx]; rfl
        have e2 : c.argTypes = #[t] := by apply Array.ext'; rw [ht]
        rw [e1, e2]
        exact post_same hr (val_run (alen_sound (hT t) hr (ge1 x) h1)) h2 (by simp [VR, DR, DC])
      · rename_i _ x r hx
        obtain ⟨v, h1, h2⟩ := Som_iff h
        obtain ⟨cv, h3, h4⟩ := foldD_sound (P := P) (fun _ _ _ _ _ => amin_sound) (r.map (ge E)) (r.map a.eval) _ _ _ (ge1 x) (ges_sound he r) h1
        refine post_same hr (cv := cv) ?_ h2 h4
        refine val_run ?_
        unfold Builtin.min_
        rw [show (c.args.map a.eval).toList = a.eval x :: r.map a.eval by rw [Array.toList_map, hx]; rfl]
        exact h3
      · rename_i _ x r hx
        obtain ⟨v, h1, h2⟩ := Som_iff h
        obtain ⟨cv, h3, h4⟩ := foldD_sound (P := P) (fun _ _ _ _ _ => amax_sound) (r.map (ge E)) (r.map a.eval) _ _ _ (ge1 x) (ges_sound he r) h1
        refine post_same hr (cv := cv) ?_ h2 h4
        refine val_run ?_
        unfold Builtin.max_
        rw [show (c.args.map a.eval).toList = a.eval x :: r.map a.eval by rw [Array.toList_map, hx]; rfl]
        exact h3
      · rename_i x y t u hx ht
        split at h
        · rename_i es z hTu
          have hu := hT u
          rw [hTu] at hu
          have e1 : c.args.map a.eval = #[a.eval x, a.eval y] := by
            apply Array.ext'; rw [Array.toList_map, hx]; rfl
          have e2 : c.argTypes = #[t, u] := by apply Array.ext'; rw [ht]
          rw [e1, e2]
          exact aappend_sound (hT t) ⟨es, z, rfl⟩ hu hr (ge1 x) (ge1 y) h
        · exact h.elim
      · exact h.elim
    · exact h.elim
  · exact h.elim

end
end Go.Aw
end

section
namespace Go.Aw
open Go

/-- The blocks of the abstract heap up to a number stay what they are. -/
def AgN (n : Nat) (g : G) (H : Heap) (w : World) (g' : G) (H' : Heap) (w' : World) : Prop :=
  n ≤ H.length ∧ n ≤ H'.length ∧ Ag g (H.take n) w g' (H'.take n) w'

def mkMark (r : Nat) : Deferred := { target := .collected r, args := #[] }

/-- The marks of loops over functions that this activation has ended. -/
def DfOK (m0 : Nat) (g : G) (w : World) (ds : List Deferred) : Prop :=
  m0 ≤ w.heap.size ∧ ∃ rs : List Nat, ds = rs.map mkMark ∧ rs.Nodup ∧ ∀ r ∈ rs, m0 ≤ r ∧ w.heap[r]? = some (.deferred (some [])) ∧ ∀ id : Nat, g.φ[id]? ≠ some (some r)

def exOf : Ex → Exit
  | .normal => .normal
  | .exit id => .exit id
  | .ret => .ret

def Rnd (g : G) (H : Heap) (r : Option Nat) (l : Option Nat) : Prop :=
  match r with
  | none => l = none
  | some id => ∃ b st pend E ps x y, l = some b ∧ g.φ[id]? = some (some b) ∧ H[id]? = some (.loop st pend E ps x y)

structure Rel (N : Nat) (r l : Option Nat) (m0 : Nat) (g : G) (E : Env) (H : Heap) (a : Act) (w : World) : Prop where
  hr : HR g H w
  er : ER g H w E a.tmps
  sz : a.tmps.size = N
  rnd : Rnd g H r l
  df : DfOK m0 g w a.defers

def XPost (N n0 : Nat) (r l : Option Nat) (m0 : Nat) (g : G) (H : Heap) (w : World) (Q : Ex → Env → Heap → Prop) (e : Exit) (a' : Act) (w' : World) : Prop :=
  ∃ x E' H' g', exOf x = e ∧ Q x E' H' ∧ Rel N r l m0 g' E' H' a' w' ∧ Kp g w g' w' ∧ AgN n0 g H w g' H' w'

/-- The code does, from every world that fits, what is said on abstract values. N: the number of slots; n0: how many blocks of the heap were there when the frame began; r: the loop whose round this is. -/
def AWP (P : Program) (N n0 : Nat) (r : Option Nat) (c : Code) (E : Env) (H : Heap) (Q : Ex → Env → Heap → Prop) : Prop :=
  n0 ≤ H.length ∧ (∀ id, r = some id → id < n0) ∧ ∀ g w a l m0, Rel N r l m0 g E H a w → c.wpIn (FR l) 0 P (XPost N n0 r l m0 g H w Q) a w

theorem Ag_take {n : Nat} {g g' : G} {H H' : Heap} {w w' : World} (h : Ag g H w g' H' w') : Ag g (H.take n) w g' (H'.take n) w' := by
  intro id x hx
  rw [List.getElem?_take] at hx
  split at hx
  · rename_i hlt
    have := h id x hx
    have ht : (H'.take n)[id]? = H'[id]? := List.getElem?_take_of_lt hlt
    cases x with
    | cells cs => obtain ⟨⟨cs', h1, h2⟩, h3⟩ := this; exact ⟨⟨cs', ht.trans h1, h2⟩, h3⟩
    | arr sz nl els => obtain ⟨nl', els', h1, h2⟩ := this; exact ⟨nl', els', ht.trans h1, h2⟩
    | loop st pend E ps y z => obtain ⟨⟨st', pend', h1⟩, h2⟩ := this; exact ⟨⟨st', pend', ht.trans h1⟩, h2⟩
  · cases hx

theorem Ag_len {g g' : G} {H H' : Heap} {w w' : World} (h : Ag g H w g' H' w') : H.length ≤ H'.length := by
  rcases Nat.eq_zero_or_pos H.length with h0 | h0
  · omega
  · have hx := List.getElem?_eq_getElem (show H.length - 1 < H.length by omega)
    have := h _ _ hx
    have key : ∃ y, H'[H.length - 1]? = some y := by
      generalize H[H.length - 1] = x at this
      cases x with
      | cells cs => obtain ⟨⟨cs', h1, _⟩, _⟩ := this; exact ⟨_, h1⟩
      | arr sz nl els => obtain ⟨nl', els', h1, _⟩ := this; exact ⟨_, h1⟩
      | loop st pend E ps y z => obtain ⟨⟨st', pend', h1⟩, _⟩ := this; exact ⟨_, h1⟩
    obtain ⟨y, hy⟩ := key
    have := lt_of_getElem? hy
    omega

theorem AgN.of_ag {n : Nat} {g g' : G} {H H' : Heap} {w w' : World} (hn : n ≤ H.length) (h : Ag g H w g' H' w') : AgN n g H w g' H' w' :=
  ⟨hn, Nat.le_trans hn (Ag_len h), Ag_take h⟩

theorem AgN.trans {n : Nat} {g g' g'' : G} {H H' H'' : Heap} {w w' w'' : World} (h : AgN n g H w g' H' w') (k : AgN n g' H' w' g'' H'' w'') : AgN n g H w g'' H'' w'' :=
  ⟨h.1, k.2.1, h.2.2.trans k.2.2⟩

theorem AgN.refl {n : Nat} {g : G} {H : Heap} {w : World} (hn : n ≤ H.length) : AgN n g H w g H w := ⟨hn, hn, Ag.refl _ _ _⟩

theorem DfOK.kp {g g' : G} {w w' : World} {ds : List Deferred} {m0 : Nat} (h : DfOK m0 g w ds) (k : Kp g w g' w') : DfOK m0 g' w' ds := by
  obtain ⟨h0, rs, h1, h2, h3⟩ := h
  refine ⟨Nat.le_trans h0 k.size, rs, h1, h2, fun r hr => ?_⟩
  obtain ⟨h6, h4, h5⟩ := h3 r hr
  have hlt : r < w.heap.size := (Array.getElem?_eq_some_iff.1 h4).1
  refine ⟨h6, (k.fr r hlt h5).trans h4, fun id hid => ?_⟩
  rcases k.pn id r hid with h' | h'
  · exact h5 id h'
  · omega

theorem Rnd.agn {g g' : G} {H H' : Heap} {w w' : World} {r l : Option Nat} {n : Nat} (h : Rnd g H r l) (hn : ∀ id, r = some id → id < n) (k : AgN n g H w g' H' w') : Rnd g' H' r l := by
  cases r with
  | none => exact h
  | some id =>
    obtain ⟨b, st, pend, E, ps, x, y, h1, h2, h3⟩ := h
    have hlt := hn id rfl
    have h4 := k.2.2 id _ (by rw [List.getElem?_take_of_lt hlt]; exact h3)
    obtain ⟨⟨st', pend', h5⟩, h6⟩ := h4
    rw [List.getElem?_take_of_lt hlt] at h5
    exact ⟨b, st', pend', E, ps, x, y, h1, h6.trans h2, h5⟩

section
variable {P : Program} {T : Nat → Ty} {hint : Nat → Bool}

theorem ER_put {g : G} {H : Heap} {w : World} {E : Env} {a : Act} (he : ER g H w E a.tmps) {dst : Option Tmp} (hd : ∀ d, dst = some d → d < a.tmps.size) {v : V} {cv : Value} (hv : VR g H w v cv) :
    ER g H w (put E dst v) (a.put dst cv).tmps := by
  cases dst with
  | none => exact he
  | some d =>
    intro t
    have hdl := hd d rfl
    simp only [put, Act.put]
    by_cases ht : t = d
    · subst ht
      simp only [Env.look, if_true]
      rw [Array.getD_eq_getD_getElem?, Array.getElem?_setIfInBounds_self_of_lt hdl]
      exact hv
    · simp only [Env.look]
      rw [if_neg (fun e => ht e.symm), Array.getD_eq_getD_getElem?, Array.getElem?_setIfInBounds_ne (fun e => ht e.symm), ← Array.getD_eq_getD_getElem?]
      exact he t

theorem ER_mono {g g' : G} {H H' : Heap} {w w' : World} {E : Env} {tmps : Array Value} (he : ER g H w E tmps) (hz : Zk g.Z g'.Z w w') (ha : Ag g H w g' H' w') : ER g' H' w' E tmps :=
  fun t => VR_mono hz ha _ _ (he t)

theorem put_size (a : Act) (dst : Option Tmp) (v : Value) : (a.put dst v).tmps.size = a.tmps.size := by
  cases dst <;> simp [Act.put]

theorem put_defers (a : Act) (dst : Option Tmp) (v : Value) : (a.put dst v).defers = a.defers := by
  cases dst <;> rfl

/-- A call, as an operation. -/
theorem call_sound {g : G} {H : Heap} {w : World} {E : Env} {K : V → Heap → Prop} (hr : HR g H w) {a : Act} (he : ER g H w E a.tmps) {o : Oper} {c : Call} {f : Operand} (ho : o.op = .call c) (hf : c.callee = .value f)
    (h : ACallV P (ge E f) (c.args.toList.map (ge E)) H K) {l : Option Nat} {next : Act → World → Prop} {Q : Exit → Act → World → Prop}
    (hnext : ∀ v H' cv w' g', K v H' → VR g' H' w' v cv → HR g' H' w' → Kp g w g' w' → Ag g H w g' H' w' → next (a.put o.dst cv) w') : o.wpIn (FR l) 0 P a w next Q := by
  refine ⟨fun _ _ => trivial, ?_⟩
  rw [Oper.semAt_eq _ _ _ (by rw [ho]; simp)]
  have hargs := ges_sound he c.args.toList
  have hfv := ge_sound he f
  have hex : (execOp a.eval o).run P w = ((do let d ← Deferred.ofValue (a.eval f) (c.args.map a.eval); invoke d.target d.args : Sem Next)).run P w := by
    unfold execOp
    rw [ho]
    simp only [resolve, hf]
  rw [hex]
  unfold ACallV at h
  split at h
  · rename_i k first cap hg
    rw [hg] at hfv
    simp only [VR] at hfv
    obtain ⟨x', y', hfe, h1, h2⟩ := hfv
    obtain ⟨hb, hc⟩ := h
    rw [hfe]
    have hrun : ((do let d ← Deferred.ofValue (.func (.func k) x' y') (c.args.map a.eval); invoke d.target d.args : Sem Next)).run P w = .ok (.enter k (x' ++ c.args.map a.eval ++ y')) w := by
      simp only [Deferred.ofValue, Sem.run_bind, Sem.run_pure, Result.andThen_ok, invoke]
      exact run_callFunc hb _
    rw [hrun]
    refine ⟨fun _ => by simp_all [FR, Fence.wide], ?_⟩
    have hvs : VRs g H w (first ++ c.args.toList.map (ge E) ++ cap) (x' ++ c.args.map a.eval ++ y').toList := by
      simp only [Array.toList_append, Array.toList_map]
      exact VRs_append _ _ _ _ (VRs_append _ _ _ _ h1 hargs) h2
    have := hc g w _ hr hvs
    simp only [Array.toArray_toList] at this
    refine CallsIn.mono (F := FR l) (n := 0) this ?_
    rintro e w' ⟨v, g', r, H', rfl, k1, k2, k3, k4, k5⟩
    exact hnext r H' v w' g' k1 k2 k3 k4 k5
  · rename_i id hg
    rw [hg] at hfv
    simp only [VR] at hfv
    obtain ⟨_, _, b, _, _, _, _, _, _, _, hφ, hfe⟩ := hfv
    rw [hfe]
    obtain ⟨fn, tmps, x, y, h1, h2⟩ := h g w _ b hr hargs hφ
    have hrun : ((do let d ← Deferred.ofValue (.func (.yield b) #[] #[]) (c.args.map a.eval); invoke d.target d.args : Sem Next)).run P w = .ok (.round b fn tmps x y) w := by
      simp only [Deferred.ofValue, Sem.run_bind, Sem.run_pure, Result.andThen_ok, invoke]
      rw [show (#[] ++ c.args.map a.eval : Array Value) = (c.args.toList.map a.eval).toArray by apply Array.ext'; simp]
      exact h1
    rw [hrun]
    refine ⟨fun _ => by simp_all [FR, Fence.wide], ?_⟩
    refine RoundIn.mono (F := FR l) (n := 0) h2 ?_
    rintro e w' ⟨v, g', r, H', rfl, k1, k2, k3, k4, k5⟩
    exact hnext r H' v w' g' k1 k2 k3 k4 k5
  · exact h.elim

/-- What is asked of a text by itself: the slots that it writes are there; a deferred call is none of its operations. -/
def opOk (N : Nat) (o : Oper) : Bool :=
  (match o.dst with
   | some d => decide (d < N)
   | none => true)

def opsOk (N : Nat) (ops : List Oper) : Bool := ops.all (opOk N)

theorem evOp_sound (hT : TOK P T) {call : CallH} (hcall : ∀ f vs H K, call f vs H K → ACallV P f vs H K) {g : G} {H : Heap} {w : World} {E : Env} {K : V → Heap → Prop} (hr : HR g H w) {a : Act} (he : ER g H w E a.tmps) {o : Oper}
    (h : evOp T hint call o E H K) {l : Option Nat} {next : Act → World → Prop} {Q : Exit → Act → World → Prop}
    (hnext : ∀ v H' cv w' g', K v H' → VR g' H' w' v cv → HR g' H' w' → Kp g w g' w' → Ag g H w g' H' w' → next (a.put o.dst cv) w') : o.wpIn (FR l) 0 P a w next Q := by
  by_cases hc : ∃ c f, o.op = .call c ∧ c.callee = .value f
  · obtain ⟨c, f, ho, hf⟩ := hc
    have h' : call (ge E f) (c.args.toList.map (ge E)) H K := by
      unfold evOp at h
      rw [ho] at h
      simp only [evCall, hf] at h
      exact h
    exact call_sound hr he ho hf (hcall _ _ _ _ h') hnext
  · refine wpIn_of_post (fun c hd => ?_) (op_post hT hr he (fun c f ho hf => hc ⟨c, f, ho, hf⟩) h) hnext
    unfold evOp at h
    rw [hd] at h
    exact h

theorem yielded_of {ops : Array Oper} {tmps : Array Value} {j t : Nat} {b : Bool} (h1 : gdst ops.toList j = some t) (h2 : tmps.getD t undef = .bool b) : yielded ops tmps j = some b := by
  unfold gdst at h1
  unfold yielded
  have ho : ops[j]? = ops.toList[j]? := by simp
  rw [ho]
  split at h1
  · rename_i o hoj
    rw [hoj]
    simp only [Option.bind_some, h1]
    rw [Array.getD_eq_getD_getElem?] at h2
    cases hv : tmps[t]? with
    | none => rw [hv] at h2; simp [undef] at h2
    | some v => rw [hv] at h2; simp at h2; subst h2; rfl
  · cases h1

theorem yielded_no {ops : Array Oper} {tmps : Array Value} {j t : Nat} {cs : Array Value} (h1 : gdst ops.toList j = some t) (h2 : tmps.getD t undef = .tuple cs) : yielded ops tmps j = none := by
  unfold gdst at h1
  unfold yielded
  have ho : ops[j]? = ops.toList[j]? := by simp
  rw [ho]
  split at h1
  · rename_i o hoj
    rw [hoj]
    simp only [Option.bind_some, h1]
    rw [Array.getD_eq_getD_getElem?] at h2
    cases hv : tmps[t]? with
    | none => rfl
    | some v => rw [hv] at h2; simp at h2; subst h2; rfl
  · cases h1

theorem evOps_sound (hT : TOK P T) {call : CallH} (hcall : ∀ f vs H K, call f vs H K → ACallV P f vs H K) {N : Nat} {ops : Array Oper} (hok : opsOk N ops.toList = true) {l : Option Nat} {g0 : G} {H0 : Heap} {w0 : World} {a0 : Act}
    {K : Env → Heap → Prop} {Q : Exit → Act → World → Prop} (hQ : ∀ E' H' a' w' g', K E' H' → HR g' H' w' → ER g' H' w' E' a'.tmps → a'.tmps.size = N → a'.defers = a0.defers → Kp g0 w0 g' w' → Ag g0 H0 w0 g' H' w' → Q .normal a' w') :
    ∀ (os : List Oper) (i : Nat) (E : Env) (H : Heap) (a : Act) (w : World) (g : G), ops.toList.drop i = os → evOps T hint call ops.toList os E H K → HR g H w → ER g H w E a.tmps → a.tmps.size = N → a.defers = a0.defers → Kp g0 w0 g w → Ag g0 H0 w0 g H w →
      wpOpsIn (FR l) 0 P ops Q (List.range' i os.length) a w := by
  intro os
  induction os with
  | nil =>
    intro i E H a w g hd h hr he hs hdf hk ha
    simp only [List.length_nil, List.range'_zero, wpOpsIn]
    simp only [evOps] at h
    exact hQ E H a w g h hr he hs hdf hk ha
  | cons o os ih =>
    intro i E H a w g hd h hr he hs hdf hk ha
    simp only [List.length_cons, List.range'_succ, wpOpsIn]
    have hoi : ops.toList[i]? = some o := by
      have := congrArg (fun l => l[0]?) hd
      simpa [List.getElem?_drop] using this
    have hoi' : ops[i]? = some o := by rw [← hoi]; simp
    have hd' : ops.toList.drop (i + 1) = os := by
      have := congrArg (fun l => l.drop 1) hd
      simpa [List.drop_drop] using this
    have hdst : ∀ d, o.dst = some d → d < a.tmps.size := by
      intro d hod
      have := List.all_eq_true.1 hok o (List.mem_of_getElem? hoi)
      unfold opOk at this
      rw [hod] at this
      rw [hs]
      simpa using this
    simp only [hoi']
    have run : ∀ (hev : evOp T hint call o E H fun v H' => evOps T hint call ops.toList os (put E o.dst v) H' K), o.wpIn (FR l) 0 P a w (wpOpsIn (FR l) 0 P ops Q (List.range' (i + 1) os.length)) Q := by
      intro hev
      refine evOp_sound hT hcall hr he hev ?_
      intro v H' cv w' g' hK hv hr' hk' ha'
      refine ih (i + 1) _ H' _ w' g' hd' hK hr' (ER_put (ER_mono he (hr.zk hk') ha') hdst hv) (by rw [put_size]; exact hs) (by rw [put_defers]; exact hdf) (hk.trans hk') (ha.trans ha')
    have skip : ∀ (hev : evOps T hint call ops.toList os (put E o.dst (.tup [])) H K), (∀ f, o.about P w a.eval = some f → (FR l).fn f) ∧ wpOpsIn (FR l) 0 P ops Q (List.range' (i + 1) os.length) (a.put o.dst undef) w := by
      intro hev
      exact ⟨fun _ _ => trivial, ih (i + 1) _ H _ w g hd' hev hr (ER_put he hdst ⟨#[], rfl, rfl⟩) (by rw [put_size]; exact hs) (by rw [put_defers]; exact hdf) hk ha⟩
    simp only [evOps] at h
    split at h
    · rename_i hg
      have hw : Region.wanted o (yielded ops a.tmps) = true := by unfold Region.wanted; rw [hg]
      simp only [hw, if_true]
      exact run h
    · rename_i j want hg
      split at h
      · rename_i t ht
        split at h
        · rename_i b hb
          have hv := he t
          rw [hb] at hv
          simp only [VR, DR, DC] at hv
          simp at hv
          have hy := yielded_of (ops := ops) (tmps := a.tmps) ht (by rw [Array.getD_eq_getD_getElem?]; exact hv)
          have hw : Region.wanted o (yielded ops a.tmps) = (b == want) := by
            unfold Region.wanted
            simp only [hg, hy]
            cases b <;> cases want <;> rfl
          rw [hw]
          rcases Br_iff h with ⟨h1, h⟩ | ⟨h1, h⟩
          · rw [h1]; simp only [if_true]; exact run h
          · rw [h1]; simp only [Bool.false_eq_true, if_false]; exact skip h
        · rename_i hb
          have hv := he t
          rw [hb] at hv
          simp only [VR] at hv
          obtain ⟨cs, hv, hcs⟩ := hv
          have hcs' : cs.toList = [] := by simpa [VRs] using hcs
          have hy : yielded ops a.tmps j = none := yielded_no (ops := ops) (tmps := a.tmps) ht hv
          have hw : Region.wanted o (yielded ops a.tmps) = false := by
            unfold Region.wanted
            simp only [hg, hy]
            rfl
          rw [hw]; simp only [Bool.false_eq_true, if_false]; exact skip h
        · exact h.elim
      · exact h.elim

end
end Go.Aw
end

section
namespace Go.Aw
open Go

/-- The slots that a text writes are there. What is walked by a rule of its own is looked at there. -/
def cOk (N : Nat) : Code → Bool
  | .region _ ops _ => opsOk N ops.toList
  | .seq a b => cOk N a && cOk N b
  | .cond _ a b => cOk N a && cOk N b
  | .block _ c => cOk N c
  | _ => true

section
variable {P : Program} {T : Nat → Ty} {hint : Nat → Bool} {N n0 : Nat} {r : Option Nat}

theorem XPost.trans {l : Option Nat} {m0 : Nat} {g g1 : G} {H H1 : Heap} {w w1 : World} {Q : Ex → Env → Heap → Prop} (hk : Kp g w g1 w1) (ha : AgN n0 g H w g1 H1 w1) {e : Exit} {a : Act} {w' : World}
    (h : XPost N n0 r l m0 g1 H1 w1 Q e a w') : XPost N n0 r l m0 g H w Q e a w' := by
  obtain ⟨x, E', H', g', h1, h2, h3, h4, h5⟩ := h
  exact ⟨x, E', H', g', h1, h2, h3, hk.trans h4, ha.trans h5⟩

theorem AWP.mono {c : Code} {E : Env} {H : Heap} {Q Q' : Ex → Env → Heap → Prop} (h : AWP P N n0 r c E H Q) (hq : ∀ x E' H', n0 ≤ H'.length → Q x E' H' → Q' x E' H') : AWP P N n0 r c E H Q' := by
  refine ⟨h.1, h.2.1, fun g w a l m0 hrel => wpIn_mono (h.2.2 g w a l m0 hrel) ?_⟩
  rintro e a' w' ⟨x, E', H', g', h1, h2, h3, h4, h5⟩
  exact ⟨x, E', H', g', h1, hq x E' H' h5.2.1 h2, h3, h4, h5⟩

theorem Rel.of_agn {l : Option Nat} {m0 : Nat} {g g' : G} {E' : Env} {H H' : Heap} {a a' : Act} {w w' : World} {E : Env} (h : Rel N r l m0 g E H a w) (hn : ∀ id, r = some id → id < n0) (hr : HR g' H' w') (he : ER g' H' w' E' a'.tmps) (hs : a'.tmps.size = N) (hd : a'.defers = a.defers) (hk : Kp g w g' w') (ha : AgN n0 g H w g' H' w') :
    Rel N r l m0 g' E' H' a' w' :=
  ⟨hr, he, hs, h.rnd.agn hn ha, hd ▸ h.df.kp hk⟩

theorem xpost_now {l : Option Nat} {m0 : Nat} {g : G} {E : Env} {H : Heap} {a : Act} {w : World} (hn : n0 ≤ H.length) (h : Rel N r l m0 g E H a w) {Q : Ex → Env → Heap → Prop} {x : Ex} (hq : Q x E H) : XPost N n0 r l m0 g H w Q (exOf x) a w :=
  ⟨x, E, H, g, rfl, hq, h, Kp.refl g w, AgN.refl hn⟩

theorem AWP.skip {E : Env} {H : Heap} {Q : Ex → Env → Heap → Prop} (hn : n0 ≤ H.length) (hr : ∀ id, r = some id → id < n0) (h : Q .normal E H) : AWP P N n0 r .skip E H Q :=
  ⟨hn, hr, fun _ _ _ _ _ hrel => wpIn_skip (xpost_now hn hrel h)⟩

theorem AWP.exit {E : Env} {H : Heap} {Q : Ex → Env → Heap → Prop} {id : Nat} (hn : n0 ≤ H.length) (hr : ∀ id, r = some id → id < n0) (h : Q (.exit id) E H) : AWP P N n0 r (.exit id) E H Q :=
  ⟨hn, hr, fun _ _ _ _ _ hrel => wpIn_exit (xpost_now hn hrel h)⟩

theorem AWP.ret {E : Env} {H : Heap} {Q : Ex → Env → Heap → Prop} (hn : n0 ≤ H.length) (hr : ∀ id, r = some id → id < n0) (h : Q .ret E H) : AWP P N n0 r .ret E H Q :=
  ⟨hn, hr, fun _ _ _ _ _ hrel => wpIn_ret (xpost_now hn hrel h)⟩

theorem AWP.seq {c d : Code} {E : Env} {H : Heap} {K : Env → Heap → Prop} {Q : Ex → Env → Heap → Prop} (h : AWP P N n0 r c E H (thenEx K Q)) (hd : ∀ E' H', n0 ≤ H'.length → K E' H' → AWP P N n0 r d E' H' Q) : AWP P N n0 r (.seq c d) E H Q := by
  refine ⟨h.1, h.2.1, fun g w a l m0 hrel => wpIn_seq (wpIn_mono (h.2.2 g w a l m0 hrel) ?_)⟩
  rintro e a' w' ⟨x, E', H', g', rfl, h2, h3, h4, h5⟩
  cases x with
  | normal =>
    refine wpIn_mono ((hd E' H' h5.2.1 h2).2.2 g' w' a' l m0 h3) fun e a2 w2 hx => ?_
    exact hx.trans h4 h5
  | exit id => exact ⟨.exit id, E', H', g', rfl, h2, h3, h4, h5⟩
  | ret => exact ⟨.ret, E', H', g', rfl, h2, h3, h4, h5⟩

theorem AWP.cond {c d : Code} {E : Env} {H : Heap} {Q : Ex → Env → Heap → Prop} {x : Operand} {b : Bool} (hb : ge E x = .d (.bool b)) (h : AWP P N n0 r (if b then c else d) E H Q) : AWP P N n0 r (.cond x c d) E H Q := by
  refine ⟨h.1, h.2.1, fun g w a l m0 hrel => wpIn_cond (t := b) ?_ (h.2.2 g w a l m0 hrel)⟩
  have := ge_sound hrel.er x
  rw [hb] at this
  simp only [VR, DR, DC] at this
  simpa using this

theorem AWP.block {c : Code} {E : Env} {H : Heap} {Q : Ex → Env → Heap → Prop} {i : Nat} (h : AWP P N n0 r c E H (blockEx i Q)) : AWP P N n0 r (.block i c) E H Q := by
  refine ⟨h.1, h.2.1, fun g w a l m0 hrel => wpIn_block (wpIn_mono (h.2.2 g w a l m0 hrel) ?_)⟩
  rintro e a' w' ⟨x, E', H', g', rfl, h2, h3, h4, h5⟩
  cases x with
  | normal => exact ⟨.normal, E', H', g', rfl, h2, h3, h4, h5⟩
  | ret => exact ⟨.ret, E', H', g', rfl, h2, h3, h4, h5⟩
  | exit id =>
    simp only [exOf, Exit.inBlock]
    simp only [blockEx] at h2
    by_cases hid : id = i
    · rw [if_pos hid] at h2 ⊢
      exact ⟨.normal, E', H', g', rfl, h2, h3, h4, h5⟩
    · rw [if_neg hid] at h2 ⊢
      exact ⟨.exit id, E', H', g', rfl, h2, h3, h4, h5⟩

theorem AWP.region (hT : TOK P T) {call : CallH} (hcall : ∀ f vs H K, call f vs H K → ACallV P f vs H K) {i : Nat} {ops : Array Oper} (hok : opsOk N ops.toList = true) {E : Env} {H : Heap} {Q : Ex → Env → Heap → Prop}
    (hn : n0 ≤ H.length) (hr : ∀ id, r = some id → id < n0) (h : evOps T hint call ops.toList ops.toList E H (Q .normal)) : AWP P N n0 r (.region i ops false) E H Q := by
  refine ⟨hn, hr, fun g w a l m0 hrel => wpIn_region ?_⟩
  have := evOps_sound (P := P) hT hcall (N := N) hok (l := l) (g0 := g) (H0 := H) (w0 := w) (a0 := a) (K := Q .normal) (Q := XPost N n0 r l m0 g H w Q)
    (fun E' H' a' w' g' hK hr' he hs hd hk ha => ⟨.normal, E', H', g', rfl, hK, hrel.of_agn hr hr' he hs hd hk (AgN.of_ag hn ha), hk, AgN.of_ag hn ha⟩)
    ops.toList 0 E H a w g rfl h hrel.hr hrel.er hrel.sz rfl (Kp.refl g w) (Ag.refl g H w)
  rw [List.range_eq_range']
  simpa using this

/-- A loop, by a relation that holds ahead of each round, and a number that falls. -/
theorem AWP.loop {c : Code} {E : Env} {H : Heap} {Q : Ex → Env → Heap → Prop} (inv : Nat → Env → Heap → Prop) (k0 : Nat) (hn : n0 ≤ H.length) (hr : ∀ id, r = some id → id < n0) (h0 : inv k0 E H)
    (round : ∀ k E H, n0 ≤ H.length → inv k E H → AWP P N n0 r c E H (thenEx (fun E' H' => ∃ j, j < k ∧ inv j E' H') Q)) : AWP P N n0 r (.loop c) E H Q := by
  refine ⟨hn, hr, fun g w a l m0 hrel => wpIn_loop_rounds (k0 + 1) ?_⟩
  have key : ∀ m k E' H' g' w' a', k < m → inv k E' H' → Rel N r l m0 g' E' H' a' w' → Kp g w g' w' → AgN n0 g H w g' H' w' → Code.roundsIn (FR l) 0 P c (XPost N n0 r l m0 g H w Q) m a' w' := by
    intro m
    induction m with
    | zero => intro k _ _ _ _ _ hk; omega
    | succ m ih =>
      intro k E' H' g' w' a' hk hi hrel' hkp hag
      rw [roundsIn_succ]
      refine wpIn_mono ((round k E' H' hag.2.1 hi).2.2 g' w' a' l m0 hrel') ?_
      rintro e a2 w2 ⟨x, E2, H2, g2, rfl, h2, h3, h4, h5⟩
      cases x with
      | normal =>
        obtain ⟨j, hj, hi2⟩ := h2
        exact ih j E2 H2 g2 w2 a2 (by omega) hi2 h3 (hkp.trans h4) (hag.trans h5)
      | exit id => exact ⟨.exit id, E2, H2, g2, rfl, h2, h3, hkp.trans h4, hag.trans h5⟩
      | ret => exact ⟨.ret, E2, H2, g2, rfl, h2, h3, hkp.trans h4, hag.trans h5⟩
  exact key (k0 + 1) k0 E H g w a (by omega) h0 hrel (Kp.refl g w) (AgN.refl hn)

theorem ev_sound (hT : TOK P T) {call : CallH} (hcall : ∀ f vs H K, call f vs H K → ACallV P f vs H K) {loop rng : LoopH} {drw : DrawH}
    (hloop : ∀ c E H Q, n0 ≤ H.length → loop c E H Q → AWP P N n0 r (.loop c) E H Q) (hrng : ∀ c E H Q, n0 ≤ H.length → rng c E H Q → AWP P N n0 r c E H Q)
    (hdrw : ∀ i ops E H Q, n0 ≤ H.length → opsOk N ops.toList = true → drw ops E H (Q .normal) → AWP P N n0 r (.region i ops true) E H Q) (hr : ∀ id, r = some id → id < n0) :
    ∀ (c : Code) (E : Env) (H : Heap) (Q : Ex → Env → Heap → Prop), cOk N c = true → n0 ≤ H.length → ev T hint call loop rng drw c E H Q → AWP P N n0 r c E H Q
  | .skip, E, H, Q, _, hn, h => by simp only [ev] at h; exact .skip hn hr h
  | .exit _, E, H, Q, _, hn, h => by simp only [ev] at h; exact .exit hn hr h
  | .ret, E, H, Q, _, hn, h => by simp only [ev] at h; exact .ret hn hr h
  | .region i ops true, E, H, Q, hk, hn, h => by simp only [ev] at h; exact hdrw i ops E H Q hn hk h
  | .region i ops false, E, H, Q, hk, hn, h => by simp only [ev] at h; exact .region hT hcall hk hn hr h
  | .seq a b, E, H, Q, hk, hn, h => by
    simp only [ev] at h
    simp only [cOk, Bool.and_eq_true] at hk
    exact .seq (ev_sound hT hcall hloop hrng hdrw hr a E H _ hk.1 hn h) fun E' H' hn' h' => ev_sound hT hcall hloop hrng hdrw hr b E' H' Q hk.2 hn' h'
  | .cond c a b, E, H, Q, hk, hn, h => by
    simp only [ev] at h
    simp only [cOk, Bool.and_eq_true] at hk
    split at h
    · rename_i x hx
      rcases Br_iff h with ⟨rfl, h⟩ | ⟨rfl, h⟩
      · exact .cond hx (ev_sound hT hcall hloop hrng hdrw hr a E H Q hk.1 hn h)
      · exact .cond hx (ev_sound hT hcall hloop hrng hdrw hr b E H Q hk.2 hn h)
    · exact h.elim
  | .block i c, E, H, Q, hk, hn, h => by
    simp only [ev] at h
    simp only [cOk] at hk
    exact .block (ev_sound hT hcall hloop hrng hdrw hr c E H _ hk hn h)
  | .loop c, E, H, Q, _, hn, h => by simp only [ev] at h; exact hloop c E H Q hn h
  | .rangeFunc f ps a b, E, H, Q, _, hn, h => by simp only [ev] at h; exact hrng _ E H Q hn h

end
end Go.Aw
end
