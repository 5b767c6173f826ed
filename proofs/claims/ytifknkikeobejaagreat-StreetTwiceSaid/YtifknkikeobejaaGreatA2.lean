/- Arithmetic, tests, conversions, parts of values, lengths. Fields and elements of values; lengths; make; slices of slices. append. append, as the evaluator has it. Parts of slices and of strings. Every operation: what the evaluator says is what the model does. -/
import Derived.Test.YtifknkikeobejaaGreatA1
import Derived.Laws.StructEq
import Derived.IntWalk
set_option linter.unusedSimpArgs false
set_option linter.unusedVariables false

section
namespace Go.Aw
open Go

section
variable {P : Program} {g : G} {H : Heap} {w : World} {K : V → Heap → Prop}

theorem eqGuard_run {op : BinOp} {t : TypeId} {x y : Operand} {a b : Value} (h1 : ∀ (_ : a = .nilIface), b ≠ .nilIface) (h2 : ∀ cs ds, a = .agg cs → b = .agg ds → P.eqGuardType P.depth t = false) :
    (eqGuard op t x y a b).run P w = .ok () w := by
  unfold eqGuard
  have key : (match a, b with
    | .nilIface, .nilIface =>
      if (x matches .const _) || (y matches .const _) then (pure () : Sem Unit)
      else do if ← Op.eqGuardIn Op.maxDepth t a b then unsupported (.noEntry "binop/eql: two nil values of an interface type with methods, neither of them the literal nil")
    | .agg _, .agg _ => do
      if !(← program).eqGuardType (← program).depth t then pure ()
      else if ← Op.eqGuardIn Op.maxDepth t a b then unsupported (.noEntry "binop/eql: two nil values of an interface type with methods, in a part of a struct or an array")
    | _, _ => pure ()).run P w = .ok () w := by
    cases a with
    | nilIface => cases b <;> first | rfl | exact absurd rfl (h1 rfl)
    | agg cs => cases b <;> first | rfl | (simp [h2 _ _ rfl rfl])
    | _ => rfl
  cases op <;> simp only [Bool.not_true, Bool.not_false, Bool.false_eq_true, if_true, if_false, Sem.run_pure] <;> first
    | rfl
    | exact key
    | (revert key; cases a <;> cases b <;> simp)

def dval : D → Value
  | .bool b => .bool b
  | .int k n => .int k n
  | .str s => .string s
  | .nilp => .pointer none
  | .nilf => .nilFunc
  | .nilm => .map none
  | _ => .nilIface

def plainD : D → Bool
  | .bool _ | .int _ _ | .str _ | .nilp | .nilf | .nilm => true
  | _ => false

theorem DR_dval {Z : Nat → Nat → Prop} {x : D} (h : plainD x = true) : DR w Z x (dval x) := by
  cases x <;> simp [plainD] at h <;> simp [DR, DC, dval]

theorem abin_ar {op : BinOp} (k k' : IntKind) {a b : Int} (x : D) {r : D} {t : TypeId} (hp : plainD x = true) (h : (if k = k' then some x else none) = some r)
    (hrun : (binOp op t (.int k a) (.int k b)).run P w = .ok (dval x) w) : ∃ v, (binOp op t (.int k a) (.int k' b)).run P w = .ok v w ∧ DR w g.Z r v := by
  split at h
  · rename_i hk
    subst hk
    simp at h; subst h
    exact ⟨_, hrun, DR_dval hp⟩
  · cases h

theorem abin_int {op : BinOp} {k k' : IntKind} {a b : Int} {r : D} {t : TypeId} (h : abin .no op (.int k a) (.int k' b) = some r) :
    ∃ v, (binOp op t (.int k a) (.int k' b)).run P w = .ok v w ∧ DR w g.Z r v := by
  have ret : ∀ (v : Value) (hv : (binOp op t (.int k a) (.int k' b)).run P w = .ok v w), DR w g.Z r v → ∃ v, (binOp op t (.int k a) (.int k' b)).run P w = .ok v w ∧ DR w g.Z r v := fun v hv hd => ⟨v, hv, hd⟩
  cases op with
  | shl =>
    simp only [abin] at h
    split at h
    · cases h
    · rename_i h0
      simp at h; subst h
      exact ret (.int k (k.wrap (a * 2 ^ min b.toNat k.bits))) (by simp [binOp, Op.shift, h0]) (by simp [DR, DC])
  | shr =>
    simp only [abin] at h
    split at h
    · cases h
    · rename_i h0
      simp at h; subst h
      exact ret (.int k (a.fdiv (2 ^ min b.toNat k.bits))) (by simp [binOp, Op.shift, h0]) (by simp [DR, DC])
  | quo =>
    simp only [abin] at h
    split at h
    · rename_i hk
      subst hk
      split at h
      · cases h
      · rename_i h0
        simp at h; subst h
        exact ret (.int k (k.wrap (a.tdiv b))) (by simp [binOp, Op.intDiv, h0]) (by simp [DR, DC])
    · cases h
  | rem =>
    simp only [abin] at h
    split at h
    · rename_i hk
      subst hk
      split at h
      · cases h
      · rename_i h0
        simp at h; subst h
        exact ret (.int k (a.tmod b)) (by simp [binOp, Op.intDiv, h0]) (by simp [DR, DC])
    · cases h
  | add => exact abin_ar k k' (.int k (k.wrap (a + b))) rfl h (by simp [dval, binOp, Op.intArith])
  | sub => exact abin_ar k k' (.int k (k.wrap (a - b))) rfl h (by simp [dval, binOp, Op.intArith])
  | mul => exact abin_ar k k' (.int k (k.wrap (a * b))) rfl h (by simp [dval, binOp, Op.intArith])
  | and => exact abin_ar k k' (.int k (k.wrap (BitVec.ofInt k.bits a &&& BitVec.ofInt k.bits b).toNat)) rfl h (by simp [dval, binOp, Op.intBits])
  | or => exact abin_ar k k' (.int k (k.wrap (BitVec.ofInt k.bits a ||| BitVec.ofInt k.bits b).toNat)) rfl h (by simp [dval, binOp, Op.intBits])
  | xor => exact abin_ar k k' (.int k (k.wrap (BitVec.ofInt k.bits a ^^^ BitVec.ofInt k.bits b).toNat)) rfl h (by simp [dval, binOp, Op.intBits])
  | andNot => exact abin_ar k k' (.int k (k.wrap (BitVec.ofInt k.bits a &&& ~~~(BitVec.ofInt k.bits b)).toNat)) rfl h (by simp [dval, binOp, Op.intBits])
  | eql => exact abin_ar k k' (.bool (a == b)) rfl h (by simp [dval, binOp, Op.intCmp])
  | neq => exact abin_ar k k' (.bool (a != b)) rfl h (by simp [dval, binOp, Op.intCmp])
  | lss => exact abin_ar k k' (.bool (decide (a < b))) rfl h (by simp [dval, binOp, Op.intCmp])
  | leq => exact abin_ar k k' (.bool (decide (a ≤ b))) rfl h (by simp [dval, binOp, Op.intCmp])
  | gtr => exact abin_ar k k' (.bool (decide (a > b))) rfl h (by simp [dval, binOp, Op.intCmp])
  | geq => exact abin_ar k k' (.bool (decide (a ≥ b))) rfl h (by simp [dval, binOp, Op.intCmp])

theorem equal_succ (t : TypeId) (x y : Value) : Op.equal t x y = Op.equalIn (9999 + 1) t x y := rfl

theorem equal_bool {t : TypeId} (hu : P.underlying t = some .bool) (a b : Bool) : (Op.equal t (.bool a) (.bool b)).run P w = .ok (a == b) w := by
  rw [equal_succ]
  unfold Op.equalIn
  simp [run_underlying hu]

theorem equal_slice_nil {t e : TypeId} (hu : P.underlying t = some (.slice e)) (a : Option Addr) (len cap : Nat) : (Op.equal t (.slice a len cap) (.slice none 0 0)).run P w = .ok a.isNone w := by
  rw [equal_succ]
  unfold Op.equalIn
  cases a <;> simp [run_underlying hu]

theorem equal_pointer_nil {t e : TypeId} (hu : P.underlying t = some (.pointer e)) (a : Option Addr) : (Op.equal t (.pointer a) (.pointer none)).run P w = .ok a.isNone w := by
  rw [equal_succ]
  unfold Op.equalIn
  cases a <;> simp [run_underlying hu]

theorem equal_func_nil {t : TypeId} {p q : Array TypeId} {b : Bool} (hu : P.underlying t = some (.func p q b)) (f : Fn) (x y : Array Value) : (Op.equal t (.func f x y) .nilFunc).run P w = .ok false w := by
  rw [equal_succ]
  unfold Op.equalIn
  simp [run_underlying hu]

theorem equal_nil_func {t : TypeId} {p q : Array TypeId} {b : Bool} (hu : P.underlying t = some (.func p q b)) : (Op.equal t .nilFunc .nilFunc).run P w = .ok true w := by
  rw [equal_succ]
  unfold Op.equalIn
  simp [run_underlying hu]

theorem abin_bool {op : BinOp} {ty : Ty} {a b : Bool} {r : D} {t : TypeId} (hty : TyOK P t ty) (h : abin ty op (.bool a) (.bool b) = some r) :
    ∃ v, (binOp op t (.bool a) (.bool b)).run P w = .ok v w ∧ DR w g.Z r v := by
  simp only [abin] at h
  split at h
  · rename_i z
    obtain ⟨i, d, zv, _, _, _, hd, _, _, _, _, hb, _⟩ := hty
    have hu := hb z rfl
    subst hu
    simp at h; subst h
    exact ⟨.bool (a == b), by simp [binOp, equal_bool hd], by simp [DR, DC]⟩
  · rename_i z
    obtain ⟨i, d, zv, _, _, _, hd, _, _, _, _, hb, _⟩ := hty
    have hu := hb z rfl
    subst hu
    simp at h; subst h
    exact ⟨.bool (!(a == b)), by simp [binOp, equal_bool hd], by simp [DR, DC]⟩
  · cases h

theorem abin_str {op : BinOp} {a b : ByteArray} {r : D} {t : TypeId} (h : abin .no op (.str a) (.str b) = some r) :
    ∃ v, (binOp op t (.string a) (.string b)).run P w = .ok v w ∧ DR w g.Z r v := by
  cases op <;> simp only [abin] at h <;> try (cases h; done)
  case eql => simp at h; subst h; exact ⟨.bool (a == b), by simp [binOp, Op.stringOp, beq_toListBytes], by simp [DR, DC]⟩
  case neq => simp at h; subst h; exact ⟨.bool (!(a == b)), by simp [binOp, Op.stringOp, beq_toListBytes], by simp [DR, DC]⟩
  case lss => simp at h; subst h; exact ⟨.bool (Op.bytesLess a.toList b.toList), by simp [binOp, Op.stringOp], by simp [DR, DC]⟩
  case add =>
    split at h
    · rename_i hle
      simp at h; subst h
      refine ⟨.string (a ++ b), ?_, by simp [DR, DC]⟩
      have : ¬ ((a.size + b.size : Nat) : Int) > IntKind.i64.max := by
        have h9 : IntKind.i64.max = 9223372036854775807 := rfl
        rw [h9]
        omega
      simp only [binOp, Op.stringOp, if_neg this, Sem.run_pure]
    · cases h

theorem abin_agg {op : BinOp} {ty : Ty} {a b : List D} {r : D} {t : TypeId} (hty : TyOK P t ty) (h : abin ty op (.agg a) (.agg b) = some r) {xs ys : Array Value} (hx : DCs w g.Z a xs.toList) (hy : DCs w g.Z b ys.toList) :
    P.eqGuardType P.depth t = false ∧ ∃ v, (binOp op t (.agg xs) (.agg ys)).run P w = .ok v w ∧ DR w g.Z r v := by
  have key : ∀ z (heq : EqOK P t z) c, like z a = true → aeqs a b = some c → (op = .eql ∧ r = .bool c) ∨ (op = .neq ∧ r = .bool (!c)) → P.eqGuardType P.depth t = false ∧ ∃ v, (binOp op t (.agg xs) (.agg ys)).run P w = .ok v w ∧ DR w g.Z r v := by
    intro n heq c hn hc hop
    have := heq.2 w g.Z a b xs.toList ys.toList c hn hx hy hc
    simp only [Array.toArray_toList] at this
    rcases hop with ⟨rfl, rfl⟩ | ⟨rfl, rfl⟩
    · exact ⟨heq.1, .bool c, by simp [binOp, this], by simp [DR, DC]⟩
    · exact ⟨heq.1, .bool (!c), by simp [binOp, this], by simp [DR, DC]⟩
  simp only [abin] at h
  split at h <;> try (cases h; done)
  all_goals
    split at h
    · rename_i hn
      simp only [Option.map_eq_some_iff] at h
      obtain ⟨c, hc, rfl⟩ := h
      exact key _ (hty.1 rfl) c hn hc (by simp)
    · cases h

theorem VR_fn_shape {f : Fn} {a b : List V} {v : Value} (hx : VR g H w (.fn f a b) v) : ∃ f' x' y', v = .func f' x' y' := by
  cases f <;> simp only [VR] at hx <;> first
    | (obtain ⟨x', y', h, _⟩ := hx; exact ⟨_, x', y', h⟩)
    | (obtain ⟨_, _, _, _, _, _, _, _, _, _, _, h⟩ := hx; exact ⟨_, _, _, h⟩)

theorem nil_slx {cy : Value} (hy : VR g H w (.slx (some true) []) cy) : cy = .slice none 0 0 := by
  simp only [VR] at hy
  obtain ⟨a, rfl, ha, _⟩ := hy
  have : a = none := by simpa using ha
  subst this
  rfl

theorem anilr_sound {ty : Ty} {t : TypeId} (hty : TyOK P t ty) (hr : HR g H w) {x y : V} {cx cy : Value} (hx : VR g H w x cx) (hy : VR g H w y cy) {r : Bool} (h : anilr ty H x y = some r) :
    (Op.equal t cx cy).run P w = .ok r w ∧ (∀ (_ : cx = .nilIface), cy ≠ .nilIface) ∧ ∀ cs ds, cx = .agg cs → cy = .agg ds → P.eqGuardType P.depth t = false := by
  unfold anilr at h
  split at h
  · rename_i es z id n lo len
    obtain ⟨i, e, j, zv, _, _, _, hu, _⟩ := hty
    obtain rfl := nil_slx hy
    split at h
    · rename_i sz nl els he
      split at h
      · rename_i hn
        simp at h; subst h
        simp only [VR] at hx
        obtain ⟨_, sz', nl', els', e1, e2, e3⟩ := hx
        rw [he] at e1; cases e1
        obtain ⟨f1, f2⟩ := e3 hn
        rcases f2 with ⟨_, _, a, rfl, f3⟩ | ⟨b, cap, vs, t', f3, rfl, _⟩
        · refine ⟨?_, by simp, by simp⟩
          rw [equal_slice_nil hu]
          congr 1
          cases a <;> cases nl <;> simp_all
        · refine ⟨?_, by simp, by simp⟩
          rw [equal_slice_nil hu]
          obtain ⟨_, _, hnl, _⟩ := hr.blk id b _ f3 he
          simp [hnl]
      · cases h
    · cases h
  · unfold anil at h
    split at h
    · rename_i es z
      obtain ⟨i, e, j, zv, _, _, _, hu, _⟩ := hty
      obtain rfl := nil_slx hy
      split at h
      · rename_i nl l
        simp at h; subst h
        simp only [VR] at hx
        obtain ⟨a, rfl, h2, _⟩ := hx
        refine ⟨?_, by simp, by simp⟩
        rw [equal_slice_nil hu]
        have := h2 nl rfl
        congr 1
        cases a <;> cases nl <;> simp_all
      · simp at h; subst h
        simp only [VR] at hx
        obtain ⟨a, rfl, _, h3, _⟩ := hx
        refine ⟨?_, by simp, by simp⟩
        rw [equal_slice_nil hu]
        congr 1
        cases a <;> simp_all
      · rename_i d l
        simp at h; subst h
        simp only [VR, DR, DC] at hx
        obtain ⟨a, len, cap, h1, h2, h3, h4, _⟩ := hx
        simp at h1; subst h1
        refine ⟨?_, by simp, by simp⟩
        rw [equal_slice_nil hu]
        cases a with
        | none => have := h4 rfl; simp at h2; omega
        | some ad => rfl
      · cases h
    · obtain ⟨i, d, zv, _, _, _, hd, _, _, _, _, _, hp, _⟩ := hty
      obtain ⟨e, rfl⟩ := hp rfl
      simp only [VR, DR, DC] at hy
      simp at hy; subst hy
      split at h
      · simp at h; subst h
        simp only [VR] at hx
        obtain ⟨b, cs, _, _, rfl⟩ := hx
        exact ⟨by rw [equal_pointer_nil hd]; rfl, by simp, by simp⟩
      · simp at h; subst h
        simp only [VR] at hx
        obtain ⟨a, vs, rfl, _⟩ := hx
        exact ⟨by rw [equal_pointer_nil hd]; rfl, by simp, by simp⟩
      · simp at h; subst h
        simp only [VR, DR, DC] at hx
        simp at hx; subst hx
        exact ⟨by rw [equal_pointer_nil hd]; rfl, by simp, by simp⟩
      · cases h
    · obtain ⟨i, d, zv, _, _, _, hd, _, _, _, _, _, _, hf, _⟩ := hty
      obtain ⟨p, q, b, rfl⟩ := hf rfl
      simp only [VR, DR, DC] at hy
      simp at hy; subst hy
      split at h
      · simp at h; subst h
        obtain ⟨f', x', y', rfl⟩ := VR_fn_shape hx
        exact ⟨equal_func_nil hd _ _ _, by simp, by simp⟩
      · simp at h; subst h
        simp only [VR, DR, DC] at hx
        simp at hx; subst hx
        exact ⟨equal_nil_func hd, by simp, by simp⟩
      · cases h
    · cases h

theorem unOp_not (b : Bool) : (Op.unary .not (.bool b)).run P w = .ok (.bool (!b)) w := rfl
theorem unOp_neg (k : IntKind) (n : Int) : (Op.unary .neg (.int k n)).run P w = .ok (.int k (k.wrap (0 - n))) w := rfl


/-! ### Parts of values -/

theorem run_part_agg {t : TypeId} {d : TypeDesc} (h : P.underlying t = some d) (hd : scal d = false) {i : TypeInfo} (hi : P.info? t = some i) (cs : Array Value) (off : Nat) :
    (part t cs off).run P w = .ok (.agg (cs.extract off (off + i.size))) w := by
  unfold part
  simp [run_isAgg_true h hd, run_sizeOf hi]

theorem run_part_one {t : TypeId} {d : TypeDesc} (h : P.underlying t = some d) (hd : scal d = true) {cs : Array Value} {off : Nat} {v : Value} (hv : cs[off]? = some v) :
    (part t cs off).run P w = .ok v w := by
  unfold part
  simp [run_isAgg_false h hd, hv]

theorem extract_toList (cs : Array Value) (off n : Nat) : (cs.extract off (off + n)).toList = (cs.toList.drop off).take n := by
  simp [List.take_drop]

theorem partD_sound {t : TypeId} {ty : Ty} (hty : TyOK P t ty) {Z : Nat → Nat → Prop} {ds : List D} {cs : Array Value} (hd : DCs w Z ds cs.toList) {off : Nat} {r : D} (h : loadD ty (ds.drop off) = some r) :
    ∃ v, (part t cs off).run P w = .ok v w ∧ DR w Z r v := by
  have hdr := DCs_drop off _ _ hd
  have agg : ∀ (n : Nat) (i : TypeInfo) (d : TypeDesc), P.info? t = some i → i.size = n → P.underlying t = some d → scal d = false → r = .agg ((ds.drop off).take n) → ∃ v, (part t cs off).run P w = .ok v w ∧ DR w Z r v := by
    intro n i d hi hn hu hsc hr
    refine ⟨_, run_part_agg hu hsc hi cs off, ?_⟩
    rw [hr]
    exact ⟨_, rfl, by rw [extract_toList, hn]; exact DCs_take n _ _ hdr⟩
  have one : ∀ (d : TypeDesc), P.underlying t = some d → scal d = true → headD (ds.drop off) = some r → ∃ v, (part t cs off).run P w = .ok v w ∧ DR w Z r v := by
    intro d hu hsc hh
    cases hx : ds.drop off with
    | nil => rw [hx] at hh; simp [headD] at hh
    | cons x l =>
      rw [hx] at hh hdr
      simp only [DCs] at hdr
      obtain ⟨c, rest, h1, h2, _⟩ := hdr
      have hc : cs[off]? = some c := by
        have := congrArg (fun l => l[0]?) h1
        simpa using this
      refine ⟨c, run_part_one hu hsc hc, ?_⟩
      cases x <;> simp [headD] at hh <;> subst hh <;> exact h2
  cases ty with
  | no => simp [loadD] at h
  | sc z =>
    obtain ⟨i, d, zv, _, _, _, hu, hsc, _⟩ := hty
    exact one d hu hsc h
  | st n fs z cmp =>
    obtain ⟨_, i, zs, fields, hi, hn, _, hu, _⟩ := hty
    simp only [loadD] at h
    split at h
    · exact agg n i _ hi hn hu rfl (by simpa using h.symm)
    · cases h
  | ar m es el z cmp =>
    obtain ⟨_, i, zs, e, j, hi, hn, _, hu, _⟩ := hty
    simp only [loadD] at h
    split at h
    · exact agg (m * es) i _ hi hn hu rfl (by simpa using h.symm)
    · cases h
  | sl es z =>
    obtain ⟨i, e, j, zv, _, _, _, hu, _⟩ := hty
    exact one _ hu rfl h
  | mp kz z =>
    obtain ⟨⟨kt, et, kd, j, zv, hu, _⟩, _⟩ := hty
    exact one _ hu rfl h

theorem partV_sound {t : TypeId} {ty : Ty} (hty : TyOK P t ty) {ds : List V} {cs : Array Value} (hd : VRs g H w ds cs.toList) (ho : ∀ c ∈ ds, c.one = true) {off : Nat} {r : V} (h : loadV ty (ds.drop off) = some r) :
    ∃ v, (part t cs off).run P w = .ok v w ∧ VR g H w r v := by
  have hdr := VRs_drop off _ _ hd
  have agg : ∀ (n : Nat) (i : TypeInfo) (d : TypeDesc), P.info? t = some i → i.size = n → P.underlying t = some d → scal d = false → r = norm ((ds.drop off).take n) → ∃ v, (part t cs off).run P w = .ok v w ∧ VR g H w r v := by
    intro n i d hi hn hu hsc hr
    refine ⟨_, run_part_agg hu hsc hi cs off, ?_⟩
    rw [hr]
    have := norm_sound (fun c hc => ho c (List.mem_of_mem_drop (List.mem_of_mem_take hc))) (VRs_take n _ _ hdr)
    rw [hn]
    rwa [← extract_toList, Array.toArray_toList] at this
  have one : ∀ (d : TypeDesc), P.underlying t = some d → scal d = true → headV (ds.drop off) = some r → ∃ v, (part t cs off).run P w = .ok v w ∧ VR g H w r v := by
    intro d hu hsc hh
    cases hx : ds.drop off with
    | nil => rw [hx] at hh; simp [headV] at hh
    | cons x l =>
      rw [hx] at hh hdr
      simp only [VRs] at hdr
      obtain ⟨c, rest, h1, h2, _⟩ := hdr
      have hc : cs[off]? = some c := by
        have := congrArg (fun l => l[0]?) h1
        simpa using this
      simp [headV] at hh; subst hh
      exact ⟨c, run_part_one hu hsc hc, h2⟩
  cases ty with
  | no => simp [loadV] at h
  | sc z =>
    obtain ⟨i, d, zv, _, _, _, hu, hsc, _⟩ := hty
    exact one d hu hsc h
  | st n fs z cmp =>
    obtain ⟨_, i, zs, fields, hi, hn, _, hu, _⟩ := hty
    simp only [loadV] at h
    split at h
    · exact agg n i _ hi hn hu rfl (by simpa using h.symm)
    · cases h
  | ar m es el z cmp =>
    obtain ⟨_, i, zs, e, j, hi, hn, _, hu, _⟩ := hty
    simp only [loadV] at h
    split at h
    · exact agg (m * es) i _ hi hn hu rfl (by simpa using h.symm)
    · cases h
  | sl es z =>
    obtain ⟨i, e, j, zv, _, _, _, hu, _⟩ := hty
    exact one _ hu rfl h
  | mp kz z =>
    obtain ⟨⟨kt, et, kd, j, zv, hu, _⟩, _⟩ := hty
    exact one _ hu rfl h

end
end Go.Aw
end

section
namespace Go.Aw
open Go

section
variable {P : Program} {g : G} {H : Heap} {w : World} {K : V → Heap → Prop} {T : Nat → Ty}

theorem afield_sound (hT : TOK P T) {t : TypeId} {x r : V} {cx : Value} (hx : VR g H w x cx) {k : Nat} (h : afield T (T t) x k = some r) :
    ∃ v, (Instr.field t cx k).run P w = .ok v w ∧ VR g H w r v := by
  have hty := hT t
  cases hTt : T t with
  | st n fs z cmp =>
    rw [hTt] at h hty
    obtain ⟨_, ti, zs, fields, _, _, _, hu, _, _, _, hlen, hfs⟩ := hty
    simp only [afield] at h
    split at h
    · rename_i o s e ho
      have hlt : k < fields.size := by rw [← hlen]; exact lt_of_getElem? ho
      have hf := Array.getElem?_eq_getElem hlt
      obtain ⟨j, hj, h1, hz⟩ := hfs k fields[k] hf
      rw [ho] at h1
      simp at h1
      obtain ⟨rfl, rfl, rfl⟩ := h1
      split at h
      · rename_i cs
        simp only [Option.map_eq_some_iff] at h
        obtain ⟨d, h2, rfl⟩ := h
        simp only [VR, DR] at hx
        obtain ⟨vs, rfl, hd⟩ := hx
        obtain ⟨v, h3, h4⟩ := partD_sound (P := P) (hT _) hd h2
        exact ⟨v, by simp [Instr.field, run_underlying hu, hf, asAgg, h3], h4⟩
      · rename_i cs
        split at h
        · rename_i hone
          simp only [VR] at hx
          obtain ⟨vs, rfl, hd⟩ := hx
          obtain ⟨v, h3, h4⟩ := partV_sound (P := P) (hT _) hd (List.all_eq_true.1 hone) h
          exact ⟨v, by simp [Instr.field, run_underlying hu, hf, asAgg, h3], h4⟩
        · cases h
      · cases h
    · cases h
  | _ => rw [hTt] at h; simp [afield] at h

theorem aindex_sound (hT : TOK P T) {t : TypeId} {x i r : V} {cx ci : Value} (hx : VR g H w x cx) (hi : VR g H w i ci) (h : aindex T (T t) x i = some r) :
    ∃ v, (Instr.index t cx ci).run P w = .ok v w ∧ VR g H w r v := by
  have hty := hT t
  unfold aindex at h
  split at h
  · rename_i cs k n
    simp only [VR, DR, DC] at hx hi
    simp at hi; subst hi
    obtain ⟨vs, rfl, hd⟩ := hx
    split at h
    · rename_i len es e z cmp hTt
      rw [hTt] at hty
      obtain ⟨_, ti, zs, e', j, _, _, _, hu, ⟨rfl, hj⟩, hes, _⟩ := hty
      split at h
      · rename_i hn
        simp only [Option.map_eq_some_iff] at h
        obtain ⟨d, h2, rfl⟩ := h
        obtain ⟨v, h3, h4⟩ := partD_sound (P := P) (hT _) hd h2
        exact ⟨v, by simp [Instr.index, run_asIntOf, run_underlying hu, hn.1, hn.2, run_sizeOf hj, hes, h3], h4⟩
      · cases h
    · cases h
  · rename_i cs k n
    simp only [VR, DR, DC] at hx hi
    simp at hi; subst hi
    obtain ⟨vs, rfl, hd⟩ := hx
    split at h
    · rename_i len es e z cmp hTt
      rw [hTt] at hty
      obtain ⟨_, ti, zs, e', j, _, _, _, hu, ⟨rfl, hj⟩, hes, _⟩ := hty
      split at h
      · rename_i hn
        obtain ⟨v, h3, h4⟩ := partV_sound (P := P) (hT _) hd (List.all_eq_true.1 hn.2.2) h
        exact ⟨v, by simp [Instr.index, run_asIntOf, run_underlying hu, hn.1, hn.2.1, run_sizeOf hj, hes, h3], h4⟩
      · cases h
    · cases h
  · rename_i s k n
    simp only [VR, DR, DC] at hx hi
    simp at hi hx; subst hi; subst hx
    split at h
    · rename_i z hTt
      rw [hTt] at hty
      obtain ⟨ti, d, zv, _, _, _, hu, _, _, _, _, _, _, _, hs⟩ := hty
      have := hs _ rfl
      subst this
      split at h
      · rename_i b hb
        simp at h; subst h
        refine ⟨.int .u8 b.toNat, ?_, by simp [VR, DR, DC]⟩
        unfold Instr.index
        simp only [Sem.run_bind, run_asIntOf, Result.andThen_ok, run_underlying hu]
        simp only [hb]
        rfl
      · cases h
    · cases h
  · cases h

theorem convert_int {s t : TypeId} {z : Int} {kd k : IntKind} {n : Int} (hs : ∃ d, P.underlying s = some d) (hT : TyOK P t (.sc (.int kd z))) :
    (convert s t (.int k n)).run P w = .ok (.int kd (kd.wrap n)) w := by
  obtain ⟨ti, d, zv, _, _, _, hu, _, _, _, hd, _⟩ := hT
  have := hd _ _ rfl
  subst this
  obtain ⟨ds, hds⟩ := hs
  unfold convert
  simp only [Sem.run_bind, run_underlying hu, run_underlying hds, Result.andThen_ok]
  rfl

theorem run_getMap {r : Nat} {es : Array MapEntry} {c : Nat} (h : w.heap[r]? = some (.map es c)) : (getObj r).run P w = .ok (.map es c) w := by
  simp [getObj, Sem.run, h]

theorem run_getIter {r : Nat} {m : Option Nat} {n k : Nat} {s : Array Nat} (h : w.heap[r]? = some (.mapIter m n s k)) : (getObj r).run P w = .ok (.mapIter m n s k) w := by
  simp [getObj, Sem.run, h]

theorem MR_len {Z : Nat → Nat → Prop} : ∀ (es : List (D × D)) (k : Nat) (l : List MapEntry), MR w Z k es l → l.length = es.length
  | [], _, l, h => by simp only [MR] at h; subst h; rfl
  | p :: r, k, l, h => by
    obtain ⟨e, l', rfl, _, _, _, h5⟩ := h
    simp [MR_len r (k + 1) l' h5]

theorem alen_sound {t rt : TypeId} {ty : Ty} (hT : TyOK P t ty) (hr : HR g H w) {x : V} {cx : Value} (hx : VR g H w x cx) {n : Nat} (h : alen ty H x = some n) :
    (Builtin.len_ #[t] rt #[cx]).run P w = .ok (.int .i64 n) w := by
  have sl : ∀ (e : TypeId) (a : Option Addr) (cap : Nat), P.underlying t = some (.slice e) → (Builtin.len_ #[t] rt #[.slice a n cap]).run P w = .ok (.int .i64 n) w := by
    intro e a cap hu
    simp [Builtin.len_, run_underlying hu, goInt]
  unfold alen at h
  split at h
  · rename_i es z l
    obtain ⟨i, e, j, zv, _, _, _, hu, _⟩ := hT
    simp at h; subst h
    simp only [VR, DR, DC] at hx
    obtain ⟨a, len, cap, h1, h2, _⟩ := hx
    simp at h1; subst h1; subst h2
    exact sl e a cap hu
  · rename_i es z nl l
    obtain ⟨i, e, j, zv, _, _, _, hu, _⟩ := hT
    simp at h; subst h
    simp only [VR] at hx
    obtain ⟨a, rfl, _⟩ := hx
    exact sl e a _ hu
  · rename_i es z id es' len
    obtain ⟨i, e, j, zv, _, _, _, hu, _⟩ := hT
    simp at h; subst h
    simp only [VR] at hx
    obtain ⟨b, cs, cap, _, _, _, rfl, _⟩ := hx
    exact sl e _ _ hu
  · rename_i z s
    obtain ⟨ti, d, zv, _, _, _, hu, _, _, _, _, _, _, _, hs⟩ := hT
    have := hs _ rfl
    subst this
    simp at h; subst h
    simp only [VR, DR, DC] at hx
    simp at hx; subst hx
    simp [Builtin.len_, run_underlying hu, goInt]
  · rename_i es z id m lo len
    obtain ⟨i, e, j, zv, _, _, _, hu, _⟩ := hT
    split at h
    · rename_i sz nl els he
      split at h
      · rename_i hm
        simp at h; subst h
        simp only [VR] at hx
        obtain ⟨_, sz', nl', els', e1, e2, e3⟩ := hx
        rw [he] at e1; cases e1
        obtain ⟨f1, f2⟩ := e3 hm
        rcases f2 with ⟨f2, _, a, rfl, _⟩ | ⟨b, cap, vs, t', _, rfl, _⟩
        · have := f2.2.1
          subst this
          simp at hm
          have h0 : len = 0 := by omega
          subst h0
          exact sl e a 0 hu
        · exact sl e _ cap hu
      · cases h
    · cases h
  · rename_i kz z id
    obtain ⟨⟨kt, et, kd, j, zv, hu, _⟩, _⟩ := hT
    split at h
    · rename_i es he
      simp only [Option.some.injEq] at h; subst h
      simp only [VR] at hx
      obtain ⟨b, o, h1, h2, rfl⟩ := hx
      rw [he] at h1; cases h1
      obtain ⟨_, _, ents, k1, k2⟩ := hr.blk id b _ h2 he
      have hl := MR_len es 0 ents.toList k2
      simp only [Array.length_toList] at hl
      simp [Builtin.len_, run_underlying hu, goInt, run_getMap k1, AObj.kind, hl]
    · cases h
  · cases h

theorem amin_sound {x y r : D} {cx cy : Value} (hx : DR w g.Z x cx) (hy : DR w g.Z y cy) (h : amin x y = some r) : ∃ v, (Builtin.min2 cx cy).run P w = .ok v w ∧ DR w g.Z r v := by
  unfold amin at h
  split at h
  · rename_i k a k' b
    split at h
    · rename_i hk
      subst hk
      simp at h; subst h
      simp only [DR, DC] at hx hy
      simp at hx hy; subst hx; subst hy
      refine ⟨.int k (if b < a then b else a), by simp [Builtin.min2], ?_⟩
      simp only [DR, DC]
      congr 2
      split <;> omega
    · cases h
  · cases h

theorem amax_sound {x y r : D} {cx cy : Value} (hx : DR w g.Z x cx) (hy : DR w g.Z y cy) (h : amax x y = some r) : ∃ v, (Builtin.max2 cx cy).run P w = .ok v w ∧ DR w g.Z r v := by
  unfold amax at h
  split at h
  · rename_i k a k' b
    split at h
    · rename_i hk
      subst hk
      simp at h; subst h
      simp only [DR, DC] at hx hy
      simp at hx hy; subst hx; subst hy
      refine ⟨.int k (if b > a then b else a), by simp [Builtin.max2], ?_⟩
      simp only [DR, DC]
      congr 2
      split <;> omega
    · cases h
  · cases h

theorem foldD_sound {f : D → D → Option D} {f' : Value → Value → Sem Value} (hf : ∀ x y r cx cy, DR w g.Z x cx → DR w g.Z y cy → f x y = some r → ∃ v, (f' cx cy).run P w = .ok v w ∧ DR w g.Z r v) :
    ∀ (l : List V) (cl : List Value) (x r : V) (cx : Value), VR g H w x cx → VRs g H w l cl → foldD f x l = some r → ∃ v, (cl.foldlM f' cx).run P w = .ok v w ∧ VR g H w r v
  | [], cl, x, r, cx, hx, hl, h => by
    simp [VRs] at hl; subst hl
    cases x <;> simp [foldD] at h
    subst h
    exact ⟨cx, rfl, hx⟩
  | y :: l, cl, x, r, cx, hx, hl, h => by
    simp only [VRs] at hl
    obtain ⟨cy, cl', rfl, hy, hl'⟩ := hl
    cases x with
    | d a =>
      cases y with
      | d b =>
        simp only [foldD] at h
        split at h
        · rename_i z hz
          obtain ⟨v, h1, h2⟩ := hf a b z cx cy hx hy hz
          obtain ⟨v', h3, h4⟩ := foldD_sound hf l cl' (.d z) r v h2 hl' h
          refine ⟨v', ?_, h4⟩
          simp only [List.foldlM_cons, Sem.run_bind, h1, Result.andThen_ok]
          exact h3
        · cases h
      | _ => simp [foldD] at h
    | _ => simp [foldD] at h

theorem ges_sound {E : Env} {a : Act} (he : ER g H w E a.tmps) : ∀ (l : List Operand), VRs g H w (l.map (ge E)) (l.map a.eval)
  | [] => rfl
  | x :: l => ⟨_, _, rfl, ge_sound he x, ges_sound he l⟩

/-! ### make -/

theorem i64_wrap {n : Int} (h0 : -9223372036854775808 ≤ n) (h1 : n ≤ 9223372036854775807) : IntKind.i64.wrap n = n := Go.IntWalk.i64_in n ⟨h0, h1⟩

theorem AR_zero {Z : Nat → Nat → Prop} {z : D} {zv : Value} {es n : Nat} (hz : DC w Z z zv.cells.toList) (hl : (dcells z).length = es) (h1 : 1 ≤ es) :
    AR w Z es (List.replicate n z) ((Array.range (n * es)).map (fun q => zv.cells[q % zv.cells.size]!)).toList := by
  have hzs : zv.cells.size = es := by have := DC_length hz; simp at this; omega
  refine ⟨by simp, fun i x hx => ?_⟩
  have hi := lt_of_getElem? hx
  simp at hi
  have hxz : x = z := by
    rw [List.getElem?_replicate] at hx
    simp [hi] at hx
    exact hx.symm
  subst hxz
  refine ⟨hl, ?_⟩
  have : ((((Array.range (n * es)).map (fun q => zv.cells[q % zv.cells.size]!)).toList.drop (i * es)).take es) = zv.cells.toList := by
    apply List.ext_getElem?
    intro q
    rw [chunk_get]
    by_cases hq : q < es
    · have hle : (i + 1) * es ≤ n * es := Nat.mul_le_mul_right _ hi
      rw [Nat.add_mul, Nat.one_mul] at hle
      rw [if_pos hq, Array.getElem?_toList, Array.getElem?_map, Array.getElem?_range, if_pos (by omega)]
      simp only [Option.map_some, hzs]
      rw [show (i * es + q) % es = q by rw [Nat.mul_comm, Nat.mul_add_mod, Nat.mod_eq_of_lt hq], Array.getElem?_toList, getElem!_pos zv.cells q (by omega), Array.getElem?_eq_getElem (by omega)]
    · rw [if_neg hq, List.getElem?_eq_none (by simp; omega)]
  rw [this]
  exact hz

theorem VRs_rep {g : G} {H : Heap} {l : List V} {cs : List Value} (h : VRs g H w l cs) (h1 : 1 ≤ cs.length) : ∀ n, VRs g H w (rep n l) ((List.range (n * cs.length)).map fun q => cs[q % cs.length]!)
  | 0 => by simp [rep, VRs]
  | n + 1 => by
    have e1 : rep (n + 1) l = l ++ rep n l := by simp [rep, List.replicate_succ]
    have e2 : (List.range ((n + 1) * cs.length)).map (fun q => cs[q % cs.length]!) = cs ++ (List.range (n * cs.length)).map fun q => cs[q % cs.length]! := by
      rw [show (n + 1) * cs.length = cs.length + n * cs.length by rw [Nat.add_mul]; omega, List.range_add, List.map_append, List.map_map]
      congr 1
      · apply List.ext_getElem
        · simp
        · intro i h2 h3
          simp only [List.length_map, List.length_range] at h2
          simp only [List.getElem_map, List.getElem_range, Nat.mod_eq_of_lt h2]
          rw [getElem!_pos cs i h2]
      · apply List.map_congr_left
        intro q _
        simp
    rw [e1, e2]
    exact VRs_append _ _ _ _ h (VRs_rep h h1 n)

theorem makeSlice_sound {t : TypeId} {es : Nat} {z : D} (hty : TyOK P t (.sl es z)) {k k' : IntKind} {n : Int} (h0 : 0 ≤ n) (h1 : n ≤ 4294967296) :
    ∃ e vs, (Instr.makeSlice t (.int k n) (.int k' n)).run P w = .ok (.slice (some ⟨w.heap.size, 0, none⟩) n.toNat n.toNat) (w.alloc (.cells vs e)) ∧ (∀ Z, AR w Z es (List.replicate n.toNat z) vs.toList) ∧ vs.size = n.toNat * es ∧ ∀ g H w, VRs g H w (rep n.toNat (zcells z)) vs.toList := by
  obtain ⟨i, e, j, zv, _, _, _, hu, hj, hes, hes1, hby, hz, ⟨hzd, hzc⟩, hzl⟩ := hty
  refine ⟨e, (Array.range (n.toNat * es)).map (fun q => zv.cells[q % zv.cells.size]!), ?_, fun Z => AR_zero (hzd w Z) hzl hes1, by simp, fun g H w' => ?_⟩
  rotate_left
  · have hsz : zv.cells.toList.length = es := by have := DC_length (hzd w fun _ _ => True); omega
    have := VRs_rep (hzc g H w') (by omega) n.toNat
    simp only [Array.getElem!_toList, Array.length_toList] at this hsz
    rw [← hsz]
    simpa only [Array.toList_map, Array.toList_range] using this
  have hw : IntKind.i64.wrap n = n := i64_wrap (by omega) (by omega)
  have hb : ¬ ((j.bytes : Int) * n > 2 ^ 48) := by
    have h2 : (j.bytes : Int) * n ≤ 4096 * 4294967296 := Int.mul_le_mul (by omega) h1 h0 (by omega)
    have : (2 : Int) ^ 48 = 281474976710656 := rfl
    omega
  have h3 : decide (n < 0) = false := by simp; omega
  have hb' : decide ((j.bytes : Int) * n > 2 ^ 48) = false := by simp only [decide_eq_false_iff_not]; exact hb
  have key : (Instr.makeSlice t (.int k n) (.int k' n)).run P w = ((do
      let nn := n.toNat * (← sizeOf e)
      let zero ← if nn = 0 then pure #[] else do pure (← zeroValue e).cells
      let a ← newRow e ((Array.range nn).map (zero[· % zero.size]!))
      pure (.slice (some a) n.toNat n.toNat) : Sem Value)).run P w := by
    unfold Instr.makeSlice
    simp only [Sem.run_bind, run_underlying hu, Result.andThen_ok, asInt, run_asIntOf, run_typeInfo hj, hw, h3, hb', Bool.or_false, Bool.false_or, Sem.run_pure]
    simp only [show decide (n > n) = false from by simp, Bool.false_eq_true, if_false, Sem.run_bind, run_askRoom, Result.andThen_ok]
  rw [key]
  simp only [Sem.run_bind, run_sizeOf hj, hes, Result.andThen_ok]
  by_cases hn : n.toNat * es = 0
  · have hz0 : ∀ f : Nat → Value, (Array.range 0).map f = #[] := fun f => by simp
    simp only [hn, if_true, Sem.run_bind, Sem.run_pure, Result.andThen_ok, hz0]
    rfl
  · simp only [hn, if_false, Sem.run_bind, run_zeroValue hj hz, Result.andThen_ok, Sem.run_pure]
    rfl

end
end Go.Aw
end

section
namespace Go.Aw
open Go

/-- What a slice holds, whatever its memory: its elements' cells, one after another. -/
structure Row (w : World) (Z : Nat → Nat → Prop) (es : Nat) (l : List D) (a : Option Addr) (len cap : Nat) (vs : List Value) : Prop where
  hlen : len = l.length
  hcap : len ≤ cap
  hnil : a = none → cap = 0
  spot : ∀ ad, a = some ad → l ≠ [] → ad.spot = none
  vlen : vs.length = l.length * es
  cell : ∀ ad, a = some ad → ∀ q, q < vs.length → w.cell? ⟨ad.block, ad.off + q, none⟩ = vs[q]?
  ar : AR w Z es l vs

section
variable {P : Program} {g : G} {H : Heap} {w : World} {K : V → Heap → Prop}

theorem sized_get {es : Nat} {l : List D} (h : sized es l = true) {i : Nat} {x : D} (hx : l[i]? = some x) : (dcells x).length = es := by
  have := List.all_eq_true.1 h x (List.mem_of_getElem? hx)
  simpa using this

theorem row_of {Z : Nat → Nat → Prop} {es : Nat} {l : List D} {a : Option Addr} {len cap : Nat} (h1 : len = l.length) (h2 : len ≤ cap) (h3 : a = none → cap = 0) (hs : sized es l = true)
    (h4 : ∀ ad, a = some ad → (l ≠ [] → ad.spot = none) ∧ ∃ sz, ∀ i x, l[i]? = some x → ∃ cs : List Value, cs.length = sz ∧ (∀ j, j < sz → w.cell? ⟨ad.block, ad.off + i * sz + j, none⟩ = cs[j]?) ∧ DC w Z x cs) :
    ∃ vs, Row w Z es l a len cap vs := by
  cases a with
  | none =>
    have h0 : l = [] := by have := h3 rfl; exact List.length_eq_zero_iff.1 (by omega)
    subst h0
    exact ⟨[], h1, h2, h3, by simp, by simp, by simp, by simp, by simp⟩
  | some ad =>
    obtain ⟨hsp, sz, hel⟩ := h4 ad rfl
    have hsz : ∀ i x, l[i]? = some x → sz = es := fun i x hx => by
      obtain ⟨cs, k1, _, k3⟩ := hel i x hx
      rw [← k1, DC_length k3, sized_get hs hx]
    have hcells : ∀ q, q < l.length * es → ∃ v, w.cell? ⟨ad.block, ad.off + q, none⟩ = some v := by
      intro q hq
      have hes : 0 < es := by
        rcases Nat.eq_zero_or_pos es with h0 | h0
        · rw [h0] at hq; omega
        · exact h0
      have hi : q / es < l.length := Nat.div_lt_of_lt_mul (by rw [Nat.mul_comm]; exact hq)
      have hx := List.getElem?_eq_getElem hi
      have he := hsz _ _ hx
      subst he
      obtain ⟨cs, k1, k2, _⟩ := hel _ _ hx
      have hj : q % sz < sz := Nat.mod_lt _ hes
      have := k2 (q % sz) hj
      rw [show ad.off + q / sz * sz + q % sz = ad.off + q by rw [Nat.add_assoc, Nat.mul_comm (q / sz) sz, Nat.div_add_mod], List.getElem?_eq_getElem (by omega)] at this
      exact ⟨_, this⟩
    refine ⟨(List.range (l.length * es)).map fun q => (w.cell? ⟨ad.block, ad.off + q, none⟩).getD undef, h1, h2, h3, fun ad' h hne => by cases h; exact hsp hne, by simp, fun ad' h q hq => ?_, by simp, fun i x hx => ?_⟩
    · cases h
      simp at hq
      obtain ⟨v, hv⟩ := hcells q hq
      simp [hq, hv]
    · have he := hsz _ _ hx
      subst he
      have hi := lt_of_getElem? hx
      obtain ⟨cs, k1, k2, k3⟩ := hel i x hx
      refine ⟨by rw [← DC_length k3, k1], ?_⟩
      have : ((((List.range (l.length * sz)).map fun q => (w.cell? ⟨ad.block, ad.off + q, none⟩).getD undef).drop (i * sz)).take sz) = cs := by
        apply List.ext_getElem?
        intro q
        rw [chunk_get]
        by_cases hq : q < sz
        · have hle : (i + 1) * sz ≤ l.length * sz := Nat.mul_le_mul_right _ hi
          rw [Nat.add_mul, Nat.one_mul] at hle
          have hc := k2 q hq
          rw [if_pos hq, List.getElem?_map, List.getElem?_range (by omega)]
          rw [Nat.add_assoc] at hc
          simp only [Option.map_some, hc]
          rw [List.getElem?_eq_getElem (by omega)]
          rfl
        · rw [if_neg hq, List.getElem?_eq_none (by omega)]
      rw [this]
      exact k3

theorem DCe_cells {Z : Nat → Nat → Prop} {l : List D} {b o sz : Nat} (h : DCe w Z l b o sz) : ∀ i x, l[i]? = some x → ∃ cs : List Value, cs.length = sz ∧ (∀ j, j < sz → w.cell? ⟨b, o + i * sz + j, none⟩ = cs[j]?) ∧ DC w Z x cs :=
  fun i x hx => by
    obtain ⟨cs, k1, k2, k3⟩ := DCe_get l b o sz i x h hx
    exact ⟨cs, k1, fun j hj => (k2 j hj).2, k3⟩

/-- The elements that are there now. -/
theorem content_row (hr : HR g H w) {es : Nat} {x : V} {cx : Value} (hx : VR g H w x cx) {l : List D} (h : content H x = some l) (hs : sized es l = true) :
    ∃ a len cap vs, cx = .slice a len cap ∧ Row w g.Z es l a len cap vs := by
  unfold content at h
  split at h
  · simp at h; subst h
    simp only [VR, DR, DC] at hx
    obtain ⟨a, len, cap, h1, h2, h3, h4, h5⟩ := hx
    simp at h1
    obtain ⟨vs, hvs⟩ := row_of (w := w) (Z := g.Z) h2 h3 h4 hs (fun ad ha => ⟨(h5 ad ha).1, (h5 ad ha).2.choose, DCe_cells (h5 ad ha).2.choose_spec⟩)
    exact ⟨a, len, cap, vs, h1, hvs⟩
  · simp at h; subst h
    simp only [VR] at hx
    obtain ⟨a, h1, _, h3, h5⟩ := hx
    obtain ⟨vs, hvs⟩ := row_of (w := w) (Z := g.Z) rfl (Nat.le_refl _) (fun ha => by simp [h3 ha]) hs (fun ad ha => ⟨(h5 ad ha).1, (h5 ad ha).2.choose, DCe_cells (h5 ad ha).2.choose_spec⟩)
    exact ⟨a, _, _, vs, h1, hvs⟩
  · rename_i id n lo len
    split at h
    · rename_i sz nl els he
      split at h
      · rename_i hn
        simp at h; subst h
        simp only [VR] at hx
        obtain ⟨_, sz', nl', els', e1, e2, e3⟩ := hx
        rw [he] at e1; cases e1
        obtain ⟨f1, f2⟩ := e3 hn
        rcases f2 with ⟨f2, f3, a, rfl, _⟩ | ⟨b, cap, vs, t', f2, rfl, f4, f5, f6⟩
        · have := f2.2.1
          subst this
          exact ⟨a, 0, 0, [], rfl, by simp, Nat.le_refl _, fun _ => rfl, fun ad ha hne => by simp at hne, by simp, by simp, by simp, by simp⟩
        · obtain ⟨_, _, _, vs', t'', hw, hal, har⟩ := hr.blk id b _ f2 he
          obtain ⟨vs, hvs⟩ := row_of (w := w) (Z := g.Z) (es := es) (l := (els.drop lo).take len) (a := some ⟨b, lo * sz, none⟩) (len := len) (cap := cap) (by simp; omega) f5 (fun h => by cases h) hs (fun ad ha => by
            cases ha
            refine ⟨fun _ => rfl, sz, fun i x hx => ?_⟩
            rw [List.getElem?_take] at hx
            split at hx
            · rename_i hi
              rw [List.getElem?_drop] at hx
              obtain ⟨k1, k2⟩ := har _ _ hx
              refine ⟨_, by rw [DC_length k2, k1], fun j hj => ?_, k2⟩
              rw [chunk_get, if_pos hj, cell_of_block hw, Array.getElem?_toList]
              congr 1
              rw [Nat.add_mul]
            · cases hx)
          exact ⟨_, _, _, vs, rfl, hvs⟩
      · cases h
    · cases h
  · cases h

theorem run_firstCells {Z : Nat → Nat → Prop} {es : Nat} {l : List D} {a : Option Addr} {len cap : Nat} {vs : List Value} (h : Row w Z es l a len cap vs) :
    (Builtin.firstCells es len (.slice a len cap)).run P w = .ok vs.toArray w := by
  cases a with
  | none =>
    have h0 : l.length = 0 := by have := h.hnil rfl; have := h.hcap; have := h.hlen; omega
    have hv : vs = [] := by
      have := h.vlen
      rw [h0, Nat.zero_mul] at this
      exact List.length_eq_zero_iff.1 this
    subst hv
    rfl
  | some ad =>
    simp only [Builtin.firstCells]
    rw [show len * es = vs.length by rw [h.vlen, h.hlen]]
    by_cases hl : l = []
    · subst hl
      have hv : vs = [] := by
        have := h.vlen
        simp at this
        exact this
      subst hv
      rfl
    · exact run_loadCells (h.spot ad rfl hl) vs (h.cell ad rfl)

theorem append_grow {t u rt e : TypeId} {i : TypeInfo} {z : Value} (ht : P.underlying t = some (.slice e)) (hu : ∃ e', P.underlying u = some (.slice e')) (hi : P.info? e = some i) (hz : i.zero = some z) (hby : i.bytes ≤ 4096)
    {Z : Nat → Nat → Prop} {l ys : List D} {a a2 : Option Addr} {len cap len2 cap2 : Nat} {vs vs2 : List Value} (h : Row w Z i.size l a len cap vs) (h2 : Row w Z i.size ys a2 len2 cap2 vs2)
    (hlt : cap < len + len2) (hmax : len + len2 ≤ 4294967296) :
    ∃ nc rest, len + len2 ≤ nc ∧ rest.length = (nc - (len + len2)) * z.cells.size ∧
    (Builtin.append_ #[t, u] rt #[.slice a len cap, .slice a2 len2 cap2]).run P w = .ok (.slice (some ⟨w.heap.size, 0, none⟩) (len + len2) nc) (w.drew.alloc (.cells (vs ++ vs2 ++ rest).toArray e)) := by
  obtain ⟨e', hu⟩ := hu
  have hb : (len + len2) * i.bytes ≤ 140737488355328 := by
    have : (len + len2) * i.bytes ≤ 4294967296 * 4096 := Nat.mul_le_mul hmax hby
    omega
  have hfit := growslice_fits (need := len + len2) (old := cap) (bytes := i.bytes) hlt hb
  have hfit' : ¬ (Builtin.nextslicecap (len + len2) cap * i.bytes > 2 ^ 48) := by
    have : (2 : Nat) ^ 48 = 281474976710656 := rfl
    omega
  have h63 : ¬ (((len + len2 : Nat) : Int) > IntKind.i64.max) := by
    have : IntKind.i64.max = 9223372036854775807 := rfl
    rw [this]; omega
  let nc := Question.cut (.appendCap (len + len2) cap e) (w.tape w.drawn (.appendCap (len + len2) cap e))
  have hnc : len + len2 ≤ nc := Nat.le_add_right _ _
  refine ⟨nc, (Builtin.zeroCells z.cells (nc - (len + len2))).toList, hnc, by simp [Builtin.zeroCells], ?_⟩
  have r1 := run_firstCells (P := P) h
  have r2 := run_firstCells (P := P) h2
  have hd : ∀ {Z' : Nat → Nat → Prop} {l' : List D} {a' : Option Addr} {n' c' : Nat} {vs' : List Value}, Row w Z' i.size l' a' n' c' vs' → (Builtin.firstCells i.size n' (.slice a' n' c')).run P w.drew = .ok vs'.toArray w.drew := by
    intro Z' l' a' n' c' vs' hh
    refine run_firstCells (Z := fun _ _ => True) ⟨hh.hlen, hh.hcap, hh.hnil, hh.spot, hh.vlen, hh.cell, hh.ar.1, fun q x hx => ⟨(hh.ar.2 q x hx).1, ?_⟩⟩
    exact DC_mono (w := w) (w' := w.drew) (Z := Z') (fun b o _ => ⟨trivial, rfl⟩) _ _ (hh.ar.2 q x hx).2
  have hneed : ¬ (len + len2 ≤ cap) := by omega
  have h63' : ¬ (9223372036854775807 < ((len : Int) + (len2 : Int))) := by omega
  have h48' : ¬ (281474976710656 < Builtin.nextslicecap (len + len2) cap * i.bytes) := by omega
  have hf := hd h
  have hf2 := hd h2
  simp [Builtin.append_, run_underlying ht, run_underlying hu, sizeOf, typeInfo, zeroValue, hi, hz, Builtin.lenOf, hneed, h63', h48', Question.forced, hf, hf2, newRow, nc]
  congr 2
  apply Array.ext'
  simp

theorem append_fits {t u rt e : TypeId} {i : TypeInfo} (ht : P.underlying t = some (.slice e)) (hu : ∃ e', P.underlying u = some (.slice e')) (hi : P.info? e = some i)
    {Z : Nat → Nat → Prop} {ys : List D} {a a2 : Option Addr} {len cap len2 cap2 : Nat} {vs2 : List Value} (h2 : Row w Z i.size ys a2 len2 cap2 vs2) (hle : len + len2 ≤ cap) :
    (Builtin.append_ #[t, u] rt #[.slice a len cap, .slice a2 len2 cap2]).run P w =
      ((do if let some ad := a then Go.storeCells (ad.add (len * i.size)) vs2
           pure (.slice a (len + len2) cap) : Sem Value)).run P w := by
  obtain ⟨e', hu⟩ := hu
  have r2 := run_firstCells (P := P) h2
  cases a <;> simp [Builtin.append_, run_underlying ht, run_underlying hu, sizeOf, typeInfo, hi, Builtin.lenOf, hle, r2]

/-- A row of the abstract heap grows: in its block, or in a new one. -/
theorem grow_arr (hr : HR g H w) {id sz : Nat} {nl : Bool} {els els' : List D} (hx : H[id]? = some (.arr sz nl els)) {b : Nat} {w' : World} {vs : Array Value} {t : TypeId}
    (hos : w'.os = w.os) (ht : w'.tape = w.tape) (hu : w'.output = w.output) (hsz : w.heap.size ≤ w'.heap.size) (hbl : b < w'.heap.size)
    (hold : g.φ[id]? = some (some b) ∨ w.heap.size ≤ b)
    (hb : w'.heap[b]? = some (.cells vs t (0, 0))) (hoth : ∀ k, k < w.heap.size → k ≠ b → w'.heap[k]? = w.heap[k]?) (hlen : els.length < els'.length)
    (har : Zk g.Z g.Z w w' → AR w' g.Z sz els' vs.toList) :
    HR ⟨g.Z, g.φ.set id (some b)⟩ (H.set id (.arr sz false els')) w' ∧ Kp g w ⟨g.Z, g.φ.set id (some b)⟩ w' ∧ Ag g H w ⟨g.Z, g.φ.set id (some b)⟩ (H.set id (.arr sz false els')) w' := by
  have hzb : ∀ o, ¬ g.Z b o := fun o z => by
    rcases hold with h | h
    · exact hr.z_fr h z
    · have := hr.zlt b o z; omega
  have hz : Zk g.Z g.Z w w' := fun k o z => ⟨z, World.cell?_of_block (w := w) (hoth k (hr.zlt k o z) (fun e => hzb o (e ▸ z)))⟩
  have hlt := lt_of_getElem? hx
  have hltφ : id < g.φ.length := by rw [hr.len]; exact hlt
  have hset : (H.set id (.arr sz false els'))[id]? = some (.arr sz false els') := by rw [List.getElem?_set_self hlt]
  have hne : ∀ j, j ≠ id → (H.set id (.arr sz false els'))[j]? = H[j]? := fun j hj => List.getElem?_set_ne (fun e => hj e.symm)
  have hsφ : (g.φ.set id (some b))[id]? = some (some b) := by rw [List.getElem?_set_self hltφ]
  have hnφ : ∀ j, j ≠ id → (g.φ.set id (some b))[j]? = g.φ[j]? := fun j hj => List.getElem?_set_ne (fun e => hj e.symm)
  have hdiff : ∀ (j b' : Nat), j ≠ id → g.φ[j]? = some (some b') → b' ≠ b := fun j b' hj hp e => by
    rcases hold with h | h
    · exact hj (hr.inj j id b (e ▸ hp) h)
    · have := hr.lt hp; omega
  have ha : Ag g H w ⟨g.Z, g.φ.set id (some b)⟩ (H.set id (.arr sz false els')) w' := by
    intro j y hy
    by_cases hj : j = id
    · subst hj
      rw [hx] at hy; cases hy
      exact ⟨false, els', hset, by omega, fun e => by omega⟩
    · cases y with
      | cells cs => exact ⟨⟨cs, (hne j hj).trans hy, rfl⟩, hnφ j hj⟩
      | arr sz2 nl2 els2 =>
        refine ⟨nl2, els2, (hne j hj).trans hy, Nat.le_refl _, fun _ => ⟨rfl, hnφ j hj, fun b' vs' t' hb' hw => ⟨vs', ?_, rfl⟩⟩⟩
        rw [hoth b' (hr.lt hb') (hdiff j b' hj hb')]; exact hw
      | loop st pend E ps y z => exact ⟨⟨st, pend, (hne j hj).trans hy⟩, hnφ j hj⟩
      | obj o => exact ⟨⟨o, (hne j hj).trans hy, rfl⟩, hnφ j hj⟩
  refine ⟨⟨by simp [hr.len], fun k o z => Nat.lt_of_lt_of_le (hr.zlt k o z) hsz, fun j b' y hb' hy => ?_, fun i j b' hi hj => ?_⟩,
    ⟨hos, ht, hu, hsz, fun k hk hn => hoth k hk (fun e => ?_), fun _ _ z => z, fun _ _ z => .inl z, fun j b' hb' => ?_⟩, ha⟩
  · by_cases hj : j = id
    · subst hj
      rw [hsφ] at hb'; cases hb'
      rw [hset] at hy; cases hy
      exact ⟨hbl, hzb, rfl, vs, t, hb, har hz⟩
    · simp only at hb'
      rw [hnφ j hj] at hb'
      rw [hne j hj] at hy
      obtain ⟨h1, h2, h3⟩ := hr.blk j b' y hb' hy
      exact ⟨Nat.lt_of_lt_of_le h1 hsz, h2, BR_mono (g' := ⟨g.Z, g.φ.set id (some b)⟩) hz ha (hoth b' h1 (hdiff j b' hj hb')) h3⟩
  · by_cases h1 : i = id <;> by_cases h2 : j = id
    · omega
    · subst h1
      rw [hsφ] at hi; cases hi
      simp only at hj
      rw [hnφ j h2] at hj
      exact absurd rfl (hdiff j _ h2 hj)
    · subst h2
      rw [hsφ] at hj; cases hj
      simp only at hi
      rw [hnφ i h1] at hi
      exact absurd rfl (hdiff i _ h1 hi)
    · simp only at hi hj
      rw [hnφ i h1] at hi
      rw [hnφ j h2] at hj
      exact hr.inj i j b' hi hj
  · rcases hold with h | h
    · exact hn id (e ▸ h)
    · omega
  · by_cases hj : j = id
    · subst hj
      simp only at hb'
      rw [hsφ] at hb'; cases hb'
      rcases hold with h | h
      · exact .inl h
      · exact .inr h
    · simp only at hb'
      rw [hnφ j hj] at hb'
      exact .inl hb'

theorem AR_append {Z : Nat → Nat → Prop} {es : Nat} {l ys : List D} {vs vs2 rest : List Value} (h1 : AR w Z es l vs) (hl : vs.length = l.length * es) (h2 : AR w Z es ys vs2) (hl2 : vs2.length = ys.length * es) :
    AR w Z es (l ++ ys) (vs ++ vs2 ++ rest) := by
  refine ⟨by simp [Nat.add_mul]; omega, fun i x hx => ?_⟩
  rw [List.getElem?_append] at hx
  split at hx
  · rename_i hi
    obtain ⟨k1, k2⟩ := h1.2 i x hx
    refine ⟨k1, ?_⟩
    have hle : (i + 1) * es ≤ l.length * es := Nat.mul_le_mul_right _ hi
    rw [Nat.add_mul, Nat.one_mul] at hle
    have : ((vs ++ vs2 ++ rest).drop (i * es)).take es = (vs.drop (i * es)).take es := by
      apply List.ext_getElem?
      intro q
      rw [chunk_get, chunk_get]
      by_cases hq : q < es
      · rw [if_pos hq, if_pos hq, List.append_assoc, List.getElem?_append_left (by omega)]
      · rw [if_neg hq, if_neg hq]
    rw [this]; exact k2
  · rename_i hi
    obtain ⟨k1, k2⟩ := h2.2 _ x hx
    refine ⟨k1, ?_⟩
    have hlt := lt_of_getElem? hx
    have hle : (i - l.length + 1) * es ≤ ys.length * es := Nat.mul_le_mul_right _ hlt
    rw [Nat.add_mul, Nat.one_mul] at hle
    have hi2 : i * es = l.length * es + (i - l.length) * es := by
      rw [← Nat.add_mul]; congr 1; omega
    have : ((vs ++ vs2 ++ rest).drop (i * es)).take es = (vs2.drop ((i - l.length) * es)).take es := by
      apply List.ext_getElem?
      intro q
      rw [chunk_get, chunk_get]
      by_cases hq : q < es
      · rw [if_pos hq, if_pos hq, List.append_assoc, List.getElem?_append_right (by omega), List.getElem?_append_left (by omega)]
        congr 1
        omega
      · rw [if_neg hq, if_neg hq]
    rw [this]; exact k2

theorem AR_mono {Z Z' : Nat → Nat → Prop} {w' : World} (hz : Zk Z Z' w w') {es : Nat} {l : List D} {vs : List Value} (h : AR w Z es l vs) : AR w' Z' es l vs :=
  ⟨h.1, fun i x hx => ⟨(h.2 i x hx).1, DC_mono hz _ _ (h.2 i x hx).2⟩⟩

end
end Go.Aw
end

section
namespace Go.Aw
open Go

section
variable {P : Program} {g : G} {H : Heap} {w : World} {K : V → Heap → Prop}

theorem Row.mono {Z Z' : Nat → Nat → Prop} {es : Nat} {l : List D} {a : Option Addr} {len cap : Nat} {vs : List Value} (h : Row w Z es l a len cap vs) : Row w Z es l a len cap vs := h

theorem post_kp {g1 : G} {w1 : World} (k1 : Kp g w g1 w1) (a1 : Ag g H w g1 H w1) {res : Result Next} (h : OpPost g1 H w1 K res) : OpPost g H w K res := by
  obtain ⟨cv, w', g', v, H', h1, h2, h3, h4, h5, h6⟩ := h
  exact ⟨cv, w', g', v, H', h1, h2, h3, h4, k1.trans h5, a1.trans h6⟩

theorem val_run {s : Sem Value} {v : Value} {w' : World} (h : s.run P w = .ok v w') : ((do pure (.value (← s)) : Sem Next)).run P w = .ok (.value v) w' := by
  simp only [Sem.run_bind, h, Result.andThen_ok, Sem.run_pure]

/-- A slice in new memory that is never written again. -/
theorem frozen_post (hr : HR g H w) {l : List D} {vs : Array Value} (t : TypeId) {es : Nat} (h : AR w g.Z es l vs.toList) {cap : Nat} (hc : l.length ≤ cap) {res : Result Next}
    (hres : res = .ok (.value (.slice (some ⟨w.heap.size, 0, none⟩) l.length cap)) (w.alloc (.cells vs t)))
    (hK : K (.d (.sl l)) H ∨ (cap = l.length ∧ K (.slx (some false) l) H)) : OpPost g H w K res := by
  obtain ⟨g', h1, h2, h3, h4, h5⟩ := frozen_row hr t h
  rcases hK with hK | ⟨rfl, hK⟩
  · refine ⟨_, _, g', _, H, .inl hres, hK, ?_, h1, h2, h3⟩
    simp only [VR, DR, DC]
    exact ⟨_, _, _, rfl, rfl, hc, (fun h => nomatch h), fun ad ha => by cases ha; exact ⟨fun _ => rfl, es, h5⟩⟩
  · refine ⟨_, _, g', _, H, .inl hres, hK, ?_, h1, h2, h3⟩
    simp only [VR]
    exact ⟨_, rfl, (fun b hb => by cases hb; simp), (fun h => nomatch h), fun ad ha => by cases ha; exact ⟨fun _ => rfl, es, h5⟩⟩

theorem row_post (hr : HR g H w) {l : List D} {vs : Array Value} (t : TypeId) {es : Nat} (h : AR w g.Z es l vs.toList) {cap : Nat} (hc : l.length ≤ cap) (hcs : cap * es ≤ vs.size) {res : Result Next}
    (hres : res = .ok (.value (.slice (some ⟨w.heap.size, 0, none⟩) l.length cap)) (w.alloc (.cells vs t)))
    (hK : K (.ref H.length l.length 0 l.length) (H ++ [.arr es false l])) : OpPost g H w K res := by
  obtain ⟨h1, h2, h3, h4⟩ := new_row hr t h
  exact ⟨_, _, _, _, _, .inl hres, hK, h4 cap hc hcs, h1, h2, h3⟩

theorem drew_post (hr : HR g H w) {res : Result Next} (h : HR g H w.drew → Kp g w g w.drew → OpPost g H w.drew K res) : OpPost g H w K res := by
  obtain ⟨h1, h2, h3⟩ := same_heap (w := w) (w' := w.drew) (g := g) (H := H) rfl rfl rfl rfl hr
  exact post_kp h2 h3 (h h1 h2)

theorem zk_drew (hr : HR g H w) : Zk g.Z g.Z w w.drew := fun _ _ z => ⟨z, rfl⟩

theorem nil_post (hr : HR g H w) {es : Nat} {nl : Bool} {a : Option Addr} (ha : a = none ↔ nl = true) {res : Result Next} (hres : res = .ok (.value (.slice a 0 0)) w)
    (hK : K (.ref H.length 0 0 0) (H ++ [.arr es nl []])) : OpPost g H w K res := by
  obtain ⟨h1, h2, h3⟩ := alloc_nil hr es nl
  refine ⟨_, _, _, _, _, .inl hres, hK, ?_, h1, h2, h3⟩
  simp only [VR]
  refine ⟨⟨_, _, _, rfl⟩, es, nl, [], by simp, Nat.le_refl _, fun _ => ⟨Nat.le_refl _, .inl ⟨⟨by rw [← hr.len]; simp, rfl, trivial⟩, by simp, a, rfl, ha⟩⟩⟩

mutual
theorem DC_cell {w : World} {Z : Nat → Nat → Prop} : ∀ (x : D) (cs : List Value), DC w Z x cs → ∀ c ∈ cs, c.oneCell' = true
  | .bool _, cs, h, c, hc => by simp only [DC] at h; subst h; simp at hc; subst hc; rfl
  | .int _ _, cs, h, c, hc => by simp only [DC] at h; subst h; simp at hc; subst hc; rfl
  | .str _, cs, h, c, hc => by simp only [DC] at h; subst h; simp at hc; subst hc; rfl
  | .nilp, cs, h, c, hc => by simp only [DC] at h; subst h; simp at hc; subst hc; rfl
  | .nilf, cs, h, c, hc => by simp only [DC] at h; subst h; simp at hc; subst hc; rfl
  | .nilm, cs, h, c, hc => by simp only [DC] at h; subst h; simp at hc; subst hc; rfl
  | .agg l, cs, h, c, hc => DCs_cell l cs (by simpa only [DC] using h) c hc
  | .sl l, cs, h, c, hc => by
    simp only [DC] at h
    obtain ⟨a, len, cap, rfl, _⟩ := h
    simp at hc; subst hc; rfl
theorem DCs_cell {w : World} {Z : Nat → Nat → Prop} : ∀ (l : List D) (cs : List Value), DCs w Z l cs → ∀ c ∈ cs, c.oneCell' = true
  | [], cs, h, c, hc => by simp only [DCs] at h; subst h; simp at hc
  | d :: ds, cs, h, c, hc => by
    simp only [DCs] at h
    obtain ⟨v, r, rfl, h2, h3⟩ := h
    rcases List.mem_cons.1 hc with rfl | hc
    · exact DC_cell d _ h2 c List.mem_cons_self
    · exact DCs_cell ds r h3 c hc
end

theorem AR_cell {w : World} {Z : Nat → Nat → Prop} {es : Nat} {l : List D} {vs : List Value} (h : AR w Z es l vs) (hl : vs.length = l.length * es) : ∀ v ∈ vs, v.oneCell' = true := by
  intro v hv
  obtain ⟨q, hq, hqv⟩ := List.getElem_of_mem hv
  have hes : 0 < es := by
    rcases Nat.eq_zero_or_pos es with h0 | h0
    · rw [h0] at hl; omega
    · exact h0
  have hi : q / es < l.length := Nat.div_lt_of_lt_mul (by rw [Nat.mul_comm]; omega)
  have hd := (h.2 _ _ (List.getElem?_eq_getElem hi)).2
  refine DC_cell _ _ hd v ?_
  have hq2 : q % es < es := Nat.mod_lt _ hes
  have hget : ((vs.drop (q / es * es)).take es)[q % es]? = some v := by
    rw [chunk_get, if_pos hq2, Nat.mul_comm (q / es) es, Nat.div_add_mod, List.getElem?_eq_getElem hq, hqv]
  exact List.mem_of_getElem? hget

theorem AR_take {w : World} {Z : Nat → Nat → Prop} {es : Nat} {l : List D} {vs : List Value} (h : AR w Z es l vs) : AR w Z es l (vs.take (l.length * es)) := by
  refine ⟨by have := h.1; simp; omega, fun i x hx => ⟨(h.2 i x hx).1, ?_⟩⟩
  have hi := lt_of_getElem? hx
  have hle : (i + 1) * es ≤ l.length * es := Nat.mul_le_mul_right _ hi
  rw [Nat.add_mul, Nat.one_mul] at hle
  have : ((vs.take (l.length * es)).drop (i * es)).take es = (vs.drop (i * es)).take es := by
    apply List.ext_getElem?
    intro q
    rw [chunk_get, chunk_get]
    by_cases hq : q < es
    · rw [if_pos hq, if_pos hq, List.getElem?_take_of_lt (by omega)]
    · rw [if_neg hq, if_neg hq]
  rw [this]; exact (h.2 i x hx).2

theorem append_ref {t u rt e : TypeId} {j : TypeInfo} {zv : Value} (hr : HR g H w) (hu1 : P.underlying t = some (.slice e)) (hu' : ∃ e', P.underlying u = some (.slice e')) (hj : P.info? e = some j) (hz : j.zero = some zv)
    (hby : j.bytes ≤ 4096) (hes1 : 1 ≤ j.size) (hzs : zv.cells.size = j.size) {id len : Nat} {nl : Bool} {els ys : List D} (he : H[id]? = some (.arr j.size nl els)) (hn : els.length = len) (hmax : len + ys.length ≤ 4294967296)
    {cb : Value} (hb : VR g H w (.ref id len 0 len) cb) {a2 : Option Addr} {len2 cap2 : Nat} {vs2 : List Value} (hrow2 : Row w g.Z j.size ys a2 len2 cap2 vs2)
    (h : K (.ref id (len + ys.length) 0 (len + ys.length)) (H.set id (.arr j.size (nl && ys.isEmpty) (els ++ ys)))) :
    OpPost g H w K ((do pure (.value (← Builtin.append_ #[t, u] rt #[cb, .slice a2 len2 cap2])) : Sem Next).run P w) := by
  have hl2 := hrow2.hlen
  have hidlt := lt_of_getElem? he
  have hcont : content H (.ref id len 0 len) = some els := by
    simp only [content, he, hn, if_true, List.drop_zero]
    rw [List.take_of_length_le (by omega)]
  have hb' := hb
  simp only [VR] at hb'
  obtain ⟨_, sz', nl', els', e1, e2, e3⟩ := hb'
  rw [he] at e1; cases e1
  obtain ⟨f1, f2⟩ := e3 hn
  have hels : sized j.size els = true := by
    rcases f2 with ⟨f2, _⟩ | ⟨b, cap, vs, t', f2, _⟩
    · rw [f2.2.1]; rfl
    · obtain ⟨_, _, _, vs', t'', hw, _, har⟩ := hr.blk id b _ f2 he
      refine List.all_eq_true.2 fun x hx => ?_
      obtain ⟨q, hq, hqx⟩ := List.getElem_of_mem hx
      have := (har q x (by rw [List.getElem?_eq_getElem hq, hqx])).1
      simpa using this
  obtain ⟨a, len', cap, vs, rfl, hrow⟩ := content_row hr hb hcont hels
  obtain rfl : len' = els.length := hrow.hlen
  by_cases h0 : ys = []
  · subst h0
    simp at hl2; subst hl2
    have hv2 : vs2 = [] := by have := hrow2.vlen; simpa using this
    subst hv2
    have hcl := hrow.hcap
    have hrun : (Builtin.append_ #[t, u] rt #[.slice a els.length cap, .slice a2 0 cap2]).run P w = .ok (.slice a els.length cap) w := by
      rw [append_fits hu1 hu' hj hrow2 (by omega)]
      cases a <;> simp [Go.storeCells]
    refine post_same hr (val_run hrun) ?_ hb
    simp only [List.length_nil, Nat.add_zero, List.isEmpty_nil, Bool.and_true, List.append_nil] at h
    rwa [show H.set id (.arr j.size nl els) = H from by
      apply List.ext_getElem?
      intro q
      by_cases hq : q = id
      · subst hq; rw [List.getElem?_set_self hidlt, he]
      · rw [List.getElem?_set_ne (fun e => hq e.symm)]] at h
  · have hpos : 0 < ys.length := by
      rcases Nat.eq_zero_or_pos ys.length with h' | h'
      · exact absurd (List.length_eq_zero_iff.1 h') h0
      · exact h'
    have hne : ys.isEmpty = false := by cases ys <;> simp_all
    rw [hne, Bool.and_false] at h
    subst hn
    by_cases hfit : els.length + len2 ≤ cap
    · -- in place
      rcases f2 with ⟨f2, _, a', f3, _⟩ | ⟨b, cap', vs0, t', f2, f3, f4, f5, f6⟩
      · simp at f3; omega
      · simp at f3
        obtain ⟨rfl, rfl⟩ := f3
        obtain ⟨hbl, hbz, hnl, vs1, t1, hw1, hal1⟩ := hr.blk id b _ f2 he
        rw [f4] at hw1; cases hw1
        have hfitc : (els.length + ys.length) * j.size ≤ vs0.size := by
          have : (els.length + ys.length) * j.size ≤ (0 + cap) * j.size := Nat.mul_le_mul_right _ (by omega)
          omega
        have hv2 := hrow2.vlen
        have hone : ∀ v ∈ vs2, v.oneCell' = true := AR_cell hrow2.ar hv2
        obtain ⟨w', k1, k2⟩ := run_storeCells (P := P) (a := ⟨b, els.length * j.size, none⟩) rfl vs2 0 w vs0 hone f4 (by
          rw [Nat.add_mul] at hfitc; simp only; omega)
        obtain ⟨nv, k3, k4⟩ := k2.self
        have hrun : (Builtin.append_ #[t, u] rt #[.slice (some ⟨b, 0, none⟩) els.length cap, .slice a2 len2 cap2]).run P w = .ok (.slice (some ⟨b, 0, none⟩) (els.length + ys.length) cap) w' := by
          rw [append_fits hu1 hu' hj hrow2 hfit]
          have hadd : (⟨b, 0, none⟩ : Addr).add (els.length * j.size) = ⟨b, els.length * j.size, none⟩ := by
            rw [add_eq rfl]; simp
          simp only [Sem.run_bind, hadd, k1, Result.andThen_ok, Sem.run_pure, hl2]
        obtain ⟨r1, r2, r3⟩ := grow_arr hr he (els' := els ++ ys) k2.os k2.tape k2.out (Nat.le_of_eq k2.size.symm) (by rw [k2.size]; exact hbl) (.inl f2) k3 (fun k _ hk => k2.oth k hk) (by simp; omega) (fun hz => by
          rw [k4]
          simp only [Nat.add_zero]
          have := AR_append (rest := vs0.toList.drop (els.length * j.size + vs2.length)) (AR_take hal1) (by simp only [List.length_take, Array.length_toList]; have := hal1.1; simp only [Array.length_toList] at this; omega) hrow2.ar hv2
          exact AR_mono hz this)
        refine ⟨_, _, _, _, _, .inl (val_run hrun), h, ?_, r1, r2, r3⟩
        simp only [VR]
        refine ⟨⟨_, _, _, rfl⟩, j.size, false, els ++ ys, by rw [List.getElem?_set_self hidlt], by simp, fun _ => ⟨by omega, .inr ⟨b, cap, nv, t', ?_, by simp, k3, by omega, ?_⟩⟩⟩
        · rw [List.getElem?_set_self (by rw [hr.len]; exact hidlt)]
        · have : nv.size = vs0.size := by
            rw [← Array.length_toList, k4, length_splice (by simp; rw [Nat.add_mul] at hfitc; omega)]; simp
          omega
    · -- in a new block
      obtain ⟨nc, rest, hnc, hrl, hrun⟩ := append_grow (t := t) (u := u) (rt := rt) hu1 hu' hj hz hby hrow hrow2 (by omega) (by omega)
      refine drew_post hr fun hr' _ => ?_
      have har := AR_append (rest := rest) hrow.ar hrow.vlen hrow2.ar hrow2.vlen
      obtain ⟨r1, r2, r3⟩ := grow_arr (w' := w.drew.alloc (.cells (vs ++ vs2 ++ rest).toArray e)) hr' he (els' := els ++ ys) (b := w.heap.size) rfl rfl rfl (by simp) (by simp) (.inr (Nat.le_refl _)) (alloc_new _ _)
        (fun k hk hkb => alloc_heap _ _ k hk) (by simp; omega) (fun hz => AR_mono (w := w) (fun b o z => ⟨z, (hz b o z).2⟩) har)
      rw [hl2] at hnc hrl
      have hrun' := hrun.trans (by rw [hl2] : _ = .ok (.slice (some ⟨w.heap.size, 0, none⟩) (els.length + ys.length) nc) (w.drew.alloc (.cells (vs ++ vs2 ++ rest).toArray e)))
      refine ⟨_, _, _, _, _, .inl (val_run hrun'), h, ?_, r1, r2, r3⟩
      simp only [VR]
      refine ⟨⟨_, _, _, rfl⟩, j.size, false, els ++ ys, by rw [List.getElem?_set_self hidlt], by simp, fun _ => ⟨by omega, .inr ⟨w.heap.size, nc, (vs ++ vs2 ++ rest).toArray, e, ?_, by simp, alloc_new _ _, hnc, ?_⟩⟩⟩
      · rw [List.getElem?_set_self (by rw [hr.len]; exact hidlt)]
      · have h1 := hrow.vlen
        have h3 := hrow2.vlen
        simp only [List.size_toArray, List.length_append, h1, h3, hrl, hzs]
        rw [← Nat.add_mul, ← Nat.add_mul]
        exact Nat.mul_le_mul_right _ (by omega)

theorem aappend_sound {t u rt : TypeId} {ty ty2 : Ty} (hT : TyOK P t ty) (hu : ∃ es z, ty2 = .sl es z) (hT2 : TyOK P u ty2) (hr : HR g H w) {hin : Bool} {base x : V} {cb cx : Value}
    (hb : VR g H w base cb) (hx : VR g H w x cx) (h : aappend ty hin H base x K) :
    OpPost g H w K ((do pure (.value (← Builtin.append_ #[t, u] rt #[cb, cx])) : Sem Next).run P w) := by
  obtain ⟨es2, z2, rfl⟩ := hu
  obtain ⟨_, e2, _, _, _, _, _, hu2, _⟩ := hT2
  have hu' : ∃ e', P.underlying u = some (.slice e') := ⟨e2, hu2⟩
  unfold aappend at h
  split at h
  case h_2 => exact h.elim
  rename_i es z ys hc
  obtain ⟨i, e, j, zv, _, _, _, hu1, hj, rfl, hes1, hby, hz, ⟨hzd, hzc⟩, hzl⟩ := hT
  have hzs : zv.cells.size = j.size := by have := DC_length (hzd w g.Z); simp at this; omega
  split at h
  case h_2 => exact h.elim
  rename_i hys
  obtain ⟨a2, len2, cap2, vs2, rfl, hrow2⟩ := content_row hr hx hc hys
  have hl2 := hrow2.hlen
  split at h
  · -- a slice whose capacity is its length
    rename_i nl l
    split at h
    case h_2 => exact h.elim
    rename_i hcond
    simp only [Bool.and_eq_true, decide_eq_true_eq] at hcond
    obtain ⟨hsl, hmax⟩ := hcond
    obtain ⟨a, len, cap, vs, hcb, hrow⟩ := content_row hr hb (l := l) rfl hsl
    have hb' := hb
    simp only [VR] at hb'
    obtain ⟨a', hcb', hnl, hnil, hel⟩ := hb'
    rw [hcb'] at hcb
    simp at hcb
    obtain ⟨rfl, rfl, rfl⟩ := hcb
    subst hcb'
    by_cases h0 : ys = []
    · subst h0
      simp at hl2; subst hl2
      have hv2 : vs2 = [] := by have := hrow2.vlen; simpa using this
      subst hv2
      have hrun : (Builtin.append_ #[t, u] rt #[.slice a' l.length l.length, .slice a2 0 cap2]).run P w = .ok (.slice a' l.length l.length) w := by
        rw [append_fits hu1 hu' hj hrow2 (by omega)]
        cases a' <;> simp [Go.storeCells]
      split at h
      · split at h
        · rename_i b
          refine nil_post hr (es := j.size) (nl := b) (a := a') (hnl b rfl) (val_run hrun) ?_
          simpa using h
        · exact h.elim
      · refine post_same hr (val_run hrun) h ?_
        simp only [VR, DR, DC, List.append_nil]
        exact ⟨a', _, _, rfl, rfl, Nat.le_refl _, fun ha => by simp [hnil ha], hel⟩
    · have hpos : 0 < ys.length := by
        rcases Nat.eq_zero_or_pos ys.length with h' | h'
        · exact absurd (List.length_eq_zero_iff.1 h') h0
        · exact h'
      obtain ⟨nc, rest, hnc, hrl, hrun⟩ := append_grow (t := t) (u := u) (rt := rt) hu1 hu' hj hz hby hrow hrow2 (by omega) (by omega)
      refine drew_post hr fun hr' _ => ?_
      have har : AR w.drew g.Z j.size (l ++ ys) (vs ++ vs2 ++ rest).toArray.toList := AR_mono (zk_drew hr) (AR_append hrow.ar hrow.vlen hrow2.ar hrow2.vlen)
      have hlen : l.length + len2 = (l ++ ys).length := by simp [hl2]
      split at h
      · split at h
        · rename_i b
          have hne : ys.isEmpty = false := by cases ys <;> simp_all
          rw [hne, Bool.and_false] at h
          have hrun' := hrun.trans (by simp [hl2] : _ = .ok (.slice (some ⟨w.heap.size, 0, none⟩) ys.length nc) (w.drew.alloc (.cells (vs ++ vs2 ++ rest).toArray e)))
          simp only [List.length_nil, Nat.zero_add, List.nil_append] at hlen har hnc hrl
          rw [hl2] at hnc hrl
          refine row_post hr' e har hnc ?_ (val_run hrun') h
          have h1 := hrow.vlen
          have h3 := hrow2.vlen
          simp only [List.length_nil, Nat.zero_mul] at h1
          simp only [List.size_toArray, List.length_append, h1, h3, hrl, hzs]
          rw [Nat.zero_add, ← Nat.add_mul]
          exact Nat.le_of_eq (by congr 1; omega)
        · exact h.elim
      · have hrun' := hrun.trans (by rw [hlen] : _ = .ok (.slice (some ⟨w.heap.size, 0, none⟩) (l ++ ys).length nc) (w.drew.alloc (.cells (vs ++ vs2 ++ rest).toArray e)))
        rw [hlen] at hnc
        exact frozen_post hr' e har hnc (val_run hrun') (.inl h)
  · -- a row of the abstract heap
    rename_i id n lo len
    split at h
    case h_2 => exact h.elim
    rename_i sz nl els he
    split at h
    case h_2 => exact h.elim
    rename_i hcond
    simp only [Bool.and_eq_true, decide_eq_true_eq] at hcond
    obtain ⟨⟨⟨⟨hn, rfl⟩, rfl⟩, rfl⟩, hmax⟩ := hcond
    exact append_ref hr hu1 hu' hj hz hby hes1 hzs he hn hmax hb hrow2 h
  · exact h.elim

end
end Go.Aw
end

section
namespace Go.Aw
open Go

theorem DCe_drop {w : World} {Z : Nat → Nat → Prop} : ∀ (n : Nat) (l : List D) (b o sz : Nat), DCe w Z l b o sz → DCe w Z (l.drop n) b (o + n * sz) sz
  | 0, _, _, _, _, h => by simpa using h
  | n + 1, [], _, _, _, _ => by simp [DCe]
  | n + 1, d :: ds, b, o, sz, h => by
    simp only [DCe] at h
    have := DCe_drop n ds b (o + sz) sz h.2
    rw [show o + (n + 1) * sz = o + sz + n * sz by rw [Nat.add_mul]; omega]
    simpa using this

theorem DCe_take {w : World} {Z : Nat → Nat → Prop} : ∀ (n : Nat) (l : List D) (b o sz : Nat), DCe w Z l b o sz → DCe w Z (l.take n) b o sz
  | 0, _, _, _, _, _ => by simp [DCe]
  | n + 1, [], _, _, _, _ => by simp [DCe]
  | n + 1, d :: ds, b, o, sz, h => by
    simp only [DCe] at h
    simp only [List.take_succ_cons, DCe]
    exact ⟨h.1, DCe_take n ds b (o + sz) sz h.2⟩

section
variable {P : Program} {g : G} {H : Heap} {w : World} {K : V → Heap → Prop}

theorem bound_sound {E : Env} {a : Act} (he : ER g H w E a.tmps) {x : Option Operand} {n m : Nat} (h : bound? E x n = some m) :
    (x = none ∧ m = n) ∨ ∃ y k, x = some y ∧ a.eval y = .int k m := by
  cases x with
  | none => simp [bound?] at h; exact .inl ⟨rfl, h.symm⟩
  | some y =>
    simp only [bound?] at h
    split at h
    · rename_i k q hq
      split at h
      · rename_i h0
        simp at h; subst h
        have := ge_sound he y
        rw [hq] at this
        simp only [VR, DR, DC] at this
        simp at this
        exact .inr ⟨y, k, rfl, by rw [this]; congr 1; omega⟩
      · cases h
    · cases h

theorem sliceBound_run {k : IntKind} {m n : Nat} (h : m ≤ n) (c : BoundsCode) : (Instr.sliceBound (.int k m) n c).run P w = .ok m w := by
  unfold Instr.sliceBound
  simp [run_asIntOf, h]

/-- The bounds of a slice expression without a third one. -/
theorem sliceBounds_two {E : Env} {a : Act} (he : ER g H w E a.tmps) (isS : Bool) {len cap l h dl : Nat} {lo hi : Option Operand} (hlo : bound? E lo 0 = some l) (hhi : bound? E hi dl = some h) (hdl : dl = len) (h1 : l ≤ h) (h2 : h ≤ cap) :
    (Instr.sliceBounds isS len cap (lo.map a.eval) (hi.map a.eval) none).run P w = .ok (l, h, cap) w := by
  subst hdl
  unfold Instr.sliceBounds
  rcases bound_sound he hlo with ⟨rfl, rfl⟩ | ⟨y, k, rfl, hy⟩ <;> rcases bound_sound he hhi with ⟨rfl, rfl⟩ | ⟨y', k', rfl, hy'⟩ <;>
    simp [*, sliceBound_run]

theorem sliceBounds_three {E : Env} {a : Act} (he : ER g H w E a.tmps) (isS : Bool) {len cap l h dl : Nat} {lo hi : Option Operand} {mx : Operand} (hlo : bound? E lo 0 = some l) (hhi : bound? E hi dl = some h) (hne : ∃ y, hi = some y) (hm : bound? E (some mx) 0 = some h) (h1 : l ≤ h) (h2 : h ≤ cap) :
    (Instr.sliceBounds isS len cap (lo.map a.eval) (hi.map a.eval) (some (a.eval mx))).run P w = .ok (l, h, h) w := by
  obtain ⟨y0, rfl⟩ := hne
  unfold Instr.sliceBounds
  rcases bound_sound he hm with ⟨hf, _⟩ | ⟨ym, km, hym, hm'⟩
  · cases hf
  · cases hym
    rcases bound_sound he hlo with ⟨rfl, rfl⟩ | ⟨y, k, rfl, hy⟩ <;> rcases bound_sound he hhi with ⟨hf, _⟩ | ⟨y', k', hyy, hy'⟩
    · cases hf
    · cases hyy
      simp [*, sliceBound_run]
    · cases hf
    · cases hyy
      simp [*, sliceBound_run]

/-- What a slice of frozen data is. -/
theorem frozen_content {x : V} {cx : Value} (hx : VR g H w x cx) {s : List D} (h : (∃ l, x = .d (.sl l) ∧ l = s) ∨ ∃ nl, x = .slx nl s) :
    ∃ a cap, cx = .slice a s.length cap ∧ s.length ≤ cap ∧ (a = none → cap = 0) ∧ ∀ ad, a = some ad → (s ≠ [] → ad.spot = none) ∧ ∃ sz, DCe w g.Z s ad.block ad.off sz := by
  rcases h with ⟨l, rfl, rfl⟩ | ⟨nl, rfl⟩
  · simp only [VR, DR, DC] at hx
    obtain ⟨a, len, cap, h1, h2, h3, h4, h5⟩ := hx
    simp at h1; subst h1; subst h2
    exact ⟨a, cap, rfl, h3, h4, h5⟩
  · simp only [VR] at hx
    obtain ⟨a, rfl, _, h3, h4⟩ := hx
    exact ⟨a, _, rfl, Nat.le_refl _, fun ha => by simp [h3 ha], h4⟩

theorem DCe_pp {w : World} {Z : Nat → Nat → Prop} : ∀ (cs : List D) (vs : List Value) (b o : Nat), (∀ j, j < cs.length → Z b (o + j) ∧ w.cell? ⟨b, o + j, none⟩ = vs[j]?) → DCs w Z cs vs → DCe w Z cs b o 1
  | [], _, _, _, _, _ => by simp [DCe]
  | d :: ds, vs, b, o, h, hd => by
    simp only [DCs] at hd
    obtain ⟨c, r, rfl, h1, h2⟩ := hd
    simp only [DCe]
    refine ⟨⟨[c], rfl, fun j hj => ?_, h1⟩, DCe_pp ds r b (o + 1) (fun j hj => ?_) h2⟩
    · obtain rfl : j = 0 := by omega
      have := h 0 (by simp)
      simpa using this
    · have := h (j + 1) (by simp; omega)
      rw [show o + 1 + j = o + (j + 1) by omega]
      simpa using this

theorem aslice_sound {t : TypeId} {ty : Ty} (hT : TyOK P t ty) (hr : HR g H w) {E : Env} {a : Act} (he : ER g H w E a.tmps) {x r : V} {cx : Value} (hx : VR g H w x cx) {lo hi mx : Option Operand}
    (h : aslice ty E H x lo hi mx = some r) : ∃ v, (Instr.sliceAt t cx (lo.map a.eval) (hi.map a.eval) (mx.map a.eval)).run P w = .ok v w ∧ VR g H w r v := by
  have notarr : ∀ d, P.underlying t = some d → scal d = true → (Instr.sliceAt t cx (lo.map a.eval) (hi.map a.eval) (mx.map a.eval)).run P w = (Instr.slice t cx (lo.map a.eval) (hi.map a.eval) (mx.map a.eval)).run P w := by
    intro d hd hs
    unfold Instr.sliceAt
    simp only [Sem.run_bind, run_underlying hd, Result.andThen_ok]
    cases d <;> first | rfl | (simp [scal] at hs)
  unfold aslice at h
  split at h
  · -- a string
    rename_i s
    split at h
    · rename_i z l hh hlo hhi
      split at h
      · rename_i hb
        simp at h; subst h
        obtain ⟨ti, d, zv, _, _, _, hu, hsc, _, _, _, _, _, _, hstr⟩ := hT
        have := hstr _ rfl
        subst this
        simp only [VR, DR, DC] at hx
        simp at hx; subst hx
        refine ⟨.string (s.extract l hh), ?_, by simp [VR, DR, DC]⟩
        rw [notarr _ hu rfl]
        have := sliceBounds_two (P := P) (w := w) he false (len := s.size) (cap := s.size) hlo hhi rfl hb.1 hb.2
        simp [Instr.slice, run_underlying hu, this]
      · cases h
    · cases h
  · -- a row of the abstract heap
    rename_i id n al len
    split at h
    · rename_i sz nl els es z hH
      split at h
      · rename_i l hh hlo hhi
        split at h
        · rename_i hb
          obtain ⟨hn, rfl, hb1, hb2, hb3⟩ := hb
          simp at h; subst h
          obtain ⟨ti, e, j, zv, _, _, _, hu, hj, hes, _⟩ := hT
          simp only [VR] at hx
          obtain ⟨_, sz', nl', els', e1, e2, e3⟩ := hx
          rw [hH] at e1; cases e1
          obtain ⟨f1, f2⟩ := e3 hn
          rcases f2 with ⟨f2, f3, a', rfl, _⟩ | ⟨b, cap, vs, t', f2, rfl, f4, f5, f6⟩
          · have := f2.2.1
            subst this
            simp at hn
            subst hn
            obtain rfl : len = 0 := by omega
            obtain rfl : hh = 0 := by omega
            obtain rfl : l = 0 := by omega
            subst f3
            have hsb := sliceBounds_two (P := P) (w := w) he true (len := 0) (cap := 0) hlo hhi rfl (Nat.le_refl _) (Nat.le_refl _)
            refine ⟨.slice a' 0 0, ?_, ?_⟩
            · rw [notarr _ hu rfl]
              simp only [Instr.slice, Sem.run_bind, run_underlying hu, Result.andThen_ok, Option.map_none, hsb, run_sizeOf hj, hes, Sem.run_pure, if_true, Nat.sub_self]
            · simp only [VR]
              refine ⟨⟨_, _, _, rfl⟩, sz, nl, [], hH, by simp, fun _ => ⟨by simp, .inl ⟨f2, trivial, a', rfl, by assumption⟩⟩⟩
          · have hsb := sliceBounds_two (P := P) (w := w) he true (len := len) (cap := cap) hlo hhi rfl hb1 (by omega)
            refine ⟨.slice (some ⟨b, (al + l) * sz, none⟩) (hh - l) (cap - l), ?_, ?_⟩
            · rw [notarr _ hu rfl]
              have hadd : (⟨b, al * sz, none⟩ : Addr).add (l * sz) = ⟨b, (al + l) * sz, none⟩ := by rw [add_eq rfl, Nat.add_mul]
              by_cases hcl : cap = l
              · obtain rfl : l = 0 := by omega
                subst hcl
                simp only [Instr.slice, Sem.run_bind, run_underlying hu, Result.andThen_ok, Option.map_none, hsb, run_sizeOf hj, hes, Sem.run_pure, if_true, Option.map_some, Nat.add_zero]
              · simp only [Instr.slice, Sem.run_bind, run_underlying hu, Result.andThen_ok, Option.map_none, hsb, run_sizeOf hj, hes, Sem.run_pure, hcl, if_false, Option.map_some, hadd]
            · simp only [VR]
              refine ⟨⟨_, _, _, rfl⟩, sz, nl, els, hH, by omega, fun _ => ⟨by omega, .inr ⟨b, cap - l, vs, t', f2, rfl, f4, by omega, ?_⟩⟩⟩
              rw [show al + l + (cap - l) = al + cap by omega]; exact f6
        · cases h
      · cases h
    · cases h
  · -- an array that is never written again
    rename_i cs
    split at h
    · rename_i len es el z cmp
      split at h
      · rename_i l hh hlo hhi
        split at h
        · rename_i hb
          obtain ⟨he1, hb1, hb2, hb3⟩ := hb
          simp at h; subst h
          obtain ⟨_, ti, zs, e, j, _, _, _, hu, ⟨_, hj⟩, hes, _⟩ := hT
          simp only [VR] at hx
          obtain ⟨a', vs, rfl, hsp, hz, hd⟩ := hx
          have hsb := sliceBounds_two (P := P) (w := w) he false (len := len) (cap := len) hlo hhi rfl hb1 hb2
          refine ⟨.slice (some (if len = l then a' else a'.add (l * es))) (hh - l) (len - l), ?_, ?_⟩
          · unfold Instr.sliceAt
            simp only [Sem.run_bind, run_underlying hu, Result.andThen_ok, sureAddr_run, Option.map_none, hsb, run_sizeOf hj, hes, Sem.run_pure]
          · simp only [VR, DR, DC]
            refine ⟨_, _, _, rfl, by simp; omega, by omega, (fun ha => nomatch ha), fun ad ha => ?_⟩
            have hall := DCe_pp cs vs a'.block a'.off hz hd
            simp only [Option.some.injEq] at ha
            subst ha
            by_cases hl : len = l
            · have h0 : (cs.take hh).drop l = [] := by
                apply List.eq_nil_of_length_eq_zero
                simp; omega
              rw [h0]
              exact ⟨fun h => absurd rfl h, 0, by simp [DCe]⟩
            · rw [if_neg hl, add_eq hsp]
              refine ⟨fun _ => rfl, 1, ?_⟩
              have := DCe_drop l _ _ _ _ (DCe_take hh _ _ _ _ hall)
              rw [he1]
              exact this
        · cases h
      · cases h
    · cases h
  · -- data
    rename_i hns hnr hnp
    split at h
    · rename_i s es z hc
      obtain ⟨ti, e, j, zv, _, _, _, hu, hj, hes, _⟩ := hT
      have hcont : (∃ l, x = .d (.sl l) ∧ l = s) ∨ ∃ nl, x = .slx nl s := by
        unfold content at hc
        split at hc
        · simp at hc; exact .inl ⟨_, rfl, hc⟩
        · simp at hc; subst hc; exact .inr ⟨_, rfl⟩
        · exact absurd rfl (hnr _ _ _ _)
        · cases hc
      obtain ⟨a', cap, rfl, h2, h3, h4⟩ := frozen_content hx hcont
      split at h
      · rename_i hsz
        have hel : ∀ (l hh : Nat) (ad : Addr), a' = some ad → hh ≤ s.length → ((s.take hh).drop l ≠ [] → (ad.add (l * es)).spot = none) ∧ ∃ sz, DCe w g.Z ((s.take hh).drop l) (ad.add (l * es)).block (ad.add (l * es)).off sz := by
          intro l hh ad ha hle
          obtain ⟨hsp, sz, hd⟩ := h4 ad ha
          by_cases hs : s = []
          · subst hs; exact ⟨fun h => absurd (by simp) h, 0, by simp [DCe]⟩
          · rw [add_eq (hsp hs)]
            refine ⟨fun _ => rfl, ?_⟩
            obtain ⟨q, hq⟩ : ∃ q, s[0]? = some q := by
              cases s with
              | nil => exact absurd rfl hs
              | cons q r => exact ⟨q, rfl⟩
            obtain ⟨cs, k1, _, k3⟩ := DCe_get s _ _ _ 0 q hd hq
            have : sz = es := by rw [← k1, DC_length k3, sized_get hsz hq]
            subst this
            exact ⟨sz, DCe_drop l _ _ _ _ (DCe_take hh _ _ _ _ hd)⟩
        split at h
        · rename_i l hh hlo hhi
          split at h
          · rename_i hb
            simp at h; subst h
            have hsb := sliceBounds_two (P := P) (w := w) he true (len := s.length) (cap := cap) hlo hhi rfl hb.1 (by omega)
            refine ⟨.slice (if cap = l then a' else a'.map (·.add (l * es))) (hh - l) (cap - l), ?_, ?_⟩
            · rw [notarr _ hu rfl]
              simp only [Instr.slice, Sem.run_bind, run_underlying hu, Result.andThen_ok, Option.map_none, hsb, run_sizeOf hj, hes, Sem.run_pure]
            · simp only [VR, DR, DC]
              refine ⟨_, _, _, rfl, by simp; omega, by omega, fun ha => ?_, fun ad ha => ?_⟩
              · split at ha
                · omega
                · simp at ha; have := h3 ha; omega
              · split at ha
                · rename_i hcl
                  have h0 : (s.take hh).drop l = [] := by
                    apply List.eq_nil_of_length_eq_zero
                    simp; omega
                  rw [h0]
                  exact ⟨fun h => absurd rfl h, 0, by simp [DCe]⟩
                · cases a' with
                  | none => simp at ha
                  | some ad' =>
                    simp at ha; subst ha
                    exact hel l hh ad' rfl hb.2
          · cases h
        · rename_i l hh m hlo hhi
          split at h
          · rename_i y k hm
            split at h
            · rename_i hb
              obtain ⟨hb1, hb2, rfl⟩ := hb
              simp at h; subst h
              have hsb := sliceBounds_three (P := P) (w := w) he true (len := s.length) (cap := cap) hlo hhi ⟨_, rfl⟩ hm hb1 (by omega)
              refine ⟨.slice (if k = l then a' else a'.map (·.add (l * es))) (k - l) (k - l), ?_, ?_⟩
              · rw [notarr _ hu rfl]
                simp only [Option.map_some] at hsb
                simp only [Instr.slice, Sem.run_bind, run_underlying hu, Result.andThen_ok, Option.map_some, hsb, run_sizeOf hj, hes, Sem.run_pure]
              · have hlen : ((s.take k).drop l).length = k - l := by simp; omega
                simp only [VR]
                refine ⟨_, by rw [hlen], (fun b hb => nomatch hb), fun ha => ?_, fun ad ha => ?_⟩
                · apply List.eq_nil_of_length_eq_zero
                  rw [hlen]
                  split at ha
                  · omega
                  · simp at ha; have := h3 ha; omega
                · split at ha
                  · have h0 : (s.take k).drop l = [] := by
                      apply List.eq_nil_of_length_eq_zero
                      rw [hlen]; omega
                    rw [h0]
                    exact ⟨fun h => absurd rfl h, 0, by simp [DCe]⟩
                  · cases a' with
                    | none => simp at ha
                    | some ad' =>
                      simp at ha; subst ha
                      exact hel l k ad' rfl hb2
            · cases h
          · cases h
        · cases h
      · cases h
    · cases h

end
end Go.Aw
end

section
namespace Go.Aw
open Go

def FR (r : Option Nat) : Fence := { Fence.wide with round := r }

def CPost (g : G) (H : Heap) (w : World) (Q : V → Heap → Prop) (e : Ending) (w' : World) : Prop :=
  ∃ v g' r H', e = .returned v ∧ Q r H' ∧ VR g' H' w' r v ∧ HR g' H' w' ∧ Kp g w g' w' ∧ Ag g H w g' H' w'

def HasBody (P : Program) (f : FuncId) : Prop := ∃ fn, P.funcs[f]? = some fn ∧ fn.body.isSome = true ∧ (fn.name == "runtime.NumGoroutine") = false

/-- A call of a function of the text, on abstract values. -/
def ACalls (P : Program) (f : FuncId) (vs : List V) (H : Heap) (Q : V → Heap → Prop) : Prop :=
  HasBody P f ∧ ∀ g w cvs, HR g H w → VRs g H w vs cvs → CallsIn (FR none) 0 P f cvs.toArray w (CPost g H w Q)

/-- A call of a loop's own yield. -/
def AYield (P : Program) (id : Nat) (vs : List V) (H : Heap) (Q : V → Heap → Prop) : Prop :=
  ∀ g w cvs b, HR g H w → VRs g H w vs cvs → g.φ[id]? = some (some b) →
    ∃ fn tmps x y, (Instr.yield b cvs.toArray).run P w = .ok (.round b fn tmps x y) w ∧ RoundIn (FR none) 0 P b fn tmps x y w (CPost g H w Q)

def ACallV (P : Program) (f : V) (vs : List V) (H : Heap) (Q : V → Heap → Prop) : Prop :=
  match f with
  | .fn (.func k) first cap => ACalls P k (first ++ vs ++ cap) H Q
  | .fn (.yield id) [] [] => AYield P id vs H Q
  | _ => False

theorem run_callFunc {P : Program} {w : World} {f : FuncId} (h : HasBody P f) (args : Array Value) : (callFunc f args).run P w = .ok (.enter f args) w := by
  obtain ⟨fn, h1, h2, h3⟩ := h
  have h3' : fn.name ≠ "runtime.NumGoroutine" := by simpa using h3
  have h4 : fn.body ≠ none := by intro hb; rw [hb] at h2; cases h2
  unfold callFunc
  simp [h1, h3', h4]

section
variable {P : Program} {g : G} {H : Heap} {w : World} {K : V → Heap → Prop} {T : Nat → Ty} {hint : Nat → Bool}

theorem wpIn_of_post {r : Option Nat} {o : Oper} {a : Act} {next : Act → World → Prop} {Q : Exit → Act → World → Prop} (hnd : ∀ c, o.op ≠ .defer c)
    (h : OpPost g H w K ((execOp a.eval o).run P w))
    (hnext : ∀ v H' cv w' g', K v H' → VR g' H' w' v cv → HR g' H' w' → Kp g w g' w' → Ag g H w g' H' w' → next (a.put o.dst cv) w') : o.wpIn (FR r) 0 P a w next Q := by
  obtain ⟨cv, w', g', v, H', h1, h2, h3, h4, h5, h6⟩ := h
  refine ⟨fun _ _ => trivial, ?_⟩
  rw [Oper.semAt_eq _ _ _ hnd]
  rcases h1 with h1 | ⟨h1, rfl⟩
  · rw [h1]
    exact hnext v H' cv w' g' h2 h3 h4 h5 h6
  · rw [h1]
    exact hnext v H' _ w' g' h2 h3 h4 h5 h6

theorem unit_run {s : Sem Unit} {w' : World} (h : s.run P w = .ok () w') : ((do s; pure .skip : Sem Next)).run P w = .ok .skip w' := by
  simp only [Sem.run_bind, h, Result.andThen_ok, Sem.run_pure]

theorem binOp_exec {op : BinOp} {t : TypeId} {x y : Operand} {a b v : Value} (h1 : ∀ (_ : a = .nilIface), b ≠ .nilIface) (h2 : ∀ cs ds, a = .agg cs → b = .agg ds → P.eqGuardType P.depth t = false) (h : (Go.binOp op t a b).run P w = .ok v w) :
    ((do pure (.value (← (do eqGuard op t x y a b; Go.binOp op t a b))) : Sem Next)).run P w = .ok (.value v) w := by
  simp only [Sem.run_bind, eqGuard_run h1 h2, Result.andThen_ok, h, Sem.run_pure]

theorem binOp_eql_other {t : TypeId} {x y : V} {a b : Value} {r : Bool} (hx : VR g H w x a) (hy : VR g H w y b) (hanil : anilr (T t) H x y = some r) (h : (Op.equal t a b).run P w = .ok r w) :
    ((Go.binOp .eql t a b).run P w = .ok (.bool r) w) ∧ ((Go.binOp .neq t a b).run P w = .ok (.bool (!r)) w) := by
  have shape : (∃ q l c, b = .slice q l c) ∨ b = .pointer none ∨ b = .nilFunc := by
    unfold anilr at hanil
    split at hanil
    · exact .inl ⟨_, _, _, nil_slx hy⟩
    · unfold anil at hanil
      split at hanil
      · exact .inl ⟨_, _, _, nil_slx hy⟩
      · right; left; simpa [VR, DR, DC] using hy
      · right; right; simpa [VR, DR, DC] using hy
      · cases hanil
  constructor
  all_goals
    rcases shape with ⟨q, l, c, rfl⟩ | rfl | rfl <;> cases a <;> simp [Go.binOp, h]

theorem Som_iff {α : Type} {o : Option α} {K : α → Prop} (h : Som o K) : ∃ x, o = some x ∧ K x := by
  cases o with
  | none => exact h.elim
  | some x => exact ⟨x, rfl, h⟩

theorem Br_iff {b : Bool} {A B : Unit → Prop} (h : Br b A B) : (b = true ∧ A ()) ∨ (b = false ∧ B ()) := by
  cases b
  · exact .inr ⟨rfl, h⟩
  · exact .inl ⟨rfl, h⟩

theorem binOp_sound (hT : TOK P T) (hr : HR g H w) {E : Env} {a : Act} (he : ER g H w E a.tmps) {op : BinOp} {t : TypeId} {x y : Operand}
    (h : match ge E x, ge E y with
    | .d (.int k a), .d (.int k' b) => Som (abin .no op (.int k a) (.int k' b)) fun v => K (.d v) H
    | .d (.bool a), .d (.bool b) => Som (abin (T t) op (.bool a) (.bool b)) fun v => K (.d v) H
    | .d (.str a), .d (.str b) => Som (abin .no op (.str a) (.str b)) fun v => K (.d v) H
    | .d (.agg a), .d (.agg b) => Som (abin (T t) op (.agg a) (.agg b)) fun v => K (.d v) H
    | a, b => match op with
      | .eql => Som (anilr (T t) H a b) fun t => K (.d (.bool t)) H
      | .neq => Som (anilr (T t) H a b) fun t => K (.d (.bool (!t))) H
      | _ => False) :
    OpPost g H w K ((do pure (.value (← (do eqGuard op t x y (a.eval x) (a.eval y); Go.binOp op t (a.eval x) (a.eval y)))) : Sem Next).run P w) := by
  have hx := ge_sound he x
  have hy := ge_sound he y
  revert h hx hy
  generalize ge E x = vx
  generalize ge E y = vy
  generalize a.eval x = cx
  generalize a.eval y = cy
  intro h hx hy
  have data : ∀ {r : D} {v : Value}, (∀ (_ : cx = .nilIface), cy ≠ .nilIface) → (∀ cs ds, cx = .agg cs → cy = .agg ds → P.eqGuardType P.depth t = false) → (Go.binOp op t cx cy).run P w = .ok v w → DR w g.Z r v → K (.d r) H →
      OpPost g H w K ((do pure (.value (← (do eqGuard op t x y cx cy; Go.binOp op t cx cy))) : Sem Next).run P w) :=
    fun h1 h2 h3 h4 h5 => post_same hr (binOp_exec h1 h2 h3) h5 h4
  split at h
  · rename_i k a1 k' b1
    simp only [VR, DR, DC] at hx hy
    simp at hx hy; subst hx; subst hy
    obtain ⟨r, hr', h⟩ := Som_iff h
    · obtain ⟨v, h1, h2⟩ := abin_int (P := P) (g := g) (w := w) (t := t) hr'
      exact data (r := r) (v := v) (by intro h; cases h) (by intro _ _ h; cases h) h1 h2 h
  · rename_i a1 b1
    simp only [VR, DR, DC] at hx hy
    simp at hx hy; subst hx; subst hy
    obtain ⟨r, hr', h⟩ := Som_iff h
    · obtain ⟨v, h1, h2⟩ := abin_bool (P := P) (g := g) (w := w) (hT t) hr'
      exact data (r := r) (v := v) (by intro h; cases h) (by intro _ _ h; cases h) h1 h2 h
  · rename_i a1 b1
    simp only [VR, DR, DC] at hx hy
    simp at hx hy; subst hx; subst hy
    obtain ⟨r, hr', h⟩ := Som_iff h
    · obtain ⟨v, h1, h2⟩ := abin_str (P := P) (g := g) (w := w) (t := t) hr'
      exact data (r := r) (v := v) (by intro h; cases h) (by intro _ _ h; cases h) h1 h2 h
  · rename_i a1 b1
    simp only [VR, DR] at hx hy
    obtain ⟨xs, rfl, hx⟩ := hx
    obtain ⟨ys, rfl, hy⟩ := hy
    obtain ⟨r, hr', h⟩ := Som_iff h
    · obtain ⟨h0, v, h1, h2⟩ := abin_agg (P := P) (g := g) (w := w) (hT t) hr' hx hy
      exact data (r := r) (v := v) (by intro h; cases h) (fun _ _ _ _ => h0) h1 h2 h
  · rename_i hn1 hn2 hn3 hn4
    split at h
    · obtain ⟨r, hr', h⟩ := Som_iff h
      · obtain ⟨h1, h2, h3⟩ := anilr_sound (hT t) hr hx hy hr'
        exact data (r := .bool r) h2 h3 (binOp_eql_other hx hy hr' h1).1 (by simp [DR, DC]) h
    · obtain ⟨r, hr', h⟩ := Som_iff h
      · obtain ⟨h1, h2, h3⟩ := anilr_sound (hT t) hr hx hy hr'
        exact data (r := .bool (!r)) h2 h3 (binOp_eql_other hx hy hr' h1).2 (by simp [DR, DC]) h
    · exact h.elim

end

section
variable {P : Program} {g : G} {H : Heap} {w : World} {K : V → Heap → Prop}

theorem acopy_sound {t u rt : TypeId} {ty : Ty} (hT : TyOK P t ty) (hr : HR g H w) {x y : V} {cx cy : Value} (hx : VR g H w x cx) (hy : VR g H w y cy) {p : Nat × Heap} (h : acopy ty H x y = some p) (hK : K (.d (.int .i64 p.1)) p.2) :
    OpPost g H w K ((do pure (.value (← Builtin.copy_ #[t, u] rt #[cx, cy])) : Sem Next).run P w) := by
  unfold acopy at h
  split at h
  case h_2 => cases h
  rename_i _ _ _ es z id n lo len ys hc
  split at h
  case h_2 => cases h
  rename_i sz nl els he
  split at h
  case isFalse => cases h
  rename_i hcond
  obtain ⟨⟨hn, rfl, rfl⟩, hyl, hys, rfl⟩ := hcond
  cases h
  simp only at hK
  obtain ⟨i, e, j, zv, _, _, _, hu1, hj, rfl, hes1, hby, hz, ⟨hzd, hzc⟩, hzl⟩ := hT
  obtain ⟨a2, len2, cap2, vs2, rfl, hrow2⟩ := content_row hr hy hc hys
  have hl2 := hrow2.hlen
  have hidlt := lt_of_getElem? he
  simp only [VR] at hx
  obtain ⟨_, sz', nl', els', e1, e2, e3⟩ := hx
  rw [he] at e1; cases e1
  obtain ⟨f1, f2⟩ := e3 hn
  have hfc := run_firstCells (P := P) hrow2
  rcases f2 with ⟨f2, _, a', f3, _⟩ | ⟨b, cap', vs0, t', f2, f3, f4, f5, f6⟩
  · have h0 : els = [] := f2.2.1
    subst h0
    simp only [List.length_nil] at hn
    subst hn
    have hy0 : ys = [] := List.length_eq_zero_iff.1 hyl
    subst hy0
    simp only [List.length_nil] at hl2
    subst hl2
    have hv2 : vs2 = [] := by have := hrow2.vlen; simpa using this
    subst hv2
    have hrun : (Builtin.copy_ #[t, u] rt #[cx, .slice a2 0 cap2]).run P w = .ok (goInt 0) w := by
      rw [f3]
      cases a' <;> simp [Builtin.copy_, run_underlying hu1, sizeOf, typeInfo, hj, Builtin.lenOf, hfc, Go.storeCells]
    have hK' : K (.d (.int .i64 ((0 : Nat) : Int))) H := by
     rwa [show H.set id (.arr j.size nl []) = H from by
      apply List.ext_getElem?
      intro q
      by_cases hq : q = id
      · subst hq; rw [List.getElem?_set_self hidlt, he]
      · rw [List.getElem?_set_ne (fun e => hq e.symm)]] at hK
    exact post_same hr (val_run hrun) hK' (by simp [VR, DR, DC, goInt])
  · obtain ⟨hbl, hbz, hnl, vs1, t1, hw1, hal1⟩ := hr.blk id b _ f2 he
    rw [f4] at hw1; cases hw1
    have hv2 := hrow2.vlen
    have hone : ∀ v ∈ vs2, v.oneCell' = true := AR_cell hrow2.ar hv2
    have hsz : ys.length * j.size ≤ vs0.size := by
      have := hal1.1
      simp only [Array.length_toList] at this
      rw [hyl, ← hn]; exact this
    obtain ⟨w', k1, k2⟩ := run_storeCells (P := P) (a := ⟨b, 0, none⟩) rfl vs2 0 w vs0 hone f4 (by simp only [Nat.zero_add]; omega)
    obtain ⟨nv, k3, k4⟩ := k2.self
    have hrun : (Builtin.copy_ #[t, u] rt #[cx, .slice a2 len2 cap2]).run P w = .ok (goInt len) w' := by
      rw [f3]
      have hmin : Nat.min len2 len = len2 := by rw [hl2, hyl]; exact Nat.min_self len
      simp only [Nat.zero_mul]
      have hln : len2 = len := by omega
      rw [hln] at hfc
      simp [Builtin.copy_, run_underlying hu1, sizeOf, typeInfo, hj, Builtin.lenOf, hmin, hfc, k1, hln]
    have hvl : vs0.toList.length = nv.toList.length := by
      rw [k4, length_splice (by simp only [Array.length_toList]; omega)]
    have hset := set_blk hr f2 he (x' := .arr j.size nl ys) (o' := .cells nv t' (0, 0)) k2.os k2.tape k2.out k2.size k3 k2.oth ⟨rfl, rfl, by omega, fun vs0' t0 h' => by
        rw [f4] at h'; cases h'
        exact ⟨nv, rfl, by simpa using hvl.symm⟩⟩
      (fun hz ha => ⟨hnl, nv, t', k3, by
        rw [k4]
        simp only [Nat.add_zero]
        have := AR_append (l := []) (vs := []) (rest := vs0.toList.drop vs2.length) ⟨by simp, fun i x hx => by simp at hx⟩ (by simp) (AR_mono hz hrow2.ar) hv2
        simpa [splice] using this⟩)
    exact ⟨_, _, _, _, _, .inl (val_run hrun), hK, by simp [VR, DR, DC, goInt], hset.1, hset.2.1, hset.2.2⟩

theorem aclear_sound {t rt : TypeId} {ty : Ty} (hT : TyOK P t ty) (hr : HR g H w) {x : V} {cx : Value} (hx : VR g H w x cx) {H' : Heap} (h : aclear ty H x = some H') (hK : K (.tup []) H') :
    OpPost g H w K ((do pure (.value (← Builtin.clear_ #[t] rt #[cx])) : Sem Next).run P w) := by
  unfold aclear at h
  split at h
  case h_2 => cases h
  rename_i _ _ es z id n lo len
  split at h
  case h_2 => cases h
  rename_i sz nl els he
  split at h
  case isFalse => cases h
  rename_i hcond
  obtain ⟨hn, rfl, hll⟩ := hcond
  cases h
  obtain ⟨i, e, j, zv, _, _, _, hu1, hj, rfl, hes1, hby, hz, ⟨hzd, hzc⟩, hzl⟩ := hT
  have hidlt := lt_of_getElem? he
  simp only [VR] at hx
  obtain ⟨_, sz', nl', els', e1, e2, e3⟩ := hx
  rw [he] at e1; cases e1
  obtain ⟨f1, f2⟩ := e3 hn
  have same : H.set id (.arr j.size nl els) = H := by
    apply List.ext_getElem?
    intro q
    by_cases hq : q = id
    · subst hq; rw [List.getElem?_set_self hidlt, he]
    · rw [List.getElem?_set_ne (fun e => hq e.symm)]
  rcases Nat.eq_zero_or_pos len with hl0 | hl0
  · subst hl0
    have hrun : (Builtin.clear_ #[t] rt #[cx]).run P w = .ok (.tuple #[]) w := by
      rcases f2 with ⟨_, _, a', f3, _⟩ | ⟨b, cap', vs0, t', f2, f3, f4, f5, f6⟩
      · rw [f3]
        cases a' <;> simp [Builtin.clear_, run_underlying hu1]
      · rw [f3]
        simp [Builtin.clear_, run_underlying hu1]
    have ht : els.take lo = els := List.take_of_length_le (by omega)
    rw [List.replicate_zero, List.append_nil, ht, same] at hK
    exact post_same hr (val_run hrun) hK ⟨_, rfl, rfl⟩
  · rcases f2 with ⟨f2, f20, _⟩ | ⟨b, cap', vs0, t', f2, f3, f4, f5, f6⟩
    · have h0 : els = [] := f2.2.1
      subst h0
      simp only [List.length_nil] at hn
      omega
    · obtain ⟨hbl, hbz, hnl, vs1, t1, hw1, hal1⟩ := hr.blk id b _ f2 he
      rw [f4] at hw1; cases hw1
      have hzs : zv.cells.size = j.size := by have := DC_length (hzd w fun _ _ => True); simp at this; omega
      have hzr : Builtin.zeroCells zv.cells len = (Array.range (len * j.size)).map (fun q => zv.cells[q % zv.cells.size]!) := by
        unfold Builtin.zeroCells
        rw [hzs]
      have hAZ := fun Z => AR_zero (w := w) (Z := Z) (n := len) (hzd w Z) hzl hes1
      have hzlen : ((Array.range (len * j.size)).map (fun q => zv.cells[q % zv.cells.size]!)).toList.length = (List.replicate len z).length * j.size := by simp
      have hone := AR_cell (hAZ g.Z) hzlen
      have hsz := hal1.1
      simp only [Array.length_toList] at hsz
      have hsz2 : lo * j.size + len * j.size ≤ vs0.size := by rw [← Nat.add_mul, hll, ← hn]; exact hsz
      obtain ⟨w', k1, k2⟩ := run_storeCells (P := P) (a := ⟨b, lo * j.size, none⟩) rfl ((Array.range (len * j.size)).map (fun q => zv.cells[q % zv.cells.size]!)).toList 0 w vs0 hone f4 (by simp; omega)
      obtain ⟨nv, k3, k4⟩ := k2.self
      have hrun : (Builtin.clear_ #[t] rt #[cx]).run P w = .ok (.tuple #[]) w' := by
        rw [f3]
        obtain ⟨m, rfl⟩ : ∃ m, len = m + 1 := ⟨len - 1, by omega⟩
        simp only [Builtin.clear_, Sem.run_bind, run_underlying hu1, Result.andThen_ok]
        simp only [List.getElem?_toArray, List.getElem?_cons_zero, Sem.run_bind, run_underlying hu1, run_zeroValue hj hz, Result.andThen_ok, hzr, k1, Sem.run_pure]
      have hvl : vs0.toList.length = nv.toList.length := by
        rw [k4, length_splice (by simp; omega)]
      have hset := set_blk hr f2 he (x' := .arr j.size nl (els.take lo ++ List.replicate len z)) (o' := .cells nv t' (0, 0)) k2.os k2.tape k2.out k2.size k3 k2.oth ⟨rfl, rfl, by simp; omega, fun vs0' t0 h' => by
          rw [f4] at h'; cases h'
          exact ⟨nv, rfl, by simpa using hvl.symm⟩⟩
        (fun hz ha => ⟨hnl, nv, t', k3, by
          rw [k4]
          simp only [Nat.add_zero]
          have hlo : (els.take lo).length = lo := by simp; omega
          have p1 : AR w g.Z j.size (els.take lo) (vs0.toList.take (lo * j.size)) := by
            have : AR w g.Z j.size (els.take lo) vs0.toList := ⟨by rw [hlo]; simp only [Array.length_toList]; omega, fun i x hx => hal1.2 i x (by rw [List.getElem?_take] at hx; split at hx; exact hx; cases hx)⟩
            have := AR_take this
            rwa [hlo] at this
          have := AR_append (rest := vs0.toList.drop (lo * j.size + len * j.size)) (AR_mono hz p1) (by rw [hlo]; simp; omega) (AR_mono hz (hAZ g.Z)) hzlen
          simpa [splice] using this⟩)
      exact ⟨_, _, _, _, _, .inl (val_run hrun), hK, ⟨_, rfl, rfl⟩, hset.1, hset.2.1, hset.2.2⟩
end
end Go.Aw
end
