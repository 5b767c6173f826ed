/- Contracts on data put to use: slices as data. Regions that draw their order: what an operation looks at. Regions that draw their order: one outcome for each operation; the order does not matter. Regions that draw their order: operations of which the abstract heap is no part. Regions that draw their order: one walk in the text's order serves every order. Regions that draw their order: the rule. A call's arguments, read as data. A law's function, from the evaluator to the row. Ranges over functions: the statement; a round. A contract where there are more blocks: they stay as they are. Regions that draw their order, where two operations lay blocks in either order: a walk that forks. Functions that hand a list's items to yield, one after another; ranges over them. -/
import Derived.Test.YtfbndelhgfbkoaaA4
import Derived.OrdersIn
import Derived.Below
import Derived.RangeFuncNested
set_option linter.unusedSimpArgs false
set_option linter.unusedVariables false

section
namespace Go.Aw
open Go

/-- A slice, as data. -/
def dz : V → V
  | .slx _ l => .d (.sl l)
  | v => v

theorem dz_sound {g : G} {H : Heap} {w : World} {v : V} {c : Value} (h : VR g H w v c) : VR g H w (dz v) c := by
  cases v with
  | slx nl l =>
    simp only [dz, VR]
    exact toD_sound (x := .slx nl l) rfl h
  | _ => exact h

theorem dzs_sound {g : G} {H : Heap} {w : World} : ∀ (vs : List V) (cs : List Value), VRs g H w vs cs → VRs g H w (vs.map dz) cs
  | [], _, h => by simpa [VRs] using h
  | v :: r, cs, h => by
    simp only [VRs, List.map_cons] at h ⊢
    obtain ⟨c, r', h1, h2, h3⟩ := h
    exact ⟨c, r', h1, dz_sound h2, dzs_sound r r' h3⟩

section
variable {P : Program}

theorem ACalls.dz {f : FuncId} {vs : List V} {H : Heap} {Q : V → Heap → Prop} (h : ACalls P f (vs.map dz) H Q) : ACalls P f vs H Q :=
  ⟨h.1, fun g w cvs hr hv => h.2 g w cvs hr (dzs_sound vs cvs hv)⟩

/-- A contract on data, where all that is handed over is data. -/
theorem PC.call {f : FuncId} {vs : List V} {v : V} {as : List V} {x y : List V} {H : Heap} {Q : V → Heap → Prop} (h : PC P f vs v) (h1 : (x ++ as ++ y).map Aw.dz = vs) (h2 : VBs 0 vs = true) (h3 : VB 0 v = true) (hq : Q v H) : ACallV P (.fn (.func f) x y) as H Q := by
  subst h1
  exact ACalls.dz (PC.use h h2 h3 hq)

/-- A contract on data, where rows are lent; what comes back says nothing of memory. -/
theorem PC.callL {f : FuncId} {vs us : List V} {v : V} {as : List V} {x y : List V} {H : Heap} {Q : V → Heap → Prop} (h : PC P f vs v) (h1 : (x ++ as ++ y).map Aw.dz = us) (h2 : pubVs 0 H us = some vs) (h3 : flatV v = true) (hq : Q v H) : ACallV P (.fn (.func f) x y) as H Q := by
  subst h1
  exact ACalls.dz (PC.lend h h2 h3 hq)

@[go_sem] theorem dz_slx (b : Option Bool) (l : List D) : dz (.slx b l) = .d (.sl l) := (Eq.refl _).trans rfl
@[go_sem] theorem dz_d (x : D) : dz (.d x) = .d x := (Eq.refl _).trans rfl
@[go_sem] theorem dz_ref (i n lo len : Nat) : dz (.ref i n lo len) = .ref i n lo len := (Eq.refl _).trans rfl
@[go_sem] theorem dz_ptr (i o : Nat) : dz (.ptr i o) = .ptr i o := (Eq.refl _).trans rfl
@[go_sem] theorem dz_csl (i e l : Nat) : dz (.csl i e l) = .csl i e l := (Eq.refl _).trans rfl
@[go_sem] theorem dz_pp (cs : List D) : dz (.pp cs) = .pp cs := (Eq.refl _).trans rfl
@[go_sem] theorem dz_fn (f : Fn) (x y : List V) : dz (.fn f x y) = .fn f x y := (Eq.refl _).trans rfl
@[go_sem] theorem dz_agg (l : List V) : dz (.agg l) = .agg l := (Eq.refl _).trans rfl
@[go_sem] theorem dz_tup (l : List V) : dz (.tup l) = .tup l := (Eq.refl _).trans rfl

theorem ACallV.of {f : FuncId} {x y as vs : List V} {H : Heap} {Q : V → Heap → Prop} (h1 : x ++ as ++ y = vs) (h : ACalls P f vs H Q) : ACallV P (.fn (.func f) x y) as H Q := by
  subst h1
  exact h

end
end Go.Aw
end

section
namespace Go.Aw
open Go

section
variable {T : Nat → Ty} {hint : Nat → Bool} {call : CallH} {E E' : Env} {H : Heap} {K : V → Heap → Prop}

theorem fillAt_same {pl : Nat → Option (Nat × Nat)} : ∀ {parts : List (Nat × Operand)} {cs : List V}, (∀ p ∈ parts, ge E p.2 = ge E' p.2) → fillAt pl E cs parts = fillAt pl E' cs parts
  | [], cs, _ => rfl
  | (i, x) :: r, cs, h => by
    have h1 := h (i, x) (by simp)
    have h2 : ∀ cs, fillAt pl E cs r = fillAt pl E' cs r := fun cs => fillAt_same fun p hp => h p (by simp [hp])
    simp only at h1
    simp only [fillAt, h1, h2]

theorem elems_same {es : Nat} : ∀ {parts : List (Nat × Operand)} {i : Nat}, (∀ p ∈ parts, ge E p.2 = ge E' p.2) → elems E es i parts = elems E' es i parts
  | [], i, _ => rfl
  | (j, x) :: r, i, h => by
    have h1 := h (j, x) (by simp)
    have h2 : ∀ i, elems E es i r = elems E' es i r := fun i => elems_same fun p hp => h p (by simp [hp])
    simp only at h1
    simp only [elems, h1, h2]

theorem elemG_same {es : Nat} : ∀ {parts : List (Nat × Operand)} {i : Nat} {H : Heap}, (∀ p ∈ parts, ge E p.2 = ge E' p.2) → elemG E es i H parts = elemG E' es i H parts
  | [], i, H, _ => rfl
  | (j, x) :: r, i, H, h => by
    have h1 := h (j, x) (by simp)
    have h2 : ∀ i H, elemG E es i H r = elemG E' es i H r := fun i H => elemG_same fun p hp => h p (by simp [hp])
    simp only at h1
    simp only [elemG, h1, h2]

theorem bound_same {x : Option Operand} {n : Nat} (h : ∀ y, x = some y → ge E y = ge E' y) : bound? E x n = bound? E' x n := by
  cases x with
  | none => rfl
  | some y => simp only [bound?, h y rfl]

theorem aslice_same {t : Ty} {x : V} {lo hi mx : Option Operand} (h1 : ∀ y, lo = some y → ge E y = ge E' y) (h2 : ∀ y, hi = some y → ge E y = ge E' y) (h3 : ∀ y, mx = some y → ge E y = ge E' y) : aslice t E H x lo hi mx = aslice t E' H x lo hi mx := by
  have e1 : ∀ n, bound? E lo n = bound? E' lo n := fun n => bound_same h1
  have e2 : ∀ n, bound? E hi n = bound? E' hi n := fun n => bound_same h2
  have e3 : ∀ n, bound? E mx n = bound? E' mx n := fun n => bound_same h3
  simp only [aslice, e1, e2, e3]

theorem map_same {l : List Operand} (h : ∀ x ∈ l, ge E x = ge E' x) : l.map (ge E) = l.map (ge E') := List.map_congr_left h

theorem evCall_same {o : Oper} {c : Call} (h : ∀ x ∈ c.operands, ge E x = ge E' x) : evCall T hint call o c E H K = evCall T hint call o c E' H K := by
  obtain ⟨ce, xs, ts⟩ := c
  have ha : ∀ x ∈ xs.toList, ge E x = ge E' x := fun x hx => h x (by simp [Call.operands]; right; simpa using hx)
  cases ce with
  | value f =>
    have hf : ge E f = ge E' f := h f (by simp [Call.operands])
    simp only [evCall, hf, map_same ha]
  | builtin b =>
    simp only [evCall]
    generalize xs.toList = l at ha
    generalize ts.toList = tl
    cases l with
    | nil => cases b <;> rfl
    | cons x r =>
      have hx := ha x (by simp)
      have hr : r.map (ge E) = r.map (ge E') := map_same fun y hy => ha y (by simp [hy])
      cases r with
      | nil =>
        cases b <;> (try rfl) <;> (try simp only [hx, List.map_nil])
        cases tl with
        | nil => rfl
        | cons t tl => cases tl <;> simp only [hx]
      | cons y r =>
        have hy := ha y (by simp)
        cases b <;> (try rfl) <;> (try simp only [hx, hr])
        all_goals
          cases r with
          | nil =>
            cases tl with
            | nil => rfl
            | cons t tl =>
              cases tl with
              | nil => rfl
              | cons u tl => cases tl <;> simp only [hx, hy]
          | cons z r => rfl
  | invoke a b => rfl

/-- Only its operands matter to an operation. -/
theorem evOp_same {o : Oper} (h : ∀ x ∈ o.op.operands, ge E x = ge E' x) : evOp T hint call o E H K = evOp T hint call o E' H K := by
  obtain ⟨d, op, t, p, a, g⟩ := o
  simp only at h
  cases op <;> simp only [Op.operands] at h <;> try (simp only [evOp]; done)
  case move x => simp only [evOp, h x (by simp)]
  case assign x => simp only [evOp, h x (by simp)]
  case pick c x y => simp only [evOp, h c (by simp), h x (by simp), h y (by simp)]
  case box t x => simp only [evOp, h x (by simp)]
  case build t parts => simp only [evOp, fillAt_same (E := E) (E' := E') (parts := parts.toList) (fun q hq => h q.2 (by simp; exact ⟨q.1, by simpa using hq⟩))]
  case buildSlice t n parts => simp only [evOp, elems_same (E := E) (E' := E') (parts := parts.toList) (fun q hq => h q.2 (by simp; exact ⟨q.1, by simpa using hq⟩)), elemG_same (E := E) (E' := E') (parts := parts.toList) (fun q hq => h q.2 (by simp; exact ⟨q.1, by simpa using hq⟩))]
  case load t x => simp only [evOp, h x (by simp)]
  case store t x y => simp only [evOp, h x (by simp), h y (by simp)]
  case nilCheck x => simp only [evOp, h x (by simp)]
  case binOp op t x y t' => simp only [evOp, h x (by simp), h y (by simp)]
  case unOp op t x => simp only [evOp, h x (by simp)]
  case convert s t x => simp only [evOp, h x (by simp)]
  case makeFunc f x y =>
    have h1 : ∀ z ∈ x.toList, ge E z = ge E' z := fun z hz => h z (by simp; left; simpa using hz)
    have h2 : ∀ z ∈ y.toList, ge E z = ge E' z := fun z hz => h z (by simp; right; simpa using hz)
    cases f <;> simp only [evOp, map_same h1, map_same h2]
  case makeSlice t n c => simp only [evOp, h n (by simp), h c (by simp)]
  case slice t x lo hi mx =>
    have h1 : ∀ y, lo = some y → ge E y = ge E' y := fun y hy => h y (by simp [hy])
    have h2 : ∀ y, hi = some y → ge E y = ge E' y := fun y hy => h y (by simp [hy])
    have h3 : ∀ y, mx = some y → ge E y = ge E' y := fun y hy => h y (by simp [hy])
    simp only [evOp, h x (by simp), aslice_same h1 h2 h3]
  case fieldAddr t x f => simp only [evOp, h x (by simp)]
  case field t x f => simp only [evOp, h x (by simp)]
  case indexAddr t x y => simp only [evOp, h x (by simp), h y (by simp)]
  case index t x y => simp only [evOp, h x (by simp), h y (by simp)]
  case extract x i => simp only [evOp, h x (by simp)]
  case makeMap t r => cases r <;> simp only [evOp]
  case lookup t x y b => simp only [evOp, h x (by simp), h y (by simp)]
  case mapUpdate t x y z => simp only [evOp, h x (by simp), h y (by simp), h z (by simp)]
  case insert t x y z => simp only [evOp, h x (by simp), h y (by simp), h z (by simp)]
  case range t x => simp only [evOp, h x (by simp)]
  case entry x => simp only [evOp, h x (by simp)]
  case call c => simp only [evOp]; exact evCall_same h
end
end Go.Aw
end

section
namespace Go.Aw
open Go

/-- A call whose outcome is told. -/
def DCall (P : Program) : CallH := fun f vs H K => ∃ v H', ACallV P f vs H (fun r h => r = v ∧ h = H') ∧ K v H'

theorem AYield.mono {P : Program} {id : Nat} {vs : List V} {H : Heap} {Q Q' : V → Heap → Prop} (h : AYield P id vs H Q) (hq : ∀ v H', Q v H' → Q' v H') : AYield P id vs H Q' := by
  intro g w cvs b hr hv hφ
  obtain ⟨fn, tmps, x, y, h1, h2⟩ := h g w cvs b hr hv hφ
  refine ⟨fn, tmps, x, y, h1, RoundIn.mono h2 ?_⟩
  rintro e w' ⟨v, g', r, H', k1, k2, k3⟩
  exact ⟨v, g', r, H', k1, hq _ _ k2, k3⟩

theorem ACallV.mono {P : Program} {f : V} {vs : List V} {H : Heap} {Q Q' : V → Heap → Prop} (h : ACallV P f vs H Q) (hq : ∀ v H', Q v H' → Q' v H') : ACallV P f vs H Q' := by
  unfold ACallV at h ⊢
  split at h
  · exact ACalls.mono h hq
  · exact AYield.mono h hq
  · exact h.elim

theorem DCall_sound {P : Program} {f : V} {vs : List V} {H : Heap} {K : V → Heap → Prop} (h : DCall P f vs H K) : ACallV P f vs H K := by
  obtain ⟨v, H', h1, h2⟩ := h
  exact h1.mono fun r h hr => by rw [hr.1, hr.2]; exact h2

/-- Whatever is asked is asked of one outcome. -/
def Lin (F : (V → Heap → Prop) → Prop) : Prop := ∀ K, F K → ∃ v H', K v H' ∧ ∀ K' : V → Heap → Prop, K' v H' → F K'

theorem DCall_lin {P : Program} {H : Heap} (f : V) (vs : List V) : Lin (DCall P f vs H) := by
  intro K hk
  obtain ⟨v, H', h1, h2⟩ := hk
  exact ⟨v, H', h2, fun K' h' => ⟨v, H', h1, h'⟩⟩

/-- A call of which the abstract heap is no part. -/
def SCall (P : Program) : CallH := fun f vs H K => VB 0 f = true ∧ VBs 0 vs = true ∧ ∃ v, ACallV P f vs [] (fun r h => r = v ∧ h = []) ∧ K v H

theorem SCall_lin {P : Program} {H : Heap} (f : V) (vs : List V) : Lin (SCall P f vs H) := by
  intro K hk
  obtain ⟨h0, h1, v, h2, h3⟩ := hk
  exact ⟨v, H, h3, fun K' h' => ⟨h0, h1, v, h2, h'⟩⟩

section
variable {P : Program} {T : Nat → Ty} {hint : Nat → Bool} {E : Env} {H : Heap}

theorem lin_som {α : Type} (o : Option α) (f : α → V) (h : α → Heap) : Lin fun K => Som o fun x => K (f x) (h x) := by
  intro K hk
  obtain ⟨x, rfl, hk⟩ := Som_iff hk
  exact ⟨_, _, hk, fun K' h' => h'⟩

theorem lin_one (v : V) (H' : Heap) : Lin fun K => K v H' := fun K hk => ⟨v, H', hk, fun K' h' => h'⟩

theorem lin_false : Lin fun _ => False := fun K hk => hk.elim

theorem lin_br {b : Bool} {A B : (V → Heap → Prop) → Prop} (h1 : Lin A) (h2 : Lin B) : Lin fun K => Br b (fun _ => A K) (fun _ => B K) := by
  cases b
  · exact h2
  · exact h1

theorem lin_eq {F G : (V → Heap → Prop) → Prop} (h : ∀ K, F K = G K) (hl : Lin G) : Lin F := by
  have : F = G := funext h
  rw [this]; exact hl

theorem lin_app {b : Bool} {F : (V → Heap → Prop) → Prop} (h : Lin F) : Lin fun K => app2 b fun _ => F K := by
  cases b
  · exact lin_false
  · exact h

theorem lin_append (t : Ty) (hin : Bool) (x y : V) : Lin fun K => aappend t hin H x y K := by
  unfold aappend
  split
  · split
    · split
      · split
        · split
          · split
            · exact lin_one _ _
            · exact lin_false
          · exact lin_one _ _
        · exact lin_false
      · split
        · split
          · exact lin_one _ _
          · exact lin_false
        · exact lin_false
      · exact lin_false
    · exact lin_false
  · exact lin_false

theorem lin_call {call : CallH} (hc : ∀ f vs, Lin (call f vs H)) (o : Oper) (c : Call) : Lin fun K => evCall T hint call o c E H K := by
  unfold evCall
  split
  · exact hc _ _
  · split
    · exact lin_som _ _ _
    · exact lin_som _ _ _
    · exact lin_som _ _ _
    · split
      · exact lin_append _ _ _ _
      · exact lin_false
    · exact lin_som _ _ _
    · exact lin_false
  · exact lin_false

theorem evOp_lin {call : CallH} (hc : ∀ f vs, Lin (call f vs H)) (o : Oper) : Lin fun K => evOp T hint call o E H K := by
  unfold evOp
  split
  · exact lin_one _ _
  · split
    · split
      · exact lin_one _ _
      · exact lin_false
    · exact lin_one _ _
  · split
    · exact lin_br (lin_one _ _) (lin_one _ _)
    · exact lin_false
  · exact lin_som _ _ _
  · exact lin_som _ _ _
  · split
    · exact lin_som _ _ _
    · exact lin_som _ _ _
    · exact lin_false
  · split
    · split
      · intro K hk
        obtain ⟨l, hl, hk⟩ := Som_iff hk
        simp only [hl, Som]
        revert hk
        split
        · exact fun hk => ⟨_, _, hk, fun K' h' => h'⟩
        · exact fun hk => hk.elim
      · intro K hk
        obtain ⟨l, hl, hk⟩ := Som_iff hk
        simp only [hl, Som]
        revert hk
        split
        · exact fun hk => ⟨_, _, hk, fun K' h' => h'⟩
        · exact fun hk => hk.elim
    · exact lin_false
  · split
    · split
      · split
        · (first | exact lin_one _ _ | (split <;> exact lin_one _ _))
        · exact lin_one _ _
      · exact lin_false
    · exact lin_false
  · exact lin_som _ _ _
  · exact lin_som _ _ _
  · split
    · exact lin_som _ _ _
    · exact lin_som _ _ _
    · exact lin_som _ _ _
    · exact lin_som _ _ _
    · split
      · exact lin_som _ _ _
      · exact lin_som _ _ _
      · exact lin_false
  · split
    · exact lin_one _ _
    · exact lin_one _ _
    · exact lin_false
  · split
    · exact lin_one _ _
    · exact lin_false
  · exact lin_one _ _
  · exact lin_som _ _ _
  · exact lin_som _ _ _
  · exact lin_som _ _ _
  · exact lin_som _ _ _
  · exact lin_som _ _ _
  · split
    · exact lin_one _ _
    · exact lin_one _ _
    · exact lin_one _ _
    · exact lin_one _ _
    · exact lin_false
  · split
    · exact lin_som _ _ _
    · exact lin_false
  · exact lin_one _ _
  · exact lin_som _ _ _
  · exact lin_som _ _ _
  · exact lin_som _ _ _
  · split
    · split
      · exact lin_one _ _
      · exact lin_false
    · exact lin_false
  · exact lin_som _ _ _
  · exact lin_call hc _ _
  · exact lin_false

end
end Go.Aw
end

section
namespace Go.Aw
open Go

theorem VBs_append {n : Nat} : ∀ {l r : List V}, VBs n l = true → VBs n r = true → VBs n (l ++ r) = true
  | [], r, _, h => h
  | v :: l, r, h1, h2 => by
    simp only [VBs, Bool.and_eq_true, List.cons_append] at h1 ⊢
    exact ⟨h1.1, VBs_append h1.2 h2⟩

section
variable {P : Program} {T : Nat → Ty} {hint : Nat → Bool} {E : Env} {H : Heap}

theorem ACalls.nil {f : FuncId} {vs : List V} {v : V} (hvs : VBs 0 vs = true) (h : ACalls P f vs [] (fun r h => r = v ∧ h = [])) : ACalls P f vs H (fun r h => r = v ∧ h = H) := by
  have h' : ACalls P f vs [] (fun r H' => H' = [] ∧ VB 0 r = true ∧ r = v) := by
    refine ⟨h.1, fun g w cvs hr hv => CallsIn.mono (h.2 g w cvs hr hv) ?_⟩
    rintro e w' ⟨c, g', r, H', rfl, ⟨k1, rfl⟩, k3, k4⟩
    exact ⟨c, g', r, [], rfl, ⟨rfl, VR_VB _ _ k3, k1⟩, k3, k4⟩
  exact (ACalls.iso hvs h').mono fun r h hr => ⟨hr.2, hr.1⟩

theorem SCall_sound {f : V} {vs : List V} {K : V → Heap → Prop} {H0 : Heap} (h : SCall P f vs H0 (fun v h => h = H0 ∧ K v H)) : ACallV P f vs H K := by
  obtain ⟨h0, h1, v, h2, _, h3⟩ := h
  unfold ACallV at h2 ⊢
  split at h2
  · rename_i k first cap
    simp only [VB, Bool.and_eq_true] at h0
    exact (ACalls.nil (VBs_append (VBs_append h0.1 h1) h0.2) h2).mono fun r h hr => by rw [hr.1, hr.2]; exact h3
  · simp [VB] at h0
  · exact h2.elim

theorem content_nil {x : V} {l : List D} (h : content [] x = some l) : content H x = some l := by
  unfold content at h ⊢
  split at h <;> simp_all

theorem aload_nil {t : Ty} {x v : V} (h : aload t [] x = some v) : aload t H x = some v := by
  unfold aload at h ⊢
  split at h <;> simp_all

theorem alook_nil0 {t : Ty} {ok : Bool} {m k v : V} (h : alook t ok [] m k = some v) : alook t ok H m k = some v := by
  unfold alook at h ⊢
  split at h
  · rename_i kz z es k hc
    have : mcont H m = some es := by
      unfold mcont at hc ⊢
      split at hc <;> simp_all
    rw [this]; exact h
  · cases h

theorem aentry_nil0 {x v : V} (h : aentry [] x = some v) : aentry H x = some v := by
  unfold aentry at h
  split at h
  · simp at h
  · cases h

theorem alen_nil {t : Ty} {x : V} {n : Nat} (h : alen t [] x = some n) : alen t H x = some n := by
  unfold alen at h ⊢
  split at h <;> simp_all

theorem aidx_nil {t : Ty} {x i v : V} (h : aidxAddr t [] x i = some v) : aidxAddr t H x i = some v := by
  unfold aidxAddr at h ⊢
  split at h <;> simp_all

theorem anilr_nil {t : Ty} {x y : V} {b : Bool} (h : anilr t [] x y = some b) : anilr t H x y = some b := by
  unfold anilr at h ⊢
  split at h <;> simp_all

theorem aslice_nil {t : Ty} {x v : V} {lo hi mx : Option Operand} (h : aslice t E [] x lo hi mx = some v) : aslice t E H x lo hi mx = some v := by
  unfold aslice at h ⊢
  split at h
  · exact h
  · simp at h
  · exact h
  · split at h
    · rename_i s es z hc
      rw [content_nil hc]
      exact h
    · cases h

theorem aappend_nil {t : Ty} {hin : Bool} {x y : V} {K : V → Heap → Prop} (h : aappend t hin [] x y (fun v h => h = [] ∧ K v H)) : aappend t hin H x y K := by
  unfold aappend at h ⊢
  split at h
  · rename_i es z ys hc
    rw [content_nil hc]
    simp only
    split at h
    · split at h
      · split at h
        · split at h
          · split at h
            · simp at h
            · exact h.elim
          · exact h.2
        · exact h.elim
      · simp at h
      · exact h.elim
    · exact h.elim
  · exact h.elim

theorem evCall_nil {o : Oper} {c : Call} {K : V → Heap → Prop} (h : evCall T hint (SCall P) o c E [] (fun v h => h = [] ∧ K v H)) : evCall T hint (ACallV P) o c E H K := by
  unfold evCall at h ⊢
  split at h
  · exact SCall_sound h
  · split at h
    · obtain ⟨n, hn, _, hk⟩ := Som_iff h
      simp only [alen_nil hn, Som]
      exact hk
    · obtain ⟨n, hn, _, hk⟩ := Som_iff h
      simp only [hn, Som]
      exact hk
    · obtain ⟨n, hn, _, hk⟩ := Som_iff h
      simp only [hn, Som]
      exact hk
    · split at h
      · exact aappend_nil h
      · exact h.elim
    · obtain ⟨p, hp, _⟩ := Som_iff h
      unfold acopy at hp
      split at hp <;> simp at hp
    · exact h.elim
  · exact h.elim

/-- What goes through without an abstract heap goes through with any. -/
theorem giv1_none {v : V} {x : D} {h : Heap} (e : giv1 [] v = some (x, h)) : h = [] ∧ ∀ H, giv1 H v = some (x, H) := by
  cases v with
  | ref id n lo len => simp [giv1] at e
  | d y => cases y <;> simp_all [giv1]
  | slx nl l => simp_all [giv1]
  | _ => simp [giv1] at e

theorem givs_none : ∀ {vs : List V} {l : List D} {h : Heap}, givs [] vs = some (l, h) → h = [] ∧ ∀ H, givs H vs = some (l, H)
  | [], l, h, e => by simp_all [givs]
  | v :: r, l, h, e => by
    simp only [givs] at e
    split at e
    · rename_i x H1 h1
      obtain ⟨rfl, k1⟩ := giv1_none h1
      split at e
      · rename_i l2 H2 h2
        obtain ⟨rfl, k2⟩ := givs_none h2
        simp only [Option.some.injEq, Prod.mk.injEq] at e
        obtain ⟨rfl, rfl⟩ := e
        exact ⟨rfl, fun H => by simp only [givs, k1, k2]⟩
      · cases e
    · cases e

theorem giv_none {v : V} {x : D} {h : Heap} (e : giv [] v = some (x, h)) : h = [] ∧ ∀ H, giv H v = some (x, H) := by
  have one : ∀ {v : V}, (∀ H, giv H v = giv1 H v) → giv [] v = some (x, h) → h = [] ∧ ∀ H, giv H v = some (x, H) := fun hv e => by
    rw [hv] at e
    obtain ⟨h1, h2⟩ := giv1_none e
    exact ⟨h1, fun H => by rw [hv]; exact h2 H⟩
  cases v with
  | agg cs =>
    simp only [giv] at e
    split at e
    · rename_i l H1 h1
      obtain ⟨rfl, k1⟩ := givs_none h1
      simp only [Option.some.injEq, Prod.mk.injEq] at e
      obtain ⟨rfl, rfl⟩ := e
      exact ⟨rfl, fun H => by simp only [giv, k1]⟩
    · cases e
  | d y =>
    cases y with
    | agg l => simp_all [giv]
    | _ => exact one (fun H => rfl) e
  | _ => exact one (fun H => rfl) e

theorem elemG_none {E : Env} {es : Nat} : ∀ (parts : List (Nat × Operand)) (i : Nat) {l : List D} {h : Heap}, elemG E es i [] parts = some (l, h) → h = [] ∧ ∀ H, elemG E es i H parts = some (l, H)
  | [], i, l, h, e => by simp_all [elemG]
  | (j, x) :: r, i, l, h, e => by
    simp only [elemG] at e
    split at e
    · rename_i y H1 h1
      obtain ⟨rfl, k1⟩ := giv_none h1
      split at e
      · rename_i l2 H2 h2
        obtain ⟨rfl, k2⟩ := elemG_none r (i + 1) h2
        split at e
        · rename_i hc
          simp only [Option.some.injEq, Prod.mk.injEq] at e
          obtain ⟨rfl, rfl⟩ := e
          exact ⟨rfl, fun H => by simp only [elemG, k1, k2]; rw [if_pos hc]⟩
        · cases e
      · cases e
    · cases e

theorem evOp_nil {o : Oper} {K : V → Heap → Prop} (h : evOp T hint (SCall P) o E [] (fun v h => h = [] ∧ K v H)) : evOp T hint (ACallV P) o E H K := by
  obtain ⟨d, op, t, p, a, g⟩ := o
  cases op <;> try (exact h.elim)
  case move x => exact h.2
  case assign x =>
    simp only [evOp_assign] at h ⊢
    unfold evAsg at h ⊢
    split at h
    · split at h
      · simp at h
      · exact h.elim
    · exact h.2
  case pick c x y =>
    simp only [evOp_pick] at h ⊢
    unfold evIf at h ⊢
    split at h
    · rcases Br_iff h with ⟨rfl, h⟩ | ⟨rfl, h⟩ <;> exact h.2
    · exact h.elim
  case alloc t => obtain ⟨cs, _, h, _⟩ := Som_iff h; simp at h
  case box t x => obtain ⟨cs, _, h, _⟩ := Som_iff h; simp at h
  case build t ps =>
    simp only [evOp] at h ⊢
    split at h
    · obtain ⟨cs, hc, _, hk⟩ := Som_iff h; simp only [hc, Som]; exact hk
    · obtain ⟨cs, hc, _, hk⟩ := Som_iff h; simp only [hc, Som]; exact hk
    · exact h.elim
  case buildSlice t n ps =>
    simp only [evOp] at h ⊢
    split at h
    · cases hh : hinted hint d <;> simp only [hh] at h ⊢
      · obtain ⟨⟨l, h1⟩, hl, h⟩ := Som_iff h
        obtain ⟨rfl, hl2⟩ := elemG_none _ _ hl
        simp only [hl2, Som]
        split at h
        · rename_i hc
          simp only at hc h
          simp only [hc]
          exact h.2
        · exact h.elim
      · obtain ⟨l, hl, h⟩ := Som_iff h
        split at h
        · simp at h
        · exact h.elim
    · exact h.elim
  case load t x =>
    obtain ⟨v, hv, _, hk⟩ := Som_iff h
    simp only [evOp_load, aload_nil hv, Som]; exact hk
  case store t x y =>
    obtain ⟨H', hv, hh, hk⟩ := Som_iff h
    subst hh
    unfold astore at hv
    split at hv <;> simp at hv
  case nilCheck x =>
    simp only [evOp] at h ⊢
    split at h <;> first | exact h.2 | exact h.elim
  case binOp op t x y t' =>
    simp only [evOp] at h ⊢
    split at h
    · obtain ⟨v, hv, _, hk⟩ := Som_iff h; simp only [hv, Som]; exact hk
    · obtain ⟨v, hv, _, hk⟩ := Som_iff h; simp only [hv, Som]; exact hk
    · obtain ⟨v, hv, _, hk⟩ := Som_iff h; simp only [hv, Som]; exact hk
    · obtain ⟨v, hv, _, hk⟩ := Som_iff h; simp only [hv, Som]; exact hk
    · split at h
      · obtain ⟨v, hv, _, hk⟩ := Som_iff h; simp only [anilr_nil hv, Som]; exact hk
      · obtain ⟨v, hv, _, hk⟩ := Som_iff h; simp only [anilr_nil hv, Som]; exact hk
      · exact h.elim
  case unOp op t x =>
    simp only [evOp] at h ⊢
    split at h <;> first | exact h.2 | exact h.elim
  case convert s t x =>
    simp only [evOp] at h ⊢
    split at h <;> first | exact h.2 | exact h.elim
  case makeFunc f x y =>
    cases f <;> first | exact h.2 | exact h.elim
  case makeSlice t n c =>
    simp only [evOp] at h ⊢
    split at h
    · split at h
      · split at h
        · split at h <;> simp at h
        · exact h.2
      · exact h.elim
    · exact h.elim
  case slice t x lo hi mx =>
    obtain ⟨v, hv, _, hk⟩ := Som_iff h
    simp only [evOp_slice, aslice_nil hv, Som]; exact hk
  case fieldAddr t x f =>
    obtain ⟨v, hv, _, hk⟩ := Som_iff h
    simp only [evOp_fieldAddr, hv, Som]; exact hk
  case field t x f =>
    obtain ⟨v, hv, _, hk⟩ := Som_iff h
    simp only [evOp_field, hv, Som]; exact hk
  case indexAddr t x i =>
    obtain ⟨v, hv, _, hk⟩ := Som_iff h
    simp only [evOp_indexAddr, aidx_nil hv, Som]; exact hk
  case index t x i =>
    obtain ⟨v, hv, _, hk⟩ := Som_iff h
    simp only [evOp_index, hv, Som]; exact hk
  case extract x i =>
    simp only [evOp] at h ⊢
    split at h
    · obtain ⟨v, hv, _, hk⟩ := Som_iff h; simp only [hv, Som]; exact hk
    · exact h.elim
  case makeMap t r => cases r <;> first | (obtain ⟨h, _⟩ := h; simp at h; done) | exact h.elim
  case lookup t m k ok =>
    obtain ⟨v, hv, _, hk⟩ := Som_iff h
    simp only [evOp_lookup, alook_nil0 hv, Som]; exact hk
  case mapUpdate t m k v =>
    obtain ⟨H', hv, hh, hk⟩ := Som_iff h
    subst hh
    unfold aput at hv
    split at hv <;> simp at hv
  case insert t m k v =>
    obtain ⟨H', hv, hh, hk⟩ := Som_iff h
    subst hh
    unfold aput at hv
    split at hv <;> simp at hv
  case entry x =>
    obtain ⟨v, hv, _, hk⟩ := Som_iff h
    simp only [evOp_entry, aentry_nil0 hv, Som]; exact hk
  case range t x =>
    simp only [evOp] at h
    split at h
    · simp at h
    · exact h.elim
  case call c => exact evCall_nil h
end
end Go.Aw
end

section
namespace Go.Aw
open Go

/-- S: the abstract heap is no part of it. R: it leaves the abstract heap alone. L: as R, and it calls nothing. A: a new block, no call. W: anything. -/
inductive Cl where
  | S | R | W | L | A
  deriving DecidableEq

def compat : Cl → Cl → Bool
  | .S, _ => true
  | _, .S => true
  | .R, .R => true
  | .L, .R => true
  | .R, .L => true
  | .L, .L => true
  | .L, .A => true
  | _, _ => false

def stepV (T : Nat → Ty) (hint : Nat → Bool) (call : CallH) (all : List Oper) (o : Oper) (E : Env) (H : Heap) (K : V → Heap → Prop) : Prop :=
  match o.guard with
  | none => evOp T hint call o E H K
  | some (j, w) => evGo (gval all j E) w (fun _ => evOp T hint call o E H K) (fun _ => K (.tup []) H)

/-- Operations that may look at the abstract heap and leave it alone. -/
def lop : Op → Bool
  | .move _ | .pick _ _ _ | .load _ _ | .fieldAddr _ _ _ | .indexAddr _ _ _ | .index _ _ _ | .field _ _ _ | .binOp _ _ _ _ _ | .unOp _ _ _ | .convert _ _ _ | .slice _ _ _ _ _ | .extract _ _ | .build _ _ | .nilCheck _ | .lookup _ _ _ _ | .entry _ => true
  | .call ⟨.builtin .len, _, _⟩ => true
  | .call ⟨.builtin .min, _, _⟩ => true
  | .call ⟨.builtin .max, _, _⟩ => true
  | .call ⟨.builtin .append, _, _⟩ => true
  | _ => false

/-- Operations that lay a block. -/
def aop (h : Bool) : Op → Bool
  | .alloc _ | .box _ _ | .makeSlice _ _ _ | .assign _ | .makeMap _ none | .range _ _ => true
  | .buildSlice _ _ _ => h
  | _ => false

def stepC (P : Program) (T : Nat → Ty) (hint : Nat → Bool) (all : List Oper) (c : Cl) (o : Oper) (E : Env) (H : Heap) (K : V → Heap → Prop) : Prop :=
  match c with
  | .S => stepV T hint (SCall P) all o E [] (fun v h => h = [] ∧ K v H)
  | .R => stepV T hint (DCall P) all o E H (fun v h => h = H ∧ K v H)
  | .W => stepV T hint (DCall P) all o E H K
  | .L => lop o.op = true ∧ stepV T hint (fun _ _ _ _ => False) all o E H (fun v h => h = H ∧ K v H)
  | .A => aop (hinted hint o.dst) o.op = true ∧ stepV T hint (fun _ _ _ _ => False) all o E H K

def OutC (P : Program) (T : Nat → Ty) (hint : Nat → Bool) (all : List Oper) (c : Cl) (o : Oper) (E : Env) (H : Heap) (v : V) (H' : Heap) : Prop :=
  match c with
  | .S => (∀ K : V → Heap → Prop, K v [] → stepV T hint (SCall P) all o E [] K) ∧ H' = H
  | .R => (∀ K : V → Heap → Prop, K v H → stepV T hint (DCall P) all o E H K) ∧ H' = H
  | .W => ∀ K : V → Heap → Prop, K v H' → stepV T hint (DCall P) all o E H K
  | .L => (lop o.op = true ∧ ∀ K : V → Heap → Prop, K v H → stepV T hint (fun _ _ _ _ => False) all o E H K) ∧ H' = H
  | .A => (aop (hinted hint o.dst) o.op = true ∧ ∀ K : V → Heap → Prop, K v H' → stepV T hint (fun _ _ _ _ => False) all o E H K) ∧ ∃ X, H' = H ++ X

section
variable {P : Program} {T : Nat → Ty} {hint : Nat → Bool} {ops : Array Oper} {cls : Nat → Cl} {KE : Env → Heap → Prop}

theorem lin_gd {x : V} {w : Bool} {A B : (V → Heap → Prop) → Prop} (h1 : Lin A) (h2 : Lin B) : Lin fun K => evGo x w (fun _ => A K) (fun _ => B K) := by
  unfold evGo
  split
  · exact lin_br h1 h2
  · exact h2
  · exact lin_false

theorem stepV_lin {call : CallH} {all : List Oper} {o : Oper} {E : Env} {H : Heap} (hc : ∀ f vs, Lin (call f vs H)) : Lin fun K => stepV T hint call all o E H K := by
  unfold stepV
  split
  · exact evOp_lin hc o
  · exact lin_gd (evOp_lin hc o) (lin_one _ _)

theorem ge_same {E E' : Env} {x : Operand} (h : ∀ t, x = .tmp t → E.look t = E'.look t) : ge E x = ge E' x := by
  cases x with
  | tmp t => exact h t rfl
  | _ => rfl

theorem stepV_same {call : CallH} {o : Oper} {E E' : Env} {H : Heap} {K : V → Heap → Prop} (h : ∀ t ∈ o.looksAt ops, E.look t = E'.look t) : stepV T hint call ops.toList o E H K = stepV T hint call ops.toList o E' H K := by
  have h1 : ∀ x ∈ o.op.operands, ge E x = ge E' x := fun x hx => ge_same fun t ht => h t (List.mem_append_left _ (List.mem_filterMap.2 ⟨x, by simpa using hx, by subst ht; rfl⟩))
  unfold stepV
  split
  · rw [evOp_same h1]
  · rename_i j w hg
    have h2 : gval ops.toList j E = gval ops.toList j E' := by
      unfold gval
      split
      · rename_i t ht
        refine h t (List.mem_append_right _ ?_)
        unfold gdst at ht
        rw [hg]
        simp only [Option.mem_toList]
        split at ht
        · rename_i o' ho'
          have : ops[j]? = some o' := by rw [← ho']; simp
          rw [this]; exact ht
        · cases ht
      · rfl
    rw [h2, evOp_same h1]

theorem false_lin (H : Heap) (f : V) (vs : List V) : Lin ((fun _ _ _ _ => False : CallH) f vs H) := fun _ h => h.elim

section
variable {H X : Heap} {E : Env} {K : V → Heap → Prop}

theorem some_app {α : Type} {l m : List α} {i : Nat} {x : α} (h : l[i]? = some x) : (l ++ m)[i]? = some x := by
  rw [List.getElem?_append_left (List.getElem?_eq_some_iff.1 h).1]; exact h

theorem content_app {x : V} {l : List D} (h : content H x = some l) : content (H ++ X) x = some l := by
  unfold content at h ⊢
  split at h <;> try exact h
  split at h
  · rename_i e
    simp only [some_app e]; exact h
  · cases h

theorem aload_app {t : Ty} {x v : V} (h : aload t H x = some v) : aload t (H ++ X) x = some v := by
  unfold aload at h ⊢
  split at h <;> try exact h
  · split at h
    · rename_i e
      simp only [some_app e]; exact h
    · cases h
  · split at h
    · rename_i e
      simp only [some_app e]; exact h
    · cases h

theorem alen_app {t : Ty} {x : V} {n : Nat} (h : alen t H x = some n) : alen t (H ++ X) x = some n := by
  unfold alen at h ⊢
  split at h <;> try exact h
  · split at h
    · rename_i e
      simp only [some_app e]; exact h
    · cases h
  · split at h
    · rename_i e
      simp only [some_app e]; exact h
    · cases h

theorem alook_app {t : Ty} {ok : Bool} {m k v : V} (h : alook t ok H m k = some v) : alook t ok (H ++ X) m k = some v := by
  unfold alook at h ⊢
  split at h
  · rename_i kz z es k hc
    have : mcont (H ++ X) m = some es := by
      unfold mcont at hc ⊢
      split at hc
      · split at hc
        · rename_i e
          simp only [some_app e]; exact hc
        · cases hc
      · exact hc
      · cases hc
    rw [this]; exact h
  · cases h

theorem aentry_app {x v : V} (h : aentry H x = some v) : aentry (H ++ X) x = some v := by
  unfold aentry at h ⊢
  split at h
  · split at h
    · rename_i e
      simp only [some_app e]
      split at h
      · rename_i e1 e2
        simp only [some_app e2, e1]; exact h
      · cases h
    · cases h
  · cases h

theorem aidx_app {t : Ty} {x i v : V} (h : aidxAddr t H x i = some v) : aidxAddr t (H ++ X) x i = some v := by
  unfold aidxAddr at h ⊢
  split at h <;> try exact h
  split at h
  · rename_i e
    simp only [some_app e]; exact h
  · cases h

theorem anilr_app {t : Ty} {x y : V} {b : Bool} (h : anilr t H x y = some b) : anilr t (H ++ X) x y = some b := by
  unfold anilr at h ⊢
  split at h <;> try exact h
  split at h
  · rename_i e
    simp only [some_app e]; exact h
  · cases h

theorem aslice_app {t : Ty} {x v : V} {lo hi mx : Option Operand} (h : aslice t E H x lo hi mx = some v) : aslice t E (H ++ X) x lo hi mx = some v := by
  unfold aslice at h ⊢
  split at h
  · exact h
  · split at h
    · rename_i e
      simp only [some_app e]; exact h
    · cases h
  · exact h
  · split at h
    · rename_i hc
      rw [content_app hc]
      exact h
    · cases h

theorem acopy_app {t : Ty} {x y : V} {p : Nat × Heap} (h : acopy t H x y = some p) : acopy t (H ++ X) x y = some (p.1, p.2 ++ X) := by
  unfold acopy at h ⊢
  split at h
  case h_2 => cases h
  rename_i es z id n lo len ys hc
  rw [content_app hc]
  simp only
  split at h
  case h_2 => cases h
  rename_i sz nl els he
  have hid := lt_of_getElem? he
  rw [List.getElem?_append_left hid, he]
  simp only
  split at h
  · rename_i hcond
    cases h
    rw [if_pos hcond, List.set_append_left _ _ hid]
  · cases h

theorem aappend_app {t : Ty} {hin : Bool} {base x : V} (h : aappend t hin H base x (fun v h => h = H ∧ K v (H ++ X))) : aappend t hin (H ++ X) base x K := by
  unfold aappend at h ⊢
  cases hc : content H x with
  | none => rw [hc] at h; cases t <;> exact h.elim
  | some ys =>
    rw [hc] at h
    rw [content_app hc]
    cases t with
    | sl es z =>
      simp only at h ⊢
      cases hs : sized es ys with
      | false => rw [hs] at h; exact h.elim
      | true =>
        rw [hs] at h
        simp only at h ⊢
        cases base with
        | slx nl l =>
          simp only at h ⊢
          cases hz : sized es l && decide (l.length + ys.length ≤ 4294967296) with
          | false => rw [hz] at h; exact h.elim
          | true =>
            rw [hz] at h
            simp only at h ⊢
            cases hin with
            | true =>
              simp only at h ⊢
              split at h
              · exact absurd (congrArg List.length h.1) (by simp)
              · exact h.elim
            | false => exact h.2
        | ref id n lo len =>
          simp only at h ⊢
          cases e : H[id]? with
          | none => rw [e] at h; exact h.elim
          | some b =>
            rw [e] at h
            rw [some_app e]
            cases b with
            | arr sz nl els =>
              simp only at h ⊢
              split at h
              · have h1 := h.1
                rw [List.set_append_left _ _ (lt_of_getElem? e), h1]
                exact h.2
              · exact h.elim
            | _ => exact h.elim
        | _ => exact h.elim
    | _ => exact h.elim

/-- What only looks sees the same where there are more blocks. -/
theorem evOp_app {o : Oper} (hl : lop o.op = true) (h : evOp T hint (fun _ _ _ _ => False) o E H (fun v h => h = H ∧ K v (H ++ X))) : evOp T hint (fun _ _ _ _ => False) o E (H ++ X) K := by
  obtain ⟨d, op, t, p, a, g⟩ := o
  cases op <;> try (exact absurd hl Bool.false_ne_true)
  case move x => exact h.2
  case pick c x y =>
    simp only [evOp_pick] at h ⊢
    unfold evIf at h ⊢
    split at h
    · rcases Br_iff h with ⟨rfl, h⟩ | ⟨rfl, h⟩ <;> exact h.2
    · exact h.elim
  case build t ps =>
    simp only [evOp] at h ⊢
    split at h
    · obtain ⟨cs, hc, _, hk⟩ := Som_iff h; simp only [hc, Som]; exact hk
    · obtain ⟨cs, hc, _, hk⟩ := Som_iff h; simp only [hc, Som]; exact hk
    · exact h.elim
  case load t x =>
    obtain ⟨v, hv, _, hk⟩ := Som_iff h
    simp only [evOp_load, aload_app hv, Som]; exact hk
  case nilCheck x =>
    simp only [evOp] at h ⊢
    split at h <;> first | exact h.2 | exact h.elim
  case binOp op t x y t' =>
    simp only [evOp] at h ⊢
    split at h
    · obtain ⟨v, hv, _, hk⟩ := Som_iff h; simp only [hv, Som]; exact hk
    · obtain ⟨v, hv, _, hk⟩ := Som_iff h; simp only [hv, Som]; exact hk
    · obtain ⟨v, hv, _, hk⟩ := Som_iff h; simp only [hv, Som]; exact hk
    · obtain ⟨v, hv, _, hk⟩ := Som_iff h; simp only [hv, Som]; exact hk
    · split at h
      · obtain ⟨v, hv, _, hk⟩ := Som_iff h; simp only [anilr_app hv, Som]; exact hk
      · obtain ⟨v, hv, _, hk⟩ := Som_iff h; simp only [anilr_app hv, Som]; exact hk
      · exact h.elim
  case unOp op t x =>
    simp only [evOp] at h ⊢
    split at h <;> first | exact h.2 | exact h.elim
  case convert s t x =>
    simp only [evOp] at h ⊢
    split at h <;> first | exact h.2 | exact h.elim
  case slice t x lo hi mx =>
    obtain ⟨v, hv, _, hk⟩ := Som_iff h
    simp only [evOp_slice, aslice_app hv, Som]; exact hk
  case fieldAddr t x f =>
    obtain ⟨v, hv, _, hk⟩ := Som_iff h
    simp only [evOp_fieldAddr, hv, Som]; exact hk
  case field t x f =>
    obtain ⟨v, hv, _, hk⟩ := Som_iff h
    simp only [evOp_field, hv, Som]; exact hk
  case indexAddr t x i =>
    obtain ⟨v, hv, _, hk⟩ := Som_iff h
    simp only [evOp_indexAddr, aidx_app hv, Som]; exact hk
  case index t x i =>
    obtain ⟨v, hv, _, hk⟩ := Som_iff h
    simp only [evOp_index, hv, Som]; exact hk
  case extract x i =>
    simp only [evOp] at h ⊢
    split at h
    · obtain ⟨v, hv, _, hk⟩ := Som_iff h; simp only [hv, Som]; exact hk
    · exact h.elim
  case entry x =>
    obtain ⟨v, hv, _, hk⟩ := Som_iff h
    simp only [evOp_entry, aentry_app hv, Som]; exact hk
  case lookup t m k ok =>
    obtain ⟨v, hv, _, hk⟩ := Som_iff h
    simp only [evOp_lookup, alook_app hv, Som]; exact hk
  case call c =>
    obtain ⟨ce, xs, ts⟩ := c
    cases ce with
    | value f => simp [lop] at hl
    | invoke r m => exact h.elim
    | builtin b =>
      simp only [evOp, evCall] at h ⊢
      split at h
      · obtain ⟨n, hn, _, hk⟩ := Som_iff h; simp only [alen_app hn, Som]; exact hk
      · obtain ⟨n, hn, _, hk⟩ := Som_iff h; simp only [hn, Som]; exact hk
      · obtain ⟨n, hn, _, hk⟩ := Som_iff h; simp only [hn, Som]; exact hk
      · split at h
        · exact aappend_app h
        · exact h.elim
      · obtain ⟨p, hp, hh, hk⟩ := Som_iff h
        simp only [acopy_app hp, Som]
        rw [hh]
        exact hk
      · exact h.elim

/-- What lays a block leaves the others as they are. -/
theorem evOp_ext {o : Oper} (hl : aop (hinted hint o.dst) o.op = true) (h : evOp T hint (fun _ _ _ _ => False) o E H K) : evOp T hint (fun _ _ _ _ => False) o E H (fun v h => K v h ∧ ∃ X, h = H ++ X) := by
  obtain ⟨d, op, t, p, a, g⟩ := o
  cases op <;> try (exact absurd hl Bool.false_ne_true)
  case assign x =>
    simp only [evOp_assign] at h ⊢
    unfold evAsg at h ⊢
    split at h
    · split at h
      · exact ⟨h, _, rfl⟩
      · exact h.elim
    · exact ⟨h, [], by simp⟩
  case alloc t => obtain ⟨cs, hc, h⟩ := Som_iff h; simp only [evOp, hc, Som]; exact ⟨h, _, rfl⟩
  case makeMap t r => cases r <;> first | exact absurd hl Bool.false_ne_true | (simp only [evOp] at h ⊢; exact ⟨h, _, rfl⟩)
  case range t x =>
    simp only [evOp] at h ⊢
    split at h
    · split at h
      · exact ⟨h, _, rfl⟩
      · exact h.elim
    · exact h.elim
  case box t x => obtain ⟨cs, hc, h⟩ := Som_iff h; simp only [evOp, hc, Som]; exact ⟨h, _, rfl⟩
  case buildSlice t n ps =>
    have hh : hinted hint d = true := hl
    simp only [evOp, hh] at h ⊢
    split at h
    · obtain ⟨l, hl, h⟩ := Som_iff h
      simp only [hl, Som]
      split at h
      · exact ⟨h, _, rfl⟩
      · exact h.elim
    · exact h.elim
  case makeSlice t n c =>
    simp only [evOp] at h ⊢
    split at h
    · split at h
      · split at h
        · split at h <;> exact ⟨h, _, rfl⟩
        · exact ⟨h, [], by simp⟩
      · exact h.elim
    · exact h.elim

theorem stepV_ext {all : List Oper} {o : Oper} (hl : aop (hinted hint o.dst) o.op = true) (h : stepV T hint (fun _ _ _ _ => False) all o E H K) : stepV T hint (fun _ _ _ _ => False) all o E H (fun v h => K v h ∧ ∃ X, h = H ++ X) := by
  unfold stepV at h ⊢
  split at h
  · exact evOp_ext hl h
  · unfold evGo at h ⊢
    split at h
    · rcases Br_iff h with ⟨hb, h⟩ | ⟨hb, h⟩
      · rw [hb]; exact evOp_ext hl h
      · rw [hb]; exact ⟨h, [], by simp⟩
    · exact ⟨h, [], by simp⟩
    · exact h.elim

theorem stepV_app {all : List Oper} {o : Oper} (hl : lop o.op = true) (h : stepV T hint (fun _ _ _ _ => False) all o E H (fun v h => h = H ∧ K v (H ++ X))) : stepV T hint (fun _ _ _ _ => False) all o E (H ++ X) K := by
  unfold stepV at h ⊢
  split at h
  · exact evOp_app hl h
  · unfold evGo at h ⊢
    split at h
    · rcases Br_iff h with ⟨hb, h⟩ | ⟨hb, h⟩
      · rw [hb]; exact evOp_app hl h
      · rw [hb]; exact h.2
    · exact h.2
    · exact h.elim

end

theorem stepC_out {c : Cl} {all : List Oper} {o : Oper} {E : Env} {H : Heap} {K : V → Heap → Prop} (h : stepC P T hint all c o E H K) : ∃ v H', OutC P T hint all c o E H v H' ∧ K v H' := by
  cases c with
  | S =>
    obtain ⟨v, H', ⟨rfl, h1⟩, h2⟩ := stepV_lin SCall_lin _ h
    exact ⟨v, H, ⟨h2, rfl⟩, h1⟩
  | R =>
    obtain ⟨v, H', ⟨rfl, h1⟩, h2⟩ := stepV_lin DCall_lin _ h
    exact ⟨v, _, ⟨h2, rfl⟩, h1⟩
  | W =>
    obtain ⟨v, H', h1, h2⟩ := stepV_lin DCall_lin _ h
    exact ⟨v, H', h2, h1⟩
  | L =>
    obtain ⟨v, H', ⟨rfl, h1⟩, h2⟩ := stepV_lin (false_lin H) _ h.2
    exact ⟨v, _, ⟨⟨h.1, h2⟩, rfl⟩, h1⟩
  | A =>
    obtain ⟨v, H', ⟨h1, hx⟩, h2⟩ := stepV_lin (false_lin H) _ (stepV_ext h.1 h.2)
    exact ⟨v, H', ⟨⟨h.1, h2⟩, hx⟩, h1⟩

theorem out_stepC {c : Cl} {all : List Oper} {o : Oper} {E : Env} {H H' : Heap} {v : V} {K : V → Heap → Prop} (h : OutC P T hint all c o E H v H') (hk : K v H') : stepC P T hint all c o E H K := by
  cases c with
  | S => obtain ⟨h, rfl⟩ := h; exact h _ ⟨rfl, hk⟩
  | R => obtain ⟨h, rfl⟩ := h; exact h _ ⟨rfl, hk⟩
  | W => exact h _ hk
  | L => obtain ⟨⟨h0, h⟩, rfl⟩ := h; exact ⟨h0, h _ ⟨rfl, hk⟩⟩
  | A => exact ⟨h.1.1, h.1.2 _ hk⟩

theorem outC_same {c : Cl} {o : Oper} {E E' : Env} {H H' : Heap} {v : V} (hl : ∀ t ∈ o.looksAt ops, E.look t = E'.look t) (h : OutC P T hint ops.toList c o E H v H') : OutC P T hint ops.toList c o E' H v H' := by
  cases c with
  | S => exact ⟨fun K hk => by rw [← stepV_same hl]; exact h.1 K hk, h.2⟩
  | R => exact ⟨fun K hk => by rw [← stepV_same hl]; exact h.1 K hk, h.2⟩
  | W => exact fun K hk => by rw [← stepV_same hl]; exact h K hk
  | L => exact ⟨⟨h.1.1, fun K hk => by rw [← stepV_same hl]; exact h.1.2 K hk⟩, h.2⟩
  | A => exact ⟨⟨h.1.1, fun K hk => by rw [← stepV_same hl]; exact h.1.2 K hk⟩, h.2⟩

theorem outC_L {o : Oper} {E : Env} {H X : Heap} {v : V} (h : OutC P T hint ops.toList .L o E H v H) : OutC P T hint ops.toList .L o E (H ++ X) v (H ++ X) :=
  ⟨⟨h.1.1, fun K hk => stepV_app h.1.1 (h.1.2 _ ⟨rfl, hk⟩)⟩, rfl⟩

theorem outC_S {o : Oper} {E : Env} {H H' : Heap} {v : V} (h : OutC P T hint ops.toList .S o E H v H) : OutC P T hint ops.toList .S o E H' v H' := ⟨h.1, rfl⟩

theorem put_look_ne {E : Env} {d : Option Tmp} {v : V} {t : Nat} (h : d ≠ some t) : (put E d v).look t = E.look t := by
  cases d with
  | none => rfl
  | some d =>
    simp only [put, Env.look]
    rw [if_neg (fun e => h (by rw [e]))]

theorem put_swap {E : Env} {d d' : Option Tmp} {v v' : V} (h : ∀ t, d = some t → d' ≠ some t) (t : Nat) : (put (put E d v) d' v').look t = (put (put E d' v') d v).look t := by
  cases d with
  | none => rfl
  | some d =>
    cases d' with
    | none => rfl
    | some d' =>
      have hne : d' ≠ d := fun e => h d rfl (by rw [e])
      simp only [put, Env.look]
      by_cases h1 : d' = t
      · subst h1; rw [if_pos rfl, if_neg (fun e => hne e.symm), if_pos rfl]
      · rw [if_neg h1, if_neg h1]

/-- Two operations that have nothing to do with one another. -/
theorem out_swap {ci cj : Cl} {oi oj : Oper} {E : Env} {H Hi Hj : Heap} {v u : V} (hc : compat ci cj = true) (hap : oi.apart ops oj = true)
    (hi : OutC P T hint ops.toList ci oi E H v Hi) (hj : OutC P T hint ops.toList cj oj (put E oi.dst v) Hi u Hj) :
    ∃ Hj', OutC P T hint ops.toList cj oj E H u Hj' ∧ OutC P T hint ops.toList ci oi (put E oj.dst u) Hj' v Hj := by
  obtain ⟨h1, h2, h3⟩ := Oper.apart_spec hap
  have ej : ∀ t ∈ oj.looksAt ops, (put E oi.dst v).look t = E.look t := fun t ht => put_look_ne fun e => h1 t e ht
  have ei : ∀ t ∈ oi.looksAt ops, E.look t = (put E oj.dst u).look t := fun t ht => (put_look_ne fun e => h3 t e ht).symm
  cases cj with
  | S =>
    have hj' := outC_same ej hj
    obtain rfl := hj'.2
    exact ⟨H, ⟨hj'.1, rfl⟩, outC_same ei hi⟩
  | R =>
    have hj' := outC_same ej hj
    obtain rfl := hj'.2
    cases ci with
    | S => obtain rfl := hi.2; exact ⟨_, hj', outC_same ei hi⟩
    | R => obtain rfl := hi.2; exact ⟨_, hj', outC_same ei hi⟩
    | L => obtain rfl := hi.2; exact ⟨_, hj', outC_same ei hi⟩
    | A => cases hc
    | W => cases hc
  | L =>
    have hj' := outC_same ej hj
    obtain rfl := hj'.2
    cases ci with
    | S => obtain rfl := hi.2; exact ⟨_, hj', outC_same ei hi⟩
    | R => obtain rfl := hi.2; exact ⟨_, hj', outC_same ei hi⟩
    | L => obtain rfl := hi.2; exact ⟨_, hj', outC_same ei hi⟩
    | A => cases hc
    | W => cases hc
  | A =>
    have hj' := outC_same ej hj
    cases ci with
    | S => obtain rfl := hi.2; exact ⟨Hj, hj', outC_same ei (outC_S hi)⟩
    | L =>
      obtain rfl := hi.2
      obtain ⟨X, rfl⟩ := hj'.2
      exact ⟨_, hj', outC_same ei (outC_L hi)⟩
    | R => cases hc
    | A => cases hc
    | W => cases hc
  | W =>
    have hj' := outC_same ej hj
    cases ci with
    | S => obtain rfl := hi.2; exact ⟨Hj, hj', outC_same ei (outC_S hi)⟩
    | R => cases hc
    | L => cases hc
    | A => cases hc
    | W => cases hc

def Kq (K : Env → Heap → Prop) (E : Env) (H : Heap) : Prop := ∃ E0, (∀ t, E.look t = E0.look t) ∧ K E0 H

/-- Whatever order is picked from here on. -/
def AnyA (P : Program) (T : Nat → Ty) (hint : Nat → Bool) (cls : Nat → Cl) (ops : Array Oper) (K : Env → Heap → Prop) : Nat → Array Bool → Env → Heap → Prop
  | 0, listed, E, H => Region.ready .any ops listed = [] ∧ Kq K E H
  | f + 1, listed, E, H => (Region.ready .any ops listed = [] → Kq K E H) ∧
    ∀ i ∈ Region.ready .any ops listed, ∀ o, ops[i]? = some o → stepC P T hint ops.toList (cls i) o E H fun v H' => AnyA P T hint cls ops K f (listed.setIfInBounds i true) (put E o.dst v) H'

theorem Kq_same {E E' : Env} {H : Heap} (h : ∀ t, E.look t = E'.look t) (hk : Kq KE E H) : Kq KE E' H := by
  obtain ⟨E0, h1, h2⟩ := hk
  exact ⟨E0, fun t => (h t).symm.trans (h1 t), h2⟩

theorem put_same {E E' : Env} (h : ∀ t, E.look t = E'.look t) (d : Option Tmp) (v : V) : ∀ t, (put E d v).look t = (put E' d v).look t := by
  intro t
  cases d with
  | none => exact h t
  | some d => simp only [put, Env.look, h t]

theorem anyA_same : ∀ (f : Nat) (listed : Array Bool) (E E' : Env) (H : Heap), (∀ t, E.look t = E'.look t) → AnyA P T hint cls ops KE f listed E H → AnyA P T hint cls ops KE f listed E' H
  | 0, _, _, _, _, h, hk => ⟨hk.1, Kq_same h hk.2⟩
  | f + 1, listed, E, E', H, h, hk => by
    refine ⟨fun he => Kq_same h (hk.1 he), fun i hi o ho => ?_⟩
    obtain ⟨v, H', h1, h2⟩ := stepC_out (hk.2 i hi o ho)
    exact out_stepC (outC_same (fun t _ => h t) h1) (anyA_same f _ _ _ _ (put_same h _ _) h2)

theorem anyA_first {i : Nat} {oi : Oper} (hi : ops[i]? = some oi) : ∀ (fuel : Nat) (listed : Array Bool) (E : Env) (H : Heap) (v : V) (Hi : Heap),
      (∀ j oj, ops[j]? = some oj → j ≠ i → listed.getD j true = false → (∀ e ∈ oj.after, Region.binds .any e = true → e.on ≠ i) → oi.apart ops oj = true ∧ compat (cls i) (cls j) = true) →
      i ∈ Region.ready .any ops listed → OutC P T hint ops.toList (cls i) oi E H v Hi →
      AnyA P T hint cls ops KE fuel (listed.setIfInBounds i true) (put E oi.dst v) Hi → AnyA P T hint cls ops KE (fuel + 1) listed E H := by
  intro fuel
  induction fuel with
  | zero =>
    intro listed E H v Hi _ hr ho h
    refine ⟨fun h => (by rw [h] at hr; cases hr), fun j hj o hoj => ?_⟩
    by_cases hji : j = i
    · subst hji; rw [hi] at hoj; cases hoj; exact out_stepC ho h
    · have := ready_mono hj hji
      rw [h.1] at this
      cases this
  | succ fuel ih =>
    intro listed E H v Hi hfree hr ho h
    refine ⟨fun h => (by rw [h] at hr; cases hr), fun j hj oj hoj => ?_⟩
    by_cases hji : j = i
    · subst hji; rw [hi] at hoj; cases hoj; exact out_stepC ho h
    · obtain ⟨u, Hj, hu, hk⟩ := stepC_out (h.2 j (ready_mono hj hji) oj hoj)
      obtain ⟨hjun, oj', hoj', hall⟩ := mem_ready.1 hj
      rw [hoj] at hoj'; cases hoj'
      have hnot : ∀ e ∈ oj.after, Region.binds .any e = true → e.on ≠ i := fun e he hb heq => by
        have h1 := hall e he hb
        have h0 := (mem_ready.1 hr).1
        rw [heq] at h1
        rcases Nat.lt_or_ge i listed.size with h' | h'
        · simp [h'] at h0 h1; rw [h0] at h1; cases h1
        · simp [Array.getElem?_eq_none h'] at h1
      obtain ⟨hap, hcm⟩ := hfree j oj hoj hji hjun hnot
      obtain ⟨Hj', hu', ho'⟩ := out_swap hcm hap ho hu
      have hfree' : ∀ k ok, ops[k]? = some ok → k ≠ i → (listed.setIfInBounds j true).getD k true = false →
          (∀ e ∈ ok.after, Region.binds .any e = true → e.on ≠ i) → oi.apart ops ok = true ∧ compat (cls i) (cls k) = true := fun k ok hk hki hun hno => by
        refine hfree k ok hk hki ?_ hno
        by_cases hjk : j = k
        · subst hjk; exact hjun
        · rw [getD_set_ne true hjk] at hun; exact hun
      refine out_stepC hu' (ih (listed.setIfInBounds j true) _ _ v Hj hfree' (ready_mono hr (Ne.symm hji)) ho' ?_)
      rw [Array.setIfInBounds_comm _ _ hji]
      exact anyA_same _ _ _ _ _ (fun t => put_swap (Oper.apart_spec hap).2.1 t) hk

/-- The walk in the text's order. -/
def evLex (P : Program) (T : Nat → Ty) (hint : Nat → Bool) (cls : Nat → Cl) (all : List Oper) (K : Env → Heap → Prop) : Nat → List Oper → Env → Heap → Prop
  | _, [], E, H => K E H
  | k, o :: r, E, H => stepC P T hint all (cls k) o E H fun v H' => evLex P T hint cls all K (k + 1) r (put E o.dst v) H'

def freeC (cls : Nat → Cl) (ops : Array Oper) (listed : Array Bool) (i : Nat) : Bool :=
  match ops[i]? with
  | some oi => (List.range ops.size).all fun j => match ops[j]? with
    | some oj => j == i || listed.getD j true || oj.after.any (fun e => Region.binds .any e && e.on == i) || (oi.apart ops oj && compat (cls i) (cls j))
    | none => true
  | none => false

def lexC (cls : Nat → Cl) (ops : Array Oper) : Nat → Nat → Array Bool → Bool
  | 0, _, listed => (Region.ready .any ops listed).isEmpty
  | fuel + 1, k, listed => (Region.ready .any ops listed).contains k && freeC cls ops listed k && lexC cls ops fuel (k + 1) (listed.setIfInBounds k true)

theorem freeC_spec {i : Nat} {oi : Oper} {listed : Array Bool} (hi : ops[i]? = some oi) (h : freeC cls ops listed i = true) (j : Nat) (oj : Oper) (hj : ops[j]? = some oj) (hne : j ≠ i) (hun : listed.getD j true = false)
    (hno : ∀ e ∈ oj.after, Region.binds .any e = true → e.on ≠ i) : oi.apart ops oj = true ∧ compat (cls i) (cls j) = true := by
  simp only [freeC, hi, List.all_eq_true, List.mem_range] at h
  have h1 := h j (Array.getElem?_eq_some_iff.1 hj).1
  simp only [hj, Bool.or_eq_true, beq_iff_eq, hne, false_or, hun, Bool.false_eq_true, Bool.and_eq_true] at h1
  rcases h1 with h1 | h1
  · obtain ⟨e, he, hb⟩ := Array.any_eq_true'.1 h1
    simp only [Bool.and_eq_true, beq_iff_eq] at hb
    exact absurd hb.2 (hno e he hb.1)
  · exact h1

theorem anyA_lex : ∀ (l : List Oper) (k : Nat) (listed : Array Bool) (E : Env) (H : Heap), (∀ j : Nat, l[j]? = ops[k + j]?) → lexC cls ops l.length k listed = true → evLex P T hint cls ops.toList KE k l E H → AnyA P T hint cls ops KE l.length listed E H
  | [], k, listed, E, H, _, hb, h => ⟨by simpa [lexC] using hb, E, fun _ => rfl, h⟩
  | o :: l, k, listed, E, H, hl, hb, h => by
    have h0 : ops[k]? = some o := by simpa using (hl 0).symm
    simp only [List.length_cons, lexC, Bool.and_eq_true] at hb
    obtain ⟨⟨hr, hf⟩, hb'⟩ := hb
    simp only [evLex] at h
    obtain ⟨v, H', h1, h2⟩ := stepC_out h
    exact anyA_first h0 l.length listed E H v H' (freeC_spec h0 hf) (by simpa using hr) h1
      (anyA_lex l (k + 1) _ _ _ (fun j => by have := hl (j + 1); simpa [Nat.add_assoc, Nat.add_comm 1 j] using this) hb' h2)

end
end Go.Aw
end

section
namespace Go.Aw
open Go

section
variable {P : Program} {T : Nat → Ty} {hint : Nat → Bool} {ops : Array Oper} {cls : Nat → Cl} {N n0 : Nat} {r : Option Nat}

theorem evCall_D {o : Oper} {c : Call} {E : Env} {H : Heap} {K : V → Heap → Prop} (h : evCall T hint (DCall P) o c E H K) : evCall T hint (ACallV P) o c E H K := by
  unfold evCall at h ⊢
  split at h
  · exact DCall_sound h
  · exact h
  · exact h.elim

theorem evOp_D {o : Oper} {E : Env} {H : Heap} {K : V → Heap → Prop} (h : evOp T hint (DCall P) o E H K) : evOp T hint (ACallV P) o E H K := by
  obtain ⟨d, op, t, p, a, g⟩ := o
  cases op with
  | call c => exact evCall_D h
  | makeFunc f x y => cases f <;> exact h
  | makeMap t r => cases r <;> exact h
  | _ => exact h

theorem evOp_N {o : Oper} {E : Env} {H : Heap} {K : V → Heap → Prop} (h : evOp T hint (fun _ _ _ _ => False) o E H K) : evOp T hint (ACallV P) o E H K := by
  obtain ⟨d, op, t, p, a, g⟩ := o
  cases op with
  | call c =>
    simp only [evOp, evCall] at h ⊢
    split at h
    · exact h.elim
    · exact h
    · exact h.elim
  | makeFunc f x y => cases f <;> exact h
  | makeMap t r => cases r <;> exact h
  | _ => exact h

theorem stepC_V {c : Cl} {o : Oper} {E : Env} {H : Heap} {K : V → Heap → Prop} (h : stepC P T hint ops.toList c o E H K) : stepV T hint (ACallV P) ops.toList o E H K := by
  have gd : ∀ {x : V} {w : Bool} {A B A' B' : Unit → Prop}, (A () → A' ()) → (B () → B' ()) → evGo x w A B → evGo x w A' B' := by
    intro x w A B A' B' h1 h2 h
    unfold evGo at h ⊢
    split at h
    · rcases Br_iff h with ⟨hb, h⟩ | ⟨hb, h⟩
      · rw [hb]; exact h1 h
      · rw [hb]; exact h2 h
    · exact h2 h
    · exact h.elim
  cases c with
  | S =>
    simp only [stepC, stepV] at h ⊢
    split at h
    · exact evOp_nil h
    · exact gd evOp_nil (fun h => h.2) h
  | R =>
    obtain ⟨v, H', ⟨rfl, h1⟩, h2⟩ := stepV_lin DCall_lin _ h
    have h3 := h2 K h1
    simp only [stepV] at h3 ⊢
    split at h3
    · exact evOp_D h3
    · exact gd evOp_D id h3
  | W =>
    simp only [stepC, stepV] at h ⊢
    split at h
    · exact evOp_D h
    · exact gd evOp_D id h
  | L =>
    obtain ⟨v, H', ⟨rfl, h1⟩, h2⟩ := stepV_lin (false_lin H) _ h.2
    have h3 := h2 K h1
    simp only [stepV] at h3 ⊢
    split at h3
    · exact evOp_N h3
    · exact gd evOp_N id h3
  | A =>
    have h3 := h.2
    simp only [stepV] at h3 ⊢
    split at h3
    · exact evOp_N h3
    · exact gd evOp_N id h3

theorem step_sound (hT : TOK P T) (hok : opsOk N ops.toList = true) {l : Option Nat} {g : G} {E : Env} {H : Heap} {w : World} {a : Act} {i : Nat} {o : Oper} {K : V → Heap → Prop} (hoi : ops[i]? = some o) (hr : HR g H w) (he : ER g H w E a.tmps) (hs : a.tmps.size = N)
    (h : stepV T hint (ACallV P) ops.toList o E H K) {next : Act → World → Prop} {Q : Exit → Act → World → Prop}
    (hnext : ∀ v H' cv w' g', K v H' → VR g' H' w' v cv → HR g' H' w' → Kp g w g' w' → Ag g H w g' H' w' → ER g' H' w' (put E o.dst v) (a.put o.dst cv).tmps → next (a.put o.dst cv) w') : wpOpIn (FR l) 0 P ops Q i next a w := by
  have hoi' : ops.toList[i]? = some o := by rw [← hoi]; simp
  have hdst : ∀ d, o.dst = some d → d < a.tmps.size := by
    intro d hod
    have := List.all_eq_true.1 hok o (List.mem_of_getElem? hoi')
    unfold opOk at this
    rw [hod] at this
    rw [hs]
    simpa using this
  unfold wpOpIn
  simp only [hoi]
  have run : ∀ (hev : evOp T hint (ACallV P) o E H K), o.wpIn (FR l) 0 P a w next Q := by
    intro hev
    refine evOp_sound hT (fun _ _ _ _ h => h) hr he hev ?_
    intro v H' cv w' g' hK hv hr' hk' ha'
    exact hnext v H' cv w' g' hK hv hr' hk' ha' (ER_put (ER_mono he (hr.zk hk') ha') hdst hv)
  have skip : ∀ (hev : K (.tup []) H), (∀ f, o.about P w a.eval = some f → (FR l).fn f) ∧ next (a.put o.dst undef) w := by
    intro hev
    exact ⟨fun _ _ => trivial, hnext _ H _ w g hev ⟨#[], rfl, rfl⟩ hr (Kp.refl g w) (Ag.refl g H w) (ER_put he hdst ⟨#[], rfl, rfl⟩)⟩
  unfold stepV at h
  split at h
  · rename_i hg
    have hw : Region.wanted o (yielded ops a.tmps) = true := by unfold Region.wanted; rw [hg]
    simp only [hw, if_true]
    exact run h
  · rename_i j want hg
    unfold evGo at h
    split at h
    · rename_i b hb
      unfold gval at hb
      split at hb
      · rename_i t ht
        have hv := he t
        rw [hb] at hv
        simp only [VR, DR, DC] at hv
        simp at hv
        have hy := yielded_of (ops := ops) (tmps := a.tmps) ht (by rw [Array.getD_eq_getD_getElem?]; exact hv)
        have hw : Region.wanted o (yielded ops a.tmps) = (b == want) := by
          unfold Region.wanted
          simp only [hg, hy]
          cases b <;> cases want <;> rfl
        rw [hw]
        rcases Br_iff h with ⟨h1, h⟩ | ⟨h1, h⟩
        · rw [h1]; simp only [if_true]; exact run h
        · rw [h1]; simp only [Bool.false_eq_true, if_false]; exact skip h
      · cases hb
    · rename_i hb
      unfold gval at hb
      split at hb
      · rename_i t ht
        have hv := he t
        rw [hb] at hv
        simp only [VR] at hv
        obtain ⟨cs, hv, hcs⟩ := hv
        have hy : yielded ops a.tmps j = none := yielded_no (ops := ops) (tmps := a.tmps) ht hv
        have hw : Region.wanted o (yielded ops a.tmps) = false := by
          unfold Region.wanted
          simp only [hg, hy]
          rfl
        rw [hw]
        simp only [Bool.false_eq_true, if_false]; exact skip h
      · cases hb
    · exact h.elim

theorem anyA_sound (hT : TOK P T) (hok : opsOk N ops.toList = true) {l : Option Nat} {g0 : G} {H0 : Heap} {w0 : World} {a0 : Act} {K : Env → Heap → Prop} {Q : Exit → Act → World → Prop}
    (hQ : ∀ E' H' a' w' g', K E' H' → HR g' H' w' → ER g' H' w' E' a'.tmps → a'.tmps.size = N → a'.defers = a0.defers → Kp g0 w0 g' w' → Ag g0 H0 w0 g' H' w' → Q .normal a' w') :
    ∀ (fuel : Nat) (listed : Array Bool) (E : Env) (H : Heap) (a : Act) (w : World) (g : G), AnyA P T hint cls ops K fuel listed E H → HR g H w → ER g H w E a.tmps → a.tmps.size = N → a.defers = a0.defers → Kp g0 w0 g w → Ag g0 H0 w0 g H w →
      wpAnyIn (FR l) 0 P .any ops Q fuel listed a w := by
  have fin : ∀ (E : Env) (H : Heap) (a : Act) (w : World) (g : G), Kq K E H → HR g H w → ER g H w E a.tmps → a.tmps.size = N → a.defers = a0.defers → Kp g0 w0 g w → Ag g0 H0 w0 g H w → Q .normal a w := by
    rintro E H a w g ⟨E0, h1, h2⟩ hr he hs hd hk ha
    exact hQ E0 H a w g h2 hr (fun t => by rw [← h1 t]; exact he t) hs hd hk ha
  intro fuel
  induction fuel with
  | zero =>
    intro listed E H a w g h hr he hs hd hk ha
    exact ⟨h.1, fin E H a w g h.2 hr he hs hd hk ha⟩
  | succ fuel ih =>
    intro listed E H a w g h hr he hs hd hk ha
    refine ⟨fun hem => fin E H a w g (h.1 hem) hr he hs hd hk ha, fun i hi => ?_⟩
    obtain ⟨_, o, ho, _⟩ := mem_ready.1 hi
    refine step_sound hT hok ho hr he hs (stepC_V (h.2 i hi o ho)) ?_
    intro v H' cv w' g' hK hv hr' hk' ha' he'
    exact ih _ _ _ _ _ _ hK hr' he' (by rw [put_size]; exact hs) (by rw [put_defers]; exact hd) (hk.trans hk') (ha.trans ha')

/-- A region that draws its order, by its walk in the text's order. -/
theorem ADrw.lex (hint : Nat → Bool) (hT : TOK P T) (hm : P.follows .mixedOrders = true) (cls : Nat → Cl) {E : Env} {H : Heap} {K : Env → Heap → Prop} (hn : n0 ≤ H.length) (hr : ∀ id, r = some id → id < n0)
    (hok : opsOk N ops.toList = true) (hs : lexC cls ops ops.size 0 (Array.replicate ops.size false) = true) (h : evLex P T hint cls ops.toList K 0 ops.toList E H) : ADrw P N n0 r ops E H K := by
  intro i
  refine ⟨hn, hr, fun g w a l m0 hrel => wpIn_region_any hm ?_⟩
  have hl := anyA_lex (P := P) (T := T) (hint := hint) (ops := ops) (cls := cls) (KE := K) ops.toList 0 (Array.replicate ops.size false) E H (by simp) (by simpa using hs) h
  obtain ⟨hr1, hk1, ha1⟩ := same_heap (g := g) (H := H) (w := w) (w' := { w with drawn := w.drawn + 1 }) rfl rfl rfl rfl hrel.hr
  have hsz : ops.toList.length = ops.size := by simp
  rw [hsz] at hl
  refine anyA_sound hT hok (l := l) (g0 := g) (H0 := H) (w0 := w) (a0 := a) (K := K) (fun E' H' a' w' g' hK hr' he hs hd hk ha => ?_) ops.size _ E H a { w with drawn := w.drawn + 1 } g hl hr1 (fun t => VR_mono (hrel.hr.zk hk1) ha1 _ _ (hrel.er t)) hrel.sz rfl hk1 ha1
  exact ⟨.normal, E', H', g', rfl, hK, hrel.of_agn hr hr' he hs hd hk (AgN.of_ag hn ha), hk, AgN.of_ag hn ha⟩

theorem ADrw.walk (hint : Nat → Bool) (hT : TOK P T) (hm : P.follows .mixedOrders = true) (cls : Nat → Cl) {l : List Oper} {E : Env} {H : Heap} {K : Env → Heap → Prop} (hn : n0 ≤ H.length) (hr : ∀ id, r = some id → id < n0)
    (hok : opsOk N l = true) (hs : lexC cls l.toArray l.length 0 (Array.replicate l.length false) = true) (h : evLex P T hint cls l K 0 l E H) : ADrw P N n0 r l.toArray E H K :=
  .lex hint hT hm cls hn hr hok (by simpa using hs) h

/-! ### The evaluator's rules -/

variable {E : Env} {H : Heap} {K : V → Heap → Prop} {KE : Env → Heap → Prop}

@[go_sem] theorem evLex_nil (all : List Oper) (k : Nat) : evLex P T hint cls all KE k [] E H = KE E H := (Eq.refl _).trans rfl
@[go_sem] theorem evLex_cons (all : List Oper) (k : Nat) (o : Oper) (l : List Oper) : evLex P T hint cls all KE k (o :: l) E H = stepC P T hint all (cls k) o E H fun v H' => evLex P T hint cls all KE (k + 1) l (put E o.dst v) H' := (Eq.refl _).trans rfl
@[go_sem] theorem stepC_S (all : List Oper) (o : Oper) : stepC P T hint all .S o E H K = stepV T hint (SCall P) all o E [] (fun v h => h = [] ∧ K v H) := (Eq.refl _).trans rfl
@[go_sem] theorem stepC_R (all : List Oper) (o : Oper) : stepC P T hint all .R o E H K = stepV T hint (DCall P) all o E H (fun v h => h = H ∧ K v H) := (Eq.refl _).trans rfl
@[go_sem] theorem stepC_W (all : List Oper) (o : Oper) : stepC P T hint all .W o E H K = stepV T hint (DCall P) all o E H K := (Eq.refl _).trans rfl
@[go_sem] theorem stepC_L (all : List Oper) (o : Oper) : stepC P T hint all .L o E H K = (lop o.op = true ∧ stepV T hint (fun _ _ _ _ => False) all o E H (fun v h => h = H ∧ K v H)) := (Eq.refl _).trans rfl
@[go_sem] theorem stepC_A (all : List Oper) (o : Oper) : stepC P T hint all .A o E H K = (aop (hinted hint o.dst) o.op = true ∧ stepV T hint (fun _ _ _ _ => False) all o E H K) := (Eq.refl _).trans rfl
attribute [go_sem] lop aop
@[go_sem] theorem stepV_none {call : CallH} (all : List Oper) (d : Option Tmp) (o : Op) (t : TypeId) (p : String) (a : Array Edge) : stepV T hint call all ⟨d, o, t, p, a, none⟩ E H K = evOp T hint call ⟨d, o, t, p, a, none⟩ E H K := (Eq.refl _).trans rfl
@[go_sem] theorem stepV_some {call : CallH} (all : List Oper) (d : Option Tmp) (o : Op) (t : TypeId) (p : String) (a : Array Edge) (j : Nat) (w : Bool) :
    stepV T hint call all ⟨d, o, t, p, a, some (j, w)⟩ E H K = evGo (gval all j E) w (fun _ => evOp T hint call ⟨d, o, t, p, a, some (j, w)⟩ E H K) (fun _ => K (.tup []) H) := (Eq.refl _).trans rfl

@[congr] theorem evLex_congr {all l : List Oper} {k k' : Nat} {E' : Env} {H' : Heap} (hk : k = k') (hE : E = E') (hH : H = H') {one : Prop} (ho : (True ∧ True) = one) : evLex P T hint cls all KE k l E H = evLex P T hint cls all KE k' l E' H' := by
  rw [hk, hE, hH]
@[congr] theorem stepC_congr {all : List Oper} {c c' : Cl} {o : Oper} {E' : Env} {H' : Heap} (hc : c = c') (hE : E = E') (hH : H = H') {one : Prop} (ho : (True ∧ True) = one) : stepC P T hint all c o E H K = stepC P T hint all c' o E' H' K := by
  rw [hc, hE, hH]
@[congr] theorem stepV_congr {call : CallH} {all : List Oper} {o : Oper} {E' : Env} {H' : Heap} (hE : E = E') (hH : H = H') {one : Prop} (ho : (True ∧ True) = one) : stepV T hint call all o E H K = stepV T hint call all o E' H' K := by
  rw [hE, hH]
@[congr] theorem DCall_congr {f f' : V} {vs vs' : List V} {H' : Heap} (hf : f = f') (hv : vs = vs') (hH : H = H') {one : Prop} (ho : (True ∧ True) = one) : DCall P f vs H K = DCall P f' vs' H' K := by
  rw [hf, hv, hH]
@[congr] theorem SCall_congr {f f' : V} {vs vs' : List V} {H' : Heap} (hf : f = f') (hv : vs = vs') (hH : H = H') {one : Prop} (ho : (True ∧ True) = one) : SCall P f vs H K = SCall P f' vs' H' K := by
  rw [hf, hv, hH]

/-- A contract on data, in a region that draws its order. -/
theorem PC.callS {f : FuncId} {vs : List V} {v : V} {as : List V} {x y : List V} {H : Heap} {Q : V → Heap → Prop} (h : PC P f vs v) (h1 : (x ++ as ++ y).map Aw.dz = vs) (h2 : VBs 0 vs = true) (h3 : VB 0 v = true) (h4 : VBs 0 x = true) (h5 : VBs 0 as = true) (h6 : VBs 0 y = true) (hq : Q v H) : SCall P (.fn (.func f) x y) as H Q :=
  ⟨by simp [VB, h4, h6], h5, v, PC.call h h1 h2 h3 ⟨rfl, rfl⟩, hq⟩

theorem PC.callD {f : FuncId} {vs us : List V} {v : V} {as : List V} {x y : List V} {H : Heap} {Q : V → Heap → Prop} (h : PC P f vs v) (h1 : (x ++ as ++ y).map Aw.dz = us) (h2 : pubVs 0 H us = some vs) (h3 : flatV v = true) (hq : Q v H) : DCall P (.fn (.func f) x y) as H Q :=
  ⟨v, H, PC.callL h h1 h2 h3 ⟨rfl, rfl⟩, hq⟩

/-- A contract on data, where row id is given away for good. -/
theorem PC.callF {f : FuncId} {vs us : List V} {v : V} {as : List V} {x y : List V} {H : Heap} {Q : V → Heap → Prop} (id : Nat) {sz : Nat} {nl : Bool} {els : List D} (h : PC P f vs v) (he : H[id]? = some (.arr sz nl els)) (h1 : (x ++ as ++ y).map Aw.dz = us) (h2 : frzVs id els us = vs)
    (h4 : VBs 0 vs = true) (h3 : VB 0 v = true) (hq : Q v (H.set id (.arr sz nl (els ++ [.nilp])))) : DCall P (.fn (.func f) x y) as H Q :=
  ⟨v, H.set id (.arr sz nl (els ++ [.nilp])), by
    subst h1; subst h2
    exact ACalls.dz (ACalls.frz he (PC.use h h4 h3 ⟨rfl, rfl⟩)), hq⟩

end
end Go.Aw
end

section
namespace Go.Aw
open Go

def HasFs (R : TypeId → D → Prop) : List Field → List D → Prop
  | [], l => l = []
  | f :: fs, l => ∃ y r, l = dcells y ++ r ∧ R f.type y ∧ HasFs R fs r

def HasN (R : D → Prop) : Nat → List D → Prop
  | 0, l => l = []
  | n + 1, l => ∃ y r, l = dcells y ++ r ∧ R y ∧ HasN R n r

/-- Data of a type. -/
def HasT (P : Program) : Nat → TypeId → D → Prop
  | 0, _, _ => False
  | f + 1, t, x => match P.underlying t with
    | some .bool => ∃ b, x = .bool b
    | some (.int k) => ∃ n, x = .int k n ∧ (Lit.int k n).wf = true
    | some .string => ∃ s : ByteArray, x = .str s ∧ s.size ≤ maxLen
    | some (.slice e) => ∃ l, x = .sl l ∧ l.length ≤ maxLen ∧ ∀ y ∈ l, HasT P f e y
    | some (.struct fs) => ∃ l, x = .agg l ∧ HasFs (HasT P f) fs.toList l
    | some (.array n e) => ∃ l, x = .agg l ∧ HasN (HasT P f e) n l
    | _ => False

def tilesC (P : Program) : Nat → List Field → Option Nat
  | o, [] => some o
  | o, f :: r => if f.offset = o then tilesC P (o + P.cellsOf f.type) r else none

def okT (P : Program) : Nat → TypeId → Bool
  | 0, _ => false
  | f + 1, t => match P.underlying t with
    | some .bool => P.cellsOf t == 1
    | some (.int _) => P.cellsOf t == 1
    | some .string => P.cellsOf t == 1
    | some (.slice e) => P.cellsOf t == 1 && decide (1 ≤ P.cellsOf e) && okT P f e
    | some (.struct fs) => fs.toList.all (fun g => okT P f g.type) && tilesC P 0 fs.toList == some (P.cellsOf t)
    | some (.array n e) => okT P f e && P.cellsOf t == n * P.cellsOf e
    | _ => false

theorem mapM_some {α β : Type} {f : α → Option β} : ∀ {xs : List α} {ys : List β}, xs.mapM f = some ys → ys.length = xs.length ∧ ∀ (i : Nat) x, xs[i]? = some x → f x = ys[i]?
  | [], ys, h => by simp at h; subst h; simp
  | x :: r, ys, h => by
    simp only [List.mapM_cons, Option.pure_def, Option.bind_eq_bind, Option.bind_eq_some_iff] at h
    obtain ⟨y, hy, ys', hys, h⟩ := h
    simp at h; subst h
    obtain ⟨h1, h2⟩ := mapM_some hys
    refine ⟨by simp [h1], fun i z hz => ?_⟩
    cases i with
    | zero => simp at hz; subst hz; simpa using hy
    | succ i => simpa using h2 i z (by simpa using hz)

section
variable {H : Type} {enc : TypeId × Value → H} {P : Program} {w : World} {base : Nat} {spare : Nat → Bool} {held : Bool}

/-- All memory that is there. -/
def Zw (w : World) : Nat → Nat → Prop := fun b _ => b < w.heap.size

theorem cells_some {a : Addr} {n : Nat} {cs : List Value} (h : w.cells? base a n = some cs) : cs.length = n ∧ ∀ j, j < n → w.cell? (a.add j) = cs[j]? := by
  unfold World.cells? at h
  split at h
  · obtain ⟨h1, h2⟩ := mapM_some h
    simp at h1
    exact ⟨h1, fun j hj => h2 j j (by simp [hj])⟩
  · cases h

theorem cell_lt {a : Addr} {v : Value} (h : w.cell? a = some v) : a.block < w.heap.size ∧ a.spot = none := by
  unfold World.cell? at h
  split at h
  · rename_i c _ _ hc
    split at h
    · cases h
    · rename_i hs
      exact ⟨(Array.getElem?_eq_some_iff.1 hc).1, by simpa using hs⟩
  · cases h

theorem rows_DCe {b sz : Nat} : ∀ (l : List D) (o : Nat), (∀ i x, l[i]? = some x → ∃ cs : List Value, cs.length = sz ∧ (∀ j, j < sz → b < w.heap.size ∧ w.cell? ⟨b, o + i * sz + j, none⟩ = cs[j]?) ∧ DC w (Zw w) x cs) → DCe w (Zw w) l b o sz
  | [], o, _ => trivial
  | d :: ds, o, h => by
    simp only [DCe]
    obtain ⟨cs, h1, h2, h3⟩ := h 0 d rfl
    refine ⟨⟨cs, h1, fun j hj => ?_, h3⟩, rows_DCe ds (o + sz) fun i x hx => ?_⟩
    · have := h2 j hj
      simpa [Zw] using this
    · obtain ⟨cs, k1, k2, k3⟩ := h (i + 1) x (by simpa using hx)
      refine ⟨cs, k1, fun j hj => ?_, k3⟩
      have := k2 j hj
      rwa [show o + (i + 1) * sz + j = o + sz + i * sz + j by rw [Nat.add_mul]; omega] at this

def ReadAt (P : Program) (enc : TypeId × Value → H) (w : World) (base : Nat) (spare : Nat → Bool) (held : Bool) (f : Nat) (t : TypeId) : Prop :=
  ∀ fuel cs d ps, DataW.trod enc P w base spare held fuel t cs = some (d, ps) → ∃ x, HasT P f t x ∧ DC w (Zw w) x cs ∧ cs.length = P.cellsOf t

theorem read_fields {f : Nat} (ih : ∀ t, okT P f t = true → ReadAt P enc w base spare held f t) {fuel : Nat} {cs : List Value} : ∀ (fs : List Field) (o n : Nat) (xs : List (DataW H × List MemPlace)), fs.all (fun g => okT P f g.type) = true → tilesC P o fs = some n → n ≤ cs.length →
    (fs.mapM fun g => DataW.trod enc P w base spare held fuel g.type ((cs.drop g.offset).take (P.cellsOf g.type))) = some xs → ∃ l, HasFs (HasT P f) fs l ∧ DCs w (Zw w) l ((cs.drop o).take (n - o)) ∧ o ≤ n
  | [], o, n, xs, _, ht, _, _ => by
    simp [tilesC] at ht; subst ht
    exact ⟨[], rfl, by simp [DCs], Nat.le_refl _⟩
  | g :: fs, o, n, xs, ha, ht, hn, h => by
    simp only [List.all_cons, Bool.and_eq_true] at ha
    simp only [tilesC] at ht
    split at ht
    · rename_i ho
      simp only [List.mapM_cons, Option.pure_def, Option.bind_eq_bind, Option.bind_eq_some_iff] at h
      obtain ⟨y, hy, ys, hys, _⟩ := h
      obtain ⟨x, k1, k2, k3⟩ := ih _ ha.1 _ _ _ _ hy
      obtain ⟨l, m1, m2, m3⟩ := read_fields ih fs _ n ys ha.2 ht hn hys
      refine ⟨dcells x ++ l, ⟨x, l, rfl, k1, m1⟩, ?_, by omega⟩
      have := DCs_append _ _ _ _ (DC_dcells k2) m2
      rw [ho] at this
      rw [show (cs.drop o).take (n - o) = (cs.drop o).take (P.cellsOf g.type) ++ (cs.drop (o + P.cellsOf g.type)).take (n - (o + P.cellsOf g.type)) by
        rw [← List.drop_drop, ← List.take_add]
        congr 1
        omega]
      exact this
    · cases ht

theorem read_elems {f : Nat} {e : TypeId} (ih : ReadAt P enc w base spare held f e) {fuel : Nat} {cs : List Value} : ∀ (n o : Nat) (g : Nat → Nat) (xs : List (DataW H × List MemPlace)), (∀ i, g i = o + i) → (o + n) * P.cellsOf e ≤ cs.length →
    ((List.range n).map g).mapM (fun i => DataW.trod enc P w base spare held fuel e ((cs.drop (i * P.cellsOf e)).take (P.cellsOf e))) = some xs → ∃ l, HasN (HasT P f e) n l ∧ DCs w (Zw w) l ((cs.drop (o * P.cellsOf e)).take (n * P.cellsOf e))
  | 0, o, g, xs, _, _, _ => ⟨[], rfl, by simp [DCs]⟩
  | n + 1, o, g, xs, hg, hn, h => by
    rw [List.range_succ_eq_map, List.map_cons, List.map_map] at h
    simp only [List.mapM_cons, Option.pure_def, Option.bind_eq_bind, Option.bind_eq_some_iff] at h
    obtain ⟨y, hy, ys, hys, _⟩ := h
    rw [hg 0, Nat.add_zero] at hy
    obtain ⟨x, k1, k2, k3⟩ := ih _ _ _ _ hy
    obtain ⟨l, m1, m2⟩ := read_elems ih n (o + 1) (g ∘ Nat.succ) ys (fun i => by simp [hg]; omega) (by rw [show o + 1 + n = o + (n + 1) by omega]; exact hn) hys
    refine ⟨dcells x ++ l, ⟨x, l, rfl, k1, m1⟩, ?_⟩
    have := DCs_append _ _ _ _ (DC_dcells k2) m2
    rw [show (cs.drop (o * P.cellsOf e)).take ((n + 1) * P.cellsOf e) = (cs.drop (o * P.cellsOf e)).take (P.cellsOf e) ++ (cs.drop ((o + 1) * P.cellsOf e)).take (n * P.cellsOf e) by
      rw [Nat.add_mul o 1, Nat.one_mul, ← List.drop_drop, ← List.take_add]
      congr 1
      rw [Nat.add_mul, Nat.one_mul]; omega]
    exact this

theorem read_sound : ∀ (f : Nat) (t : TypeId), okT P f t = true → ReadAt P enc w base spare held f t
  | 0, t, h => by simp [okT] at h
  | f + 1, t, h => by
    intro fuel cs d ps ht
    cases fuel with
    | zero => simp [DataW.trod] at ht
    | succ fuel =>
      unfold okT at h
      unfold HasT
      unfold DataW.trod at ht
      cases hu : P.underlying t with
      | none => rw [hu] at h; cases h
      | some dd =>
        rw [hu] at h ht
        simp only at h ht ⊢
        cases dd with
        | bool =>
          simp only at h ht ⊢
          have hc : P.cellsOf t = 1 := by simpa using h
          rcases cs with _ | ⟨c, _ | ⟨c2, r⟩⟩
          · simp at ht
          · cases c <;> simp at ht
            rename_i b
            exact ⟨.bool b, ⟨b, rfl⟩, by simp [DC], by simp [hc]⟩
          · simp at ht
        | int k =>
          simp only at h ht ⊢
          have hc : P.cellsOf t = 1 := by simpa using h
          rcases cs with _ | ⟨c, _ | ⟨c2, r⟩⟩
          · simp at ht
          · cases c <;> simp at ht
            rename_i k' m
            obtain ⟨⟨rfl, hwf⟩, _⟩ := ht
            exact ⟨.int k' m, ⟨m, rfl, hwf⟩, by simp [DC], by simp [hc]⟩
          · simp at ht
        | string =>
          simp only at h ht ⊢
          have hc : P.cellsOf t = 1 := by simpa using h
          rcases cs with _ | ⟨c, _ | ⟨c2, r⟩⟩
          · simp at ht
          · cases c <;> simp at ht
            rename_i b
            exact ⟨.str b, ⟨b, rfl, ht.1⟩, by simp [DC], by simp [hc]⟩
          · simp at ht
        | struct fs =>
          simp only [Bool.and_eq_true, beq_iff_eq] at h
          simp only at ht ⊢
          split at ht
          · rename_i hl
            simp only [Option.map_eq_some_iff] at ht
            obtain ⟨xs, hxs, _⟩ := ht
            obtain ⟨l, k1, k2, _⟩ := read_fields (read_sound f) fs.toList 0 _ xs h.1 h.2 (by omega) hxs
            refine ⟨_, ⟨l, rfl, k1⟩, ?_, hl⟩
            simp only [DC]
            simpa [← hl] using k2
          · cases ht
        | array n e =>
          simp only [Bool.and_eq_true, beq_iff_eq] at h
          simp only at ht ⊢
          split at ht
          · rename_i hl
            simp only [Option.map_eq_some_iff] at ht
            obtain ⟨xs, hxs, _⟩ := ht
            obtain ⟨l, k1, k2⟩ := read_elems (cs := cs) (read_sound f e h.1) n 0 id xs (by simp) (by rw [Nat.zero_add, ← h.2, hl]; exact Nat.le_refl _) (by simpa using hxs)
            refine ⟨_, ⟨l, rfl, k1⟩, ?_, hl⟩
            simp only [DC]
            rw [← h.2, ← hl] at k2
            simpa using k2
          · cases ht
        | slice e =>
          simp only [Bool.and_eq_true, beq_iff_eq, decide_eq_true_eq] at h
          obtain ⟨⟨hc, h1⟩, he⟩ := h
          simp only at ht ⊢
          rcases cs with _ | ⟨c, _ | ⟨c2, r⟩⟩
          · simp at ht
          · cases c with
            | slice a len cap =>
              cases a with
              | none =>
                rcases len with _ | len <;> rcases cap with _ | cap <;> simp at ht
                exact ⟨.sl [], ⟨[], rfl, by simp, by simp⟩, by simp only [DC]; exact ⟨none, 0, 0, rfl, rfl, Nat.le_refl _, fun _ => rfl, fun ad ha => nomatch ha⟩, by simp [hc]⟩
              | some a =>
                simp only at ht
                split at ht
                · rename_i hb
                  simp only [Option.bind_eq_some_iff] at ht
                  obtain ⟨elems, hel, _⟩ := ht
                  obtain ⟨m1, m2⟩ := mapM_some hel
                  simp at m1
                  have get : ∀ i, i < len → ∃ x cs, HasT P f e x ∧ DC w (Zw w) x cs ∧ cs.length = P.cellsOf e ∧ ∀ j, j < P.cellsOf e → w.cell? ((a.add (i * P.cellsOf e)).add j) = cs[j]? := by
                    intro i hi
                    have := m2 i i (by simp [hi])
                    rw [List.getElem?_eq_getElem (by omega)] at this
                    simp only [Option.bind_eq_some_iff] at this
                    obtain ⟨ci, hci, htr⟩ := this
                    obtain ⟨x, k1, k2, k3⟩ := read_sound f e he _ _ elems[i].1 elems[i].2 htr
                    exact ⟨x, ci, k1, k2, k3, (cells_some hci).2⟩
                  have mk : ∀ n, n ≤ len → ∃ l : List D, l.length = n ∧ (∀ y ∈ l, HasT P f e y) ∧ ∀ (i : Nat) x, l[i]? = some x → ∃ cs : List Value, cs.length = P.cellsOf e ∧ (∀ j, j < P.cellsOf e → w.cell? ((a.add (i * P.cellsOf e)).add j) = cs[j]?) ∧ DC w (Zw w) x cs := by
                    intro n
                    induction n with
                    | zero => exact fun _ => ⟨[], rfl, by simp, by simp⟩
                    | succ n ihn =>
                      intro hn
                      obtain ⟨l, q1, q2, q3⟩ := ihn (by omega)
                      obtain ⟨x, ci, k1, k2, k3, k4⟩ := get n (by omega)
                      refine ⟨l ++ [x], by simp [q1], fun y hy => ?_, fun i y hy => ?_⟩
                      · rcases List.mem_append.1 hy with hy | hy
                        · exact q2 y hy
                        · simp at hy; subst hy; exact k1
                      · rcases getElem?_snoc hy with ⟨_, hy⟩ | ⟨hi, rfl⟩
                        · exact q3 i y hy
                        · rw [hi, q1]; exact ⟨ci, k3, k4, k2⟩
                  obtain ⟨l, q1, q2, q3⟩ := mk len (Nat.le_refl _)
                  refine ⟨.sl l, ⟨l, rfl, by omega, q2⟩, ?_, by simp [hc]⟩
                  simp only [DC]
                  have spot : l ≠ [] → a.spot = none := by
                    intro hne
                    obtain ⟨x, hx⟩ : ∃ x, l[0]? = some x := by
                      cases l with
                      | nil => exact absurd rfl hne
                      | cons x r => exact ⟨x, rfl⟩
                    obtain ⟨ci, k1, k2, _⟩ := q3 0 x hx
                    have := k2 0 (by omega)
                    rw [Nat.zero_mul, List.getElem?_eq_getElem (by omega)] at this
                    exact (cell_lt this).2
                  refine ⟨_, len, cap, rfl, q1.symm, hb.2.1, (fun h => nomatch h), fun ad ha => ?_⟩
                  cases ha
                  refine ⟨spot, P.cellsOf e, rows_DCe l a.off fun i x hx => ?_⟩
                  have hsp := spot (fun h => by rw [h] at hx; simp at hx)
                  obtain ⟨ci, k1, k2, k3⟩ := q3 i x hx
                  refine ⟨ci, k1, fun j hj => ?_, k3⟩
                  have := k2 j hj
                  rw [add_eq hsp, add_eq rfl] at this
                  refine ⟨?_, this⟩
                  rw [List.getElem?_eq_getElem (by omega)] at this
                  exact (cell_lt this).1
                · cases ht
            | _ => simp at ht
          · cases c <;> simp at ht
        | _ => simp at h

end
end Go.Aw
end

section
namespace Go.Aw
open Go Go.RowKit

section
variable {P : Program} {w : World}

theorem HR_all (w : World) : HR ⟨Zw w, []⟩ [] w :=
  ⟨rfl, fun _ _ h => h, fun id b x hp => by simp at hp, fun i j b hi => by simp at hi⟩

theorem row_calls {f : FuncId} {vs : List V} {args : Array Value} (h : ACalls P f vs [] (fun r _ => r = .d (.bool true))) (hv : VRs ⟨Zw w, []⟩ [] w vs args.toList) :
    Calls P f args w fun e w' => e = .returned (.bool true) ∧ Below w.heap.size w w' := by
  have := h.2 ⟨Zw w, []⟩ w args.toList (HR_all w) hv
  have key : CallsIn Fence.wide 0 P f args w fun e w' => e = .returned (.bool true) ∧ Below w.heap.size w w' := by
    refine CallsIn.mono (F := Fence.wide) (n := 0) (show CallsIn (FR none) 0 P f args w _ by simpa using this) ?_
    rintro e w' ⟨v, g', r, H', rfl, rfl, k1, k2, k3, k4⟩
    simp only [VR, DR, DC] at k1
    simp at k1; subst k1
    exact ⟨rfl, k3.os, k3.tape, k3.out, k3.size, fun b hb => k3.fr b hb (fun id => by simp)⟩
  exact callsIn_wide.1 key

end
end Go.Aw
end

section
namespace Go.Aw
open Go

def jumpOf : Ex → Option Code
  | .normal => none
  | .exit i => some (.exit i)
  | .ret => some .ret

def goesOn : Ex → Bool
  | .normal => true
  | _ => false

/-- What a pending jump makes of the way on. -/
def exJump : Option Code → Option Ex
  | none => some .normal
  | some (.exit i) => some (.exit i)
  | some .ret => some .ret
  | _ => none

/-- What is asked when the function that was ranged over has come back: the loop is block n. -/
def RngPost (n : Nat) (E : Env) (Q : Ex → Env → Heap → Prop) (H' : Heap) : Prop :=
  match H'[n]? with
  | some (.loop st pend _ _ _ _) => st ≠ .busy ∧ BBq n H' ∧ Som (exJump pend) fun x => Q x E (H'.take n)
  | _ => False

/-- What is asked when a round has ended: the loop is block id, the round began with n blocks. -/
def RoundPost (n id : Nat) (Q : V → Heap → Prop) (x : Ex) (_ : Env) (H' : Heap) : Prop :=
  match H'[id]? with
  | some (.loop _ _ E ps a b) => BBq n (H'.set id (.loop (if goesOn x then .ready else .done) (jumpOf x) E ps a b)) ∧
      Q (.d (.bool (goesOn x))) ((H'.set id (.loop (if goesOn x then .ready else .done) (jumpOf x) E ps a b)).take n)
  | _ => False

def putAll : Env → List Tmp → List V → Env
  | E, t :: ts, v :: vs => putAll ((t, v) :: E) ts vs
  | E, _, _ => E

section
variable {P : Program} {T : Nat → Ty} {N n0 : Nat} {r : Option Nat}

theorem ER_putAll {g : G} {H : Heap} {w : World} : ∀ (ts : List Tmp) (vs : List V) (cs : List Value) (E : Env) (tmps : Array Value), ER g H w E tmps → (∀ t ∈ ts, t < tmps.size) → VRs g H w vs cs →
    ER g H w (putAll E ts vs) ((ts.zip cs).foldl (fun tmps (t, a) => tmps.setIfInBounds t a) tmps)
  | [], vs, cs, E, tmps, he, _, _ => by cases vs <;> simpa [putAll] using he
  | t :: ts, [], cs, E, tmps, he, _, hv => by
    simp only [VRs] at hv; subst hv
    simpa [putAll] using he
  | t :: ts, v :: vs, cs, E, tmps, he, ht, hv => by
    simp only [VRs] at hv
    obtain ⟨c, r, rfl, h1, h2⟩ := hv
    simp only [putAll, List.zip_cons_cons, List.foldl_cons]
    refine ER_putAll ts vs r _ _ ?_ (fun t' ht' => by simpa using ht t' (List.mem_cons_of_mem _ ht')) h2
    have hdl := ht t List.mem_cons_self
    intro t'
    simp only [Env.look]
    by_cases hh : t' = t
    · subst hh
      rw [if_pos rfl, Array.getD_eq_getD_getElem?, Array.getElem?_setIfInBounds_self_of_lt hdl]
      exact h1
    · rw [if_neg (fun e => hh e.symm), Array.getD_eq_getD_getElem?, Array.getElem?_setIfInBounds_ne (fun e => hh e.symm), ← Array.getD_eq_getD_getElem?]
      exact he t'

theorem foldl_size : ∀ (l : List (Tmp × Value)) (tmps : Array Value), (l.foldl (fun tmps (t, a) => tmps.setIfInBounds t a) tmps).size = tmps.size
  | [], _ => rfl
  | (t, a) :: l, tmps => by
    simp only [List.foldl_cons]
    rw [foldl_size l]
    simp

/-- The loop's record turns its state. -/
theorem loop_turn {g : G} {H : Heap} {w : World} (hr : HR g H w) {id b : Nat} (hp : g.φ[id]? = some (some b)) {st : LoopState} {pend : Option Code} {E : Env} {ps : Array Tmp × Nat} {x y : Code}
    (hx : H[id]? = some (.loop st pend E ps x y)) {rec : Loop} (hrec : w.heap[b]? = some (.loop rec)) (st' : LoopState) (pend' : Option Code) :
    HR g (H.set id (.loop st' pend' E ps x y)) (w.putObj b (.loop { rec with state := st', pending := pend' })) ∧ Kp g w g (w.putObj b (.loop { rec with state := st', pending := pend' })) ∧
      Ag g H w g (H.set id (.loop st' pend' E ps x y)) (w.putObj b (.loop { rec with state := st', pending := pend' })) := by
  have hb := hr.lt hp
  obtain ⟨_, _, r', h0, h1, h2, h3, h4, h5, h6⟩ := hr.blk id b _ hp hx
  rw [hrec] at h0; cases h0
  refine set_blk hr hp hx rfl rfl rfl World.putObj_size (o' := .loop { rec with state := st', pending := pend' }) (World.putObj_heap_same hb) (fun k hk => World.putObj_heap_other hk) ⟨rfl, rfl, rfl, rfl⟩ ?_
  intro hz ha
  exact ⟨_, World.putObj_heap_same hb, rfl, rfl, h3, h4, h5, ER_mono h6 hz ha⟩

theorem FR_inRound (b : Nat) : (FR none).inRound b = FR (some b) := rfl

/-- A round, from the body of its loop. -/
theorem AYield.run {id : Nat} {vs : List V} {H : Heap} {Q : V → Heap → Prop} {pend : Option Code} {E : Env} {ps : Array Tmp} {a b : Code}
    (hid : H[id]? = some (.loop .ready pend E (ps, N) a b)) (hlen : vs.length = ps.size) (hps : ps.toList.all (fun t => decide (t < N)) = true)
    (h : AWP P N H.length (some id) a (putAll E ps.toList vs) H (normK fun E1 H1 =>
      ∃ pend' E', H1[id]? = some (.loop .ready pend' E' (ps, N) a b) ∧ AWP P N H.length (some id) b E1 (H1.set id (.loop .busy pend' E' (ps, N) a b)) (RoundPost H.length id Q))) : AYield P id vs H Q := by
  intro g w cvs blk hr hvs hφ
  obtain ⟨hb1, _, rec, h0, h1, h2, ⟨h3, h3'⟩, h4, h5, h6⟩ := hr.blk id blk _ hφ hid
  have hcl := VRs_length _ _ hvs
  have hlt := lt_of_getElem? hid
  refine ⟨_, _, _, _, run_yield h0 (by rw [h3]; simp; omega), ?_⟩
  refine roundIn_of_wpIn (F := FR none) trivial ?_
  rw [FR_inRound, h4, h5]
  have hN : ∀ t ∈ ps.toList, t < rec.tmps.size := by
    intro t ht
    have := List.all_eq_true.1 hps t ht
    rw [h3']
    simpa using this
  have htm : Array.foldl (fun (tmps : Array Value) (t, a) => tmps.setIfInBounds t a) rec.tmps (rec.params.zip cvs.toArray) = (ps.toList.zip cvs).foldl (fun tmps (t, a) => tmps.setIfInBounds t a) rec.tmps := by
    rw [h3, ← Array.foldl_toList]
    simp
  have hER := ER_putAll ps.toList vs cvs E rec.tmps h6 hN hvs
  have hsz : ((ps.toList.zip cvs).foldl (fun (tmps : Array Value) (t, a) => tmps.setIfInBounds t a) rec.tmps).size = N := by rw [foldl_size]; exact h3'
  refine wpIn_mono (h.2.2 g w { tmps := _, defers := [] } (some blk) w.heap.size ⟨hr, by rw [htm]; exact hER, by rw [htm]; exact hsz, ⟨blk, _, _, _, _, _, _, rfl, hφ, hid⟩, ⟨Nat.le_refl _, [], rfl, List.nodup_nil, by simp⟩⟩) ?_
  rintro e a1 w1 ⟨x, E1, H1, g1, rfl, k1, k2, k3, k4⟩
  cases x with
  | exit i => exact k1.elim
  | ret => exact k1.elim
  | normal =>
    obtain ⟨pend', E', m1, m2⟩ := k1
    obtain ⟨b', st', pend'', E'', ps'', x'', y'', q0, q1, q2⟩ := k2.rnd
    cases q0
    obtain ⟨_, _, rec1, p0, p1, p2, p3, p4, p5, p6⟩ := k2.hr.blk id blk _ q1 m1
    obtain ⟨t1, t2, t3⟩ := loop_turn k2.hr q1 m1 p0 .busy pend'
    have hw2 : (w1.putObj blk (.loop { rec1 with state := .busy })) = w1.putObj blk (.loop { rec1 with state := .busy, pending := pend' }) := by rw [← p2]
    refine ⟨_, run_beginRound p0 p1, ?_⟩
    rw [hw2]
    have hag2 : AgN H.length g1 H1 w1 g1 (H1.set id (.loop .busy pend' E' (ps, N) a b)) (w1.putObj blk (.loop { rec1 with state := .busy, pending := pend' })) := AgN.of_ag k4.2.1 t3
    refine wpIn_mono (m2.2.2 g1 _ a1 (some blk) w.heap.size ⟨t1, ER_mono k2.er (k2.hr.zk t2) t3, k2.sz, k2.rnd.agn (fun i hi => by cases hi; exact hlt) hag2, k2.df.kp t2⟩) ?_
    rintro e a2 w2 ⟨x, E2, H2, g2, rfl, j1, j2, j3, j4⟩
    have fin : ∀ (v : Value) (w3 : World), (Instr.endRound blk (jumpOf x)).run P w2 = .ok v w3 → CPost g H w Q (.returned v) w3 := by
      intro v w3 hend
      unfold RoundPost at j1
      split at j1
      · rename_i st2 pend2 E2' ps2 a2' b2' hid2
        obtain ⟨b2, _, _, _, _, _, _, u0, u1, _⟩ := j2.rnd
        cases u0
        obtain ⟨_, _, rec2, v0, v1, v2, v3, v4, v5, v6⟩ := j2.hr.blk id blk _ u1 hid2
        rw [run_endRound (jumpOf x) v0] at hend
        cases hend
        have hst : (if (jumpOf x).isNone = true then LoopState.ready else .done) = (if goesOn x = true then .ready else .done) := by cases x <;> rfl
        have hb : (jumpOf x).isNone = goesOn x := by cases x <;> rfl
        rw [hst, hb]
        obtain ⟨s1, s2, s3⟩ := loop_turn j2.hr u1 hid2 v0 (if goesOn x then .ready else .done) (jumpOf x)
        have hk : Kp g w g2 (w2.putObj blk (.loop { rec2 with state := (if goesOn x = true then LoopState.ready else .done), pending := jumpOf x })) := k3.trans (t2.trans (j3.trans s2))
        have ha : AgN H.length g H w g2 (H2.set id (.loop (if goesOn x then .ready else .done) (jumpOf x) E2' ps2 a2' b2')) (w2.putObj blk (.loop { rec2 with state := (if goesOn x = true then LoopState.ready else .done), pending := jumpOf x })) :=
          k4.trans (hag2.trans (j4.trans (AgN.of_ag j4.2.1 s3)))
        refine ⟨.bool (goesOn x), g2.pub H.length, .d (.bool (goesOn x)), _, rfl, j1.2, by simp [VR, DR, DC], HR_pub s1 ha.2.1 j1.1, hk.pub _, ?_⟩
        have := (ha.pub (Nat.le_refl _) ha.2.1).2.2
        rwa [List.take_length, List.take_take, Nat.min_self] at this
      · exact j1.elim
    obtain ⟨b2, _, _, _, _, _, _, u0, u1, u2⟩ := j2.rnd
    cases u0
    obtain ⟨_, _, rec2, v0, _⟩ := j2.hr.blk id blk _ u1 u2
    cases x with
    | normal => exact ⟨_, _, run_endRound none v0, fin _ _ (run_endRound none v0)⟩
    | exit i => exact ⟨_, _, run_endRound (some (.exit i)) v0, fin _ _ (run_endRound (some (.exit i)) v0)⟩
    | ret => exact ⟨_, _, run_endRound (some .ret) v0, fin _ _ (run_endRound (some .ret) v0)⟩

theorem VBs_fn {n : Nat} {k : FuncId} {x y : List V} : VB n (.fn (.func k) x y) = (VBs n x && VBs n y) := rfl

/-- What is done when the function that was ranged over has come back. -/
theorem rng_back {l : Option Nat} {m0 : Nat} {g g1 : G} {H : Heap} {w w1 : World} {E : Env} {a a' : Act} {Q : Ex → Env → Heap → Prop} {ps : Array Tmp} {x y : Code} {blk : Nat}
    (hn : n0 ≤ H.length) (hrn : ∀ id, r = some id → id < n0) (hrel : Rel N r l m0 g E H a w) (hk1 : Kp g w g1 w1) (ha1 : Ag g H w g1 (H ++ [.loop .ready none E (ps, N) x y]) w1) (hφ1 : g1.φ = g.φ ++ [some blk])
    (ht : a'.tmps = a.tmps) (hdf : DfOK m0 g1 w1 a'.defers) {e : Ending} {w3 : World}
    (h : CPost g1 (H ++ [.loop .ready none E (ps, N) x y]) w1 (fun _ H' => RngPost H.length E Q H') e w3) : rangePost (FR l) 0 P blk (XPost N n0 r l m0 g H w Q) a' e w3 := by
  obtain ⟨v, g', u, H', rfl, h1, h2, h3, h4, h5⟩ := h
  have hH1 : (H ++ [.loop .ready none E (ps, N) x y])[H.length]? = some (.loop .ready none E (ps, N) x y) := by simp
  obtain ⟨⟨st', pend', e1⟩, e2⟩ := h5 H.length _ hH1
  have hφ' : g'.φ[H.length]? = some (some blk) := by rw [e2, hφ1, ← hrel.hr.len]; simp
  obtain ⟨_, _, rec, p0, p1, p2, p3, p4, p5, p6⟩ := h3.blk _ _ _ hφ' e1
  unfold RngPost at h1
  rw [e1] at h1
  obtain ⟨q1, q2, h1⟩ := h1
  obtain ⟨ex, hex, h1⟩ := Som_iff h1
  obtain ⟨t1, t2, t3⟩ := loop_turn h3 hφ' e1 p0 .exhausted pend'
  have hw4 : (w3.putObj blk (.loop { rec with state := .exhausted })) = w3.putObj blk (.loop { rec with state := .exhausted, pending := pend' }) := by rw [← p2]
  have hHn : (H'.set H.length (.loop .exhausted pend' E (ps, N) x y)).take H.length = H'.take H.length := by
    rw [List.take_set_of_le (Nat.le_refl _)]
  have hbb : BBq H.length (H'.set H.length (.loop .exhausted pend' E (ps, N) x y)) := by
    rcases q2 with q2 | q2
    · exact .inl (by simpa using q2)
    · exact .inr (by rw [hHn]; exact q2)
  have hlen : H.length ≤ (H'.set H.length (.loop .exhausted pend' E (ps, N) x y)).length := by
    have := lt_of_getElem? e1
    simp; omega
  have hk : Kp g w g' (w3.putObj blk (.loop { rec with state := .exhausted, pending := pend' })) := hk1.trans (h4.trans t2)
  have ha : Ag g H w g' (H'.set H.length (.loop .exhausted pend' E (ps, N) x y)) (w3.putObj blk (.loop { rec with state := .exhausted, pending := pend' })) := ha1.trans (h5.trans t3)
  have hagn := (AgN.of_ag hn ha).pub hn hlen
  have hrel' : Rel N r l m0 (g'.pub H.length) E (H'.take H.length) a' (w3.putObj blk (.loop { rec with state := .exhausted, pending := pend' })) := by
    refine ⟨?_, ?_, by rw [ht]; exact hrel.sz, ?_, ?_⟩
    · rw [← hHn]; exact HR_pub t1 hlen hbb
    · rw [ht, ← hHn]
      intro t
      refine VB_cut (pub_z _ _) (pub_cut _ _ _) _ _ (VR_VB _ _ (hrel.er t)) (VR_mono (hrel.hr.zk hk) ha _ _ (hrel.er t))
    · rw [← hHn]; exact hrel.rnd.agn hrn hagn
    · have := (hdf.kp h4).kp t2
      obtain ⟨d0, rs, d1, d2, d3⟩ := this
      refine ⟨d0, rs, d1, d2, fun q hq => ⟨(d3 q hq).1, (d3 q hq).2.1, fun id hid => ?_⟩⟩
      simp only [G.pub, List.getElem?_take] at hid
      split at hid
      · exact (d3 q hq).2.2 id hid
      · cases hid
  have hx : XPost N n0 r l m0 g H w Q (exOf ex) a' (w3.putObj blk (.loop { rec with state := .exhausted, pending := pend' })) := by
    rw [hHn] at hagn
    exact ⟨ex, E, H'.take H.length, g'.pub H.length, rfl, h1, hrel', hk.pub _, hagn⟩
  refine ⟨pend', w3.putObj blk (.loop { rec with state := .exhausted, pending := pend' }), by rw [← hw4, ← p2]; exact run_endLoop p0 (by rw [p1]; exact q1), ?_⟩
  unfold exJump at hex
  split at hex
  · cases hex; exact hx
  · cases hex; exact wpIn_exit hx
  · cases hex; exact wpIn_ret hx
  · cases hex

/-- A range over a function. -/
theorem ARng.run {f : Operand} {ps : Array Tmp} {a b : Code} {E : Env} {H : Heap} {Q : Ex → Env → Heap → Prop} {k : FuncId} {x y : List V} (hn : n0 ≤ H.length) (hr : ∀ id, r = some id → id < n0)
    (hf : ge E f = .fn (.func k) x y) (h : ACalls P k (x ++ [.fn (.yield H.length) [] []] ++ y) (H ++ [.loop .ready none E (ps, N) a b]) (fun _ H' => RngPost H.length E Q H')) : ARng P N n0 r (.rangeFunc f ps a b) E H Q := by
  refine ⟨hn, hr, fun g w act l m0 hrel => wpIn_rangeFunc fun fn _ => ?_⟩
  have hfv := ge_sound hrel.er f
  rw [hf] at hfv
  obtain ⟨hb, hc⟩ := h
  -- what the call needs, once the record is laid
  have go : ∀ (w1 : World) (g1 : G) (blk : Nat) (mark : List Deferred), HR g1 (H ++ [.loop .ready none E (ps, N) a b]) w1 → Kp g w g1 w1 → Ag g H w g1 (H ++ [.loop .ready none E (ps, N) a b]) w1 → g1.φ = g.φ ++ [some blk] → DfOK m0 g1 w1 (mark ++ act.defers) →
      (Instr.enterLoop fn act.tmps ps a b (FR l).round).run P w = .ok (blk, mark) w1 →
      ∃ (l' : Nat) (mark : List Deferred) (w₁ : World) (d : Deferred) (w₁' : World) (f' : FuncId) (args : Array Value) (w₂ : World),
      (Instr.enterLoop fn act.tmps ps a b (FR l).round).run P w = .ok (l', mark) w₁ ∧
      (resolve act.eval (rangeCall f l') 0).run P w₁ = .ok d w₁' ∧
      (∀ f', Target.leads P w₁' d.target d.args = some f' → (FR l).fn f') ∧
      (invoke d.target d.args).run P w₁' = .ok (.enter f' args) w₂ ∧
      ((FR l).depth.isSome = true → 1 ≤ 0) ∧
      CallsIn (FR l) (0 - 1) P f' args w₂ (rangePost (FR l) 0 P l' (XPost N n0 r l m0 g H w Q) { act with defers := mark ++ act.defers }) := by
    intro w1 g1 blk mark hr1 hk1 ha1 hφ1 hd1 hent
    have hfv1 := VR_mono (hrel.hr.zk hk1) ha1 _ _ hfv
    simp only [VR] at hfv1
    obtain ⟨x', y', hfe, v1, v2⟩ := hfv1
    refine ⟨blk, mark, w1, { target := .fn (.func k) y', args := x' ++ #[Value.func (.yield blk) #[] #[]] }, w1, k, x' ++ #[Value.func (.yield blk) #[] #[]] ++ y', w1, hent, ?_, fun _ _ => trivial, ?_, by simp [FR, Fence.wide], ?_⟩
    · simp only [resolve, rangeCall, hfe, Deferred.ofValue, Sem.run_pure]
      simp [Act.eval]
    · simp only [invoke]
      exact run_callFunc hb _
    · have hvs : VRs g1 (H ++ [.loop .ready none E (ps, N) a b]) w1 (x ++ [.fn (.yield H.length) [] []] ++ y) (x' ++ #[Value.func (.yield blk) #[] #[]] ++ y').toList := by
        simp only [Array.toList_append]
        refine VRs_append _ _ _ _ (VRs_append _ _ _ _ v1 ?_) v2
        refine ⟨_, _, rfl, ?_, rfl⟩
        simp only [VR]
        exact ⟨trivial, trivial, blk, .ready, none, E, (ps, N), a, b, by simp, by rw [hφ1, ← hrel.hr.len]; simp, rfl⟩
      have := hc g1 w1 _ hr1 hvs
      simp only [Array.toArray_toList] at this
      refine CallsIn.mono (F := FR l) (n := 0) this ?_
      intro e w3 hp
      exact rng_back (a' := { act with defers := mark ++ act.defers }) hn hr hrel hk1 ha1 hφ1 rfl hd1 hp
  cases l with
  | none =>
    have f1 := alloc_frozen hrel.hr (.deferred (some []))
    -- the block for deferred calls
    have hd0 : HR g H (w.alloc (.deferred (some []))) ∧ Kp g w g (w.alloc (.deferred (some []))) ∧ Ag g H w g H (w.alloc (.deferred (some []))) := by
      have hz : Zk g.Z g.Z w (w.alloc (.deferred (some []))) := fun b o z => ⟨z, World.cell?_of_block (w := w) (alloc_heap w _ b (hrel.hr.zlt b o z))⟩
      have ha : Ag g H w g H (w.alloc (.deferred (some []))) := by
        intro id y hy
        cases y with
        | cells cs => exact ⟨⟨cs, hy, rfl⟩, rfl⟩
        | arr sz nl els => exact ⟨nl, els, hy, Nat.le_refl _, fun _ => ⟨rfl, rfl, fun b vs t hb hv => ⟨vs, (alloc_heap w _ b (hrel.hr.lt hb)).trans hv, rfl⟩⟩⟩
        | loop st pend E ps a b => exact ⟨⟨st, pend, hy⟩, rfl⟩
        | obj o => exact ⟨⟨o, hy, rfl⟩, rfl⟩
      refine ⟨⟨hrel.hr.len, fun b o z => by simp; exact Nat.lt_succ_of_lt (hrel.hr.zlt b o z), fun id b y hp hy => ?_, hrel.hr.inj⟩, ⟨rfl, rfl, rfl, by simp, fun b hb _ => alloc_heap w _ b hb, fun _ _ z => z, fun _ _ z => .inl z, fun id b hp => .inl hp⟩, ha⟩
      obtain ⟨b1, b2, b3⟩ := hrel.hr.blk id b y hp hy
      exact ⟨by simp; omega, b2, BR_mono hz ha (alloc_heap w _ b b1) b3⟩
    obtain ⟨d1, d2, d3⟩ := hd0
    have hnew := alloc_blk d1 (.loop { state := .ready, pending := none, fn, tmps := act.tmps, params := ps, assign := a, body := b, defers := w.heap.size }) (.loop .ready none E (ps, N) a b) (by
      intro g' w' hz ha hw hZ
      exact ⟨_, hw, rfl, rfl, ⟨rfl, hrel.sz⟩, rfl, rfl, ER_mono (ER_mono hrel.er (hrel.hr.zk d2) d3) hz ha⟩)
    obtain ⟨n1, n2, n3⟩ := hnew
    refine go _ _ (w.heap.size + 1) [{ target := .collected w.heap.size, args := #[] }] n1 (d2.trans n2) (d3.trans n3) (by simp [World.size_alloc]) ?_ (run_enterLoop_outer fn act.tmps ps a b)
    have := (hrel.df.kp d2).kp n2
    obtain ⟨e0, rs, e1, e2, e3⟩ := this
    refine ⟨e0, w.heap.size :: rs, by rw [e1]; rfl, ?_, fun q hq => ?_⟩
    · refine List.nodup_cons.2 ⟨fun hin => ?_, e2⟩
      obtain ⟨_, rs', e1', _, e3'⟩ := hrel.df
      have hrs : rs = rs' := by
        have := e1.symm.trans e1'
        exact (List.map_inj_right (f := mkMark) (fun p q hpq => by simpa [mkMark] using hpq)).1 this
      subst hrs
      have := (Array.getElem?_eq_some_iff.1 (e3' _ hin).2.1).1
      omega
    · rcases List.mem_cons.1 hq with rfl | hq
      · refine ⟨hrel.df.1, ?_, fun id hid => ?_⟩
        · rw [alloc_heap _ _ _ (by simp)]
          exact World.alloc_heap_new w _
        · rcases getElem?_snoc hid with ⟨_, h'⟩ | ⟨_, h'⟩
          · have := hrel.hr.lt h'; omega
          · simp [World.size_alloc] at h'
      · exact e3 q hq
  | some bl =>
    cases r with
    | none => have := hrel.rnd; simp [Rnd] at this
    | some id0 =>
      obtain ⟨b0, st0, pend0, E0, ps0, x0, y0, q0, q1, q2⟩ := hrel.rnd
      cases q0
      obtain ⟨_, _, rec0, p0, _⟩ := hrel.hr.blk _ _ _ q1 q2
      have hnew := alloc_blk hrel.hr (.loop { state := .ready, pending := none, fn, tmps := act.tmps, params := ps, assign := a, body := b, defers := rec0.defers }) (.loop .ready none E (ps, N) a b) (by
        intro g' w' hz ha hw hZ
        exact ⟨_, hw, rfl, rfl, ⟨rfl, hrel.sz⟩, rfl, rfl, ER_mono hrel.er hz ha⟩)
      obtain ⟨n1, n2, n3⟩ := hnew
      exact go _ _ w.heap.size [] n1 n2 n3 rfl (hrel.df.kp n2) (run_enterLoop_inner p0 fn act.tmps ps a b)

end
end Go.Aw
end

section
namespace Go.Aw
open Go

theorem VB_env {n : Nat} : ∀ {E : Env}, VBs n (E.map Prod.snd) = true → ∀ t, VB n (E.look t) = true
  | [], _, t => rfl
  | (k, v) :: r, h, t => by
    simp only [List.map_cons, VBs, Bool.and_eq_true] at h
    simp only [Env.look]
    split
    · exact h.1
    · exact VB_env h.2 t

theorem BB_loop {n : Nat} {st : LoopState} {pend : Option Code} {E : Env} {ps : Array Tmp × Nat} {a b : Code} (h : VBs n (E.map Prod.snd) = true) : BB n (.loop st pend E ps a b) := VB_env h

theorem BB_loop_iff {n : Nat} {st : LoopState} {pend : Option Code} {E : Env} {ps : Array Tmp × Nat} {a b : Code} (h : VBs n (E.map Prod.snd) = true) : BB n (.loop st pend E ps a b) = True := eq_true (BB_loop h)

section
variable {P : Program} {H X : Heap}

/-- The first blocks only. -/
theorem HR_first {g : G} {w : World} (hr : HR g (H ++ X) w) (hb : ∀ (id : Nat) (x : Blk), H[id]? = some x → BB H.length x) : HR ⟨g.Z, g.φ.take H.length⟩ H w where
  len := by have := hr.len; simp at this ⊢; omega
  zlt := hr.zlt
  inj := fun i j b hi hj => by
    simp only [List.getElem?_take] at hi hj
    split at hi
    · split at hj
      · exact hr.inj i j b hi hj
      · cases hj
    · cases hi
  blk := fun id b x hp hx => by
    have hid := lt_of_getElem? hx
    simp only [List.getElem?_take, if_pos hid] at hp
    have hx' : (H ++ X)[id]? = some x := by rw [List.getElem?_append_left hid]; exact hx
    obtain ⟨h1, h2, h3⟩ := hr.blk id b x hp hx'
    have hc : ∀ id, id < H.length → H[id]? = (H ++ X)[id]? ∧ (g.φ.take H.length)[id]? = g.φ[id]? := fun id hid => ⟨by rw [List.getElem?_append_left hid], List.getElem?_take_of_lt hid⟩
    have hbx := hb id x hx
    refine ⟨h1, h2, ?_⟩
    cases x with
    | cells cs =>
      obtain ⟨vs, t, k1, k2, k3⟩ := h3
      exact ⟨vs, t, k1, VBs_cut (g := g) (H := H ++ X) (g' := ⟨g.Z, g.φ.take H.length⟩) (fun _ _ z => z) hc _ _ hbx k2, k3⟩
    | arr sz nl els => exact h3
    | loop st pend E ps y z =>
      obtain ⟨r, k1, k2, k3, k4, k5, k6, k7⟩ := h3
      exact ⟨r, k1, k2, k3, k4, k5, k6, fun t => VB_cut (g := g) (H := H ++ X) (g' := ⟨g.Z, g.φ.take H.length⟩) (fun _ _ z => z) hc _ _ (hbx t) (k7 t)⟩
    | obj o =>
      cases o with
      | map es => exact h3
      | iter mid m seen =>
        obtain ⟨mb, es, sA, k1, k2, k3, k4⟩ := h3
        obtain ⟨c1, c2⟩ := hc mid hbx
        exact ⟨mb, es, sA, c1.trans k1, c2.trans k2, k3, k4⟩

/-- What comes back: the first blocks as they are now, the others as they were. -/
theorem frame_back {g : G} {w : World} (hr : HR g (H ++ X) w) {g' : G} {H' : Heap} {w' : World} (hl : H'.length = H.length) (hr' : HR g' H' w') (hk : Kp ⟨g.Z, g.φ.take H.length⟩ w g' w') (ha : Ag ⟨g.Z, g.φ.take H.length⟩ H w g' H' w') :
    HR ⟨g'.Z, g'.φ ++ g.φ.drop H.length⟩ (H' ++ X) w' ∧ Kp g w ⟨g'.Z, g'.φ ++ g.φ.drop H.length⟩ w' ∧ Ag g (H ++ X) w ⟨g'.Z, g'.φ ++ g.φ.drop H.length⟩ (H' ++ X) w' := by
  have hφl : g'.φ.length = H.length := by rw [hr'.len, hl]
  have hlo : ∀ id, id < H.length → (g'.φ ++ g.φ.drop H.length)[id]? = g'.φ[id]? ∧ (H' ++ X)[id]? = H'[id]? := fun id hid => ⟨List.getElem?_append_left (by omega), List.getElem?_append_left (by omega)⟩
  have hhi : ∀ id, H.length ≤ id → (g'.φ ++ g.φ.drop H.length)[id]? = g.φ[id]? ∧ (H' ++ X)[id]? = (H ++ X)[id]? := fun id hid => by
    refine ⟨?_, ?_⟩
    · rw [List.getElem?_append_right (by omega), hφl, List.getElem?_drop]
      congr 1; omega
    · rw [List.getElem?_append_right (by omega), List.getElem?_append_right (by omega), hl]
  have htk : ∀ id, id < H.length → (g.φ.take H.length)[id]? = g.φ[id]? := fun id hid => List.getElem?_take_of_lt hid
  have hout : ∀ id b : Nat, H.length ≤ id → g.φ[id]? = some (some b) → ∀ j : Nat, (g.φ.take H.length)[j]? ≠ some (some b) := fun id b hid hp j hj => by
    rw [List.getElem?_take] at hj
    split at hj
    · have := hr.inj _ _ _ hj hp; omega
    · cases hj
  have hfr : ∀ id b : Nat, H.length ≤ id → g.φ[id]? = some (some b) → w'.heap[b]? = w.heap[b]? := fun id b hid hp => hk.fr b (hr.lt hp) (hout id b hid hp)
  have hz : Zk g.Z g'.Z w w' := fun b o z => ⟨hk.z b o z, World.cell?_of_block (w := w) (hk.fr b (hr.zlt b o z) (fun j hj => by
    rw [List.getElem?_take] at hj
    split at hj
    · exact hr.z_fr hj z
    · cases hj))⟩
  have hag : Ag g (H ++ X) w ⟨g'.Z, g'.φ ++ g.φ.drop H.length⟩ (H' ++ X) w' := by
    intro id x hx
    rcases Nat.lt_or_ge id H.length with hid | hid
    · rw [List.getElem?_append_left hid] at hx
      have := ha id x hx
      obtain ⟨e1, e2⟩ := hlo id hid
      have e3 := htk id hid
      cases x with
      | cells cs => exact ⟨by rw [e2]; exact this.1, by show (g'.φ ++ g.φ.drop H.length)[id]? = _; rw [e1, ← e3]; exact this.2⟩
      | arr sz nl els =>
        obtain ⟨nl', els', f1, f2, f3⟩ := this
        refine ⟨nl', els', by rw [e2]; exact f1, f2, fun he => ?_⟩
        obtain ⟨m1, m2, m3⟩ := f3 he
        exact ⟨m1, by show (g'.φ ++ g.φ.drop H.length)[id]? = _; rw [e1, ← e3]; exact m2, fun b vs t hb hw => m3 b vs t (by show (g.φ.take H.length)[id]? = _; rw [e3]; exact hb) hw⟩
      | loop st pend E ps y z => exact ⟨by rw [e2]; exact this.1, by show (g'.φ ++ g.φ.drop H.length)[id]? = _; rw [e1, ← e3]; exact this.2⟩
      | obj o => exact ⟨by rw [e2]; exact this.1, by show (g'.φ ++ g.φ.drop H.length)[id]? = _; rw [e1, ← e3]; exact this.2⟩
    · obtain ⟨e1, e2⟩ := hhi id hid
      cases x with
      | cells cs => exact ⟨⟨cs, e2.trans hx, rfl⟩, e1⟩
      | arr sz nl els => exact ⟨nl, els, e2.trans hx, Nat.le_refl _, fun _ => ⟨rfl, e1, fun b vs t hb hw => ⟨vs, (hfr id b hid hb).trans hw, rfl⟩⟩⟩
      | loop st pend E ps y z => exact ⟨⟨st, pend, e2.trans hx⟩, e1⟩
      | obj o => exact ⟨⟨o, e2.trans hx, rfl⟩, e1⟩
  have hgl : g.φ.length = H.length + X.length := by rw [hr.len]; simp
  have split : ∀ id b : Nat, (g'.φ ++ g.φ.drop H.length)[id]? = some (some b) → (id < H.length ∧ g'.φ[id]? = some (some b)) ∨ (H.length ≤ id ∧ g.φ[id]? = some (some b)) := fun id b h => by
    rcases Nat.lt_or_ge id H.length with hid | hid
    · exact .inl ⟨hid, by rw [← (hlo id hid).1]; exact h⟩
    · exact .inr ⟨hid, by rw [← (hhi id hid).1]; exact h⟩
  have hpn : ∀ id b : Nat, g'.φ[id]? = some (some b) → (id < H.length ∧ g.φ[id]? = some (some b)) ∨ w.heap.size ≤ b := fun id b h => by
    rcases hk.pn id b h with h' | h'
    · simp only [List.getElem?_take] at h'
      split at h'
      · rename_i hlt; exact .inl ⟨hlt, h'⟩
      · cases h'
    · exact .inr h'
  refine ⟨⟨by simp [hr'.len, hl, hgl], hr'.zlt, fun id b x hp hx => ?_, fun i j b hi hj => ?_⟩, ⟨hk.os, hk.tape, hk.out, hk.size, fun b hb hn => hk.fr b hb fun j hj => ?_, hk.z, fun b o z => ?_, fun id b hp => ?_⟩, hag⟩
  · rcases split id b hp with ⟨hid, hp'⟩ | ⟨hid, hp'⟩
    · rw [(hlo id hid).2] at hx
      obtain ⟨h1, h2, h3⟩ := hr'.blk id b x hp' hx
      have hc : ∀ id, id < H'.length → (H' ++ X)[id]? = H'[id]? ∧ (g'.φ ++ g.φ.drop H.length)[id]? = g'.φ[id]? := fun id hid => ⟨(hlo id (by omega)).2, (hlo id (by omega)).1⟩
      refine ⟨h1, h2, ?_⟩
      cases x with
      | cells cs =>
        obtain ⟨vs, t, k1, k2, k3⟩ := h3
        exact ⟨vs, t, k1, VBs_cut (g := g') (g' := ⟨g'.Z, g'.φ ++ g.φ.drop H.length⟩) (fun _ _ z => z) hc _ _ (VRs_VBs _ _ k2) k2, k3⟩
      | arr sz nl els => exact h3
      | loop st pend E ps y z =>
        obtain ⟨r, k1, k2, k3, k4, k5, k6, k7⟩ := h3
        exact ⟨r, k1, k2, k3, k4, k5, k6, fun t => VB_cut (g := g') (g' := ⟨g'.Z, g'.φ ++ g.φ.drop H.length⟩) (fun _ _ z => z) hc _ _ (VR_VB _ _ (k7 t)) (k7 t)⟩
      | obj o =>
        cases o with
        | map es => exact h3
        | iter mid m seen =>
          obtain ⟨mb, es, sA, k1, k2, k3, k4⟩ := h3
          obtain ⟨c1, c2⟩ := hc mid (lt_of_getElem? k1)
          exact ⟨mb, es, sA, c1.trans k1, c2.trans k2, k3, k4⟩
    · rw [(hhi id hid).2] at hx
      obtain ⟨h1, h2, h3⟩ := hr.blk id b x hp' hx
      refine ⟨Nat.lt_of_lt_of_le h1 hk.size, fun o z => ?_, BR_mono (g' := ⟨g'.Z, g'.φ ++ g.φ.drop H.length⟩) hz hag (hfr id b hid hp') h3⟩
      rcases hk.zn b o z with z | z | ⟨j, z⟩
      · exact h2 o z
      · omega
      · exact hout id b hid hp' j z
  · rcases split i b hi with ⟨h1, h2⟩ | ⟨h1, h2⟩ <;> rcases split j b hj with ⟨h3, h4⟩ | ⟨h3, h4⟩
    · exact hr'.inj i j b h2 h4
    · rcases hpn i b h2 with ⟨_, h5⟩ | h5
      · exact hr.inj i j b h5 h4
      · have := hr.lt h4; omega
    · rcases hpn j b h4 with ⟨_, h5⟩ | h5
      · exact hr.inj i j b h2 h5
      · have := hr.lt h2; omega
    · exact hr.inj i j b h2 h4
  · simp only [List.getElem?_take] at hj
    split at hj
    · exact hn j hj
    · cases hj
  · rcases hk.zn b o z with z | z | ⟨id, z⟩
    · exact .inl z
    · exact .inr (.inl z)
    · simp only [List.getElem?_take] at z
      split at z
      · exact .inr (.inr ⟨id, z⟩)
      · cases z
  · rcases split id b hp with ⟨_, h'⟩ | ⟨_, h'⟩
    · rcases hpn id b h' with ⟨_, h5⟩ | h5
      · exact .inl h5
      · exact .inr h5
    · exact .inl h'

theorem vr_first {g : G} {w : World} (hvs : ∀ {v c}, VB H.length v = true → VR g (H ++ X) w v c → VR ⟨g.Z, g.φ.take H.length⟩ H w v c) : ∀ (vs : List V) (cs : List Value), VBs H.length vs = true → VRs g (H ++ X) w vs cs → VRs ⟨g.Z, g.φ.take H.length⟩ H w vs cs
  | [], _, _, h => h
  | v :: r, cs, hb, h => by
    simp only [VBs, Bool.and_eq_true] at hb
    simp only [VRs] at h ⊢
    obtain ⟨c, r', h1, h2, h3⟩ := h
    exact ⟨c, r', h1, hvs hb.1 h2, vr_first hvs r r' hb.2 h3⟩

theorem cpost_frame {g : G} {w : World} (hr : HR g (H ++ X) w) {Q : V → Heap → Prop} (hq : ∀ v H', Q v H' → H'.length = H.length) {e : Ending} {w' : World} (h : CPost ⟨g.Z, g.φ.take H.length⟩ H w Q e w') :
    CPost g (H ++ X) w (fun v H' => ∃ H1, H' = H1 ++ X ∧ Q v H1) e w' := by
  obtain ⟨c, g', r, H', k1, k2, k3, k4, k5, k6⟩ := h
  have hl := hq _ _ k2
  obtain ⟨f1, f2, f3⟩ := frame_back hr hl k4 k5 k6
  refine ⟨c, _, r, H' ++ X, k1, ⟨H', rfl, k2⟩, ?_, f1, f2, f3⟩
  refine VB_cut (g := g') (g' := ⟨g'.Z, g'.φ ++ g.φ.drop H.length⟩) (n := H'.length) (fun _ _ z => z) (fun id hid => ⟨List.getElem?_append_left hid, List.getElem?_append_left (by rw [k4.len]; exact hid)⟩) _ _ (VR_VB _ _ k3) k3

/-- More blocks behind: they are no part of it. -/
theorem ACallV.frame {f : V} {vs : List V} {Q : V → Heap → Prop} (hb : ∀ (id : Nat) (x : Blk), H[id]? = some x → BB H.length x) (hf : VB H.length f = true) (hvs : VBs H.length vs = true) (hq : ∀ v H', Q v H' → H'.length = H.length) (h : ACallV P f vs H Q) :
    ACallV P f vs (H ++ X) (fun v H' => ∃ H1, H' = H1 ++ X ∧ Q v H1) := by
  have cut : ∀ (g : G) (w : World) {v c}, VB H.length v = true → VR g (H ++ X) w v c → VR ⟨g.Z, g.φ.take H.length⟩ H w v c := fun g w v c hv h =>
    VB_cut (g := g) (g' := ⟨g.Z, g.φ.take H.length⟩) (n := H.length) (fun _ _ z => z) (fun id hid => ⟨by rw [List.getElem?_append_left hid], List.getElem?_take_of_lt hid⟩) _ _ hv h
  unfold ACallV at h ⊢
  split at h
  · rename_i k first cap
    simp only [VB, Bool.and_eq_true] at hf
    have hall : VBs H.length (first ++ vs ++ cap) = true := VBs_append (VBs_append hf.1 hvs) hf.2
    refine ⟨h.1, fun g w cvs hr hv => CallsIn.mono (h.2 ⟨g.Z, g.φ.take H.length⟩ w cvs (HR_first hr hb) (vr_first (cut g w) _ _ hall hv)) fun e w' hp => cpost_frame hr hq hp⟩
  · rename_i id
    intro g w cvs b hr hv hφ
    simp only [VB, decide_eq_true_eq] at hf
    obtain ⟨fn, tmps, x, y, h1, h2⟩ := h ⟨g.Z, g.φ.take H.length⟩ w cvs b (HR_first hr hb) (vr_first (cut g w) _ _ hvs hv) (by rw [List.getElem?_take_of_lt hf]; exact hφ)
    exact ⟨fn, tmps, x, y, h1, RoundIn.mono h2 fun e w' hp => cpost_frame hr hq hp⟩
  · exact h.elim

end
end Go.Aw
end

section
namespace Go.Aw
open Go

/-- A walk: one operation next; or either of two. -/
inductive Tr where
  | done
  | one (i : Nat) (t : Tr)
  | two (i : Nat) (s : Tr) (j : Nat) (t : Tr)

def Tr.depth : Tr → Nat
  | .done => 0
  | .one _ t => t.depth + 1
  | .two _ s _ t => max s.depth t.depth + 1

/-- The operations of a list, one after another. -/
def Tr.ones : List Nat → Tr → Tr
  | [], t => t
  | i :: r, t => .one i (Tr.ones r t)

def trOk (cls : Nat → Cl) (ops : Array Oper) : Tr → Array Bool → Bool
  | .done, listed => (Region.ready .any ops listed).isEmpty
  | .one i t, listed => (Region.ready .any ops listed).contains i && freeC cls ops listed i && trOk cls ops t (listed.setIfInBounds i true)
  | .two i s j t, listed => (Region.ready .any ops listed == [i, j]) && trOk cls ops s (listed.setIfInBounds i true) && trOk cls ops t (listed.setIfInBounds j true)

def evTr (P : Program) (T : Nat → Ty) (hint : Nat → Bool) (cls : Nat → Cl) (all : List Oper) (K : Env → Heap → Prop) : Tr → Env → Heap → Prop
  | .done, E, H => K E H
  | .one i t, E, H => Som all[i]? fun o => stepC P T hint all (cls i) o E H fun v H' => evTr P T hint cls all K t (put E o.dst v) H'
  | .two i s j t, E, H => (Som all[i]? fun o => stepC P T hint all (cls i) o E H fun v H' => evTr P T hint cls all K s (put E o.dst v) H') ∧
      (Som all[j]? fun o => stepC P T hint all (cls j) o E H fun v H' => evTr P T hint cls all K t (put E o.dst v) H')

section
variable {P : Program} {T : Nat → Ty} {hint : Nat → Bool} {ops : Array Oper} {cls : Nat → Cl} {N n0 : Nat} {r : Option Nat} {KE : Env → Heap → Prop}

theorem anyA_tree : ∀ (tr : Tr) (f : Nat) (listed : Array Bool) (E : Env) (H : Heap), tr.depth ≤ f → trOk cls ops tr listed = true → evTr P T hint cls ops.toList KE tr E H → AnyA P T hint cls ops KE f listed E H
  | .done, 0, listed, E, H, _, hb, h => ⟨by simpa [trOk] using hb, E, fun _ => rfl, h⟩
  | .done, f + 1, listed, E, H, _, hb, h => by
    have he : Region.ready .any ops listed = [] := by simpa [trOk] using hb
    exact ⟨fun _ => ⟨E, fun _ => rfl, h⟩, fun i hi => by rw [he] at hi; cases hi⟩
  | .one i t, 0, _, _, _, hd, _, _ => by simp [Tr.depth] at hd
  | .two _ _ _ _, 0, _, _, _, hd, _, _ => by simp [Tr.depth] at hd
  | .one i t, f + 1, listed, E, H, hd, hb, h => by
    simp only [Tr.depth] at hd
    simp only [trOk, Bool.and_eq_true] at hb
    obtain ⟨⟨hb1, hb2⟩, hb3⟩ := hb
    simp only [evTr] at h
    obtain ⟨o, ho, h⟩ := Som_iff h
    have ho' : ops[i]? = some o := by rw [← ho]; simp
    obtain ⟨v, H', h1, h2⟩ := stepC_out h
    exact anyA_first ho' f listed E H v H' (fun j oj hj hne hun hno => freeC_spec ho' hb2 j oj hj hne hun hno) (by simpa using hb1) h1 (anyA_tree t f _ _ _ (by omega) hb3 h2)
  | .two i s j t, f + 1, listed, E, H, hd, hb, h => by
    simp only [Tr.depth] at hd
    simp only [trOk, Bool.and_eq_true, beq_iff_eq] at hb
    obtain ⟨⟨hb1, hb2⟩, hb3⟩ := hb
    simp only [evTr] at h
    obtain ⟨hs, ht⟩ := h
    obtain ⟨oi, hoi, hs⟩ := Som_iff hs
    obtain ⟨oj, hoj, ht⟩ := Som_iff ht
    refine ⟨fun he => (by rw [hb1] at he; cases he), fun k hk o ho => ?_⟩
    have ho2 : ops.toList[k]? = some o := by rw [← ho]; simp
    rw [hb1] at hk
    rcases List.mem_cons.1 hk with rfl | hk
    · rw [hoi] at ho2; cases ho2
      obtain ⟨v, H', h1, h2⟩ := stepC_out hs
      exact out_stepC h1 (anyA_tree s f _ _ _ (by omega) hb2 h2)
    · rcases List.mem_cons.1 hk with rfl | hk
      · rw [hoj] at ho2; cases ho2
        obtain ⟨v, H', h1, h2⟩ := stepC_out ht
        exact out_stepC h1 (anyA_tree t f _ _ _ (by omega) hb3 h2)
      · cases hk

/-- A region that draws its order, by a walk that may fork. -/
theorem ADrw.tree (hint : Nat → Bool) (hT : TOK P T) (hm : P.follows .mixedOrders = true) (cls : Nat → Cl) (tr : Tr) {l : List Oper} {E : Env} {H : Heap} {K : Env → Heap → Prop} (hn : n0 ≤ H.length) (hr : ∀ id, r = some id → id < n0)
    (hok : opsOk N l = true) (hd : decide (tr.depth ≤ l.length) = true) (hs : trOk cls l.toArray tr (Array.replicate l.length false) = true) (h : evTr P T hint cls l K tr E H) : ADrw P N n0 r l.toArray E H K := by
  intro i
  refine ⟨hn, hr, fun g w a l' m0 hrel => wpIn_region_any hm ?_⟩
  have hl := anyA_tree (P := P) (T := T) (hint := hint) (ops := l.toArray) (cls := cls) (KE := K) tr l.length (Array.replicate l.length false) E H (by simpa using hd) hs (by simpa using h)
  obtain ⟨hr1, hk1, ha1⟩ := same_heap (g := g) (H := H) (w := w) (w' := { w with drawn := w.drawn + 1 }) rfl rfl rfl rfl hrel.hr
  refine anyA_sound hT (by simpa using hok) (l := l') (g0 := g) (H0 := H) (w0 := w) (a0 := a) (K := K) (fun E' H' a' w' g' hK hr' he hs hd hk ha => ?_) l.length _ E H a { w with drawn := w.drawn + 1 } g hl hr1 (fun t => VR_mono (hrel.hr.zk hk1) ha1 _ _ (hrel.er t)) hrel.sz rfl hk1 ha1
  exact ⟨.normal, E', H', g', rfl, hK, hrel.of_agn hr hr' he hs hd hk (AgN.of_ag hn ha), hk, AgN.of_ag hn ha⟩

variable {E : Env} {H : Heap}

@[go_sem] theorem evTr_done (all : List Oper) : evTr P T hint cls all KE .done E H = KE E H := (Eq.refl _).trans rfl
@[go_sem] theorem evTr_one (all : List Oper) (i : Nat) (t : Tr) : evTr P T hint cls all KE (.one i t) E H = Som all[i]? (fun o => stepC P T hint all (cls i) o E H fun v H' => evTr P T hint cls all KE t (put E o.dst v) H') := (Eq.refl _).trans rfl
@[go_sem] theorem evTr_two (all : List Oper) (i j : Nat) (s t : Tr) : evTr P T hint cls all KE (.two i s j t) E H = (evTr P T hint cls all KE (.one i s) E H ∧ evTr P T hint cls all KE (.one j t) E H) := (Eq.refl _).trans rfl
@[go_sem] theorem Tr_ones_nil (t : Tr) : Tr.ones [] t = t := (Eq.refl _).trans rfl
@[go_sem] theorem Tr_ones_cons (i : Nat) (l : List Nat) (t : Tr) : Tr.ones (i :: l) t = .one i (Tr.ones l t) := (Eq.refl _).trans rfl
@[congr] theorem evTr_congr {all : List Oper} {t t' : Tr} {E' : Env} {H' : Heap} (ht : t = t') (hE : E = E') (hH : H = H') {one : Prop} (ho : (True ∧ True) = one) : evTr P T hint cls all KE t E H = evTr P T hint cls all KE t' E' H' := by
  rw [ht, hE, hH]

end
end Go.Aw
end

section
namespace Go.Aw
open Go

theorem BB_le {m k : Nat} (h : m ≤ k) : ∀ {x : Blk}, BB m x → BB k x
  | .cells _, hb => VBs_le h _ hb
  | .arr _ _ _, _ => trivial
  | .loop _ _ _ _ _ _, hb => fun t => VB_le h _ (hb t)
  | .obj (.map _), _ => trivial
  | .obj (.iter _ _ _), hb => Nat.lt_of_lt_of_le hb h

theorem BBs_le {m k : Nat} (h : m ≤ k) : ∀ {l : List Blk}, BBs m l → BBs k l
  | [], _ => trivial
  | _ :: _, hb => ⟨BB_le h hb.1, BBs_le h hb.2⟩

theorem BBs_append {n : Nat} : ∀ {l r : List Blk}, BBs n l → BBs n r → BBs n (l ++ r)
  | [], _, _, h => h
  | _ :: _, _, h1, h2 => ⟨h1.1, BBs_append h1.2 h2⟩

theorem BBs_get {n : Nat} {l : List Blk} (h : BBs n l) (id : Nat) (x : Blk) (hx : l[id]? = some x) : BB n x := BBs_all h x (List.mem_of_getElem? hx)

/-- f hands the items to whatever yield it is given, till that returns false. -/
def Iter (P : Program) (f : V) (items : List (List V)) : Prop :=
  ∀ (yv : V) (n : Nat) (I : List (List V) → Heap → Prop) (Q : V → Heap → Prop), (∃ f x y, yv = .fn f x y) → VB n yv = true → (∀ l H, I l H → H.length = n ∧ BBs n H) →
    (∀ a r H, I (a :: r) H → ACallV P yv a H (fun v H' => (v = .d (.bool true) ∧ I r H') ∨ (v = .d (.bool false) ∧ H'.length = n ∧ BBs n H' ∧ Q (.tup []) H'))) →
    (∀ H, I [] H → Q (.tup []) H) → ∀ H, I items H → ACallV P f [yv] H Q

section
variable {P : Program} {N n0 : Nat} {r : Option Nat}

theorem AYield.of_callV {id : Nat} {vs : List V} {H : Heap} {Q : V → Heap → Prop} (h : AYield P id vs H Q) : ACallV P (.fn (.yield id) [] []) vs H Q := h

/-- What a round must come to. -/
def IterPost (n : Nat) (L' : Blk) (J : Heap → Prop) (Q : Ex → Heap → Prop) (x : Ex) (_ : Env) (H2 : Heap) : Prop :=
  H2[n]? = some L' ∧ BBs n (H2.take n) ∧ match x with
    | .normal => J (H2.take n)
    | x => Q x (H2.take n)

theorem take_take_set {H2 : Heap} {n : Nat} {L : Blk} (h : n < H2.length) : (H2.set n L).take (n + 1) = H2.take n ++ [L] := by
  rw [List.take_succ_eq_append_getElem (by simpa using h), List.take_set_of_le (Nat.le_refl _)]
  simp

/-- A range over such a function. -/
theorem ARng.iter {f : Operand} {ps : Array Tmp} {a b : Code} {E : Env} {H : Heap} {Q : Ex → Env → Heap → Prop} {k : FuncId} {x y : List V} (items : List (List V)) (J : List (List V) → Heap → Prop)
    (hn : n0 ≤ H.length) (hr : ∀ id, r = some id → id < n0) (hf : ge E f = .fn (.func k) x y) (it : Iter P (.fn (.func k) x y) items) (hps : ps.toList.all (fun t => decide (t < N)) = true) (hE : VBs H.length (E.map Prod.snd) = true)
    (hJ : ∀ l Hc, J l Hc → Hc.length = H.length ∧ BBs H.length Hc) (h0 : J items H) (hend : ∀ Hc, J [] Hc → Q .normal E Hc)
    (hlen : ∀ as ∈ items, as.length = ps.size)
    (round : ∀ (L L' : Blk) (as : List V) (rest : List (List V)) (Hc : Heap), as ∈ items → J (as :: rest) Hc → AWP P N (H.length + 1) (some H.length) a (putAll E ps.toList as) (Hc ++ [L]) (normK fun E1 H1 =>
      H1[H.length]? = some L ∧ AWP P N (H.length + 1) (some H.length) b E1 (H1.set H.length L') (IterPost H.length L' (J rest) fun x Hc => Q x E Hc))) : ARng P N n0 r (.rangeFunc f ps a b) E H Q := by
  refine ARng.run hn hr hf ?_
  have hEt : ∀ t, VB (H.length + 1) (E.look t) = true := fun t => VB_le (by omega) _ (VB_env hE t)
  have hEt' : ∀ st pend, BB (H.length + 1) (.loop st pend E (ps, N) a b) := fun st pend => hEt
  have := it (.fn (.yield H.length) [] []) (H.length + 1)
    (fun l H' => (∃ p q, items = p ++ q ∧ q = l) ∧ ∃ Hc, H' = Hc ++ [.loop .ready none E (ps, N) a b] ∧ J l Hc)
    (fun _ H' => RngPost H.length E Q H') ⟨_, _, _, rfl⟩ (by simp [VB]) ?_ ?_ ?_ (H ++ [.loop .ready none E (ps, N) a b]) ⟨⟨[], items, rfl, rfl⟩, H, rfl, h0⟩
  · exact this
  · rintro l H' ⟨_, Hc, rfl, hj⟩
    obtain ⟨h1, h2⟩ := hJ _ _ hj
    exact ⟨by simp [h1], BBs_append (BBs_le (by omega) h2) ⟨hEt' _ _, trivial⟩⟩
  · rintro as rest H' ⟨⟨p, q, hpq, rfl⟩, Hc, rfl, hj⟩
    have hin : as ∈ items := by rw [hpq]; simp
    obtain ⟨h1, h2⟩ := hJ _ _ hj
    have hLl : (Hc ++ [Blk.loop .ready none E (ps, N) a b]).length = H.length + 1 := by simp [h1]
    refine AYield.of_callV (AYield.run (pend := none) (E := E) (ps := ps) (a := a) (b := b) (by rw [← h1]; simp) (hlen as hin) hps ?_)
    rw [hLl]
    refine (round (.loop .ready none E (ps, N) a b) (.loop .busy none E (ps, N) a b) as rest Hc hin hj).mono ?_
    intro x E1 H1 hl1 hx
    cases x with
    | exit i => exact hx
    | ret => exact hx
    | normal =>
      obtain ⟨k1, k2⟩ := hx
      refine ⟨none, E, k1, k2.mono ?_⟩
      intro x E2 H2 hl2 hp
      obtain ⟨m1, m2, m3⟩ := hp
      have hlt := lt_of_getElem? m1
      unfold RoundPost
      rw [m1]
      simp only
      have hm : (H2.take H.length).length = H.length := by simp; omega
      have hts : ∀ L : Blk, (H2.set H.length L).take (H.length + 1) = H2.take H.length ++ [L] := fun L => take_take_set hlt
      refine ⟨.inr (by rw [hts]; exact BBs_append (BBs_le (by omega) m2) ⟨hEt' _ _, trivial⟩), ?_⟩
      rw [hts]
      cases x with
      | normal => exact .inl ⟨rfl, ⟨p ++ [as], rest, by rw [hpq]; simp, rfl⟩, _, rfl, m3⟩
      | exit i =>
        refine .inr ⟨rfl, by simp; omega, BBs_append (BBs_le (by omega) m2) ⟨hEt' _ _, trivial⟩, ?_⟩
        unfold RngPost
        have e : (H2.take H.length ++ [Blk.loop (if goesOn (.exit i) = true then LoopState.ready else .done) (jumpOf (.exit i)) E (ps, N) a b])[H.length]? = some (Blk.loop .done (some (.exit i)) E (ps, N) a b) := by
          rw [List.getElem?_append_right (by omega), hm, Nat.sub_self]; rfl
        rw [e]
        refine ⟨by simp, .inr ?_, ?_⟩
        · rw [List.take_append_of_le_length (by omega), List.take_of_length_le (by omega)]; exact m2
        · rw [List.take_append_of_le_length (by omega), List.take_of_length_le (by omega)]
          exact m3
      | ret =>
        refine .inr ⟨rfl, by simp; omega, BBs_append (BBs_le (by omega) m2) ⟨hEt' _ _, trivial⟩, ?_⟩
        unfold RngPost
        have e : (H2.take H.length ++ [Blk.loop (if goesOn .ret = true then LoopState.ready else .done) (jumpOf .ret) E (ps, N) a b])[H.length]? = some (Blk.loop .done (some .ret) E (ps, N) a b) := by
          rw [List.getElem?_append_right (by omega), hm, Nat.sub_self]; rfl
        rw [e]
        refine ⟨by simp, .inr ?_, ?_⟩
        · rw [List.take_append_of_le_length (by omega), List.take_of_length_le (by omega)]; exact m2
        · rw [List.take_append_of_le_length (by omega), List.take_of_length_le (by omega)]
          exact m3
  · rintro H' ⟨_, Hc, rfl, hj⟩
    obtain ⟨h1, h2⟩ := hJ _ _ hj
    unfold RngPost
    have e : (Hc ++ [Blk.loop .ready none E (ps, N) a b])[H.length]? = some (.loop .ready none E (ps, N) a b) := by
      rw [← h1]; simp
    rw [e]
    refine ⟨by simp, .inr ?_, ?_⟩
    · rw [List.take_append_of_le_length (by omega), List.take_of_length_le (by omega)]; exact h2
    · rw [List.take_append_of_le_length (by omega), List.take_of_length_le (by omega)]
      exact hend _ hj

def EWe (E : Env) : Env → Prop
  | [] => True
  | (k, v) :: r => E.look k = v ∧ EWe E r

/-- Nothing but slots is forgotten. -/
theorem ForgetTo.same {E E' : Env} {H : Heap} (hn : n0 ≤ H.length) (he : EWe E E') : ForgetTo n0 E H E' H := by
  refine ⟨hn, Nat.le_refl _, .inl (Nat.le_refl _), List.take_length, ?_⟩
  induction E' with
  | nil => trivial
  | cons p r ih =>
    obtain ⟨k, v⟩ := p
    exact ⟨.inr (.inl ⟨he.1, Nat.le_refl _⟩), ih he.2⟩

variable {n : Nat} {L' : Blk} {J : Heap → Prop} {Q : Ex → Heap → Prop} {E : Env} {H2 : Heap}

@[go_sem] theorem iterPost_normal : IterPost n L' J Q .normal E H2 = (H2[n]? = some L' ∧ BBs n (H2.take n) ∧ J (H2.take n)) := (Eq.refl _).trans rfl
@[go_sem] theorem iterPost_exit (i : Nat) : IterPost n L' J Q (.exit i) E H2 = (H2[n]? = some L' ∧ BBs n (H2.take n) ∧ Q (.exit i) (H2.take n)) := (Eq.refl _).trans rfl
@[go_sem] theorem iterPost_ret : IterPost n L' J Q .ret E H2 = (H2[n]? = some L' ∧ BBs n (H2.take n) ∧ Q .ret (H2.take n)) := (Eq.refl _).trans rfl
@[congr] theorem iterPost_congr {x x' : Ex} {E' : Env} {H' : Heap} (hx : x = x') (hE : E = E') (hH : H2 = H') {one : Prop} (ho : (True ∧ True) = one) : IterPost n L' J Q x E H2 = IterPost n L' J Q x' E' H' := by
  rw [hx, hE, hH]
@[go_sem] theorem putAll_nil (vs : List V) : putAll E [] vs = E := by cases vs <;> rfl
@[go_sem] theorem putAll_cons (t : Tmp) (ts : List Tmp) (v : V) (vs : List V) : putAll E (t :: ts) (v :: vs) = putAll ((t, v) :: E) ts vs := (Eq.refl _).trans rfl
theorem BB_loop_t {st : LoopState} {pend : Option Code} {ps : Array Tmp × Nat} {a b : Code} (h : VBs n (E.map Prod.snd) = true) : BB n (.loop st pend E ps a b) = True := eq_true (BB_loop h)

end
end Go.Aw
end
