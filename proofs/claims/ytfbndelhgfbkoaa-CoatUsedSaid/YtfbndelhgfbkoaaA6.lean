/- Regions that draw their order, where an operation may do anything when it stands alone; what depends on what, all the way. Long bodies, part by part. A row's argument, read as data of its type. Parts of a body, by their paths. A nil slice that will grow is given a row of its own, between two parts of a body. Functions whose results are rows of their own: the caller may write them. A function that returns a row of its own: its row becomes an empty row that was there; new empty rows. Functions that hand a list's items to yield, and fill an empty row with each; ranges over them. Parts of a body that end in one of several states. Small tools: drops of blocks, rows given away, calls that leave blocks behind. -/
import Derived.Test.YtfbndelhgfbkoaaA5
import Derived.ProofKit
import Derived.Below
set_option linter.unusedSimpArgs false
set_option linter.unusedVariables false

section
namespace Go.Aw
open Go

section
variable {P : Program} {T : Nat → Ty} {hint : Nat → Bool} {E : Env} {H : Heap} {K K' : V → Heap → Prop}

theorem evOp_noC {call call' : CallH} {o : Oper} (hnc : ∀ c f, o.op = .call c → c.callee ≠ .value f) (h : evOp T hint call o E H K) : evOp T hint call' o E H K := by
  obtain ⟨d, op, t, p, a, g⟩ := o
  cases op with
  | call c =>
    obtain ⟨ce, xs, ts⟩ := c
    cases ce with
    | value f => exact absurd rfl (hnc _ f rfl)
    | invoke r m => exact h
    | builtin b => exact h
  | makeFunc f x y => cases f <;> exact h
  | makeMap t r => cases r <;> exact h
  | _ => exact h

theorem evOp_mono {o : Oper} (h : evOp T hint (ACallV P) o E H K) (hk : ∀ v H', K v H' → K' v H') : evOp T hint (ACallV P) o E H K' := by
  by_cases hc : ∃ c f, o.op = .call c ∧ c.callee = .value f
  · obtain ⟨c, f, ho, hf⟩ := hc
    unfold evOp at h ⊢
    rw [ho] at h ⊢
    simp only [evCall, hf] at h ⊢
    exact h.mono hk
  · have hnc : ∀ c f, o.op = .call c → c.callee ≠ .value f := fun c f h1 h2 => hc ⟨c, f, h1, h2⟩
    obtain ⟨v, H', h1, h2⟩ := evOp_lin (false_lin H) o _ (evOp_noC (call' := fun _ _ _ _ => False) hnc h)
    exact evOp_noC hnc (h2 K' (hk _ _ h1))

theorem stepV_mono {all : List Oper} {o : Oper} (h : stepV T hint (ACallV P) all o E H K) (hk : ∀ v H', K v H' → K' v H') : stepV T hint (ACallV P) all o E H K' := by
  unfold stepV at h ⊢
  split at h
  · exact evOp_mono h hk
  · unfold evGo at h ⊢
    split at h
    · rcases Br_iff h with ⟨hb, h⟩ | ⟨hb, h⟩
      · rw [hb]; exact evOp_mono h hk
      · rw [hb]; exact hk _ _ h
    · exact hk _ _ h
    · exact h.elim

def stepG (P : Program) (T : Nat → Ty) (hint : Nat → Bool) (all : List Oper) (c : Option Cl) (o : Oper) (E : Env) (H : Heap) (K : V → Heap → Prop) : Prop :=
  match c with
  | some c => stepC P T hint all c o E H K
  | none => stepV T hint (ACallV P) all o E H K

theorem stepG_mono {all : List Oper} {c : Option Cl} {o : Oper} (h : stepG P T hint all c o E H K) (hk : ∀ v H', K v H' → K' v H') : stepG P T hint all c o E H K' := by
  cases c with
  | none => exact stepV_mono h hk
  | some c =>
    obtain ⟨v, H', h1, h2⟩ := stepC_out h
    exact out_stepC h1 (hk _ _ h2)

end

/-- j waits for i, by so many steps at most. -/
def reach (ops : Array Oper) : Nat → Nat → Nat → Bool
  | 0, _, _ => false
  | f + 1, i, j => match ops[j]? with
    | some o => o.after.any fun e => Region.binds .any e && (e.on == i || reach ops f i e.on)
    | none => false

def Dn (ops : Array Oper) (listed : Array Bool) : Prop :=
  ∀ j, listed.getD j false = true → ∀ oj, ops[j]? = some oj → ∀ e ∈ oj.after, Region.binds .any e = true → listed.getD e.on false = true

section
variable {P : Program} {T : Nat → Ty} {hint : Nat → Bool} {ops : Array Oper} {cls : Nat → Option Cl} {N n0 : Nat} {r : Option Nat} {KE : Env → Heap → Prop}

theorem reach_listed {listed : Array Bool} (hd : Dn ops listed) : ∀ (f i k : Nat), reach ops f i k = true → listed.getD k false = true → listed.getD i false = true
  | 0, _, _, h, _ => by simp [reach] at h
  | f + 1, i, k, h, hk => by
    simp only [reach] at h
    split at h
    · rename_i o ho
      obtain ⟨e, he, h⟩ := Array.any_eq_true'.1 h
      simp only [Bool.and_eq_true, Bool.or_eq_true, beq_iff_eq] at h
      have h1 := hd k hk o ho e he h.1
      rcases h.2 with h2 | h2
      · rw [← h2]; exact h1
      · exact reach_listed hd f i e.on h2 h1
    · cases h

theorem reach_ready {listed : Array Bool} (hd : Dn ops listed) {f i j : Nat} (h : reach ops f i j = true) (hj : j ∈ Region.ready .any ops listed) (hi : listed.getD i true = false) : False := by
  have key : listed.getD i false = true := by
    obtain ⟨_, o, ho, hall⟩ := mem_ready.1 hj
    cases f with
    | zero => simp [reach] at h
    | succ f =>
      simp only [reach, ho] at h
      obtain ⟨e, he, h⟩ := Array.any_eq_true'.1 h
      simp only [Bool.and_eq_true, Bool.or_eq_true, beq_iff_eq] at h
      have h1 := hall e he h.1
      rcases h.2 with h2 | h2
      · rw [← h2]; exact h1
      · exact reach_listed hd f i e.on h2 h1
  rcases Nat.lt_or_ge i listed.size with h' | h'
  · simp [h'] at key hi; rw [key] at hi; cases hi
  · simp [Array.getElem?_eq_none h'] at hi

theorem Dn_set {listed : Array Bool} (hd : Dn ops listed) {i : Nat} (hi : i ∈ Region.ready .any ops listed) : Dn ops (listed.setIfInBounds i true) := by
  intro j hj oj hoj e he hb
  obtain ⟨_, o, ho, hall⟩ := mem_ready.1 hi
  by_cases hij : i = j
  · subst hij
    rw [ho] at hoj; cases hoj
    exact getD_set_true (hall e he hb)
  · rw [getD_set_ne false hij] at hj
    exact getD_set_true (hd j hj oj hoj e he hb)

theorem Dn_none {n : Nat} : Dn ops (Array.replicate n false) := by
  intro j hj
  rw [Array.getD_eq_getD_getElem?, Array.getElem?_replicate] at hj
  split at hj <;> simp at hj

def AnyG (P : Program) (T : Nat → Ty) (hint : Nat → Bool) (cls : Nat → Option Cl) (ops : Array Oper) (K : Env → Heap → Prop) : Nat → Array Bool → Env → Heap → Prop
  | 0, listed, E, H => Region.ready .any ops listed = [] ∧ Kq K E H
  | f + 1, listed, E, H => (Region.ready .any ops listed = [] → Kq K E H) ∧
    ∀ i ∈ Region.ready .any ops listed, ∀ o, ops[i]? = some o → stepG P T hint ops.toList (cls i) o E H fun v H' => AnyG P T hint cls ops K f (listed.setIfInBounds i true) (put E o.dst v) H'

theorem stepG_same {c : Option Cl} {o : Oper} {E E' : Env} {H : Heap} {K : V → Heap → Prop} (h : ∀ t, E.look t = E'.look t) (hs : stepG P T hint ops.toList c o E H K) : stepG P T hint ops.toList c o E' H K := by
  cases c with
  | none =>
    simp only [stepG] at hs ⊢
    rw [← stepV_same (fun t _ => h t)]; exact hs
  | some c =>
    obtain ⟨v, H', h1, h2⟩ := stepC_out hs
    exact out_stepC (outC_same (fun t _ => h t) h1) h2

theorem anyG_same : ∀ (f : Nat) (listed : Array Bool) (E E' : Env) (H : Heap), (∀ t, E.look t = E'.look t) → AnyG P T hint cls ops KE f listed E H → AnyG P T hint cls ops KE f listed E' H
  | 0, _, _, _, _, h, hk => ⟨hk.1, Kq_same h hk.2⟩
  | f + 1, listed, E, E', H, h, hk => by
    refine ⟨fun he => Kq_same h (hk.1 he), fun i hi o ho => ?_⟩
    exact stepG_mono (stepG_same h (hk.2 i hi o ho)) fun v H' hv => anyG_same f _ _ _ _ (put_same h _ _) hv

theorem anyG_first {i : Nat} {oi : Oper} {ci : Cl} (hi : ops[i]? = some oi) (hci : cls i = some ci) : ∀ (fuel : Nat) (listed : Array Bool) (E : Env) (H : Heap) (v : V) (Hi : Heap), Dn ops listed →
      (∀ j oj, ops[j]? = some oj → j ≠ i → listed.getD j true = false → reach ops ops.size i j = false → ∃ cj, cls j = some cj ∧ oi.apart ops oj = true ∧ compat ci cj = true) →
      i ∈ Region.ready .any ops listed → OutC P T hint ops.toList ci oi E H v Hi →
      AnyG P T hint cls ops KE fuel (listed.setIfInBounds i true) (put E oi.dst v) Hi → AnyG P T hint cls ops KE (fuel + 1) listed E H := by
  intro fuel
  induction fuel with
  | zero =>
    intro listed E H v Hi hd _ hr ho h
    refine ⟨fun h => (by rw [h] at hr; cases hr), fun j hj o hoj => ?_⟩
    by_cases hji : j = i
    · subst hji; rw [hi] at hoj; cases hoj
      rw [hci]
      exact out_stepC ho h
    · have := ready_mono hj hji
      rw [h.1] at this
      cases this
  | succ fuel ih =>
    intro listed E H v Hi hd hfree hr ho h
    refine ⟨fun h => (by rw [h] at hr; cases hr), fun j hj oj hoj => ?_⟩
    by_cases hji : j = i
    · subst hji; rw [hi] at hoj; cases hoj
      rw [hci]
      exact out_stepC ho h
    · have hnr : reach ops ops.size i j = false := by
        cases hrr : reach ops ops.size i j with
        | false => rfl
        | true => exact (reach_ready hd hrr hj (mem_ready.1 hr).1).elim
      obtain ⟨hjun, _⟩ := mem_ready.1 hj
      obtain ⟨cj, hcj, hap, hcm⟩ := hfree j oj hoj hji hjun hnr
      have h2 := h.2 j (ready_mono hj hji) oj hoj
      rw [hcj] at h2 ⊢
      obtain ⟨u, Hj, hu, hk⟩ := stepC_out h2
      obtain ⟨Hj', hu', ho'⟩ := out_swap hcm hap ho hu
      have hfree' : ∀ k ok, ops[k]? = some ok → k ≠ i → (listed.setIfInBounds j true).getD k true = false → reach ops ops.size i k = false → ∃ ck, cls k = some ck ∧ oi.apart ops ok = true ∧ compat ci ck = true := fun k ok hk hki hun hno => by
        refine hfree k ok hk hki ?_ hno
        by_cases hjk : j = k
        · subst hjk; exact hjun
        · rw [getD_set_ne true hjk] at hun; exact hun
      refine out_stepC hu' (ih (listed.setIfInBounds j true) _ _ v Hj (Dn_set hd hj) hfree' (ready_mono hr (Ne.symm hji)) ho' ?_)
      rw [Array.setIfInBounds_comm _ _ hji]
      exact anyG_same _ _ _ _ _ (fun t => put_swap (Oper.apart_spec hap).2.1 t) hk

/-- A walk: one operation next; one that stands alone; or either of two. -/
inductive TrG where
  | done
  | one (i : Nat) (t : TrG)
  | only (i : Nat) (t : TrG)
  | two (i : Nat) (s : TrG) (j : Nat) (t : TrG)
  | three (i : Nat) (s : TrG) (j : Nat) (t : TrG) (k : Nat) (u : TrG)

def TrG.depth : TrG → Nat
  | .done => 0
  | .one _ t => t.depth + 1
  | .only _ t => t.depth + 1
  | .two _ s _ t => max s.depth t.depth + 1
  | .three _ s _ t _ u => max s.depth (max t.depth u.depth) + 1

def TrG.ones : List Nat → TrG → TrG
  | [], t => t
  | i :: r, t => .one i (TrG.ones r t)

def freeG (cls : Nat → Option Cl) (ops : Array Oper) (listed : Array Bool) (i : Nat) : Bool :=
  match ops[i]?, cls i with
  | some oi, some ci => (List.range ops.size).all fun j => match ops[j]? with
    | some oj => j == i || listed.getD j true || reach ops 1 i j || (match cls j with
      | some cj => oi.apart ops oj && compat ci cj
      | none => false) || reach ops ops.size i j
    | none => true
  | _, _ => false

def trGOk (cls : Nat → Option Cl) (ops : Array Oper) : TrG → Array Bool → Bool
  | .done, listed => (Region.ready .any ops listed).isEmpty
  | .one i t, listed => (Region.ready .any ops listed).contains i && freeG cls ops listed i && trGOk cls ops t (listed.setIfInBounds i true)
  | .only i t, listed => (Region.ready .any ops listed == [i]) && trGOk cls ops t (listed.setIfInBounds i true)
  | .two i s j t, listed => (Region.ready .any ops listed == [i, j]) && trGOk cls ops s (listed.setIfInBounds i true) && trGOk cls ops t (listed.setIfInBounds j true)
  | .three i s j t k u, listed => (Region.ready .any ops listed == [i, j, k]) && trGOk cls ops s (listed.setIfInBounds i true) && trGOk cls ops t (listed.setIfInBounds j true) && trGOk cls ops u (listed.setIfInBounds k true)

def evTrG (P : Program) (T : Nat → Ty) (hint : Nat → Bool) (cls : Nat → Option Cl) (all : List Oper) (K : Env → Heap → Prop) : TrG → Env → Heap → Prop
  | .done, E, H => K E H
  | .one i t, E, H => Som all[i]? fun o => stepG P T hint all (cls i) o E H fun v H' => evTrG P T hint cls all K t (put E o.dst v) H'
  | .only i t, E, H => Som all[i]? fun o => stepG P T hint all (cls i) o E H fun v H' => evTrG P T hint cls all K t (put E o.dst v) H'
  | .two i s j t, E, H => (Som all[i]? fun o => stepG P T hint all (cls i) o E H fun v H' => evTrG P T hint cls all K s (put E o.dst v) H') ∧
      (Som all[j]? fun o => stepG P T hint all (cls j) o E H fun v H' => evTrG P T hint cls all K t (put E o.dst v) H')
  | .three i s j t k u, E, H => (Som all[i]? fun o => stepG P T hint all (cls i) o E H fun v H' => evTrG P T hint cls all K s (put E o.dst v) H') ∧
      (Som all[j]? fun o => stepG P T hint all (cls j) o E H fun v H' => evTrG P T hint cls all K t (put E o.dst v) H') ∧
      (Som all[k]? fun o => stepG P T hint all (cls k) o E H fun v H' => evTrG P T hint cls all K u (put E o.dst v) H')

theorem freeG_spec {i : Nat} {oi : Oper} {ci : Cl} {listed : Array Bool} (hi : ops[i]? = some oi) (hci : cls i = some ci) (h : freeG cls ops listed i = true) (j : Nat) (oj : Oper) (hj : ops[j]? = some oj) (hne : j ≠ i) (hun : listed.getD j true = false)
    (hno : reach ops ops.size i j = false) : ∃ cj, cls j = some cj ∧ oi.apart ops oj = true ∧ compat ci cj = true := by
  simp only [freeG, hi, hci, List.all_eq_true, List.mem_range] at h
  have hlt := (Array.getElem?_eq_some_iff.1 hj).1
  have h1 := h j hlt
  have hno1 : reach ops 1 i j = false := by
    cases hr : reach ops 1 i j with
    | false => rfl
    | true =>
      have : reach ops ops.size i j = true := by
        obtain ⟨n, hn⟩ : ∃ n, ops.size = n + 1 := ⟨ops.size - 1, by omega⟩
        rw [hn]
        simp only [reach, hj] at hr ⊢
        obtain ⟨e, he, hh⟩ := Array.any_eq_true'.1 hr
        simp only [Bool.and_eq_true, Bool.or_eq_true, beq_iff_eq, Bool.false_eq_true, or_false] at hh
        exact Array.any_eq_true'.2 ⟨e, he, by simp [hh]⟩
      rw [hno] at this; cases this
  simp only [hj, Bool.or_eq_true, beq_iff_eq, hne, false_or, hun, Bool.false_eq_true, hno, hno1, or_false] at h1
  split at h1
  · rename_i cj hcj
    simp only [Bool.and_eq_true] at h1
    exact ⟨cj, hcj, h1⟩
  · cases h1

theorem anyG_tree : ∀ (tr : TrG) (f : Nat) (listed : Array Bool) (E : Env) (H : Heap), Dn ops listed → tr.depth ≤ f → trGOk cls ops tr listed = true → evTrG P T hint cls ops.toList KE tr E H → AnyG P T hint cls ops KE f listed E H
  | .done, 0, listed, E, H, _, _, hb, h => ⟨by simpa [trGOk] using hb, E, fun _ => rfl, h⟩
  | .done, f + 1, listed, E, H, _, _, hb, h => by
    have he : Region.ready .any ops listed = [] := by simpa [trGOk] using hb
    exact ⟨fun _ => ⟨E, fun _ => rfl, h⟩, fun i hi => by rw [he] at hi; cases hi⟩
  | .one i t, 0, _, _, _, _, hd, _, _ => by simp [TrG.depth] at hd
  | .only i t, 0, _, _, _, _, hd, _, _ => by simp [TrG.depth] at hd
  | .two _ _ _ _, 0, _, _, _, _, hd, _, _ => by simp [TrG.depth] at hd
  | .three _ _ _ _ _ _, 0, _, _, _, _, hd, _, _ => by simp [TrG.depth] at hd
  | .one i t, f + 1, listed, E, H, hdn, hd, hb, h => by
    simp only [TrG.depth] at hd
    simp only [trGOk, Bool.and_eq_true] at hb
    obtain ⟨⟨hb1, hb2⟩, hb3⟩ := hb
    simp only [evTrG] at h
    obtain ⟨o, ho, h⟩ := Som_iff h
    have ho' : ops[i]? = some o := by rw [← ho]; simp
    cases hc : cls i with
    | none => simp [freeG, ho', hc] at hb2
    | some ci =>
      rw [hc] at h
      obtain ⟨v, H', h1, h2⟩ := stepC_out h
      have hri : i ∈ Region.ready .any ops listed := by simpa using hb1
      exact anyG_first ho' hc f listed E H v H' hdn (fun j oj hj hne hun hno => freeG_spec ho' hc hb2 j oj hj hne hun hno) hri h1 (anyG_tree t f _ _ _ (Dn_set hdn hri) (by omega) hb3 h2)
  | .only i t, f + 1, listed, E, H, hdn, hd, hb, h => by
    simp only [TrG.depth] at hd
    simp only [trGOk, Bool.and_eq_true, beq_iff_eq] at hb
    simp only [evTrG] at h
    obtain ⟨oi, hoi, hs⟩ := Som_iff h
    refine ⟨fun he => (by rw [hb.1] at he; cases he), fun k hk o ho => ?_⟩
    have ho2 : ops.toList[k]? = some o := by rw [← ho]; simp
    have hdn' := Dn_set hdn hk
    rw [hb.1] at hk
    obtain rfl : k = i := by simpa using hk
    rw [hoi] at ho2; cases ho2
    exact stepG_mono hs fun v H' hv => anyG_tree t f _ _ _ hdn' (by omega) hb.2 hv
  | .two i s j t, f + 1, listed, E, H, hdn, hd, hb, h => by
    simp only [TrG.depth] at hd
    simp only [trGOk, Bool.and_eq_true, beq_iff_eq] at hb
    obtain ⟨⟨hb1, hb2⟩, hb3⟩ := hb
    simp only [evTrG] at h
    obtain ⟨hs, ht⟩ := h
    obtain ⟨oi, hoi, hs⟩ := Som_iff hs
    obtain ⟨oj, hoj, ht⟩ := Som_iff ht
    refine ⟨fun he => (by rw [hb1] at he; cases he), fun k hk o ho => ?_⟩
    have ho2 : ops.toList[k]? = some o := by rw [← ho]; simp
    have hdn' := Dn_set hdn hk
    rw [hb1] at hk
    rcases List.mem_cons.1 hk with rfl | hk
    · rw [hoi] at ho2; cases ho2
      exact stepG_mono hs fun v H' hv => anyG_tree s f _ _ _ hdn' (by omega) hb2 hv
    · rcases List.mem_cons.1 hk with rfl | hk
      · rw [hoj] at ho2; cases ho2
        exact stepG_mono ht fun v H' hv => anyG_tree t f _ _ _ hdn' (by omega) hb3 hv
      · cases hk
  | .three i s j t k u, f + 1, listed, E, H, hdn, hd, hb, h => by
    simp only [TrG.depth] at hd
    simp only [trGOk, Bool.and_eq_true, beq_iff_eq] at hb
    obtain ⟨⟨⟨hb1, hb2⟩, hb3⟩, hb4⟩ := hb
    simp only [evTrG] at h
    obtain ⟨hs, ht, hu⟩ := h
    obtain ⟨oi, hoi, hs⟩ := Som_iff hs
    obtain ⟨oj, hoj, ht⟩ := Som_iff ht
    obtain ⟨ok, hok, hu⟩ := Som_iff hu
    refine ⟨fun he => (by rw [hb1] at he; cases he), fun q hk o ho => ?_⟩
    have ho2 : ops.toList[q]? = some o := by rw [← ho]; simp
    have hdn' := Dn_set hdn hk
    rw [hb1] at hk
    rcases List.mem_cons.1 hk with rfl | hk
    · rw [hoi] at ho2; cases ho2
      exact stepG_mono hs fun v H' hv => anyG_tree s f _ _ _ hdn' (by omega) hb2 hv
    · rcases List.mem_cons.1 hk with rfl | hk
      · rw [hoj] at ho2; cases ho2
        exact stepG_mono ht fun v H' hv => anyG_tree t f _ _ _ hdn' (by omega) hb3 hv
      · rcases List.mem_cons.1 hk with rfl | hk
        · rw [hok] at ho2; cases ho2
          exact stepG_mono hu fun v H' hv => anyG_tree u f _ _ _ hdn' (by omega) hb4 hv
        · cases hk

theorem anyG_sound (hT : TOK P T) (hok : opsOk N ops.toList = true) {l : Option Nat} {g0 : G} {H0 : Heap} {w0 : World} {a0 : Act} {K : Env → Heap → Prop} {Q : Exit → Act → World → Prop}
    (hQ : ∀ E' H' a' w' g', K E' H' → HR g' H' w' → ER g' H' w' E' a'.tmps → a'.tmps.size = N → a'.defers = a0.defers → Kp g0 w0 g' w' → Ag g0 H0 w0 g' H' w' → Q .normal a' w') :
    ∀ (fuel : Nat) (listed : Array Bool) (E : Env) (H : Heap) (a : Act) (w : World) (g : G), AnyG P T hint cls ops K fuel listed E H → HR g H w → ER g H w E a.tmps → a.tmps.size = N → a.defers = a0.defers → Kp g0 w0 g w → Ag g0 H0 w0 g H w →
      wpAnyIn (FR l) 0 P .any ops Q fuel listed a w := by
  have fin : ∀ (E : Env) (H : Heap) (a : Act) (w : World) (g : G), Kq K E H → HR g H w → ER g H w E a.tmps → a.tmps.size = N → a.defers = a0.defers → Kp g0 w0 g w → Ag g0 H0 w0 g H w → Q .normal a w := by
    rintro E H a w g ⟨E0, h1, h2⟩ hr he hs hd hk ha
    exact hQ E0 H a w g h2 hr (fun t => by rw [← h1 t]; exact he t) hs hd hk ha
  intro fuel
  induction fuel with
  | zero =>
    intro listed E H a w g h hr he hs hd hk ha
    exact ⟨h.1, fin E H a w g h.2 hr he hs hd hk ha⟩
  | succ fuel ih =>
    intro listed E H a w g h hr he hs hd hk ha
    refine ⟨fun hem => fin E H a w g (h.1 hem) hr he hs hd hk ha, fun i hi => ?_⟩
    obtain ⟨_, o, ho, _⟩ := mem_ready.1 hi
    have hst := h.2 i hi o ho
    have hst' : stepV T hint (ACallV P) ops.toList o E H fun v H' => AnyG P T hint cls ops K fuel (listed.setIfInBounds i true) (put E o.dst v) H' := by
      cases hc : cls i with
      | none => rw [hc] at hst; exact hst
      | some c => rw [hc] at hst; exact stepC_V hst
    refine step_sound hT hok ho hr he hs hst' ?_
    intro v H' cv w' g' hK hv hr' hk' ha' he'
    exact ih _ _ _ _ _ _ hK hr' he' (by rw [put_size]; exact hs) (by rw [put_defers]; exact hd) (hk.trans hk') (ha.trans ha')

/-- A region that draws its order, by a walk. -/
theorem ADrw.treeG (hint : Nat → Bool) (hT : TOK P T) (hm : P.follows .mixedOrders = true) (cls : Nat → Option Cl) (tr : TrG) {l : List Oper} {E : Env} {H : Heap} {K : Env → Heap → Prop} (hn : n0 ≤ H.length) (hr : ∀ id, r = some id → id < n0)
    (hok : opsOk N l = true) (hd : decide (tr.depth ≤ l.length) = true) (hs : trGOk cls l.toArray tr (Array.replicate l.length false) = true) (h : evTrG P T hint cls l K tr E H) : ADrw P N n0 r l.toArray E H K := by
  intro i
  refine ⟨hn, hr, fun g w a l' m0 hrel => wpIn_region_any hm ?_⟩
  have hl := anyG_tree (P := P) (T := T) (hint := hint) (ops := l.toArray) (cls := cls) (KE := K) tr l.length (Array.replicate l.length false) E H Dn_none (by simpa using hd) hs (by simpa using h)
  obtain ⟨hr1, hk1, ha1⟩ := same_heap (g := g) (H := H) (w := w) (w' := { w with drawn := w.drawn + 1 }) rfl rfl rfl rfl hrel.hr
  refine anyG_sound hT (by simpa using hok) (l := l') (g0 := g) (H0 := H) (w0 := w) (a0 := a) (K := K) (fun E' H' a' w' g' hK hr' he hs hd hk ha => ?_) l.length _ E H a { w with drawn := w.drawn + 1 } g hl hr1 (fun t => VR_mono (hrel.hr.zk hk1) ha1 _ _ (hrel.er t)) hrel.sz rfl hk1 ha1
  exact ⟨.normal, E', H', g', rfl, hK, hrel.of_agn hr hr' he hs hd hk (AgN.of_ag hn ha), hk, AgN.of_ag hn ha⟩

variable {E : Env} {H : Heap} {K : V → Heap → Prop}

@[go_sem] theorem evTrG_done (all : List Oper) : evTrG P T hint cls all KE .done E H = KE E H := (Eq.refl _).trans rfl
@[go_sem] theorem evTrG_one (all : List Oper) (i : Nat) (t : TrG) : evTrG P T hint cls all KE (.one i t) E H = Som all[i]? (fun o => stepG P T hint all (cls i) o E H fun v H' => evTrG P T hint cls all KE t (put E o.dst v) H') := (Eq.refl _).trans rfl
@[go_sem] theorem evTrG_only (all : List Oper) (i : Nat) (t : TrG) : evTrG P T hint cls all KE (.only i t) E H = Som all[i]? (fun o => stepG P T hint all (cls i) o E H fun v H' => evTrG P T hint cls all KE t (put E o.dst v) H') := (Eq.refl _).trans rfl
@[go_sem] theorem evTrG_two (all : List Oper) (i j : Nat) (s t : TrG) : evTrG P T hint cls all KE (.two i s j t) E H = (evTrG P T hint cls all KE (.one i s) E H ∧ evTrG P T hint cls all KE (.one j t) E H) := (Eq.refl _).trans rfl
@[go_sem] theorem evTrG_three (all : List Oper) (i j k : Nat) (s t u : TrG) : evTrG P T hint cls all KE (.three i s j t k u) E H = (evTrG P T hint cls all KE (.one i s) E H ∧ evTrG P T hint cls all KE (.one j t) E H ∧ evTrG P T hint cls all KE (.one k u) E H) := (Eq.refl _).trans rfl
@[go_sem] theorem TrG_ones_nil (t : TrG) : TrG.ones [] t = t := (Eq.refl _).trans rfl
@[go_sem] theorem TrG_ones_cons (i : Nat) (l : List Nat) (t : TrG) : TrG.ones (i :: l) t = .one i (TrG.ones l t) := (Eq.refl _).trans rfl
@[go_sem] theorem stepG_some (all : List Oper) (c : Cl) (o : Oper) : stepG P T hint all (some c) o E H K = stepC P T hint all c o E H K := (Eq.refl _).trans rfl
@[go_sem] theorem stepG_none (all : List Oper) (o : Oper) : stepG P T hint all none o E H K = stepV T hint (ACallV P) all o E H K := (Eq.refl _).trans rfl
@[congr] theorem evTrG_congr {all : List Oper} {t t' : TrG} {E' : Env} {H' : Heap} (ht : t = t') (hE : E = E') (hH : H = H') {one : Prop} (ho : (True ∧ True) = one) : evTrG P T hint cls all KE t E H = evTrG P T hint cls all KE t' E' H' := by
  rw [ht, hE, hH]
@[congr] theorem stepG_congr {all : List Oper} {c c' : Option Cl} {o : Oper} {E' : Env} {H' : Heap} (hc : c = c') (hE : E = E') (hH : H = H') {one : Prop} (ho : (True ∧ True) = one) : stepG P T hint all c o E H K = stepG P T hint all c' o E' H' K := by
  rw [hc, hE, hH]

end
end Go.Aw
end

section
namespace Go.Aw
open Go

/-- What of a body is left after so many parts. -/
def restC : Nat → Code → Code
  | 0, c => c
  | n + 1, .seq _ d => restC n d
  | _, c => c

def bodyOf (fn : Func) : Code :=
  match fn.body with
  | some c => c
  | none => .skip

section
variable {P : Program} {T : Nat → Ty} {N n0 : Nat} {r : Option Nat}

theorem PC.of_body (hT : TOK P T) {f : FuncId} {fn : Func} {c : Code} {N : Nat} {rs : List ResultVar} {vs : List V} {v : V} (hf : P.funcs[f]? = some fn) (hb : fn.body = some c) (hN : fn.ntmps = N) (hrs : fn.results.toList = rs)
    (hnm : (fn.name == "runtime.NumGoroutine") = false) (hlen : decide (vs.length ≤ N) = true) (h : AWP P N 0 none c (envOf 0 vs) [] (FnPost T rs 0 fun r H' => H' = [] ∧ r = v)) : PC P f vs v := by
  subst hN; subst hrs
  exact ACalls.of_body hT hf hb hnm (by simpa using hlen) h

/-- One part; then, with what is still of use, the rest. -/
theorem AWP.step (E1 : Env) (H1 : Heap) (hint : Nat → Bool) (hT : TOK P T) {c d : Code} {E : Env} {H : Heap} {Q : Ex → Env → Heap → Prop} (hr : ∀ id, r = some id → id < n0) (hn : n0 ≤ H.length) (hok : cOk N c = true)
    (h1 : ev T hint (ACallV P) (ALoop P N n0 r) (ARng P N n0 r) (ADrw P N n0 r) c E H (thenEx (fun E' H' => ForgetTo n0 E' H' E1 H1) Q)) (h2 : AWP P N n0 r d E1 H1 Q) : AWP P N n0 r (.seq c d) E H Q :=
  .seq (.run hint hT hr hn hok h1) fun _ _ hl hf => .of_cut hl (hf.cut h2)

end
end Go.Aw
end

section
namespace Go.Aw
open Go Go.RowKit Go.WideShapes

section
variable {P : Program} {W : World} {base : Nat} {H : Type} {enc : TypeId × Value → H}

theorem arg_read {f : Nat} {t : TypeId} {v : Value} {d : DataW H} {p : List MemPlace} (hok : okT P f t = true) (hv : Value.okWide P W .any base t v) (h : DataW.Trod enc P W 0 (fun _ => true) true t v d p) : ∃ x, HasT P f t x ∧ DR W (Zw W) x v := by
  obtain ⟨fuel, h⟩ := h
  obtain ⟨x, h1, h2, h3⟩ := read_sound f t hok fuel _ d p h
  refine ⟨x, h1, ?_⟩
  cases f with
  | zero => exact h1.elim
  | succ f =>
    simp only [HasT] at h1
    cases hu : P.underlying t with
    | none => rw [hu] at h1; exact h1.elim
    | some ty =>
      rw [hu] at h1
      unfold Value.okWide at hv
      rw [hu] at hv
      cases ty with
      | bool =>
        obtain ⟨b, rfl⟩ := h1
        simp only [DR, DC] at h2 ⊢
        cases v <;> simp_all [Value.cells, Cell.okWide, Cell.ok]
      | int k =>
        obtain ⟨n, rfl, _⟩ := h1
        simp only [DR, DC] at h2 ⊢
        cases v <;> simp_all [Value.cells, Cell.okWide, Cell.ok]
      | string =>
        obtain ⟨s, rfl, _⟩ := h1
        simp only [DR, DC] at h2 ⊢
        cases v <;> simp_all [Value.cells, Cell.okWide, Cell.ok]
      | slice e =>
        obtain ⟨l, rfl, _⟩ := h1
        obtain ⟨a, len, cap, rfl⟩ : ∃ a len cap, v = .slice a len cap := by
          cases v <;> simp_all [Cell.okWide, Cell.ok]
        simpa only [DR, Value.cells] using h2
      | struct fs =>
        obtain ⟨l, rfl, _⟩ := h1
        obtain ⟨cs, rfl, _⟩ := hv
        exact ⟨cs, rfl, by simpa only [DC, Value.cells] using h2⟩
      | array n e =>
        obtain ⟨l, rfl, _⟩ := h1
        obtain ⟨cs, rfl, _⟩ := hv
        exact ⟨cs, rfl, by simpa only [DC, Value.cells] using h2⟩
      | _ => exact h1.elim

end
end Go.Aw
end

section
namespace Go.Aw
open Go

/-- The part of a code at a path: 0 and 1 are the first and the second part. -/
def cdC : List Nat → Code → Code
  | [], c => c
  | 0 :: p, .seq a _ => cdC p a
  | _ :: p, .seq _ b => cdC p b
  | 0 :: p, .cond _ a _ => cdC p a
  | _ :: p, .cond _ _ b => cdC p b
  | _ :: p, .block _ c => cdC p c
  | _ :: p, .loop c => cdC p c
  | 0 :: p, .rangeFunc _ _ a _ => cdC p a
  | _ :: p, .rangeFunc _ _ _ b => cdC p b
  | _, c => c

section
variable {P : Program} {T : Nat → Ty} {N n0 : Nat} {r : Option Nat}

/-- As AWP.run; the code is one that can be looked into. -/
theorem AWP.runS (hint : Nat → Bool) (hT : TOK P T) {c d : Code} {E : Env} {H : Heap} {Q : Ex → Env → Heap → Prop} (hr : ∀ id, r = some id → id < n0) (hn : n0 ≤ H.length) (hok : cOk N (.seq c d) = true)
    (h : ev T hint (ACallV P) (ALoop P N n0 r) (ARng P N n0 r) (ADrw P N n0 r) (.seq c d) E H Q) : AWP P N n0 r (.seq c d) E H Q := .run hint hT hr hn hok h

/-- The first parts of a body, one after another; then K. -/
def evPre (T : Nat → Ty) (hint : Nat → Bool) (call : CallH) (loop rng : LoopH) (drw : DrawH) (K : Env → Heap → Prop) (Q : Ex → Env → Heap → Prop) : Nat → Code → Env → Heap → Prop
  | 0, _, E, H => K E H
  | n + 1, .seq a b, E, H => ev T hint call loop rng drw a E H (thenEx (fun E' H' => evPre T hint call loop rng drw K Q n b E' H') Q)
  | _ + 1, _, _, _ => False

section
variable {hint : Nat → Bool} {call : CallH} {loop rng : LoopH} {drw : DrawH} {K : Env → Heap → Prop} {Q : Ex → Env → Heap → Prop} {E : Env} {H : Heap}
@[go_sem] theorem evPre_zero (c : Code) : evPre T hint call loop rng drw K Q 0 c E H = K E H := by cases c <;> rfl
@[go_sem] theorem evPre_succ (n : Nat) (a b : Code) : evPre T hint call loop rng drw K Q (n + 1) (.seq a b) E H = ev T hint call loop rng drw a E H (thenEx (fun E' H' => evPre T hint call loop rng drw K Q n b E' H') Q) := (Eq.refl _).trans rfl
@[congr] theorem evPre_congr {n n' : Nat} {c : Code} {E' : Env} {H' : Heap} (hn : n = n') (hE : E = E') (hH : H = H') {one : Prop} (ho : (True ∧ True) = one) : evPre T hint call loop rng drw K Q n c E H = evPre T hint call loop rng drw K Q n' c E' H' := by
  rw [hn, hE, hH]
end

theorem AWP.pre (hint : Nat → Bool) (hT : TOK P T) {Q : Ex → Env → Heap → Prop} {K : Env → Heap → Prop} (hr : ∀ id, r = some id → id < n0) : ∀ (n : Nat) (c : Code) (E : Env) (H : Heap), n0 ≤ H.length → cOk N c = true →
    evPre T hint (ACallV P) (ALoop P N n0 r) (ARng P N n0 r) (ADrw P N n0 r) K Q n c E H → (∀ E' H', n0 ≤ H'.length → K E' H' → AWP P N n0 r (restC n c) E' H' Q) → AWP P N n0 r c E H Q
  | 0, c, E, H, hn, _, h, hk => by
    rw [evPre_zero] at h
    exact hk E H hn h
  | n + 1, c, E, H, hn, hok, h, hk => by
    cases c with
    | seq a b =>
      rw [evPre_succ] at h
      have hab : cOk N a = true ∧ cOk N b = true := by simpa [cOk] using hok
      exact .seq (.run hint hT hr hn hab.1 h) fun E' H' hl hf => AWP.pre hint hT hr n b E' H' hl hab.2 hf hk
    | _ => exact h.elim

/-- Some parts; then, with what is still of use, the rest. -/
theorem AWP.stepN (n : Nat) (E1 : Env) (H1 : Heap) (hint : Nat → Bool) (hT : TOK P T) {c d : Code} {E : Env} {H : Heap} {Q : Ex → Env → Heap → Prop} (hr : ∀ id, r = some id → id < n0) (hn : n0 ≤ H.length) (hok : cOk N (.seq c d) = true)
    (h1 : evPre T hint (ACallV P) (ALoop P N n0 r) (ARng P N n0 r) (ADrw P N n0 r) (fun E' H' => ForgetTo n0 E' H' E1 H1) Q n (.seq c d) E H) (h2 : AWP P N n0 r (restC n (.seq c d)) E1 H1 Q) : AWP P N n0 r (.seq c d) E H Q :=
  .pre hint hT hr n _ E H hn hok h1 fun _ _ hl hf => .of_cut hl (hf.cut h2)

end
end Go.Aw
end

section
namespace Go.Aw
open Go

section
variable {P : Program} {N n0 : Nat} {r : Option Nat}

theorem VRs_set {g : G} {H : Heap} {w : World} : ∀ (cs : List V) (vs : List Value) (off : Nat) (v : V), VRs g H w cs vs → (∀ c, vs[off]? = some c → VR g H w v c) → VRs g H w (cs.set off v) vs
  | [], vs, off, v, h, _ => by simpa using h
  | x :: r, vs, off, v, h, hv => by
    simp only [VRs] at h
    obtain ⟨c, r', rfl, h1, h2⟩ := h
    cases off with
    | zero => exact ⟨c, r', rfl, hv c rfl, h2⟩
    | succ off => exact ⟨c, r', rfl, h1, VRs_set r r' off v h2 fun c hc => hv c (by simpa using hc)⟩

theorem VRs_at {g : G} {H : Heap} {w : World} : ∀ (cs : List V) (vs : List Value) (off : Nat) (v : V) (c : Value), VRs g H w cs vs → cs[off]? = some v → vs[off]? = some c → VR g H w v c
  | [], vs, off, v, c, h, h1, _ => by simp at h1
  | x :: r, vs, off, v, c, h, h1, h2 => by
    simp only [VRs] at h
    obtain ⟨c', r', rfl, h3, h4⟩ := h
    cases off with
    | zero => simp at h1 h2; subst h1; subst h2; exact h3
    | succ off => exact VRs_at r r' off v c h4 (by simpa using h1) (by simpa using h2)

theorem AWP.nilrow (id off es : Nat) {c : Code} {E : Env} {H : Heap} {Q : Ex → Env → Heap → Prop} {cs : List V} {nl : Bool} (hid : H[id]? = some (.cells cs)) (hoff : cs[off]? = some (.slx (some nl) [])) (hn : n0 ≤ H.length)
    (h : AWP P N n0 r c E (H.set id (.cells (cs.set off (.ref H.length 0 0 0))) ++ [.arr es nl []]) Q) : AWP P N n0 r c E H Q := by
  refine ⟨hn, h.2.1, fun g w a l m0 hrel => ?_⟩
  have hr := hrel.hr
  obtain ⟨h1, h2, h3⟩ := alloc_nil hr es nl
  have hlt := lt_of_getElem? hid
  have hset : (H.set id (.cells (cs.set off (.ref H.length 0 0 0))) ++ [.arr es nl []])[id]? = some (.cells (cs.set off (.ref H.length 0 0 0))) := by
    rw [List.getElem?_append_left (by simpa using hlt), List.getElem?_set_self hlt]
  have hne : ∀ j, j ≠ id → (H.set id (.cells (cs.set off (.ref H.length 0 0 0))) ++ [.arr es nl []])[j]? = (H ++ [.arr es nl []])[j]? := fun j hj => by
    by_cases hjl : j < H.length
    · rw [List.getElem?_append_left (by simpa using hjl), List.getElem?_append_left hjl, List.getElem?_set_ne (fun e => hj e.symm)]
    · rw [List.getElem?_append_right (by simpa using hjl), List.getElem?_append_right (by omega)]; simp
  have ha : Ag ⟨g.Z, g.φ ++ [none]⟩ (H ++ [.arr es nl []]) w ⟨g.Z, g.φ ++ [none]⟩ (H.set id (.cells (cs.set off (.ref H.length 0 0 0))) ++ [.arr es nl []]) w := by
    intro j x hx
    by_cases hj : j = id
    · subst hj
      rw [List.getElem?_append_left hlt, hid] at hx
      cases hx
      exact ⟨⟨_, hset, by simp⟩, rfl⟩
    · rw [← hne j hj] at hx
      cases x with
      | cells cs => exact ⟨⟨cs, hx, rfl⟩, rfl⟩
      | arr sz nl els => exact ⟨nl, els, hx, Nat.le_refl _, fun _ => ⟨rfl, rfl, fun b vs t hb hv => ⟨vs, hv, rfl⟩⟩⟩
      | loop st pend E ps a b => exact ⟨⟨st, pend, hx⟩, rfl⟩
      | obj o => exact ⟨⟨o, hx, rfl⟩, rfl⟩
  have hz : Zk g.Z g.Z w w := fun b o z => ⟨z, rfl⟩
  have hz2 : Zk (⟨g.Z, g.φ ++ [none]⟩ : G).Z (⟨g.Z, g.φ ++ [none]⟩ : G).Z w w := hz
  have hr2 : HR ⟨g.Z, g.φ ++ [none]⟩ (H.set id (.cells (cs.set off (.ref H.length 0 0 0))) ++ [.arr es nl []]) w := by
    refine ⟨by simp [hr.len], h1.zlt, fun j b x hp hx => ?_, h1.inj⟩
    by_cases hj : j = id
    · subst hj
      rw [hset] at hx; cases hx
      obtain ⟨k1, k2, vs, t, k3, k4, k5⟩ := h1.blk j b (.cells cs) hp (by rw [List.getElem?_append_left hlt]; exact hid)
      refine ⟨k1, k2, vs, t, k3, VRs_set _ _ _ _ (VRs_mono hz2 ha _ _ k4) (fun c hc => ?_), fun c hc => ?_⟩
      · have hv := VRs_at _ _ _ _ c k4 hoff hc
        simp only [VR] at hv ⊢
        obtain ⟨a', rfl, e1, e2, _⟩ := hv
        refine ⟨⟨_, _, _, rfl⟩, es, nl, [], by simp, Nat.le_refl _, fun _ => ⟨Nat.le_refl _, .inl ⟨⟨by rw [← hr.len]; simp, rfl, trivial⟩, by simp, a', rfl, e1 nl rfl⟩⟩⟩
      · rcases List.mem_or_eq_of_mem_set hc with hc | rfl
        · exact k5 c hc
        · rfl
    · rw [hne j hj] at hx
      obtain ⟨k1, k2, k3⟩ := h1.blk j b x hp hx
      exact ⟨k1, k2, BR_mono hz2 ha rfl k3⟩
  have hag := h3.trans ha
  have hrel2 : Rel N r l m0 ⟨g.Z, g.φ ++ [none]⟩ E (H.set id (.cells (cs.set off (.ref H.length 0 0 0))) ++ [.arr es nl []]) a w :=
    hrel.of_agn h.2.1 hr2 (fun t => VR_mono (g' := ⟨g.Z, g.φ ++ [none]⟩) hz hag _ _ (hrel.er t)) hrel.sz rfl h2 (AgN.of_ag hn hag)
  refine wpIn_mono (h.2.2 _ w a l m0 hrel2) ?_
  rintro e a' w' ⟨x, E', H', g', e1, e2, e3, e4, e5⟩
  exact ⟨x, E', H', g', e1, e2, e3, h2.trans e4, (AgN.of_ag hn hag).trans e5⟩

/-! ### Small numbers -/

@[go_sem] theorem idx_at0 {α : Type} (l : List α) : idx? l (0 : Int) = l[0]? := idx_nat l 0
@[go_sem] theorem idx_at1 {α : Type} (l : List α) : idx? l (1 : Int) = l[1]? := idx_nat l 1
@[go_sem] theorem idx_at2 {α : Type} (l : List α) : idx? l (2 : Int) = l[2]? := idx_nat l 2
@[go_sem] theorem idx_at3 {α : Type} (l : List α) : idx? l (3 : Int) = l[3]? := idx_nat l 3
@[go_sem] theorem idx_at4 {α : Type} (l : List α) : idx? l (4 : Int) = l[4]? := idx_nat l 4
@[go_sem] theorem idx_at5 {α : Type} (l : List α) : idx? l (5 : Int) = l[5]? := idx_nat l 5
@[go_sem] theorem wrap_i0 : IntKind.i64.wrap 0 = 0 := by decide
@[go_sem] theorem wrap_i1 : IntKind.i64.wrap 1 = 1 := by decide
@[go_sem] theorem wrap_i2 : IntKind.i64.wrap 2 = 2 := by decide
@[go_sem] theorem wrap_i3 : IntKind.i64.wrap 3 = 3 := by decide
@[go_sem] theorem wrap_i4 : IntKind.i64.wrap 4 = 4 := by decide
@[go_sem] theorem wrap_i5 : IntKind.i64.wrap 5 = 5 := by decide
@[go_sem] theorem wrap_i6 : IntKind.i64.wrap 6 = 6 := by decide
@[go_sem] theorem wrap_i7 : IntKind.i64.wrap 7 = 7 := by decide
@[go_sem] theorem wrap_i8 : IntKind.i64.wrap 8 = 8 := by decide
@[go_sem] theorem wrap_i9 : IntKind.i64.wrap 9 = 9 := by decide
attribute [go_sem] List.getD_cons_zero List.getD_cons_succ

end
end Go.Aw
end

section
namespace Go.Aw
open Go

mutual
/-- A value, its blocks counted from another place on. -/
def shV (k : Nat) : V → V
  | .ptr id off => .ptr (k + id) off
  | .ref id n lo len => .ref (k + id) n lo len
  | .ep id n i off => .ep (k + id) n i off
  | .csl id es len => .csl (k + id) es len
  | .obj id => .obj (k + id)
  | .fn f x y => .fn f (shVs k x) (shVs k y)
  | .agg l => .agg (shVs k l)
  | .tup l => .tup (shVs k l)
  | v => v
def shVs (k : Nat) : List V → List V
  | [] => []
  | v :: r => shV k v :: shVs k r
end

def shB (k : Nat) : Blk → Blk
  | .cells cs => .cells (shVs k cs)
  | .obj (.iter mid n seen) => .obj (.iter (k + mid) n seen)
  | x => x

def noLoop : Blk → Bool
  | .loop _ _ _ _ _ _ => false
  | _ => true

theorem shVs_len (k : Nat) : ∀ l : List V, (shVs k l).length = l.length
  | [] => rfl
  | v :: r => by simp [shVs, shVs_len k r]

theorem shV_one (k : Nat) (v : V) : (shV k v).one = v.one := by
  cases v <;> simp [shV, V.one]

theorem shVs_mem {k : Nat} {l : List V} {c : V} (h : c ∈ shVs k l) : ∃ x ∈ l, c = shV k x := by
  induction l with
  | nil => simp [shVs] at h
  | cons v r ih =>
    simp only [shVs, List.mem_cons] at h
    rcases h with rfl | h
    · exact ⟨v, by simp, rfl⟩
    · obtain ⟨x, hx, e⟩ := ih h
      exact ⟨x, by simp [hx], e⟩

section
variable {P : Program} {g g' : G} {H B : Heap} {w : World}

theorem sh_get (hk : g.φ.length = H.length) (id : Nat) : (H ++ B.map (shB H.length))[H.length + id]? = (B[id]?).map (shB H.length) ∧ (g.φ ++ g'.φ)[H.length + id]? = g'.φ[id]? := by
  refine ⟨?_, ?_⟩
  · rw [List.getElem?_append_right (by omega), Nat.add_sub_cancel_left, List.getElem?_map]
  · rw [List.getElem?_append_right (by omega), hk, Nat.add_sub_cancel_left]

mutual
theorem VR_sh (hk : g.φ.length = H.length) (hB : B.all noLoop = true) : ∀ (x : V) (v : Value), VR g' B w x v → VR ⟨g'.Z, g.φ ++ g'.φ⟩ (H ++ B.map (shB H.length)) w (shV H.length x) v
  | .und, _, _ => by simp [shV, VR]
  | .d x, v, h => by simpa only [shV, VR] using h
  | .slx nl l, v, h => by simpa only [shV, VR] using h
  | .pp cs, v, h => by simpa only [shV, VR] using h
  | .ptr id off, v, h => by
    simp only [shV, VR] at h ⊢
    obtain ⟨b, cs, h1, h2, h3⟩ := h
    obtain ⟨e1, e2⟩ := sh_get (g := g) (g' := g') (B := B) hk id
    exact ⟨b, shVs H.length cs, by rw [e1, h1]; rfl, by rw [e2, h2], h3⟩
  | .ref id n lo len, v, h => by
    simp only [shV, VR] at h ⊢
    obtain ⟨h0, sz, nl, els, h1, h2, h3⟩ := h
    obtain ⟨e1, e2⟩ := sh_get (g := g) (g' := g') (B := B) hk id
    exact ⟨h0, sz, nl, els, by rw [e1, h1]; rfl, h2, fun hn => by rw [e2]; exact h3 hn⟩
  | .ep id n i off, v, h => by
    simp only [shV, VR] at h ⊢
    obtain ⟨h0, sz, nl, els, h1, h2, h3⟩ := h
    obtain ⟨e1, e2⟩ := sh_get (g := g) (g' := g') (B := B) hk id
    exact ⟨h0, sz, nl, els, by rw [e1, h1]; rfl, h2, fun hn => by rw [e2]; exact h3 hn⟩
  | .csl id es len, v, h => by
    simp only [shV, VR] at h ⊢
    obtain ⟨b, cs, cap, h1, h2, h3, h4⟩ := h
    obtain ⟨e1, e2⟩ := sh_get (g := g) (g' := g') (B := B) hk id
    exact ⟨b, shVs H.length cs, cap, by rw [e1, h1]; rfl, by rw [e2, h2], by rw [shVs_len]; exact h3, h4⟩
  | .obj id, v, h => by
    simp only [shV, VR] at h ⊢
    obtain ⟨b, o, h1, h2, h3⟩ := h
    obtain ⟨e1, e2⟩ := sh_get (g := g) (g' := g') (B := B) hk id
    cases o with
    | map es => exact ⟨b, .map es, by rw [e1, h1]; rfl, by rw [e2, h2], h3⟩
    | iter mid m seen => exact ⟨b, .iter (H.length + mid) m seen, by rw [e1, h1]; rfl, by rw [e2, h2], h3⟩
  | .fn f x y, v, h => by
    cases f with
    | yield j =>
      simp only [VR] at h
      obtain ⟨_, _, b, st, pend, E, ps, p, q, h1, _⟩ := h
      have := List.all_eq_true.1 hB _ (List.mem_of_getElem? h1)
      simp [noLoop] at this
    | _ =>
      simp only [shV, VR] at h ⊢
      obtain ⟨x', y', h1, h2, h3⟩ := h
      exact ⟨x', y', h1, VRs_sh hk hB x _ h2, VRs_sh hk hB y _ h3⟩
  | .agg l, v, h => by
    simp only [shV, VR] at h ⊢
    obtain ⟨cs, h1, h2⟩ := h
    exact ⟨cs, h1, VRs_sh hk hB l _ h2⟩
  | .tup l, v, h => by
    simp only [shV, VR] at h ⊢
    obtain ⟨cs, h1, h2⟩ := h
    exact ⟨cs, h1, VRs_sh hk hB l _ h2⟩
theorem VRs_sh (hk : g.φ.length = H.length) (hB : B.all noLoop = true) : ∀ (l : List V) (cs : List Value), VRs g' B w l cs → VRs ⟨g'.Z, g.φ ++ g'.φ⟩ (H ++ B.map (shB H.length)) w (shVs H.length l) cs
  | [], cs, h => by simpa only [shVs, VRs] using h
  | d :: ds, cs, h => by
    simp only [shVs, VRs] at h ⊢
    obtain ⟨c, r, h1, h2, h3⟩ := h
    exact ⟨c, r, h1, VR_sh hk hB d _ h2, VRs_sh hk hB ds r h3⟩
end

theorem BR_sh (hk : g.φ.length = H.length) (hB : B.all noLoop = true) {b : Nat} {x : Blk} (hx : noLoop x = true) (h : BR g' B w b x) : BR ⟨g'.Z, g.φ ++ g'.φ⟩ (H ++ B.map (shB H.length)) w b (shB H.length x) := by
  cases x with
  | cells cs =>
    simp only [shB, BR] at h ⊢
    obtain ⟨vs, t, h1, h2, h3⟩ := h
    refine ⟨vs, t, h1, VRs_sh hk hB _ _ h2, fun c hc => ?_⟩
    obtain ⟨y, hy, rfl⟩ := shVs_mem hc
    rw [shV_one]; exact h3 y hy
  | arr sz nl els => exact h
  | loop => simp [noLoop] at hx
  | obj o =>
    cases o with
    | map es => exact h
    | iter mid m seen =>
      obtain ⟨mb, es, sA, k1, k2, k3, k4⟩ := h
      obtain ⟨e1, e2⟩ := sh_get (g := g) (g' := g') (B := B) hk mid
      exact ⟨mb, es, sA, by rw [e1, k1]; rfl, by rw [e2, k2], k3, k4⟩

/-- What a call of data alone lays anew lies behind the other blocks. -/
theorem ACalls.sh {f : FuncId} {vs : List V} {r : V} (hB : B.all noLoop = true) (hvs : VBs 0 vs = true) (h : ACalls P f vs [] (fun v H' => H' = B ∧ v = r)) : ACalls P f vs H (fun v H' => H' = H ++ B.map (shB H.length) ∧ v = shV H.length r) := by
  refine ⟨h.1, fun g w cvs hr hv => CallsIn.mono (h.2 ⟨g.Z, []⟩ w cvs (HR_none hr) (VBs_cut (g := g) (g' := ⟨g.Z, []⟩) (H := H) (H' := []) (n := 0) (fun _ _ z => z) (fun id hid => by omega) _ _ hvs hv)) ?_⟩
  rintro e w' ⟨v, g', r', H', rfl, ⟨rfl, rfl⟩, k3, k4, k5, k6⟩
  have hk : g.φ.length = H.length := hr.len
  have hsame : ∀ b, b < w.heap.size → w'.heap[b]? = w.heap[b]? := fun b hb => k5.fr b hb (fun id => by simp)
  have hz : Zk g.Z g'.Z w w' := (HR_none hr).zk k5
  have hnew : ∀ id b : Nat, g'.φ[id]? = some (some b) → w.heap.size ≤ b := fun id b hp => by
    rcases k5.pn id b hp with h | h
    · simp at h
    · exact h
  have split : ∀ id b : Nat, (g.φ ++ g'.φ)[id]? = some (some b) → (id < H.length ∧ g.φ[id]? = some (some b)) ∨ (∃ j, id = H.length + j ∧ g'.φ[j]? = some (some b)) := fun id b hp => by
    by_cases hid : id < H.length
    · left; exact ⟨hid, by rwa [List.getElem?_append_left (by omega)] at hp⟩
    · right; exact ⟨id - H.length, by omega, by rwa [List.getElem?_append_right (by omega), hk] at hp⟩
  have ha : Ag g H w ⟨g'.Z, g.φ ++ g'.φ⟩ (H ++ H'.map (shB H.length)) w' := by
    intro id x hx
    have hlt := lt_of_getElem? hx
    have e1 : (H ++ H'.map (shB H.length))[id]? = some x := by rw [List.getElem?_append_left hlt]; exact hx
    have e2 : (g.φ ++ g'.φ)[id]? = g.φ[id]? := List.getElem?_append_left (by omega)
    cases x with
    | cells cs => exact ⟨⟨cs, e1, rfl⟩, e2⟩
    | arr sz nl els => exact ⟨nl, els, e1, Nat.le_refl _, fun _ => ⟨rfl, e2, fun b vs t hb h => ⟨vs, (hsame b (hr.lt hb)).trans h, rfl⟩⟩⟩
    | loop st pend E ps a b => exact ⟨⟨st, pend, e1⟩, e2⟩
    | obj o => exact ⟨⟨o, e1, rfl⟩, e2⟩
  refine ⟨v, ⟨g'.Z, g.φ ++ g'.φ⟩, _, _, rfl, ⟨rfl, rfl⟩, VR_sh hk hB _ _ k3, ⟨by simp [hr.len, k4.len], k4.zlt, fun id b x hp hx => ?_, fun i j b hi hj => ?_⟩, ⟨k5.os, k5.tape, k5.out, k5.size, fun b hb _ => hsame b hb, k5.z, fun b o z => ?_, fun id b hp => ?_⟩, ha⟩
  · rcases split id b hp with ⟨hid, hp2⟩ | ⟨j, rfl, hp2⟩
    · rw [List.getElem?_append_left hid] at hx
      obtain ⟨h1, h2, h3⟩ := hr.blk id b x hp2 hx
      refine ⟨Nat.lt_of_lt_of_le h1 k5.size, fun o z => ?_, BR_mono (g' := ⟨g'.Z, g.φ ++ g'.φ⟩) hz ha (hsame b h1) h3⟩
      rcases k5.zn b o z with z | z | ⟨id, z⟩
      · exact h2 o z
      · omega
      · simp at z
    · rw [(sh_get (g := g) (g' := g') (B := H') hk j).1] at hx
      cases hj : H'[j]? with
      | none => rw [hj] at hx; cases hx
      | some y =>
        rw [hj] at hx
        simp only [Option.map_some, Option.some.injEq] at hx
        subst hx
        obtain ⟨h1, h2, h3⟩ := k4.blk j b y hp2 hj
        exact ⟨h1, h2, BR_sh hk hB (List.all_eq_true.1 hB _ (List.mem_of_getElem? hj)) h3⟩
  · rcases split i b hi with ⟨i1, i2⟩ | ⟨i1, rfl, i2⟩
    · rcases split j b hj with ⟨j1, j2⟩ | ⟨j1, rfl, j2⟩
      · exact hr.inj i j b i2 j2
      · have := hr.lt i2; have := hnew _ _ j2; omega
    · rcases split j b hj with ⟨j1, j2⟩ | ⟨j1, rfl, j2⟩
      · have := hr.lt j2; have := hnew _ _ i2; omega
      · rw [k4.inj _ _ _ i2 j2]
  · rcases k5.zn b o z with z | z | ⟨id, z⟩
    · exact .inl z
    · exact .inr (.inl z)
    · simp at z
  · rcases split id b hp with ⟨_, hp2⟩ | ⟨j, rfl, hp2⟩
    · exact .inl hp2
    · exact .inr (hnew _ _ hp2)

end

/-! ### Functions that leave blocks behind -/

/-- As FnPost; the first m blocks stay. -/
def FnPostK (T : Nat → Ty) (rs : List ResultVar) (m : Nat) (Q : V → Heap → Prop) : Ex → Env → Heap → Prop
  | .exit _, _, _ => False
  | _, E, H => m ≤ H.length ∧ Som (resV T E H rs) fun vs => Som (pubV m H (mkRes vs)) fun v => BBq m H ∧ Q v (H.take m)

section
variable {P : Program} {T : Nat → Ty}

theorem Ag_untake {g g' : G} {H H' : Heap} {w w' : World} (h : Ag g H w g' (H'.take H.length) w') : Ag g H w g' H' w' := by
  intro id x hx
  have hlt := lt_of_getElem? hx
  have e : (H'.take H.length)[id]? = H'[id]? := List.getElem?_take_of_lt hlt
  have := h id x hx
  cases x with
  | cells cs => simpa only [e] using this
  | arr sz nl els => simpa only [e] using this
  | loop st pend E ps a b => simpa only [e] using this
  | obj o => simpa only [e] using this

theorem ACalls.of_bodyK (hT : TOK P T) {f : FuncId} {fn : Func} {c : Code} {vs : List V} {H : Heap} {m : Nat} {Q : V → Heap → Prop} (hf : P.funcs[f]? = some fn) (hb : fn.body = some c) (hnm : (fn.name == "runtime.NumGoroutine") = false) (hlen : vs.length ≤ fn.ntmps) (hm : H.length ≤ m)
    (h : AWP P fn.ntmps H.length none c (envOf 0 vs) H (FnPostK T fn.results.toList m Q)) : ACalls P f vs H Q := by
  refine ⟨⟨fn, hf, by rw [hb]; rfl, hnm⟩, fun g w cvs hr hvs => ?_⟩
  have hcl := VRs_length _ _ hvs
  refine callsIn_of_wp_marks hf hb trivial (wpIn_mono (h.2.2 g w _ none w.heap.size ⟨hr, ?_, ?_, rfl, ⟨Nat.le_refl _, [], rfl, List.nodup_nil, by simp⟩⟩) ?_)
  · intro t
    rw [look_envOf]
    simp only [Nat.zero_le, if_true, Nat.sub_zero]
    rw [List.getD_eq_getElem?_getD]
    cases hv : vs[t]? with
    | none => simp [VR]
    | some v =>
      obtain ⟨c', h1, h2⟩ := VRs_get hvs hv
      simp only [Option.getD_some]
      have hlt := lt_of_getElem? h1
      rw [Array.getD_eq_getD_getElem?, Array.getElem?_append_left (by simpa using hlt)]
      simp only [List.getElem?_toArray, h1, Option.getD_some]
      exact h2
  · simp; omega
  · rintro e a' w' ⟨x, E', H', g', rfl, h2, h3, h4, h5⟩
    obtain ⟨_, rs, hd, hnd, hrs⟩ := h3.df
    have fin : (m ≤ H'.length ∧ Som (resV T E' H' fn.results.toList) fun vs => Som (pubV m H' (mkRes vs)) fun v => BBq m H' ∧ Q v (H'.take m)) → LeavesInM (FR none) 0 P fn a'.tmps (CPost g H w Q) a'.defers .returning w' := by
      rintro ⟨hml, hfin⟩
      obtain ⟨us, hus, hfin⟩ := Som_iff hfin
      obtain ⟨v, hv, hbb, hq⟩ := Som_iff hfin
      rw [hd]
      refine leaves_marks rs w' hnd hrs h3.hr h3.er h4 h5 fun w2 hr2 he2 hk2 ha2 => ?_
      obtain ⟨cv, k1, k2⟩ := results_sound hT hr2 he2 hus
      refine ⟨cv, k1, cv, g'.pub m, v, H'.take m, rfl, hq, pub_sound hr2 _ _ _ hv k2, HR_pub hr2 hml hbb, hk2.pub _, ?_⟩
      have := (ha2.pub hm hml).2.2
      exact Ag_untake (by simpa using this)
    cases x with
    | exit id => exact h2.elim
    | normal => exact fin h2
    | ret => exact fin h2

/-- Of data alone come a value and new blocks. -/
def PCr (P : Program) (f : FuncId) (vs : List V) (B : Heap) (v : V) : Prop := ACalls P f vs [] (fun r H' => H' = B ∧ r = v)

theorem PCr.of_body (hT : TOK P T) {f : FuncId} {fn : Func} {c : Code} {N : Nat} {rs : List ResultVar} {vs : List V} {B : Heap} {v : V} (m : Nat) (hf : P.funcs[f]? = some fn) (hb : fn.body = some c) (hN : fn.ntmps = N) (hrs : fn.results.toList = rs)
    (hnm : (fn.name == "runtime.NumGoroutine") = false) (hlen : decide (vs.length ≤ N) = true) (h : AWP P N 0 none c (envOf 0 vs) [] (FnPostK T rs m fun r H' => H' = B ∧ r = v)) : PCr P f vs B v := by
  subst hN; subst hrs
  exact ACalls.of_bodyK hT hf hb hnm (by simpa using hlen) (Nat.zero_le _) h

theorem PCr.call {f : FuncId} {vs : List V} {B : Heap} {v : V} {as : List V} {x y : List V} {H : Heap} {Q : V → Heap → Prop} (h : PCr P f vs B v) (hB : B.all noLoop = true) (h1 : (x ++ as ++ y).map Aw.dz = vs) (h2 : VBs 0 vs = true) (hq : Q (shV H.length v) (H ++ B.map (shB H.length))) : ACallV P (.fn (.func f) x y) as H Q := by
  subst h1
  refine ACalls.dz (ACalls.mono (ACalls.sh hB h2 h) ?_)
  rintro v' H' ⟨rfl, rfl⟩
  exact hq

theorem PCr.callD {f : FuncId} {vs : List V} {B : Heap} {v : V} {as : List V} {x y : List V} {H : Heap} {Q : V → Heap → Prop} (h : PCr P f vs B v) (hB : B.all noLoop = true) (h1 : (x ++ as ++ y).map Aw.dz = vs) (h2 : VBs 0 vs = true) (hq : Q (shV H.length v) (H ++ B.map (shB H.length))) : DCall P (.fn (.func f) x y) as H Q :=
  ⟨_, _, PCr.call h hB h1 h2 ⟨rfl, rfl⟩, hq⟩

variable {rs : List ResultVar} {m : Nat} {Q : V → Heap → Prop} {E : Env} {H : Heap}
def finK (T : Nat → Ty) (rs : List ResultVar) (m : Nat) (Q : V → Heap → Prop) (E : Env) (H : Heap) : Prop := m ≤ H.length ∧ fin T rs m Q E H
@[go_sem] theorem FnPostK_normal : FnPostK T rs m Q .normal E H = finK T rs m Q E H := (Eq.refl _).trans rfl
@[go_sem] theorem FnPostK_ret : FnPostK T rs m Q .ret E H = finK T rs m Q E H := (Eq.refl _).trans rfl
@[go_sem] theorem finK_eq : finK T rs m Q E H = (m ≤ H.length ∧ fin T rs m Q E H) := (Eq.refl _).trans rfl
@[congr] theorem FnPostK_congr {x x' : Ex} {E' : Env} {H' : Heap} (hx : x = x') (hE : E = E') (hH : H = H') {one : Prop} (ho : (True ∧ True) = one) : FnPostK T rs m Q x E H = FnPostK T rs m Q x' E' H' := by
  rw [hx, hE, hH]
@[congr] theorem finK_congr {E' : Env} {H' : Heap} (hE : E = E') (hH : H = H') {one : Prop} (ho : (True ∧ True) = one) : finK T rs m Q E H = finK T rs m Q E' H' := by rw [hE, hH]
@[go_sem] theorem shV_d (k : Nat) (x : D) : shV k (.d x) = .d x := (Eq.refl _).trans rfl
@[go_sem] theorem shV_slx (k : Nat) (b : Option Bool) (l : List D) : shV k (.slx b l) = .slx b l := (Eq.refl _).trans rfl
@[go_sem] theorem shV_ptr (k i o : Nat) : shV k (.ptr i o) = .ptr (k + i) o := (Eq.refl _).trans rfl
@[go_sem] theorem shV_ref (k i n lo len : Nat) : shV k (.ref i n lo len) = .ref (k + i) n lo len := (Eq.refl _).trans rfl
@[go_sem] theorem shV_csl (k i e len : Nat) : shV k (.csl i e len) = .csl (k + i) e len := (Eq.refl _).trans rfl
@[go_sem] theorem shV_obj (k i : Nat) : shV k (.obj i) = .obj (k + i) := (Eq.refl _).trans rfl
@[go_sem] theorem shV_pp (k : Nat) (cs : List D) : shV k (.pp cs) = .pp cs := (Eq.refl _).trans rfl
@[go_sem] theorem shV_und (k : Nat) : shV k .und = .und := (Eq.refl _).trans rfl
@[go_sem] theorem shV_agg (k : Nat) (l : List V) : shV k (.agg l) = .agg (shVs k l) := (Eq.refl _).trans rfl
@[go_sem] theorem shV_tup (k : Nat) (l : List V) : shV k (.tup l) = .tup (shVs k l) := (Eq.refl _).trans rfl
@[go_sem] theorem shV_fn (k : Nat) (f : Fn) (x y : List V) : shV k (.fn f x y) = .fn f (shVs k x) (shVs k y) := (Eq.refl _).trans rfl
@[go_sem] theorem shVs_nil (k : Nat) : shVs k [] = [] := (Eq.refl _).trans rfl
@[go_sem] theorem shVs_cons (k : Nat) (v : V) (r : List V) : shVs k (v :: r) = shV k v :: shVs k r := (Eq.refl _).trans rfl
@[go_sem] theorem shB_cells (k : Nat) (cs : List V) : shB k (.cells cs) = .cells (shVs k cs) := (Eq.refl _).trans rfl
@[go_sem] theorem shB_arr (k sz : Nat) (nl : Bool) (els : List D) : shB k (.arr sz nl els) = .arr sz nl els := (Eq.refl _).trans rfl

end
end Go.Aw
end

section
namespace Go.Aw
open Go

mutual
/-- A value of which each block is one and the same. -/
def rnV (k : Nat) : V → V
  | .ptr _ off => .ptr k off
  | .ref _ n lo len => .ref k n lo len
  | .ep _ n i off => .ep k n i off
  | .csl _ es len => .csl k es len
  | .obj _ => .obj k
  | .fn f x y => .fn f (rnVs k x) (rnVs k y)
  | .agg l => .agg (rnVs k l)
  | .tup l => .tup (rnVs k l)
  | v => v
def rnVs (k : Nat) : List V → List V
  | [] => []
  | v :: r => rnV k v :: rnVs k r
end

section
variable {P : Program} {g g' : G} {H H1 : Heap} {w : World} {sz R : Nat} {els : List D}

mutual
def rnOk (k : Nat) : V → Bool
  | .und => true
  | .d _ => true
  | .slx _ _ => true
  | .ref id _ _ _ => id == k
  | .agg l => rnOks k l
  | .tup l => rnOks k l
  | _ => false
def rnOks (k : Nat) : List V → Bool
  | [] => true
  | v :: r => rnOk k v && rnOks k r
end

mutual
theorem VR_rn {H' : Heap} {k : Nat} (e0 : H'[k]? = some (.arr sz false els)) (e1 : H1[R]? = some (.arr sz false els)) (e2 : g.φ[R]? = g'.φ[k]?) (ezz : g.Z = g'.Z) : ∀ (x : V) (v : Value), rnOk k x = true → VR g' H' w x v → VR g H1 w (rnV R x) v
  | .und, _, _, _ => by simp [rnV, VR]
  | .d x, v, _, h => by simpa only [rnV, VR, ezz] using h
  | .slx nl l, v, _, h => by simpa only [rnV, VR, ezz] using h
  | .pp cs, v, ho, h => by simp [rnOk] at ho
  | .ptr id off, v, ho, h => by simp [rnOk] at ho
  | .ref id n lo len, v, ho, h => by
    simp only [rnOk, beq_iff_eq] at ho
    subst ho
    simp only [rnV, VR] at h ⊢
    obtain ⟨h0, sz', nl, els', h1, h2, h3⟩ := h
    rw [e0] at h1
    cases h1
    exact ⟨h0, sz, false, els, e1, h2, fun hn => by rw [e2]; exact h3 hn⟩
  | .ep id n i off, v, ho, h => by simp [rnOk] at ho
  | .csl id es len, v, ho, h => by simp [rnOk] at ho
  | .obj id, v, ho, h => by simp [rnOk] at ho
  | .fn f x y, v, ho, h => by simp [rnOk] at ho
  | .agg l, v, ho, h => by
    simp only [rnV, VR] at h ⊢
    obtain ⟨cs, h1, h2⟩ := h
    exact ⟨cs, h1, VRs_rn e0 e1 e2 ezz l _ ho h2⟩
  | .tup l, v, ho, h => by
    simp only [rnV, VR] at h ⊢
    obtain ⟨cs, h1, h2⟩ := h
    exact ⟨cs, h1, VRs_rn e0 e1 e2 ezz l _ ho h2⟩
theorem VRs_rn {H' : Heap} {k : Nat} (e0 : H'[k]? = some (.arr sz false els)) (e1 : H1[R]? = some (.arr sz false els)) (e2 : g.φ[R]? = g'.φ[k]?) (ezz : g.Z = g'.Z) : ∀ (l : List V) (cs : List Value), rnOks k l = true → VRs g' H' w l cs → VRs g H1 w (rnVs R l) cs
  | [], cs, _, h => by simpa only [rnVs, VRs] using h
  | d :: ds, cs, ho, h => by
    simp only [rnOks, Bool.and_eq_true] at ho
    simp only [rnVs, VRs] at h ⊢
    obtain ⟨c, r, h1, h2, h3⟩ := h
    exact ⟨c, r, h1, VR_rn e0 e1 e2 ezz d _ ho.1 h2, VRs_rn e0 e1 e2 ezz ds r ho.2 h3⟩
end

/-- The row that a call of data alone lays anew becomes an empty row that was there. -/
theorem ACalls.into {f : FuncId} {vs : List V} {r : V} {nl : Bool} (hR : H[R]? = some (.arr sz nl [])) {B : Heap} (hne : els ≠ []) (ho : rnOk B.length r = true) (hvs : VBs 0 vs = true) (h : ACalls P f vs [] (fun v H' => H' = B ++ [.arr sz false els] ∧ v = r)) :
    ACalls P f vs H (fun v H' => H' = H.set R (.arr sz false els) ∧ v = rnV R r) := by
  have hlR := lt_of_getElem? hR
  refine ⟨h.1, fun g w cvs hr hv => CallsIn.mono (h.2 ⟨g.Z, []⟩ w cvs (HR_none hr) (VBs_cut (g := g) (g' := ⟨g.Z, []⟩) (H := H) (H' := []) (n := 0) (fun _ _ z => z) (fun id hid => by omega) _ _ hvs hv)) ?_⟩
  rintro e w' ⟨v, g', r', H', rfl, ⟨rfl, rfl⟩, k3, k4, k5, k6⟩
  have hk : g.φ.length = H.length := hr.len
  have hsame : ∀ b, b < w.heap.size → w'.heap[b]? = w.heap[b]? := fun b hb => k5.fr b hb (fun id => by simp)
  have hz : Zk g.Z g'.Z w w' := (HR_none hr).zk k5
  have hnew : ∀ id b : Nat, g'.φ[id]? = some (some b) → w.heap.size ≤ b := fun id b hp => by
    rcases k5.pn id b hp with h | h
    · simp at h
    · exact h
  have hl' : g'.φ.length = B.length + 1 := by rw [k4.len]; simp
  obtain ⟨p, hp⟩ : ∃ p, g'.φ[B.length]? = some p := ⟨_, List.getElem?_eq_getElem (by omega)⟩
  have hBk : (B ++ [Blk.arr sz false els])[B.length]? = some (.arr sz false els) := by simp
  have hget : ∀ id, id ≠ R → (g.φ.set R p)[id]? = g.φ[id]? ∧ (H.set R (.arr sz false els))[id]? = H[id]? := fun id hid => ⟨List.getElem?_set_ne (fun e => hid e.symm), List.getElem?_set_ne (fun e => hid e.symm)⟩
  have hgR : (g.φ.set R p)[R]? = some p ∧ (H.set R (.arr sz false els))[R]? = some (.arr sz false els) := ⟨List.getElem?_set_self (by omega), List.getElem?_set_self hlR⟩
  have split : ∀ id b : Nat, (g.φ.set R p)[id]? = some (some b) → (id ≠ R ∧ g.φ[id]? = some (some b)) ∨ (id = R ∧ g'.φ[B.length]? = some (some b)) := fun id b hb => by
    by_cases hid : id = R
    · subst hid; right; refine ⟨rfl, ?_⟩; rw [hgR.1] at hb; rw [hp]; simpa using hb
    · left; exact ⟨hid, by rwa [(hget id hid).1] at hb⟩
  have ha : Ag g H w ⟨g'.Z, g.φ.set R p⟩ (H.set R (.arr sz false els)) w' := by
    intro id x hx
    by_cases hid : id = R
    · subst hid
      rw [hR] at hx; cases hx
      refine ⟨false, els, hgR.2, Nat.zero_le _, fun he => ?_⟩
      exact absurd (List.length_eq_zero_iff.1 he) hne
    · obtain ⟨e2, e1⟩ := hget id hid
      rw [← e1] at hx
      cases x with
      | cells cs => exact ⟨⟨cs, hx, rfl⟩, e2⟩
      | arr sz nl els => exact ⟨nl, els, hx, Nat.le_refl _, fun _ => ⟨rfl, e2, fun b vs t hb h => ⟨vs, (hsame b (hr.lt hb)).trans h, rfl⟩⟩⟩
      | loop st pend E ps a b => exact ⟨⟨st, pend, hx⟩, e2⟩
      | obj o => exact ⟨⟨o, hx, rfl⟩, e2⟩
  refine ⟨v, ⟨g'.Z, g.φ.set R p⟩, _, _, rfl, ⟨rfl, rfl⟩, VR_rn (g := ⟨g'.Z, g.φ.set R p⟩) (g' := g') hBk hgR.2 (by rw [hgR.1, hp]) rfl _ _ ho k3, ⟨by simp [hr.len], k4.zlt, fun id b x hb hx => ?_, fun i j b hi hj => ?_⟩, ⟨k5.os, k5.tape, k5.out, k5.size, fun b hb _ => hsame b hb, k5.z, fun b o z => ?_, fun id b hb => ?_⟩, ha⟩
  · rcases split id b hb with ⟨hid, hp2⟩ | ⟨rfl, hp2⟩
    · rw [(hget id hid).2] at hx
      obtain ⟨h1, h2, h3⟩ := hr.blk id b x hp2 hx
      refine ⟨Nat.lt_of_lt_of_le h1 k5.size, fun o z => ?_, BR_mono (g' := ⟨g'.Z, g.φ.set R p⟩) hz ha (hsame b h1) h3⟩
      rcases k5.zn b o z with z | z | ⟨id, z⟩
      · exact h2 o z
      · omega
      · simp at z
    · rw [hgR.2] at hx; cases hx
      obtain ⟨h1, h2, h3⟩ := k4.blk B.length b (.arr sz false els) hp2 hBk
      exact ⟨h1, h2, h3⟩
  · rcases split i b hi with ⟨i1, i2⟩ | ⟨rfl, i2⟩
    · rcases split j b hj with ⟨j1, j2⟩ | ⟨rfl, j2⟩
      · exact hr.inj i j b i2 j2
      · have := hr.lt i2; have := hnew _ _ j2; omega
    · rcases split j b hj with ⟨j1, j2⟩ | ⟨rfl, j2⟩
      · have := hr.lt j2; have := hnew _ _ i2; omega
      · rfl
  · rcases k5.zn b o z with z | z | ⟨id, z⟩
    · exact .inl z
    · exact .inr (.inl z)
    · simp at z
  · rcases split id b hb with ⟨_, hp2⟩ | ⟨_, hp2⟩
    · exact .inl hp2
    · exact .inr (hnew _ _ hp2)

theorem PCr.into {f : FuncId} {vs : List V} {v : V} {as : List V} {x y : List V} {nl : Bool} {Q : V → Heap → Prop} {B : Heap} (h : PCr P f vs (B ++ [.arr sz false els]) v) (hR : H[R]? = some (.arr sz nl [])) (hne : els ≠ []) (ho : rnOk B.length v = true) (h1 : (x ++ as ++ y).map Aw.dz = vs) (h2 : VBs 0 vs = true)
    (hq : Q (rnV R v) (H.set R (.arr sz false els))) : ACallV P (.fn (.func f) x y) as H Q := by
  subst h1
  refine ACalls.dz (ACalls.mono (ACalls.into hR hne ho h2 h) ?_)
  rintro v' H' ⟨rfl, rfl⟩
  exact hq

end

/-! ### New empty rows -/

section
variable {P : Program} {N n0 : Nat} {r : Option Nat}

theorem AWP.newrow (es : Nat) {c : Code} {E : Env} {H : Heap} {Q : Ex → Env → Heap → Prop} (hn : n0 ≤ H.length) (h : AWP P N n0 r c E (H ++ [.arr es true []]) Q) : AWP P N n0 r c E H Q := by
  refine ⟨hn, h.2.1, fun g w a l m0 hrel => ?_⟩
  have hr := hrel.hr
  obtain ⟨h1, h2, h3⟩ := alloc_nil hr es true
  have hz : Zk g.Z g.Z w w := fun b o z => ⟨z, rfl⟩
  have hrel2 : Rel N r l m0 ⟨g.Z, g.φ ++ [none]⟩ E (H ++ [.arr es true []]) a w :=
    hrel.of_agn h.2.1 h1 (fun t => VR_mono (g' := ⟨g.Z, g.φ ++ [none]⟩) hz h3 _ _ (hrel.er t)) hrel.sz rfl h2 (AgN.of_ag hn h3)
  refine wpIn_mono (h.2.2 _ w a l m0 hrel2) ?_
  rintro e a' w' ⟨x, E', H', g', e1, e2, e3, e4, e5⟩
  exact ⟨x, E', H', g', e1, e2, e3, h2.trans e4, (AgN.of_ag hn h3).trans e5⟩

theorem AWP.newrows (es : Nat) : ∀ (k : Nat) {c : Code} {E : Env} {H : Heap} {Q : Ex → Env → Heap → Prop}, n0 ≤ H.length → AWP P N n0 r c E (H ++ List.replicate k (.arr es true [])) Q → AWP P N n0 r c E H Q
  | 0, c, E, H, Q, hn, h => by simpa using h
  | k + 1, c, E, H, Q, hn, h => by
    refine AWP.newrow es hn (AWP.newrows es k (by simp; omega) ?_)
    rw [List.append_assoc]
    exact h

end

@[go_sem] theorem rnV_d (k : Nat) (x : D) : rnV k (.d x) = .d x := (Eq.refl _).trans rfl
@[go_sem] theorem rnV_ref (k i n lo len : Nat) : rnV k (.ref i n lo len) = .ref k n lo len := (Eq.refl _).trans rfl
@[go_sem] theorem rnV_tup (k : Nat) (l : List V) : rnV k (.tup l) = .tup (rnVs k l) := (Eq.refl _).trans rfl
@[go_sem] theorem rnVs_nil (k : Nat) : rnVs k [] = [] := (Eq.refl _).trans rfl
@[go_sem] theorem rnVs_cons (k : Nat) (v : V) (r : List V) : rnVs k (v :: r) = rnV k v :: rnVs k r := (Eq.refl _).trans rfl
end Go.Aw
end

section
namespace Go.Aw
open Go

/-- What an item fills. -/
def upd : Option (Nat × Blk) → Heap → Heap
  | none, H => H
  | some (i, x), H => H.set i x

def uOk : Option (Nat × Blk) → Heap → Prop
  | none, _ => True
  | some (i, .arr sz false els), H => H[i]? = some (.arr sz true []) ∧ els ≠ []
  | _, _ => False

theorem upd_len (u : Option (Nat × Blk)) (H : Heap) : (upd u H).length = H.length := by
  cases u with
  | none => rfl
  | some p => simp [upd]

theorem uOk_lt {i : Nat} {x : Blk} {H : Heap} (h : uOk (some (i, x)) H) : i < H.length := by
  cases x with
  | arr sz nl els =>
    cases nl with
    | false => exact lt_of_getElem? h.1
    | true => exact h.elim
  | _ => exact h.elim

theorem upd_append {u : Option (Nat × Blk)} {H : Heap} (X : Heap) (h : uOk u H) : upd u (H ++ X) = upd u H ++ X := by
  cases u with
  | none => rfl
  | some p => exact List.set_append_left _ _ (uOk_lt h)

theorem uOk_append {u : Option (Nat × Blk)} {H : Heap} (X : Heap) (h : uOk u H) : uOk u (H ++ X) := by
  cases u with
  | none => trivial
  | some p =>
    obtain ⟨i, x⟩ := p
    have := uOk_lt h
    cases x with
    | arr sz nl els =>
      cases nl with
      | false => exact ⟨by rw [List.getElem?_append_left this]; exact h.1, h.2⟩
      | true => exact h.elim
    | _ => exact h.elim

/-- As Iter: the items' rows fill empty rows. -/
def IterU (P : Program) (f : V) (items : List (List V × Option (Nat × Blk))) : Prop :=
  ∀ (yv : V) (n : Nat) (I : List (List V × Option (Nat × Blk)) → Heap → Prop) (Q : V → Heap → Prop), (∃ f x y, yv = .fn f x y) → VB n yv = true → (∀ l H, I l H → H.length = n ∧ BBs n H) →
    (∀ a r H, I (a :: r) H → uOk a.2 H ∧ ACallV P yv a.1 (upd a.2 H) (fun v H' => (v = .d (.bool true) ∧ I r H') ∨ (v = .d (.bool false) ∧ H'.length = n ∧ BBs n H' ∧ Q (.tup []) H'))) →
    (∀ H, I [] H → Q (.tup []) H) → ∀ H, I items H → ACallV P f [yv] H Q

section
variable {P : Program} {N n0 : Nat} {r : Option Nat}

theorem ARng.iterU {f : Operand} {ps : Array Tmp} {a b : Code} {E : Env} {H : Heap} {Q : Ex → Env → Heap → Prop} {k : FuncId} {x y : List V} (items : List (List V × Option (Nat × Blk))) (J : List (List V × Option (Nat × Blk)) → Heap → Prop)
    (hn : n0 ≤ H.length) (hr : ∀ id, r = some id → id < n0) (hf : ge E f = .fn (.func k) x y) (it : IterU P (.fn (.func k) x y) items) (hps : ps.toList.all (fun t => decide (t < N)) = true) (hE : VBs H.length (E.map Prod.snd) = true)
    (hJ : ∀ l Hc, J l Hc → Hc.length = H.length ∧ BBs H.length Hc) (h0 : J items H) (hend : ∀ Hc, J [] Hc → Q .normal E Hc)
    (hlen : ∀ as ∈ items, as.1.length = ps.size) (hU : ∀ as rest Hc, as ∈ items → J (as :: rest) Hc → uOk as.2 Hc)
    (round : ∀ (L L' : Blk) (as : List V × Option (Nat × Blk)) (rest : List (List V × Option (Nat × Blk))) (Hc : Heap), as ∈ items → J (as :: rest) Hc → AWP P N (H.length + 1) (some H.length) a (putAll E ps.toList as.1) (upd as.2 Hc ++ [L]) (normK fun E1 H1 =>
      H1[H.length]? = some L ∧ AWP P N (H.length + 1) (some H.length) b E1 (H1.set H.length L') (IterPost H.length L' (J rest) fun x Hc => Q x E Hc))) : ARng P N n0 r (.rangeFunc f ps a b) E H Q := by
  refine ARng.run hn hr hf ?_
  have hEt : ∀ t, VB (H.length + 1) (E.look t) = true := fun t => VB_le (by omega) _ (VB_env hE t)
  have hEt' : ∀ st pend, BB (H.length + 1) (.loop st pend E (ps, N) a b) := fun st pend => hEt
  have := it (.fn (.yield H.length) [] []) (H.length + 1)
    (fun l H' => (∃ p q, items = p ++ q ∧ q = l) ∧ ∃ Hc, H' = Hc ++ [.loop .ready none E (ps, N) a b] ∧ J l Hc)
    (fun _ H' => RngPost H.length E Q H') ⟨_, _, _, rfl⟩ (by simp [VB]) ?_ ?_ ?_ (H ++ [.loop .ready none E (ps, N) a b]) ⟨⟨[], items, rfl, rfl⟩, H, rfl, h0⟩
  · exact this
  · rintro l H' ⟨_, Hc, rfl, hj⟩
    obtain ⟨h1, h2⟩ := hJ _ _ hj
    exact ⟨by simp [h1], BBs_append (BBs_le (by omega) h2) ⟨hEt' _ _, trivial⟩⟩
  · rintro as rest H' ⟨⟨p, q, hpq, rfl⟩, Hc, rfl, hj⟩
    have hin : as ∈ items := by rw [hpq]; simp
    obtain ⟨h1, h2⟩ := hJ _ _ hj
    have hLl : (Hc ++ [Blk.loop .ready none E (ps, N) a b]).length = H.length + 1 := by simp [h1]
    have hu := hU as rest Hc hin hj
    have hue := upd_append [Blk.loop .ready none E (ps, N) a b] hu
    have hul := upd_len as.2 Hc
    refine ⟨uOk_append _ hu, ?_⟩
    rw [hue]
    have hLl' : (upd as.2 Hc ++ [Blk.loop .ready none E (ps, N) a b]).length = H.length + 1 := by simp [h1, hul]
    refine AYield.of_callV (AYield.run (pend := none) (E := E) (ps := ps) (a := a) (b := b) (by rw [← h1, ← hul]; simp) (hlen as hin) hps ?_)
    rw [hLl']
    refine (round (.loop .ready none E (ps, N) a b) (.loop .busy none E (ps, N) a b) as rest Hc hin hj).mono ?_
    intro x E1 H1 hl1 hx
    cases x with
    | exit i => exact hx
    | ret => exact hx
    | normal =>
      obtain ⟨k1, k2⟩ := hx
      refine ⟨none, E, k1, k2.mono ?_⟩
      intro x E2 H2 hl2 hp
      obtain ⟨m1, m2, m3⟩ := hp
      have hlt := lt_of_getElem? m1
      unfold RoundPost
      rw [m1]
      simp only
      have hm : (H2.take H.length).length = H.length := by simp; omega
      have hts : ∀ L : Blk, (H2.set H.length L).take (H.length + 1) = H2.take H.length ++ [L] := fun L => take_take_set hlt
      refine ⟨.inr (by rw [hts]; exact BBs_append (BBs_le (by omega) m2) ⟨hEt' _ _, trivial⟩), ?_⟩
      rw [hts]
      cases x with
      | normal => exact .inl ⟨rfl, ⟨p ++ [as], rest, by rw [hpq]; simp, rfl⟩, _, rfl, m3⟩
      | exit i =>
        refine .inr ⟨rfl, by simp; omega, BBs_append (BBs_le (by omega) m2) ⟨hEt' _ _, trivial⟩, ?_⟩
        unfold RngPost
        have e : (H2.take H.length ++ [Blk.loop (if goesOn (.exit i) = true then LoopState.ready else .done) (jumpOf (.exit i)) E (ps, N) a b])[H.length]? = some (Blk.loop .done (some (.exit i)) E (ps, N) a b) := by
          rw [List.getElem?_append_right (by omega), hm, Nat.sub_self]; rfl
        rw [e]
        refine ⟨by simp, .inr ?_, ?_⟩
        · rw [List.take_append_of_le_length (by omega), List.take_of_length_le (by omega)]; exact m2
        · rw [List.take_append_of_le_length (by omega), List.take_of_length_le (by omega)]
          exact m3
      | ret =>
        refine .inr ⟨rfl, by simp; omega, BBs_append (BBs_le (by omega) m2) ⟨hEt' _ _, trivial⟩, ?_⟩
        unfold RngPost
        have e : (H2.take H.length ++ [Blk.loop (if goesOn .ret = true then LoopState.ready else .done) (jumpOf .ret) E (ps, N) a b])[H.length]? = some (Blk.loop .done (some .ret) E (ps, N) a b) := by
          rw [List.getElem?_append_right (by omega), hm, Nat.sub_self]; rfl
        rw [e]
        refine ⟨by simp, .inr ?_, ?_⟩
        · rw [List.take_append_of_le_length (by omega), List.take_of_length_le (by omega)]; exact m2
        · rw [List.take_append_of_le_length (by omega), List.take_of_length_le (by omega)]
          exact m3
  · rintro H' ⟨_, Hc, rfl, hj⟩
    obtain ⟨h1, h2⟩ := hJ _ _ hj
    unfold RngPost
    have e : (Hc ++ [Blk.loop .ready none E (ps, N) a b])[H.length]? = some (.loop .ready none E (ps, N) a b) := by
      rw [← h1]; simp
    rw [e]
    refine ⟨by simp, .inr ?_, ?_⟩
    · rw [List.take_append_of_le_length (by omega), List.take_of_length_le (by omega)]; exact h2
    · rw [List.take_append_of_le_length (by omega), List.take_of_length_le (by omega)]
      exact hend _ hj


/-- As ARng.iter; what the loop keeps is known to be of blocks that are there. -/
theorem ARng.iterN {f : Operand} {ps : Array Tmp} {a b : Code} {E : Env} {H : Heap} {Q : Ex → Env → Heap → Prop} {k : FuncId} {x y : List V} (items : List (List V)) (J : List (List V) → Heap → Prop)
    (hn : n0 ≤ H.length) (hr : ∀ id, r = some id → id < n0) (hf : ge E f = .fn (.func k) x y) (it : Iter P (.fn (.func k) x y) items) (hps : ps.toList.all (fun t => decide (t < N)) = true) (hE : VBs H.length (E.map Prod.snd) = true)
    (hJ : ∀ l Hc, J l Hc → Hc.length = H.length ∧ BBs H.length Hc) (h0 : J items H) (hend : ∀ Hc, J [] Hc → Q .normal E Hc)
    (hlen : ∀ as ∈ items, as.length = ps.size)
    (round : ∀ (L L' : Blk) (as : List V) (rest : List (List V)) (Hc : Heap), BB (H.length + 1) L' → as ∈ items → J (as :: rest) Hc → AWP P N (H.length + 1) (some H.length) a (putAll E ps.toList as) (Hc ++ [L]) (normK fun E1 H1 =>
      H1[H.length]? = some L ∧ AWP P N (H.length + 1) (some H.length) b E1 (H1.set H.length L') (IterPost H.length L' (J rest) fun x Hc => Q x E Hc))) : ARng P N n0 r (.rangeFunc f ps a b) E H Q := by
  refine ARng.run hn hr hf ?_
  have hEt : ∀ t, VB (H.length + 1) (E.look t) = true := fun t => VB_le (by omega) _ (VB_env hE t)
  have hEt' : ∀ st pend, BB (H.length + 1) (.loop st pend E (ps, N) a b) := fun st pend => hEt
  have := it (.fn (.yield H.length) [] []) (H.length + 1)
    (fun l H' => (∃ p q, items = p ++ q ∧ q = l) ∧ ∃ Hc, H' = Hc ++ [.loop .ready none E (ps, N) a b] ∧ J l Hc)
    (fun _ H' => RngPost H.length E Q H') ⟨_, _, _, rfl⟩ (by simp [VB]) ?_ ?_ ?_ (H ++ [.loop .ready none E (ps, N) a b]) ⟨⟨[], items, rfl, rfl⟩, H, rfl, h0⟩
  · exact this
  · rintro l H' ⟨_, Hc, rfl, hj⟩
    obtain ⟨h1, h2⟩ := hJ _ _ hj
    exact ⟨by simp [h1], BBs_append (BBs_le (by omega) h2) ⟨hEt' _ _, trivial⟩⟩
  · rintro as rest H' ⟨⟨p, q, hpq, rfl⟩, Hc, rfl, hj⟩
    have hin : as ∈ items := by rw [hpq]; simp
    obtain ⟨h1, h2⟩ := hJ _ _ hj
    have hLl : (Hc ++ [Blk.loop .ready none E (ps, N) a b]).length = H.length + 1 := by simp [h1]
    refine AYield.of_callV (AYield.run (pend := none) (E := E) (ps := ps) (a := a) (b := b) (by rw [← h1]; simp) (hlen as hin) hps ?_)
    rw [hLl]
    refine (round (.loop .ready none E (ps, N) a b) (.loop .busy none E (ps, N) a b) as rest Hc (hEt' _ _) hin hj).mono ?_
    intro x E1 H1 hl1 hx
    cases x with
    | exit i => exact hx
    | ret => exact hx
    | normal =>
      obtain ⟨k1, k2⟩ := hx
      refine ⟨none, E, k1, k2.mono ?_⟩
      intro x E2 H2 hl2 hp
      obtain ⟨m1, m2, m3⟩ := hp
      have hlt := lt_of_getElem? m1
      unfold RoundPost
      rw [m1]
      simp only
      have hm : (H2.take H.length).length = H.length := by simp; omega
      have hts : ∀ L : Blk, (H2.set H.length L).take (H.length + 1) = H2.take H.length ++ [L] := fun L => take_take_set hlt
      refine ⟨.inr (by rw [hts]; exact BBs_append (BBs_le (by omega) m2) ⟨hEt' _ _, trivial⟩), ?_⟩
      rw [hts]
      cases x with
      | normal => exact .inl ⟨rfl, ⟨p ++ [as], rest, by rw [hpq]; simp, rfl⟩, _, rfl, m3⟩
      | exit i =>
        refine .inr ⟨rfl, by simp; omega, BBs_append (BBs_le (by omega) m2) ⟨hEt' _ _, trivial⟩, ?_⟩
        unfold RngPost
        have e : (H2.take H.length ++ [Blk.loop (if goesOn (.exit i) = true then LoopState.ready else .done) (jumpOf (.exit i)) E (ps, N) a b])[H.length]? = some (Blk.loop .done (some (.exit i)) E (ps, N) a b) := by
          rw [List.getElem?_append_right (by omega), hm, Nat.sub_self]; rfl
        rw [e]
        refine ⟨by simp, .inr ?_, ?_⟩
        · rw [List.take_append_of_le_length (by omega), List.take_of_length_le (by omega)]; exact m2
        · rw [List.take_append_of_le_length (by omega), List.take_of_length_le (by omega)]
          exact m3
      | ret =>
        refine .inr ⟨rfl, by simp; omega, BBs_append (BBs_le (by omega) m2) ⟨hEt' _ _, trivial⟩, ?_⟩
        unfold RngPost
        have e : (H2.take H.length ++ [Blk.loop (if goesOn .ret = true then LoopState.ready else .done) (jumpOf .ret) E (ps, N) a b])[H.length]? = some (Blk.loop .done (some .ret) E (ps, N) a b) := by
          rw [List.getElem?_append_right (by omega), hm, Nat.sub_self]; rfl
        rw [e]
        refine ⟨by simp, .inr ?_, ?_⟩
        · rw [List.take_append_of_le_length (by omega), List.take_of_length_le (by omega)]; exact m2
        · rw [List.take_append_of_le_length (by omega), List.take_of_length_le (by omega)]
          exact m3
  · rintro H' ⟨_, Hc, rfl, hj⟩
    obtain ⟨h1, h2⟩ := hJ _ _ hj
    unfold RngPost
    have e : (Hc ++ [Blk.loop .ready none E (ps, N) a b])[H.length]? = some (.loop .ready none E (ps, N) a b) := by
      rw [← h1]; simp
    rw [e]
    refine ⟨by simp, .inr ?_, ?_⟩
    · rw [List.take_append_of_le_length (by omega), List.take_of_length_le (by omega)]; exact h2
    · rw [List.take_append_of_le_length (by omega), List.take_of_length_le (by omega)]
      exact hend _ hj


end
end Go.Aw
end

section
namespace Go.Aw
open Go

section
variable {P : Program} {T : Nat → Ty} {N n0 : Nat} {r : Option Nat}

/-- The first n parts; all else forgotten, the state is one of these. -/
theorem AWP.stepS {S : Type} (n : Nat) (st : S → Env) (hp : S → Heap) (good : S → Prop) (hint : Nat → Bool) (hT : TOK P T) {c d : Code} {E : Env} {H : Heap} {Q : Ex → Env → Heap → Prop} (hr : ∀ id, r = some id → id < n0) (hn : n0 ≤ H.length) (hok : cOk N (.seq c d) = true)
    (h1 : evPre T hint (ACallV P) (ALoop P N n0 r) (ARng P N n0 r) (ADrw P N n0 r) (fun E' H' => ∃ s, good s ∧ ForgetTo n0 E' H' (st s) (hp s)) Q n (.seq c d) E H)
    (h2 : ∀ s, good s → n0 ≤ (hp s).length → AWP P N n0 r (restC n (.seq c d)) (st s) (hp s) Q) : AWP P N n0 r (.seq c d) E H Q :=
  .pre hint hT hr n _ E H hn hok h1 fun _ _ hl ⟨s, hg, hf⟩ => .of_cut hl (hf.cut (h2 s hg (hf.1)))

end
end Go.Aw
end

section
set_option maxRecDepth 100000
namespace Go.Aw
open Go

theorem ForgetTo.same' {n0 : Nat} {E E' : Env} {H H' : Heap} (hn : n0 ≤ H.length) (he : EWe E E') (hH : H = H') : ForgetTo n0 E H E' H' := by
  subst hH
  exact ForgetTo.same hn he

theorem w64 {n : Int} (h0 : -9223372036854775808 ≤ n) (h1 : n ≤ 9223372036854775807) : IntKind.i64.wrap n = n := by
  simp [IntKind.wrap, IntKind.bits, IntKind.signed]
  omega

def idx {α : Type} (p : α → Bool) : List α → Int → Int
  | [], _ => -1
  | x :: r, i => if p x = true then i else idx p r (i + 1)

theorem idx_drop {α : Type} (p : α → Bool) {l : List α} {i : Nat} (h : i < l.length) : idx p (l.drop i) i = if p l[i] = true then (i : Int) else idx p (l.drop (i + 1)) ((i + 1 : Nat) : Int) := by
  rw [List.drop_eq_getElem_cons h]
  simp [idx]

theorem idx_ge {α : Type} (p : α → Bool) : ∀ (l : List α) (i : Int), 0 ≤ i → decide (0 ≤ idx p l i) = l.any p
  | [], i, h => by simp [idx]
  | x :: r, i, h => by
    simp only [idx, List.any_cons]
    by_cases hp : p x = true
    · simpa [hp] using h
    · have hp' : p x = false := by simpa using hp
      simpa [hp'] using idx_ge p r (i + 1) (by omega)

/-- What is asked of elements: of their size, and loaded as they are. -/
def Enc {α : Type} (es : Nat) (ty : Ty) (enc : α → D) : Prop := ∀ x, (dcells (enc x)).length = es ∧ loadD ty (dcells (enc x)) = some (enc x)

/-! A heap with one block that turns, and new blocks behind. -/
section
variable {H : Heap} {id : Nat} (hid : id < H.length)
theorem hx_len (X : Blk) : (H.set id X).length = H.length := by simp
include hid
theorem hx_get (X : Blk) : (H.set id X)[id]? = some X := by rw [List.getElem?_set_self hid]
theorem hx_get' (X : Blk) (Y : Heap) : (H.set id X ++ Y)[id]? = some X := by
  rw [List.getElem?_append_left (by simpa using hid)]; exact hx_get hid X
omit hid
theorem hx_set (X X' : Blk) : (H.set id X).set id X' = H.set id X' := by rw [List.set_set]
include hid
theorem hx_set' (X X' : Blk) (Y : Heap) : (H.set id X ++ Y).set id X' = H.set id X' ++ Y := by
  rw [List.set_append_left _ _ (by simpa using hid), List.set_set]
omit hid
theorem hx_new0 (X a : Blk) (r : Heap) : (H.set id X ++ (a :: r))[H.length]? = some a := by
  rw [List.getElem?_append_right (by simp)]; simp
theorem hx_new1 (X a c : Blk) (r : Heap) : (H.set id X ++ (a :: c :: r))[H.length + 1]? = some c := by
  rw [List.getElem?_append_right (by simp)]; simp
theorem hx_put0 (X a a' : Blk) (r : Heap) : (H.set id X ++ (a :: r)).set H.length a' = H.set id X ++ (a' :: r) := by
  rw [List.set_append_right _ _ (by simp)]; simp
theorem hx_put1 (X a c c' : Blk) (r : Heap) : (H.set id X ++ (a :: c :: r)).set (H.length + 1) c' = H.set id X ++ (a :: c' :: r) := by
  rw [List.set_append_right _ _ (by simp)]; simp
end

theorem BBs_set {n : Nat} {x : Blk} : ∀ {l : List Blk} {i : Nat}, BBs n l → BB n x → BBs n (l.set i x)
  | [], _, _, _ => trivial
  | _ :: _, 0, h, hx => ⟨hx, h.2⟩
  | _ :: _, _ + 1, h, hx => ⟨h.1, BBs_set h.2 hx⟩

def EWp (n : Nat) (H : Heap) (E : Env) : Env → Prop
  | [] => True
  | (k, v) :: r => (E.look k = v ∧ pubV n H v = some v) ∧ EWp n H E r

theorem EWp_ew {n : Nat} {H : Heap} {E : Env} : ∀ {E' : Env}, EWp n H E E' → EW n H E E'
  | [], _ => trivial
  | (_, _) :: _, h => ⟨.inr (.inr (.inl (by rw [h.1.1]; exact h.1.2))), EWp_ew h.2⟩

/-- The newest blocks are dropped. -/
theorem ForgetTo.drop {n0 : Nat} {E E' : Env} {H0 Y H' : Heap} (hn : n0 ≤ H'.length) (hH : H0 = H') (hbb : BBs H'.length H') (he : EWp H'.length (H0 ++ Y) E E') : ForgetTo n0 E (H0 ++ Y) E' H' := by
  subst hH
  exact ⟨hn, by simp, .inr (by rw [List.take_left]; exact hbb), List.take_left, EWp_ew he⟩


/-- What a function that leaves blocks of its own behind answers, as data. -/
theorem PC.of_r {P : Program} {f : FuncId} {vs : List V} {B : Heap} {v v' : V} (h : PCr P f vs B v) (hv : pubV 0 B v = some v') : PC P f vs v' := by
  refine ⟨h.1, fun g w cvs hr hvs => CallsIn.mono (h.2 g w cvs hr hvs) ?_⟩
  rintro e w' ⟨c, g', r, H', k1, ⟨rfl, rfl⟩, k3, k4, k5, k6⟩
  refine ⟨c, g'.pub 0, v', H'.take 0, k1, ⟨rfl, rfl⟩, pub_sound k4 _ _ _ hv k3, HR_pub k4 (Nat.zero_le _) (.inr trivial), k5.pub _, fun id x hx => by simp at hx⟩

/-- A value as data, if it is. -/
def dd : V → V
  | .slx _ l => .d (.sl l)
  | .agg l => if l.all V.one = true then norm l else .agg l
  | v => v

theorem dd_sound {g : G} {H : Heap} {w : World} {v : V} {c : Value} (h : VR g H w v c) : VR g H w (dd v) c := by
  unfold dd
  split
  · exact dz_sound h
  · rename_i l
    split
    · rename_i ho
      simp only [VR] at h
      obtain ⟨cs, rfl, h2⟩ := h
      exact norm_sound (List.all_eq_true.1 ho) h2
    · exact h
  · exact h

theorem dds_sound {g : G} {H : Heap} {w : World} : ∀ (vs : List V) (cs : List Value), VRs g H w vs cs → VRs g H w (vs.map dd) cs
  | [], _, h => by simpa [VRs] using h
  | v :: r, cs, h => by
    simp only [VRs, List.map_cons] at h ⊢
    obtain ⟨c, r', h1, h2, h3⟩ := h
    exact ⟨c, r', h1, dd_sound h2, dds_sound r r' h3⟩

/-- A contract on data, where a row is given away for good. -/
theorem PC.callZ {P : Program} {f : FuncId} {vs : List V} {v : V} {us : List V} {H : Heap} {Q : V → Heap → Prop} (id : Nat) {sz : Nat} {nl : Bool} {els : List D} (h : PC P f vs v) (he : H[id]? = some (.arr sz nl els)) (h1 : (frzVs id els us).map dd = vs)
    (h2 : VBs 0 vs = true) (h3 : VB 0 v = true) (hq : Q v (H.set id (.arr sz nl (els ++ [.nilp])))) : ACallV P (.fn (.func f) [] []) us H Q := by
  subst h1
  show ACalls P f ([] ++ us ++ []) H Q
  rw [List.nil_append, List.append_nil]
  refine ACalls.frz he ?_
  have := PC.use h h2 h3 hq
  exact ⟨this.1, fun g w cvs hr hv => this.2 g w cvs hr (dds_sound _ cvs hv)⟩

section
variable {P : Program} {g : G} {H : Heap} {w : World}
/-- A call that leaves blocks behind, told by a property of them. -/
theorem ACalls.shE {f : FuncId} {vs : List V} {R : V → Heap → Prop} (hR : ∀ v B, R v B → B.all noLoop = true) (hvs : VBs 0 vs = true) (h : ACalls P f vs [] R) : ACalls P f vs H (fun v H' => ∃ r B, R r B ∧ H' = H ++ B.map (shB H.length) ∧ v = shV H.length r) := by
  refine ⟨h.1, fun g w cvs hr hv => CallsIn.mono (h.2 ⟨g.Z, []⟩ w cvs (HR_none hr) (VBs_cut (g := g) (g' := ⟨g.Z, []⟩) (H := H) (H' := []) (n := 0) (fun _ _ z => z) (fun id hid => by omega) _ _ hvs hv)) ?_⟩
  rintro e w' ⟨v, g', r', H', rfl, hRR, k3, k4, k5, k6⟩
  have hB := hR _ _ hRR
  have hk : g.φ.length = H.length := hr.len
  have hsame : ∀ b, b < w.heap.size → w'.heap[b]? = w.heap[b]? := fun b hb => k5.fr b hb (fun id => by simp)
  have hz : Zk g.Z g'.Z w w' := (HR_none hr).zk k5
  have hnew : ∀ id b : Nat, g'.φ[id]? = some (some b) → w.heap.size ≤ b := fun id b hp => by
    rcases k5.pn id b hp with h | h
    · simp at h
    · exact h
  have split : ∀ id b : Nat, (g.φ ++ g'.φ)[id]? = some (some b) → (id < H.length ∧ g.φ[id]? = some (some b)) ∨ (∃ j, id = H.length + j ∧ g'.φ[j]? = some (some b)) := fun id b hp => by
    by_cases hid : id < H.length
    · left; exact ⟨hid, by rwa [List.getElem?_append_left (by omega)] at hp⟩
    · right; exact ⟨id - H.length, by omega, by rwa [List.getElem?_append_right (by omega), hk] at hp⟩
  have ha : Ag g H w ⟨g'.Z, g.φ ++ g'.φ⟩ (H ++ H'.map (shB H.length)) w' := by
    intro id x hx
    have hlt := lt_of_getElem? hx
    have e1 : (H ++ H'.map (shB H.length))[id]? = some x := by rw [List.getElem?_append_left hlt]; exact hx
    have e2 : (g.φ ++ g'.φ)[id]? = g.φ[id]? := List.getElem?_append_left (by omega)
    cases x with
    | cells cs => exact ⟨⟨cs, e1, rfl⟩, e2⟩
    | arr sz nl els => exact ⟨nl, els, e1, Nat.le_refl _, fun _ => ⟨rfl, e2, fun b vs t hb h => ⟨vs, (hsame b (hr.lt hb)).trans h, rfl⟩⟩⟩
    | loop st pend E ps a b => exact ⟨⟨st, pend, e1⟩, e2⟩
    | obj o => exact ⟨⟨o, e1, rfl⟩, e2⟩
  refine ⟨v, ⟨g'.Z, g.φ ++ g'.φ⟩, _, _, rfl, ⟨_, _, hRR, rfl, rfl⟩, VR_sh hk hB _ _ k3, ⟨by simp [hr.len, k4.len], k4.zlt, fun id b x hp hx => ?_, fun i j b hi hj => ?_⟩, ⟨k5.os, k5.tape, k5.out, k5.size, fun b hb _ => hsame b hb, k5.z, fun b o z => ?_, fun id b hp => ?_⟩, ha⟩
  · rcases split id b hp with ⟨hid, hp2⟩ | ⟨j, rfl, hp2⟩
    · rw [List.getElem?_append_left hid] at hx
      obtain ⟨h1, h2, h3⟩ := hr.blk id b x hp2 hx
      refine ⟨Nat.lt_of_lt_of_le h1 k5.size, fun o z => ?_, BR_mono (g' := ⟨g'.Z, g.φ ++ g'.φ⟩) hz ha (hsame b h1) h3⟩
      rcases k5.zn b o z with z | z | ⟨id, z⟩
      · exact h2 o z
      · omega
      · simp at z
    · rw [(sh_get (g := g) (g' := g') (B := H') hk j).1] at hx
      cases hj : H'[j]? with
      | none => rw [hj] at hx; cases hx
      | some y =>
        rw [hj] at hx
        simp only [Option.map_some, Option.some.injEq] at hx
        subst hx
        obtain ⟨h1, h2, h3⟩ := k4.blk j b y hp2 hj
        exact ⟨h1, h2, BR_sh hk hB (List.all_eq_true.1 hB _ (List.mem_of_getElem? hj)) h3⟩
  · rcases split i b hi with ⟨i1, i2⟩ | ⟨i1, rfl, i2⟩
    · rcases split j b hj with ⟨j1, j2⟩ | ⟨j1, rfl, j2⟩
      · exact hr.inj i j b i2 j2
      · have := hr.lt i2; have := hnew _ _ j2; omega
    · rcases split j b hj with ⟨j1, j2⟩ | ⟨j1, rfl, j2⟩
      · have := hr.lt j2; have := hnew _ _ i2; omega
      · rw [k4.inj _ _ _ i2 j2]
  · rcases k5.zn b o z with z | z | ⟨id, z⟩
    · exact .inl z
    · exact .inr (.inl z)
    · simp at z
  · rcases split id b hp with ⟨_, hp2⟩ | ⟨j, rfl, hp2⟩
    · exact .inl hp2
    · exact .inr (hnew _ _ hp2)


end
/-- A function that leaves blocks behind: the first m. -/
theorem ACalls.bodyK {P : Program} {T : Nat → Ty} (hT : TOK P T) {f : FuncId} {fn : Func} {c : Code} {N : Nat} {rs : List ResultVar} {vs : List V} {Q : V → Heap → Prop} (m : Nat) (hf : P.funcs[f]? = some fn) (hb : fn.body = some c) (hN : fn.ntmps = N) (hrs : fn.results.toList = rs)
    (hnm : (fn.name == "runtime.NumGoroutine") = false) (hlen : decide (vs.length ≤ N) = true) (h : AWP P N 0 none c (envOf 0 vs) [] (FnPostK T rs m Q)) : ACalls P f vs [] Q := by
  subst hN; subst hrs
  exact ACalls.of_bodyK hT hf hb hnm (by simpa using hlen) (Nat.zero_le _) h

theorem bin_eql_cons {es : Nat} {z x : D} {r : List D} {H : Heap} {K : V → Heap → Prop} : evBin .eql (.sl es z) (.d (.sl (x :: r))) (.slx (some true) []) H K = K (.d (.bool false)) H := by
  simp [evBin, anilr, anil, Som]

theorem bin_eql_nil {es : Nat} {z : D} {H : Heap} {K : V → Heap → Prop} : evBin .eql (.sl es z) (.slx (some true) []) (.slx (some true) []) H K = K (.d (.bool true)) H := by
  simp [evBin, anilr, anil, Som]

end Go.Aw
end
