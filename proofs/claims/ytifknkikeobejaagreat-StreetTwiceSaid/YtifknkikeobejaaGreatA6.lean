/- A call's arguments, read as data. A law's function, from the evaluator to the row. Ranges over functions: the statement; a round. A contract where there are more blocks: they stay as they are. Regions that draw their order, where two operations lay blocks in either order: a walk that forks. Functions that hand a list's items to yield, one after another; ranges over them. Regions that draw their order, where an operation may do anything when it stands alone; what depends on what, all the way. Long bodies, part by part. A row's argument, read as data of its type. Parts of a body, by their paths. A nil slice that will grow is given a row of its own, between two parts of a body. Functions whose results are rows of their own: the caller may write them. A function that returns a row of its own: its row becomes an empty row that was there; new empty rows. -/
import Derived.Test.YtifknkikeobejaaGreatA5
import Derived.Below
import Derived.RangeFuncNested
import Derived.ProofKit
set_option linter.unusedSimpArgs false
set_option linter.unusedVariables false

section
namespace Go.Aw
open Go

def HasFs (R : TypeId → D → Prop) : List Field → List D → Prop
  | [], l => l = []
  | f :: fs, l => ∃ y r, l = dcells y ++ r ∧ R f.type y ∧ HasFs R fs r

def HasN (R : D → Prop) : Nat → List D → Prop
  | 0, l => l = []
  | n + 1, l => ∃ y r, l = dcells y ++ r ∧ R y ∧ HasN R n r

/-- Data of a type. -/
def HasT (P : Program) : Nat → TypeId → D → Prop
  | 0, _, _ => False
  | f + 1, t, x => match P.underlying t with
    | some .bool => ∃ b, x = .bool b
    | some (.int k) => ∃ n, x = .int k n ∧ (Lit.int k n).wf = true
    | some .string => ∃ s : ByteArray, x = .str s ∧ s.size ≤ maxLen
    | some (.slice e) => ∃ l, x = .sl l ∧ l.length ≤ maxLen ∧ ∀ y ∈ l, HasT P f e y
    | some (.struct fs) => ∃ l, x = .agg l ∧ HasFs (HasT P f) fs.toList l
    | some (.array n e) => ∃ l, x = .agg l ∧ HasN (HasT P f e) n l
    | _ => False

def tilesC (P : Program) : Nat → List Field → Option Nat
  | o, [] => some o
  | o, f :: r => if f.offset = o then tilesC P (o + P.cellsOf f.type) r else none

def okT (P : Program) : Nat → TypeId → Bool
  | 0, _ => false
  | f + 1, t => match P.underlying t with
    | some .bool => P.cellsOf t == 1
    | some (.int _) => P.cellsOf t == 1
    | some .string => P.cellsOf t == 1
    | some (.slice e) => P.cellsOf t == 1 && decide (1 ≤ P.cellsOf e) && okT P f e
    | some (.struct fs) => fs.toList.all (fun g => okT P f g.type) && tilesC P 0 fs.toList == some (P.cellsOf t)
    | some (.array n e) => okT P f e && P.cellsOf t == n * P.cellsOf e
    | _ => false

theorem mapM_some {α β : Type} {f : α → Option β} : ∀ {xs : List α} {ys : List β}, xs.mapM f = some ys → ys.length = xs.length ∧ ∀ (i : Nat) x, xs[i]? = some x → f x = ys[i]?
  | [], ys, h => by simp at h; subst h; simp
  | x :: r, ys, h => by
    simp only [List.mapM_cons, Option.pure_def, Option.bind_eq_bind, Option.bind_eq_some_iff] at h
    obtain ⟨y, hy, ys', hys, h⟩ := h
    simp at h; subst h
    obtain ⟨h1, h2⟩ := mapM_some hys
    refine ⟨by simp [h1], fun i z hz => ?_⟩
    cases i with
    | zero => simp at hz; subst hz; simpa using hy
    | succ i => simpa using h2 i z (by simpa using hz)

section
variable {H : Type} {enc : TypeId × Value → H} {P : Program} {w : World} {base : Nat} {spare : Nat → Bool} {held : Bool}

/-- All memory that is there. -/
def Zw (w : World) : Nat → Nat → Prop := fun b _ => b < w.heap.size

theorem cells_some {a : Addr} {n : Nat} {cs : List Value} (h : w.cells? base a n = some cs) : cs.length = n ∧ ∀ j, j < n → w.cell? (a.add j) = cs[j]? := by
  unfold World.cells? at h
  split at h
  · obtain ⟨h1, h2⟩ := mapM_some h
    simp at h1
    exact ⟨h1, fun j hj => h2 j j (by simp [hj])⟩
  · cases h

theorem cell_lt {a : Addr} {v : Value} (h : w.cell? a = some v) : a.block < w.heap.size ∧ a.spot = none := by
  unfold World.cell? at h
  split at h
  · rename_i c _ _ hc
    split at h
    · cases h
    · rename_i hs
      exact ⟨(Array.getElem?_eq_some_iff.1 hc).1, by simpa using hs⟩
  · cases h

theorem rows_DCe {b sz : Nat} : ∀ (l : List D) (o : Nat), (∀ i x, l[i]? = some x → ∃ cs : List Value, cs.length = sz ∧ (∀ j, j < sz → b < w.heap.size ∧ w.cell? ⟨b, o + i * sz + j, none⟩ = cs[j]?) ∧ DC w (Zw w) x cs) → DCe w (Zw w) l b o sz
  | [], o, _ => trivial
  | d :: ds, o, h => by
    simp only [DCe]
    obtain ⟨cs, h1, h2, h3⟩ := h 0 d rfl
    refine ⟨⟨cs, h1, fun j hj => ?_, h3⟩, rows_DCe ds (o + sz) fun i x hx => ?_⟩
    · have := h2 j hj
      simpa [Zw] using this
    · obtain ⟨cs, k1, k2, k3⟩ := h (i + 1) x (by simpa using hx)
      refine ⟨cs, k1, fun j hj => ?_, k3⟩
      have := k2 j hj
      rwa [show o + (i + 1) * sz + j = o + sz + i * sz + j by rw [Nat.add_mul]; omega] at this

def ReadAt (P : Program) (enc : TypeId × Value → H) (w : World) (base : Nat) (spare : Nat → Bool) (held : Bool) (f : Nat) (t : TypeId) : Prop :=
  ∀ fuel cs d ps, DataW.trod enc P w base spare held fuel t cs = some (d, ps) → ∃ x, HasT P f t x ∧ DC w (Zw w) x cs ∧ cs.length = P.cellsOf t

theorem read_fields {f : Nat} (ih : ∀ t, okT P f t = true → ReadAt P enc w base spare held f t) {fuel : Nat} {cs : List Value} : ∀ (fs : List Field) (o n : Nat) (xs : List (DataW H × List MemPlace)), fs.all (fun g => okT P f g.type) = true → tilesC P o fs = some n → n ≤ cs.length →
    (fs.mapM fun g => DataW.trod enc P w base spare held fuel g.type ((cs.drop g.offset).take (P.cellsOf g.type))) = some xs → ∃ l, HasFs (HasT P f) fs l ∧ DCs w (Zw w) l ((cs.drop o).take (n - o)) ∧ o ≤ n
  | [], o, n, xs, _, ht, _, _ => by
    simp [tilesC] at ht; subst ht
    exact ⟨[], rfl, by simp [DCs], Nat.le_refl _⟩
  | g :: fs, o, n, xs, ha, ht, hn, h => by
    simp only [List.all_cons, Bool.and_eq_true] at ha
    simp only [tilesC] at ht
    split at ht
    · rename_i ho
      simp only [List.mapM_cons, Option.pure_def, Option.bind_eq_bind, Option.bind_eq_some_iff] at h
      obtain ⟨y, hy, ys, hys, _⟩ := h
      obtain ⟨x, k1, k2, k3⟩ := ih _ ha.1 _ _ _ _ hy
      obtain ⟨l, m1, m2, m3⟩ := read_fields ih fs _ n ys ha.2 ht hn hys
      refine ⟨dcells x ++ l, ⟨x, l, rfl, k1, m1⟩, ?_, by omega⟩
      have := DCs_append _ _ _ _ (DC_dcells k2) m2
      rw [ho] at this
      rw [show (cs.drop o).take (n - o) = (cs.drop o).take (P.cellsOf g.type) ++ (cs.drop (o + P.cellsOf g.type)).take (n - (o + P.cellsOf g.type)) by
        rw [← List.drop_drop, ← List.take_add]
        congr 1
        omega]
      exact this
    · cases ht

theorem read_elems {f : Nat} {e : TypeId} (ih : ReadAt P enc w base spare held f e) {fuel : Nat} {cs : List Value} : ∀ (n o : Nat) (g : Nat → Nat) (xs : List (DataW H × List MemPlace)), (∀ i, g i = o + i) → (o + n) * P.cellsOf e ≤ cs.length →
    ((List.range n).map g).mapM (fun i => DataW.trod enc P w base spare held fuel e ((cs.drop (i * P.cellsOf e)).take (P.cellsOf e))) = some xs → ∃ l, HasN (HasT P f e) n l ∧ DCs w (Zw w) l ((cs.drop (o * P.cellsOf e)).take (n * P.cellsOf e))
  | 0, o, g, xs, _, _, _ => ⟨[], rfl, by simp [DCs]⟩
  | n + 1, o, g, xs, hg, hn, h => by
    rw [List.range_succ_eq_map, List.map_cons, List.map_map] at h
    simp only [List.mapM_cons, Option.pure_def, Option.bind_eq_bind, Option.bind_eq_some_iff] at h
    obtain ⟨y, hy, ys, hys, _⟩ := h
    rw [hg 0, Nat.add_zero] at hy
    obtain ⟨x, k1, k2, k3⟩ := ih _ _ _ _ hy
    obtain ⟨l, m1, m2⟩ := read_elems ih n (o + 1) (g ∘ Nat.succ) ys (fun i => by simp [hg]; omega) (by rw [show o + 1 + n = o + (n + 1) by omega]; exact hn) hys
    refine ⟨dcells x ++ l, ⟨x, l, rfl, k1, m1⟩, ?_⟩
    have := DCs_append _ _ _ _ (DC_dcells k2) m2
    rw [show (cs.drop (o * P.cellsOf e)).take ((n + 1) * P.cellsOf e) = (cs.drop (o * P.cellsOf e)).take (P.cellsOf e) ++ (cs.drop ((o + 1) * P.cellsOf e)).take (n * P.cellsOf e) by
      rw [Nat.add_mul o 1, Nat.one_mul, ← List.drop_drop, ← List.take_add]
      congr 1
      rw [Nat.add_mul, Nat.one_mul]; omega]
    exact this

theorem read_sound : ∀ (f : Nat) (t : TypeId), okT P f t = true → ReadAt P enc w base spare held f t
  | 0, t, h => by simp [okT] at h
  | f + 1, t, h => by
    intro fuel cs d ps ht
    cases fuel with
    | zero => simp [DataW.trod] at ht
    | succ fuel =>
      unfold okT at h
      unfold HasT
      unfold DataW.trod at ht
      cases hu : P.underlying t with
      | none => rw [hu] at h; cases h
      | some dd =>
        rw [hu] at h ht
        simp only at h ht ⊢
        cases dd with
        | bool =>
          simp only at h ht ⊢
          have hc : P.cellsOf t = 1 := by simpa using h
          rcases cs with _ | ⟨c, _ | ⟨c2, r⟩⟩
          · simp at ht
          · cases c <;> simp at ht
            rename_i b
            exact ⟨.bool b, ⟨b, rfl⟩, by simp [DC], by simp [hc]⟩
          · simp at ht
        | int k =>
          simp only at h ht ⊢
          have hc : P.cellsOf t = 1 := by simpa using h
          rcases cs with _ | ⟨c, _ | ⟨c2, r⟩⟩
          · simp at ht
          · cases c <;> simp at ht
            rename_i k' m
            obtain ⟨⟨rfl, hwf⟩, _⟩ := ht
            exact ⟨.int k' m, ⟨m, rfl, hwf⟩, by simp [DC], by simp [hc]⟩
          · simp at ht
        | string =>
          simp only at h ht ⊢
          have hc : P.cellsOf t = 1 := by simpa using h
          rcases cs with _ | ⟨c, _ | ⟨c2, r⟩⟩
          · simp at ht
          · cases c <;> simp at ht
            rename_i b
            exact ⟨.str b, ⟨b, rfl, ht.1⟩, by simp [DC], by simp [hc]⟩
          · simp at ht
        | struct fs =>
          simp only [Bool.and_eq_true, beq_iff_eq] at h
          simp only at ht ⊢
          split at ht
          · rename_i hl
            simp only [Option.map_eq_some_iff] at ht
            obtain ⟨xs, hxs, _⟩ := ht
            obtain ⟨l, k1, k2, _⟩ := read_fields (read_sound f) fs.toList 0 _ xs h.1 h.2 (by omega) hxs
            refine ⟨_, ⟨l, rfl, k1⟩, ?_, hl⟩
            simp only [DC]
            simpa [← hl] using k2
          · cases ht
        | array n e =>
          simp only [Bool.and_eq_true, beq_iff_eq] at h
          simp only at ht ⊢
          split at ht
          · rename_i hl
            simp only [Option.map_eq_some_iff] at ht
            obtain ⟨xs, hxs, _⟩ := ht
            obtain ⟨l, k1, k2⟩ := read_elems (cs := cs) (read_sound f e h.1) n 0 id xs (by simp) (by rw [Nat.zero_add, ← h.2, hl]; exact Nat.le_refl _) (by simpa using hxs)
            refine ⟨_, ⟨l, rfl, k1⟩, ?_, hl⟩
            simp only [DC]
            rw [← h.2, ← hl] at k2
            simpa using k2
          · cases ht
        | slice e =>
          simp only [Bool.and_eq_true, beq_iff_eq, decide_eq_true_eq] at h
          obtain ⟨⟨hc, h1⟩, he⟩ := h
          simp only at ht ⊢
          rcases cs with _ | ⟨c, _ | ⟨c2, r⟩⟩
          · simp at ht
          · cases c with
            | slice a len cap =>
              cases a with
              | none =>
                rcases len with _ | len <;> rcases cap with _ | cap <;> simp at ht
                exact ⟨.sl [], ⟨[], rfl, by simp, by simp⟩, by simp only [DC]; exact ⟨none, 0, 0, rfl, rfl, Nat.le_refl _, fun _ => rfl, fun ad ha => nomatch ha⟩, by simp [hc]⟩
              | some a =>
                simp only at ht
                split at ht
                · rename_i hb
                  simp only [Option.bind_eq_some_iff] at ht
                  obtain ⟨elems, hel, _⟩ := ht
                  obtain ⟨m1, m2⟩ := mapM_some hel
                  simp at m1
                  have get : ∀ i, i < len → ∃ x cs, HasT P f e x ∧ DC w (Zw w) x cs ∧ cs.length = P.cellsOf e ∧ ∀ j, j < P.cellsOf e → w.cell? ((a.add (i * P.cellsOf e)).add j) = cs[j]? := by
                    intro i hi
                    have := m2 i i (by simp [hi])
                    rw [List.getElem?_eq_getElem (by omega)] at this
                    simp only [Option.bind_eq_some_iff] at this
                    obtain ⟨ci, hci, htr⟩ := this
                    obtain ⟨x, k1, k2, k3⟩ := read_sound f e he _ _ elems[i].1 elems[i].2 htr
                    exact ⟨x, ci, k1, k2, k3, (cells_some hci).2⟩
                  have mk : ∀ n, n ≤ len → ∃ l : List D, l.length = n ∧ (∀ y ∈ l, HasT P f e y) ∧ ∀ (i : Nat) x, l[i]? = some x → ∃ cs : List Value, cs.length = P.cellsOf e ∧ (∀ j, j < P.cellsOf e → w.cell? ((a.add (i * P.cellsOf e)).add j) = cs[j]?) ∧ DC w (Zw w) x cs := by
                    intro n
                    induction n with
                    | zero => exact fun _ => ⟨[], rfl, by simp, by simp⟩
                    | succ n ihn =>
                      intro hn
                      obtain ⟨l, q1, q2, q3⟩ := ihn (by omega)
                      obtain ⟨x, ci, k1, k2, k3, k4⟩ := get n (by omega)
                      refine ⟨l ++ [x], by simp [q1], fun y hy => ?_, fun i y hy => ?_⟩
                      · rcases List.mem_append.1 hy with hy | hy
                        · exact q2 y hy
                        · simp at hy; subst hy; exact k1
                      · rcases getElem?_snoc hy with ⟨_, hy⟩ | ⟨hi, rfl⟩
                        · exact q3 i y hy
                        · rw [hi, q1]; exact ⟨ci, k3, k4, k2⟩
                  obtain ⟨l, q1, q2, q3⟩ := mk len (Nat.le_refl _)
                  refine ⟨.sl l, ⟨l, rfl, by omega, q2⟩, ?_, by simp [hc]⟩
                  simp only [DC]
                  have spot : l ≠ [] → a.spot = none := by
                    intro hne
                    obtain ⟨x, hx⟩ : ∃ x, l[0]? = some x := by
                      cases l with
                      | nil => exact absurd rfl hne
                      | cons x r => exact ⟨x, rfl⟩
                    obtain ⟨ci, k1, k2, _⟩ := q3 0 x hx
                    have := k2 0 (by omega)
                    rw [Nat.zero_mul, List.getElem?_eq_getElem (by omega)] at this
                    exact (cell_lt this).2
                  refine ⟨_, len, cap, rfl, q1.symm, hb.2.1, (fun h => nomatch h), fun ad ha => ?_⟩
                  cases ha
                  refine ⟨spot, P.cellsOf e, rows_DCe l a.off fun i x hx => ?_⟩
                  have hsp := spot (fun h => by rw [h] at hx; simp at hx)
                  obtain ⟨ci, k1, k2, k3⟩ := q3 i x hx
                  refine ⟨ci, k1, fun j hj => ?_, k3⟩
                  have := k2 j hj
                  rw [add_eq hsp, add_eq rfl] at this
                  refine ⟨?_, this⟩
                  rw [List.getElem?_eq_getElem (by omega)] at this
                  exact (cell_lt this).1
                · cases ht
            | _ => simp at ht
          · cases c <;> simp at ht
        | _ => simp at h

end
end Go.Aw
end

section
namespace Go.Aw
open Go Go.RowKit

section
variable {P : Program} {w : World}

theorem HR_all (w : World) : HR ⟨Zw w, []⟩ [] w :=
  ⟨rfl, fun _ _ h => h, fun id b x hp => by simp at hp, fun i j b hi => by simp at hi⟩

theorem row_calls {f : FuncId} {vs : List V} {args : Array Value} (h : ACalls P f vs [] (fun r _ => r = .d (.bool true))) (hv : VRs ⟨Zw w, []⟩ [] w vs args.toList) :
    Calls P f args w fun e w' => e = .returned (.bool true) ∧ Below w.heap.size w w' := by
  have := h.2 ⟨Zw w, []⟩ w args.toList (HR_all w) hv
  have key : CallsIn Fence.wide 0 P f args w fun e w' => e = .returned (.bool true) ∧ Below w.heap.size w w' := by
    refine CallsIn.mono (F := Fence.wide) (n := 0) (show CallsIn (FR none) 0 P f args w _ by simpa using this) ?_
    rintro e w' ⟨v, g', r, H', rfl, rfl, k1, k2, k3, k4⟩
    simp only [VR, DR, DC] at k1
    simp at k1; subst k1
    exact ⟨rfl, k3.os, k3.tape, k3.out, k3.size, fun b hb => k3.fr b hb (fun id => by simp)⟩
  exact callsIn_wide.1 key

end
end Go.Aw
end

section
namespace Go.Aw
open Go

def jumpOf : Ex → Option Code
  | .normal => none
  | .exit i => some (.exit i)
  | .ret => some .ret

def goesOn : Ex → Bool
  | .normal => true
  | _ => false

/-- What a pending jump makes of the way on. -/
def exJump : Option Code → Option Ex
  | none => some .normal
  | some (.exit i) => some (.exit i)
  | some .ret => some .ret
  | _ => none

/-- What is asked when the function that was ranged over has come back: the loop is block n. -/
def RngPost (n : Nat) (E : Env) (Q : Ex → Env → Heap → Prop) (H' : Heap) : Prop :=
  match H'[n]? with
  | some (.loop st pend _ _ _ _) => st ≠ .busy ∧ BBq n H' ∧ Som (exJump pend) fun x => Q x E (H'.take n)
  | _ => False

/-- What is asked when a round has ended: the loop is block id, the round began with n blocks. -/
def RoundPost (n id : Nat) (Q : V → Heap → Prop) (x : Ex) (_ : Env) (H' : Heap) : Prop :=
  match H'[id]? with
  | some (.loop _ _ E ps a b) => BBq n (H'.set id (.loop (if goesOn x then .ready else .done) (jumpOf x) E ps a b)) ∧
      Q (.d (.bool (goesOn x))) ((H'.set id (.loop (if goesOn x then .ready else .done) (jumpOf x) E ps a b)).take n)
  | _ => False

def putAll : Env → List Tmp → List V → Env
  | E, t :: ts, v :: vs => putAll ((t, v) :: E) ts vs
  | E, _, _ => E

section
variable {P : Program} {T : Nat → Ty} {N n0 : Nat} {r : Option Nat}

theorem ER_putAll {g : G} {H : Heap} {w : World} : ∀ (ts : List Tmp) (vs : List V) (cs : List Value) (E : Env) (tmps : Array Value), ER g H w E tmps → (∀ t ∈ ts, t < tmps.size) → VRs g H w vs cs →
    ER g H w (putAll E ts vs) ((ts.zip cs).foldl (fun tmps (t, a) => tmps.setIfInBounds t a) tmps)
  | [], vs, cs, E, tmps, he, _, _ => by cases vs <;> simpa [putAll] using he
  | t :: ts, [], cs, E, tmps, he, _, hv => by
    simp only [VRs] at hv; subst hv
    simpa [putAll] using he
  | t :: ts, v :: vs, cs, E, tmps, he, ht, hv => by
    simp only [VRs] at hv
    obtain ⟨c, r, rfl, h1, h2⟩ := hv
    simp only [putAll, List.zip_cons_cons, List.foldl_cons]
    refine ER_putAll ts vs r _ _ ?_ (fun t' ht' => by simpa using ht t' (List.mem_cons_of_mem _ ht')) h2
    have hdl := ht t List.mem_cons_self
    intro t'
    simp only [Env.look]
    by_cases hh : t' = t
    · subst hh
      rw [if_pos rfl, Array.getD_eq_getD_getElem?, Array.getElem?_setIfInBounds_self_of_lt hdl]
      exact h1
    · rw [if_neg (fun e => hh e.symm), Array.getD_eq_getD_getElem?, Array.getElem?_setIfInBounds_ne (fun e => hh e.symm), ← Array.getD_eq_getD_getElem?]
      exact he t'

theorem foldl_size : ∀ (l : List (Tmp × Value)) (tmps : Array Value), (l.foldl (fun tmps (t, a) => tmps.setIfInBounds t a) tmps).size = tmps.size
  | [], _ => rfl
  | (t, a) :: l, tmps => by
    simp only [List.foldl_cons]
    rw [foldl_size l]
    simp

/-- The loop's record turns its state. -/
theorem loop_turn {g : G} {H : Heap} {w : World} (hr : HR g H w) {id b : Nat} (hp : g.φ[id]? = some (some b)) {st : LoopState} {pend : Option Code} {E : Env} {ps : Array Tmp × Nat} {x y : Code}
    (hx : H[id]? = some (.loop st pend E ps x y)) {rec : Loop} (hrec : w.heap[b]? = some (.loop rec)) (st' : LoopState) (pend' : Option Code) :
    HR g (H.set id (.loop st' pend' E ps x y)) (w.putObj b (.loop { rec with state := st', pending := pend' })) ∧ Kp g w g (w.putObj b (.loop { rec with state := st', pending := pend' })) ∧
      Ag g H w g (H.set id (.loop st' pend' E ps x y)) (w.putObj b (.loop { rec with state := st', pending := pend' })) := by
  have hb := hr.lt hp
  obtain ⟨_, _, r', h0, h1, h2, h3, h4, h5, h6⟩ := hr.blk id b _ hp hx
  rw [hrec] at h0; cases h0
  refine set_blk hr hp hx rfl rfl rfl World.putObj_size (o' := .loop { rec with state := st', pending := pend' }) (World.putObj_heap_same hb) (fun k hk => World.putObj_heap_other hk) ⟨rfl, rfl, rfl, rfl⟩ ?_
  intro hz ha
  exact ⟨_, World.putObj_heap_same hb, rfl, rfl, h3, h4, h5, ER_mono h6 hz ha⟩

theorem FR_inRound (b : Nat) : (FR none).inRound b = FR (some b) := rfl

/-- A round, from the body of its loop. -/
theorem AYield.run {id : Nat} {vs : List V} {H : Heap} {Q : V → Heap → Prop} {pend : Option Code} {E : Env} {ps : Array Tmp} {a b : Code}
    (hid : H[id]? = some (.loop .ready pend E (ps, N) a b)) (hlen : vs.length = ps.size) (hps : ps.toList.all (fun t => decide (t < N)) = true)
    (h : AWP P N H.length (some id) a (putAll E ps.toList vs) H (normK fun E1 H1 =>
      ∃ pend' E', H1[id]? = some (.loop .ready pend' E' (ps, N) a b) ∧ AWP P N H.length (some id) b E1 (H1.set id (.loop .busy pend' E' (ps, N) a b)) (RoundPost H.length id Q))) : AYield P id vs H Q := by
  intro g w cvs blk hr hvs hφ
  obtain ⟨hb1, _, rec, h0, h1, h2, ⟨h3, h3'⟩, h4, h5, h6⟩ := hr.blk id blk _ hφ hid
  have hcl := VRs_length _ _ hvs
  have hlt := lt_of_getElem? hid
  refine ⟨_, _, _, _, run_yield h0 (by rw [h3]; simp; omega), ?_⟩
  refine roundIn_of_wpIn (F := FR none) trivial ?_
  rw [FR_inRound, h4, h5]
  have hN : ∀ t ∈ ps.toList, t < rec.tmps.size := by
    intro t ht
    have := List.all_eq_true.1 hps t ht
    rw [h3']
    simpa using this
  have htm : Array.foldl (fun (tmps : Array Value) (t, a) => tmps.setIfInBounds t a) rec.tmps (rec.params.zip cvs.toArray) = (ps.toList.zip cvs).foldl (fun tmps (t, a) => tmps.setIfInBounds t a) rec.tmps := by
    rw [h3, ← Array.foldl_toList]
    simp
  have hER := ER_putAll ps.toList vs cvs E rec.tmps h6 hN hvs
  have hsz : ((ps.toList.zip cvs).foldl (fun (tmps : Array Value) (t, a) => tmps.setIfInBounds t a) rec.tmps).size = N := by rw [foldl_size]; exact h3'
  refine wpIn_mono (h.2.2 g w { tmps := _, defers := [] } (some blk) w.heap.size ⟨hr, by rw [htm]; exact hER, by rw [htm]; exact hsz, ⟨blk, _, _, _, _, _, _, rfl, hφ, hid⟩, ⟨Nat.le_refl _, [], rfl, List.nodup_nil, by simp⟩⟩) ?_
  rintro e a1 w1 ⟨x, E1, H1, g1, rfl, k1, k2, k3, k4⟩
  cases x with
  | exit i => exact k1.elim
  | ret => exact k1.elim
  | normal =>
    obtain ⟨pend', E', m1, m2⟩ := k1
    obtain ⟨b', st', pend'', E'', ps'', x'', y'', q0, q1, q2⟩ := k2.rnd
    cases q0
    obtain ⟨_, _, rec1, p0, p1, p2, p3, p4, p5, p6⟩ := k2.hr.blk id blk _ q1 m1
    obtain ⟨t1, t2, t3⟩ := loop_turn k2.hr q1 m1 p0 .busy pend'
    have hw2 : (w1.putObj blk (.loop { rec1 with state := .busy })) = w1.putObj blk (.loop { rec1 with state := .busy, pending := pend' }) := by rw [← p2]
    refine ⟨_, run_beginRound p0 p1, ?_⟩
    rw [hw2]
    have hag2 : AgN H.length g1 H1 w1 g1 (H1.set id (.loop .busy pend' E' (ps, N) a b)) (w1.putObj blk (.loop { rec1 with state := .busy, pending := pend' })) := AgN.of_ag k4.2.1 t3
    refine wpIn_mono (m2.2.2 g1 _ a1 (some blk) w.heap.size ⟨t1, ER_mono k2.er (k2.hr.zk t2) t3, k2.sz, k2.rnd.agn (fun i hi => by cases hi; exact hlt) hag2, k2.df.kp t2⟩) ?_
    rintro e a2 w2 ⟨x, E2, H2, g2, rfl, j1, j2, j3, j4⟩
    have fin : ∀ (v : Value) (w3 : World), (Instr.endRound blk (jumpOf x)).run P w2 = .ok v w3 → CPost g H w Q (.returned v) w3 := by
      intro v w3 hend
      unfold RoundPost at j1
      split at j1
      · rename_i st2 pend2 E2' ps2 a2' b2' hid2
        obtain ⟨b2, _, _, _, _, _, _, u0, u1, _⟩ := j2.rnd
        cases u0
        obtain ⟨_, _, rec2, v0, v1, v2, v3, v4, v5, v6⟩ := j2.hr.blk id blk _ u1 hid2
        rw [run_endRound (jumpOf x) v0] at hend
        cases hend
        have hst : (if (jumpOf x).isNone = true then LoopState.ready else .done) = (if goesOn x = true then .ready else .done) := by cases x <;> rfl
        have hb : (jumpOf x).isNone = goesOn x := by cases x <;> rfl
        rw [hst, hb]
        obtain ⟨s1, s2, s3⟩ := loop_turn j2.hr u1 hid2 v0 (if goesOn x then .ready else .done) (jumpOf x)
        have hk : Kp g w g2 (w2.putObj blk (.loop { rec2 with state := (if goesOn x = true then LoopState.ready else .done), pending := jumpOf x })) := k3.trans (t2.trans (j3.trans s2))
        have ha : AgN H.length g H w g2 (H2.set id (.loop (if goesOn x then .ready else .done) (jumpOf x) E2' ps2 a2' b2')) (w2.putObj blk (.loop { rec2 with state := (if goesOn x = true then LoopState.ready else .done), pending := jumpOf x })) :=
          k4.trans (hag2.trans (j4.trans (AgN.of_ag j4.2.1 s3)))
        refine ⟨.bool (goesOn x), g2.pub H.length, .d (.bool (goesOn x)), _, rfl, j1.2, by simp [VR, DR, DC], HR_pub s1 ha.2.1 j1.1, hk.pub _, ?_⟩
        have := (ha.pub (Nat.le_refl _) ha.2.1).2.2
        rwa [List.take_length, List.take_take, Nat.min_self] at this
      · exact j1.elim
    obtain ⟨b2, _, _, _, _, _, _, u0, u1, u2⟩ := j2.rnd
    cases u0
    obtain ⟨_, _, rec2, v0, _⟩ := j2.hr.blk id blk _ u1 u2
    cases x with
    | normal => exact ⟨_, _, run_endRound none v0, fin _ _ (run_endRound none v0)⟩
    | exit i => exact ⟨_, _, run_endRound (some (.exit i)) v0, fin _ _ (run_endRound (some (.exit i)) v0)⟩
    | ret => exact ⟨_, _, run_endRound (some .ret) v0, fin _ _ (run_endRound (some .ret) v0)⟩

theorem VBs_fn {n : Nat} {k : FuncId} {x y : List V} : VB n (.fn (.func k) x y) = (VBs n x && VBs n y) := rfl

/-- What is done when the function that was ranged over has come back. -/
theorem rng_back {l : Option Nat} {m0 : Nat} {g g1 : G} {H : Heap} {w w1 : World} {E : Env} {a a' : Act} {Q : Ex → Env → Heap → Prop} {ps : Array Tmp} {x y : Code} {blk : Nat}
    (hn : n0 ≤ H.length) (hrn : ∀ id, r = some id → id < n0) (hrel : Rel N r l m0 g E H a w) (hk1 : Kp g w g1 w1) (ha1 : Ag g H w g1 (H ++ [.loop .ready none E (ps, N) x y]) w1) (hφ1 : g1.φ = g.φ ++ [some blk])
    (ht : a'.tmps = a.tmps) (hdf : DfOK m0 g1 w1 a'.defers) {e : Ending} {w3 : World}
    (h : CPost g1 (H ++ [.loop .ready none E (ps, N) x y]) w1 (fun _ H' => RngPost H.length E Q H') e w3) : rangePost (FR l) 0 P blk (XPost N n0 r l m0 g H w Q) a' e w3 := by
  obtain ⟨v, g', u, H', rfl, h1, h2, h3, h4, h5⟩ := h
  have hH1 : (H ++ [.loop .ready none E (ps, N) x y])[H.length]? = some (.loop .ready none E (ps, N) x y) := by simp
  obtain ⟨⟨st', pend', e1⟩, e2⟩ := h5 H.length _ hH1
  have hφ' : g'.φ[H.length]? = some (some blk) := by rw [e2, hφ1, ← hrel.hr.len]; simp
  obtain ⟨_, _, rec, p0, p1, p2, p3, p4, p5, p6⟩ := h3.blk _ _ _ hφ' e1
  unfold RngPost at h1
  rw [e1] at h1
  obtain ⟨q1, q2, h1⟩ := h1
  obtain ⟨ex, hex, h1⟩ := Som_iff h1
  obtain ⟨t1, t2, t3⟩ := loop_turn h3 hφ' e1 p0 .exhausted pend'
  have hw4 : (w3.putObj blk (.loop { rec with state := .exhausted })) = w3.putObj blk (.loop { rec with state := .exhausted, pending := pend' }) := by rw [← p2]
  have hHn : (H'.set H.length (.loop .exhausted pend' E (ps, N) x y)).take H.length = H'.take H.length := by
    rw [List.take_set_of_le (Nat.le_refl _)]
  have hbb : BBq H.length (H'.set H.length (.loop .exhausted pend' E (ps, N) x y)) := by
    rcases q2 with q2 | q2
    · exact .inl (by simpa using q2)
    · exact .inr (by rw [hHn]; exact q2)
  have hlen : H.length ≤ (H'.set H.length (.loop .exhausted pend' E (ps, N) x y)).length := by
    have := lt_of_getElem? e1
    simp; omega
  have hk : Kp g w g' (w3.putObj blk (.loop { rec with state := .exhausted, pending := pend' })) := hk1.trans (h4.trans t2)
  have ha : Ag g H w g' (H'.set H.length (.loop .exhausted pend' E (ps, N) x y)) (w3.putObj blk (.loop { rec with state := .exhausted, pending := pend' })) := ha1.trans (h5.trans t3)
  have hagn := (AgN.of_ag hn ha).pub hn hlen
  have hrel' : Rel N r l m0 (g'.pub H.length) E (H'.take H.length) a' (w3.putObj blk (.loop { rec with state := .exhausted, pending := pend' })) := by
    refine ⟨?_, ?_, by rw [ht]; exact hrel.sz, ?_, ?_⟩
    · rw [← hHn]; exact HR_pub t1 hlen hbb
    · rw [ht, ← hHn]
      intro t
      refine VB_cut (pub_z _ _) (pub_cut _ _ _) _ _ (VR_VB _ _ (hrel.er t)) (VR_mono (hrel.hr.zk hk) ha _ _ (hrel.er t))
    · rw [← hHn]; exact hrel.rnd.agn hrn hagn
    · have := (hdf.kp h4).kp t2
      obtain ⟨d0, rs, d1, d2, d3⟩ := this
      refine ⟨d0, rs, d1, d2, fun q hq => ⟨(d3 q hq).1, (d3 q hq).2.1, fun id hid => ?_⟩⟩
      simp only [G.pub, List.getElem?_take] at hid
      split at hid
      · exact (d3 q hq).2.2 id hid
      · cases hid
  have hx : XPost N n0 r l m0 g H w Q (exOf ex) a' (w3.putObj blk (.loop { rec with state := .exhausted, pending := pend' })) := by
    rw [hHn] at hagn
    exact ⟨ex, E, H'.take H.length, g'.pub H.length, rfl, h1, hrel', hk.pub _, hagn⟩
  refine ⟨pend', w3.putObj blk (.loop { rec with state := .exhausted, pending := pend' }), by rw [← hw4, ← p2]; exact run_endLoop p0 (by rw [p1]; exact q1), ?_⟩
  unfold exJump at hex
  split at hex
  · cases hex; exact hx
  · cases hex; exact wpIn_exit hx
  · cases hex; exact wpIn_ret hx
  · cases hex

/-- A range over a function. -/
theorem ARng.run {f : Operand} {ps : Array Tmp} {a b : Code} {E : Env} {H : Heap} {Q : Ex → Env → Heap → Prop} {k : FuncId} {x y : List V} (hn : n0 ≤ H.length) (hr : ∀ id, r = some id → id < n0)
    (hf : ge E f = .fn (.func k) x y) (h : ACalls P k (x ++ [.fn (.yield H.length) [] []] ++ y) (H ++ [.loop .ready none E (ps, N) a b]) (fun _ H' => RngPost H.length E Q H')) : ARng P N n0 r (.rangeFunc f ps a b) E H Q := by
  refine ⟨hn, hr, fun g w act l m0 hrel => wpIn_rangeFunc fun fn _ => ?_⟩
  have hfv := ge_sound hrel.er f
  rw [hf] at hfv
  obtain ⟨hb, hc⟩ := h
  -- what the call needs, once the record is laid
  have go : ∀ (w1 : World) (g1 : G) (blk : Nat) (mark : List Deferred), HR g1 (H ++ [.loop .ready none E (ps, N) a b]) w1 → Kp g w g1 w1 → Ag g H w g1 (H ++ [.loop .ready none E (ps, N) a b]) w1 → g1.φ = g.φ ++ [some blk] → DfOK m0 g1 w1 (mark ++ act.defers) →
      (Instr.enterLoop fn act.tmps ps a b (FR l).round).run P w = .ok (blk, mark) w1 →
      ∃ (l' : Nat) (mark : List Deferred) (w₁ : World) (d : Deferred) (w₁' : World) (f' : FuncId) (args : Array Value) (w₂ : World),
      (Instr.enterLoop fn act.tmps ps a b (FR l).round).run P w = .ok (l', mark) w₁ ∧
      (resolve act.eval (rangeCall f l') 0).run P w₁ = .ok d w₁' ∧
      (∀ f', Target.leads P w₁' d.target d.args = some f' → (FR l).fn f') ∧
      (invoke d.target d.args).run P w₁' = .ok (.enter f' args) w₂ ∧
      ((FR l).depth.isSome = true → 1 ≤ 0) ∧
      CallsIn (FR l) (0 - 1) P f' args w₂ (rangePost (FR l) 0 P l' (XPost N n0 r l m0 g H w Q) { act with defers := mark ++ act.defers }) := by
    intro w1 g1 blk mark hr1 hk1 ha1 hφ1 hd1 hent
    have hfv1 := VR_mono (hrel.hr.zk hk1) ha1 _ _ hfv
    simp only [VR] at hfv1
    obtain ⟨x', y', hfe, v1, v2⟩ := hfv1
    refine ⟨blk, mark, w1, { target := .fn (.func k) y', args := x' ++ #[Value.func (.yield blk) #[] #[]] }, w1, k, x' ++ #[Value.func (.yield blk) #[] #[]] ++ y', w1, hent, ?_, fun _ _ => trivial, ?_, by simp [FR, Fence.wide], ?_⟩
    · simp only [resolve, rangeCall, hfe, Deferred.ofValue, Sem.run_pure]
      simp [Act.eval]
    · simp only [invoke]
      exact run_callFunc hb _
    · have hvs : VRs g1 (H ++ [.loop .ready none E (ps, N) a b]) w1 (x ++ [.fn (.yield H.length) [] []] ++ y) (x' ++ #[Value.func (.yield blk) #[] #[]] ++ y').toList := by
        simp only [Array.toList_append]
        refine VRs_append _ _ _ _ (VRs_append _ _ _ _ v1 ?_) v2
        refine ⟨_, _, rfl, ?_, rfl⟩
        simp only [VR]
        exact ⟨trivial, trivial, blk, .ready, none, E, (ps, N), a, b, by simp, by rw [hφ1, ← hrel.hr.len]; simp, rfl⟩
      have := hc g1 w1 _ hr1 hvs
      simp only [Array.toArray_toList] at this
      refine CallsIn.mono (F := FR l) (n := 0) this ?_
      intro e w3 hp
      exact rng_back (a' := { act with defers := mark ++ act.defers }) hn hr hrel hk1 ha1 hφ1 rfl hd1 hp
  cases l with
  | none =>
    have f1 := alloc_frozen hrel.hr (.deferred (some []))
    -- the block for deferred calls
    have hd0 : HR g H (w.alloc (.deferred (some []))) ∧ Kp g w g (w.alloc (.deferred (some []))) ∧ Ag g H w g H (w.alloc (.deferred (some []))) := by
      have hz : Zk g.Z g.Z w (w.alloc (.deferred (some []))) := fun b o z => ⟨z, World.cell?_of_block (w := w) (alloc_heap w _ b (hrel.hr.zlt b o z))⟩
      have ha : Ag g H w g H (w.alloc (.deferred (some []))) := by
        intro id y hy
        cases y with
        | cells cs => exact ⟨⟨cs, hy, rfl⟩, rfl⟩
        | arr sz nl els => exact ⟨nl, els, hy, Nat.le_refl _, fun _ => ⟨rfl, rfl, fun b vs t hb hv => ⟨vs, (alloc_heap w _ b (hrel.hr.lt hb)).trans hv, rfl⟩⟩⟩
        | loop st pend E ps a b => exact ⟨⟨st, pend, hy⟩, rfl⟩
        | obj o => exact ⟨⟨o, hy, rfl⟩, rfl⟩
      refine ⟨⟨hrel.hr.len, fun b o z => by simp; exact Nat.lt_succ_of_lt (hrel.hr.zlt b o z), fun id b y hp hy => ?_, hrel.hr.inj⟩, ⟨rfl, rfl, rfl, by simp, fun b hb _ => alloc_heap w _ b hb, fun _ _ z => z, fun _ _ z => .inl z, fun id b hp => .inl hp⟩, ha⟩
      obtain ⟨b1, b2, b3⟩ := hrel.hr.blk id b y hp hy
      exact ⟨by simp; omega, b2, BR_mono hz ha (alloc_heap w _ b b1) b3⟩
    obtain ⟨d1, d2, d3⟩ := hd0
    have hnew := alloc_blk d1 (.loop { state := .ready, pending := none, fn, tmps := act.tmps, params := ps, assign := a, body := b, defers := w.heap.size }) (.loop .ready none E (ps, N) a b) (by
      intro g' w' hz ha hw hZ
      exact ⟨_, hw, rfl, rfl, ⟨rfl, hrel.sz⟩, rfl, rfl, ER_mono (ER_mono hrel.er (hrel.hr.zk d2) d3) hz ha⟩)
    obtain ⟨n1, n2, n3⟩ := hnew
    refine go _ _ (w.heap.size + 1) [{ target := .collected w.heap.size, args := #[] }] n1 (d2.trans n2) (d3.trans n3) (by simp [World.size_alloc]) ?_ (run_enterLoop_outer fn act.tmps ps a b)
    have := (hrel.df.kp d2).kp n2
    obtain ⟨e0, rs, e1, e2, e3⟩ := this
    refine ⟨e0, w.heap.size :: rs, by rw [e1]; rfl, ?_, fun q hq => ?_⟩
    · refine List.nodup_cons.2 ⟨fun hin => ?_, e2⟩
      obtain ⟨_, rs', e1', _, e3'⟩ := hrel.df
      have hrs : rs = rs' := by
        have := e1.symm.trans e1'
        exact (List.map_inj_right (f := mkMark) (fun p q hpq => by simpa [mkMark] using hpq)).1 this
      subst hrs
      have := (Array.getElem?_eq_some_iff.1 (e3' _ hin).2.1).1
      omega
    · rcases List.mem_cons.1 hq with rfl | hq
      · refine ⟨hrel.df.1, ?_, fun id hid => ?_⟩
        · rw [alloc_heap _ _ _ (by simp)]
          exact World.alloc_heap_new w _
        · rcases getElem?_snoc hid with ⟨_, h'⟩ | ⟨_, h'⟩
          · have := hrel.hr.lt h'; omega
          · simp [World.size_alloc] at h'
      · exact e3 q hq
  | some bl =>
    cases r with
    | none => have := hrel.rnd; simp [Rnd] at this
    | some id0 =>
      obtain ⟨b0, st0, pend0, E0, ps0, x0, y0, q0, q1, q2⟩ := hrel.rnd
      cases q0
      obtain ⟨_, _, rec0, p0, _⟩ := hrel.hr.blk _ _ _ q1 q2
      have hnew := alloc_blk hrel.hr (.loop { state := .ready, pending := none, fn, tmps := act.tmps, params := ps, assign := a, body := b, defers := rec0.defers }) (.loop .ready none E (ps, N) a b) (by
        intro g' w' hz ha hw hZ
        exact ⟨_, hw, rfl, rfl, ⟨rfl, hrel.sz⟩, rfl, rfl, ER_mono hrel.er hz ha⟩)
      obtain ⟨n1, n2, n3⟩ := hnew
      exact go _ _ w.heap.size [] n1 n2 n3 rfl (hrel.df.kp n2) (run_enterLoop_inner p0 fn act.tmps ps a b)

end
end Go.Aw
end

section
namespace Go.Aw
open Go

theorem VB_env {n : Nat} : ∀ {E : Env}, VBs n (E.map Prod.snd) = true → ∀ t, VB n (E.look t) = true
  | [], _, t => rfl
  | (k, v) :: r, h, t => by
    simp only [List.map_cons, VBs, Bool.and_eq_true] at h
    simp only [Env.look]
    split
    · exact h.1
    · exact VB_env h.2 t

theorem BB_loop {n : Nat} {st : LoopState} {pend : Option Code} {E : Env} {ps : Array Tmp × Nat} {a b : Code} (h : VBs n (E.map Prod.snd) = true) : BB n (.loop st pend E ps a b) := VB_env h

theorem BB_loop_iff {n : Nat} {st : LoopState} {pend : Option Code} {E : Env} {ps : Array Tmp × Nat} {a b : Code} (h : VBs n (E.map Prod.snd) = true) : BB n (.loop st pend E ps a b) = True := eq_true (BB_loop h)

section
variable {P : Program} {H X : Heap}

/-- The first blocks only. -/
theorem HR_first {g : G} {w : World} (hr : HR g (H ++ X) w) (hb : ∀ (id : Nat) (x : Blk), H[id]? = some x → BB H.length x) : HR ⟨g.Z, g.φ.take H.length⟩ H w where
  len := by have := hr.len; simp at this ⊢; omega
  zlt := hr.zlt
  inj := fun i j b hi hj => by
    simp only [List.getElem?_take] at hi hj
    split at hi
    · split at hj
      · exact hr.inj i j b hi hj
      · cases hj
    · cases hi
  blk := fun id b x hp hx => by
    have hid := lt_of_getElem? hx
    simp only [List.getElem?_take, if_pos hid] at hp
    have hx' : (H ++ X)[id]? = some x := by rw [List.getElem?_append_left hid]; exact hx
    obtain ⟨h1, h2, h3⟩ := hr.blk id b x hp hx'
    have hc : ∀ id, id < H.length → H[id]? = (H ++ X)[id]? ∧ (g.φ.take H.length)[id]? = g.φ[id]? := fun id hid => ⟨by rw [List.getElem?_append_left hid], List.getElem?_take_of_lt hid⟩
    have hbx := hb id x hx
    refine ⟨h1, h2, ?_⟩
    cases x with
    | cells cs =>
      obtain ⟨vs, t, k1, k2, k3⟩ := h3
      exact ⟨vs, t, k1, VBs_cut (g := g) (H := H ++ X) (g' := ⟨g.Z, g.φ.take H.length⟩) (fun _ _ z => z) hc _ _ hbx k2, k3⟩
    | arr sz nl els => exact h3
    | loop st pend E ps y z =>
      obtain ⟨r, k1, k2, k3, k4, k5, k6, k7⟩ := h3
      exact ⟨r, k1, k2, k3, k4, k5, k6, fun t => VB_cut (g := g) (H := H ++ X) (g' := ⟨g.Z, g.φ.take H.length⟩) (fun _ _ z => z) hc _ _ (hbx t) (k7 t)⟩
    | obj o =>
      cases o with
      | map es => exact h3
      | iter mid m seen =>
        obtain ⟨mb, es, sA, k1, k2, k3, k4⟩ := h3
        obtain ⟨c1, c2⟩ := hc mid hbx
        exact ⟨mb, es, sA, c1.trans k1, c2.trans k2, k3, k4⟩
      | sit s p => exact h3

/-- What comes back: the first blocks as they are now, the others as they were. -/
theorem frame_back {g : G} {w : World} (hr : HR g (H ++ X) w) {g' : G} {H' : Heap} {w' : World} (hl : H'.length = H.length) (hr' : HR g' H' w') (hk : Kp ⟨g.Z, g.φ.take H.length⟩ w g' w') (ha : Ag ⟨g.Z, g.φ.take H.length⟩ H w g' H' w') :
    HR ⟨g'.Z, g'.φ ++ g.φ.drop H.length⟩ (H' ++ X) w' ∧ Kp g w ⟨g'.Z, g'.φ ++ g.φ.drop H.length⟩ w' ∧ Ag g (H ++ X) w ⟨g'.Z, g'.φ ++ g.φ.drop H.length⟩ (H' ++ X) w' := by
  have hφl : g'.φ.length = H.length := by rw [hr'.len, hl]
  have hlo : ∀ id, id < H.length → (g'.φ ++ g.φ.drop H.length)[id]? = g'.φ[id]? ∧ (H' ++ X)[id]? = H'[id]? := fun id hid => ⟨List.getElem?_append_left (by omega), List.getElem?_append_left (by omega)⟩
  have hhi : ∀ id, H.length ≤ id → (g'.φ ++ g.φ.drop H.length)[id]? = g.φ[id]? ∧ (H' ++ X)[id]? = (H ++ X)[id]? := fun id hid => by
    refine ⟨?_, ?_⟩
    · rw [List.getElem?_append_right (by omega), hφl, List.getElem?_drop]
      congr 1; omega
    · rw [List.getElem?_append_right (by omega), List.getElem?_append_right (by omega), hl]
  have htk : ∀ id, id < H.length → (g.φ.take H.length)[id]? = g.φ[id]? := fun id hid => List.getElem?_take_of_lt hid
  have hout : ∀ id b : Nat, H.length ≤ id → g.φ[id]? = some (some b) → ∀ j : Nat, (g.φ.take H.length)[j]? ≠ some (some b) := fun id b hid hp j hj => by
    rw [List.getElem?_take] at hj
    split at hj
    · have := hr.inj _ _ _ hj hp; omega
    · cases hj
  have hfr : ∀ id b : Nat, H.length ≤ id → g.φ[id]? = some (some b) → w'.heap[b]? = w.heap[b]? := fun id b hid hp => hk.fr b (hr.lt hp) (hout id b hid hp)
  have hz : Zk g.Z g'.Z w w' := fun b o z => ⟨hk.z b o z, World.cell?_of_block (w := w) (hk.fr b (hr.zlt b o z) (fun j hj => by
    rw [List.getElem?_take] at hj
    split at hj
    · exact hr.z_fr hj z
    · cases hj))⟩
  have hag : Ag g (H ++ X) w ⟨g'.Z, g'.φ ++ g.φ.drop H.length⟩ (H' ++ X) w' := by
    intro id x hx
    rcases Nat.lt_or_ge id H.length with hid | hid
    · rw [List.getElem?_append_left hid] at hx
      have := ha id x hx
      obtain ⟨e1, e2⟩ := hlo id hid
      have e3 := htk id hid
      cases x with
      | cells cs => exact ⟨by rw [e2]; exact this.1, by show (g'.φ ++ g.φ.drop H.length)[id]? = _; rw [e1, ← e3]; exact this.2⟩
      | arr sz nl els =>
        obtain ⟨nl', els', f1, f2, f3⟩ := this
        refine ⟨nl', els', by rw [e2]; exact f1, f2, fun he => ?_⟩
        obtain ⟨m1, m2, m3⟩ := f3 he
        exact ⟨m1, by show (g'.φ ++ g.φ.drop H.length)[id]? = _; rw [e1, ← e3]; exact m2, fun b vs t hb hw => m3 b vs t (by show (g.φ.take H.length)[id]? = _; rw [e3]; exact hb) hw⟩
      | loop st pend E ps y z => exact ⟨by rw [e2]; exact this.1, by show (g'.φ ++ g.φ.drop H.length)[id]? = _; rw [e1, ← e3]; exact this.2⟩
      | obj o => exact ⟨by rw [e2]; exact this.1, by show (g'.φ ++ g.φ.drop H.length)[id]? = _; rw [e1, ← e3]; exact this.2⟩
    · obtain ⟨e1, e2⟩ := hhi id hid
      cases x with
      | cells cs => exact ⟨⟨cs, e2.trans hx, rfl⟩, e1⟩
      | arr sz nl els => exact ⟨nl, els, e2.trans hx, Nat.le_refl _, fun _ => ⟨rfl, e1, fun b vs t hb hw => ⟨vs, (hfr id b hid hb).trans hw, rfl⟩⟩⟩
      | loop st pend E ps y z => exact ⟨⟨st, pend, e2.trans hx⟩, e1⟩
      | obj o => exact ⟨⟨o, e2.trans hx, rfl⟩, e1⟩
  have hgl : g.φ.length = H.length + X.length := by rw [hr.len]; simp
  have split : ∀ id b : Nat, (g'.φ ++ g.φ.drop H.length)[id]? = some (some b) → (id < H.length ∧ g'.φ[id]? = some (some b)) ∨ (H.length ≤ id ∧ g.φ[id]? = some (some b)) := fun id b h => by
    rcases Nat.lt_or_ge id H.length with hid | hid
    · exact .inl ⟨hid, by rw [← (hlo id hid).1]; exact h⟩
    · exact .inr ⟨hid, by rw [← (hhi id hid).1]; exact h⟩
  have hpn : ∀ id b : Nat, g'.φ[id]? = some (some b) → (id < H.length ∧ g.φ[id]? = some (some b)) ∨ w.heap.size ≤ b := fun id b h => by
    rcases hk.pn id b h with h' | h'
    · simp only [List.getElem?_take] at h'
      split at h'
      · rename_i hlt; exact .inl ⟨hlt, h'⟩
      · cases h'
    · exact .inr h'
  refine ⟨⟨by simp [hr'.len, hl, hgl], hr'.zlt, fun id b x hp hx => ?_, fun i j b hi hj => ?_⟩, ⟨hk.os, hk.tape, hk.out, hk.size, fun b hb hn => hk.fr b hb fun j hj => ?_, hk.z, fun b o z => ?_, fun id b hp => ?_⟩, hag⟩
  · rcases split id b hp with ⟨hid, hp'⟩ | ⟨hid, hp'⟩
    · rw [(hlo id hid).2] at hx
      obtain ⟨h1, h2, h3⟩ := hr'.blk id b x hp' hx
      have hc : ∀ id, id < H'.length → (H' ++ X)[id]? = H'[id]? ∧ (g'.φ ++ g.φ.drop H.length)[id]? = g'.φ[id]? := fun id hid => ⟨(hlo id (by omega)).2, (hlo id (by omega)).1⟩
      refine ⟨h1, h2, ?_⟩
      cases x with
      | cells cs =>
        obtain ⟨vs, t, k1, k2, k3⟩ := h3
        exact ⟨vs, t, k1, VBs_cut (g := g') (g' := ⟨g'.Z, g'.φ ++ g.φ.drop H.length⟩) (fun _ _ z => z) hc _ _ (VRs_VBs _ _ k2) k2, k3⟩
      | arr sz nl els => exact h3
      | loop st pend E ps y z =>
        obtain ⟨r, k1, k2, k3, k4, k5, k6, k7⟩ := h3
        exact ⟨r, k1, k2, k3, k4, k5, k6, fun t => VB_cut (g := g') (g' := ⟨g'.Z, g'.φ ++ g.φ.drop H.length⟩) (fun _ _ z => z) hc _ _ (VR_VB _ _ (k7 t)) (k7 t)⟩
      | obj o =>
        cases o with
        | map es => exact h3
        | iter mid m seen =>
          obtain ⟨mb, es, sA, k1, k2, k3, k4⟩ := h3
          obtain ⟨c1, c2⟩ := hc mid (lt_of_getElem? k1)
          exact ⟨mb, es, sA, c1.trans k1, c2.trans k2, k3, k4⟩
        | sit s p => exact h3
    · rw [(hhi id hid).2] at hx
      obtain ⟨h1, h2, h3⟩ := hr.blk id b x hp' hx
      refine ⟨Nat.lt_of_lt_of_le h1 hk.size, fun o z => ?_, BR_mono (g' := ⟨g'.Z, g'.φ ++ g.φ.drop H.length⟩) hz hag (hfr id b hid hp') h3⟩
      rcases hk.zn b o z with z | z | ⟨j, z⟩
      · exact h2 o z
      · omega
      · exact hout id b hid hp' j z
  · rcases split i b hi with ⟨h1, h2⟩ | ⟨h1, h2⟩ <;> rcases split j b hj with ⟨h3, h4⟩ | ⟨h3, h4⟩
    · exact hr'.inj i j b h2 h4
    · rcases hpn i b h2 with ⟨_, h5⟩ | h5
      · exact hr.inj i j b h5 h4
      · have := hr.lt h4; omega
    · rcases hpn j b h4 with ⟨_, h5⟩ | h5
      · exact hr.inj i j b h2 h5
      · have := hr.lt h2; omega
    · exact hr.inj i j b h2 h4
  · simp only [List.getElem?_take] at hj
    split at hj
    · exact hn j hj
    · cases hj
  · rcases hk.zn b o z with z | z | ⟨id, z⟩
    · exact .inl z
    · exact .inr (.inl z)
    · simp only [List.getElem?_take] at z
      split at z
      · exact .inr (.inr ⟨id, z⟩)
      · cases z
  · rcases split id b hp with ⟨_, h'⟩ | ⟨_, h'⟩
    · rcases hpn id b h' with ⟨_, h5⟩ | h5
      · exact .inl h5
      · exact .inr h5
    · exact .inl h'

theorem vr_first {g : G} {w : World} (hvs : ∀ {v c}, VB H.length v = true → VR g (H ++ X) w v c → VR ⟨g.Z, g.φ.take H.length⟩ H w v c) : ∀ (vs : List V) (cs : List Value), VBs H.length vs = true → VRs g (H ++ X) w vs cs → VRs ⟨g.Z, g.φ.take H.length⟩ H w vs cs
  | [], _, _, h => h
  | v :: r, cs, hb, h => by
    simp only [VBs, Bool.and_eq_true] at hb
    simp only [VRs] at h ⊢
    obtain ⟨c, r', h1, h2, h3⟩ := h
    exact ⟨c, r', h1, hvs hb.1 h2, vr_first hvs r r' hb.2 h3⟩

theorem cpost_frame {g : G} {w : World} (hr : HR g (H ++ X) w) {Q : V → Heap → Prop} (hq : ∀ v H', Q v H' → H'.length = H.length) {e : Ending} {w' : World} (h : CPost ⟨g.Z, g.φ.take H.length⟩ H w Q e w') :
    CPost g (H ++ X) w (fun v H' => ∃ H1, H' = H1 ++ X ∧ Q v H1) e w' := by
  obtain ⟨c, g', r, H', k1, k2, k3, k4, k5, k6⟩ := h
  have hl := hq _ _ k2
  obtain ⟨f1, f2, f3⟩ := frame_back hr hl k4 k5 k6
  refine ⟨c, _, r, H' ++ X, k1, ⟨H', rfl, k2⟩, ?_, f1, f2, f3⟩
  refine VB_cut (g := g') (g' := ⟨g'.Z, g'.φ ++ g.φ.drop H.length⟩) (n := H'.length) (fun _ _ z => z) (fun id hid => ⟨List.getElem?_append_left hid, List.getElem?_append_left (by rw [k4.len]; exact hid)⟩) _ _ (VR_VB _ _ k3) k3

/-- More blocks behind: they are no part of it. -/
theorem ACallV.frame {f : V} {vs : List V} {Q : V → Heap → Prop} (hb : ∀ (id : Nat) (x : Blk), H[id]? = some x → BB H.length x) (hf : VB H.length f = true) (hvs : VBs H.length vs = true) (hq : ∀ v H', Q v H' → H'.length = H.length) (h : ACallV P f vs H Q) :
    ACallV P f vs (H ++ X) (fun v H' => ∃ H1, H' = H1 ++ X ∧ Q v H1) := by
  have cut : ∀ (g : G) (w : World) {v c}, VB H.length v = true → VR g (H ++ X) w v c → VR ⟨g.Z, g.φ.take H.length⟩ H w v c := fun g w v c hv h =>
    VB_cut (g := g) (g' := ⟨g.Z, g.φ.take H.length⟩) (n := H.length) (fun _ _ z => z) (fun id hid => ⟨by rw [List.getElem?_append_left hid], List.getElem?_take_of_lt hid⟩) _ _ hv h
  unfold ACallV at h ⊢
  split at h
  · rename_i k first cap
    simp only [VB, Bool.and_eq_true] at hf
    have hall : VBs H.length (first ++ vs ++ cap) = true := VBs_append (VBs_append hf.1 hvs) hf.2
    refine ⟨h.1, fun g w cvs hr hv => CallsIn.mono (h.2 ⟨g.Z, g.φ.take H.length⟩ w cvs (HR_first hr hb) (vr_first (cut g w) _ _ hall hv)) fun e w' hp => cpost_frame hr hq hp⟩
  · rename_i id
    intro g w cvs b hr hv hφ
    simp only [VB, decide_eq_true_eq] at hf
    obtain ⟨fn, tmps, x, y, h1, h2⟩ := h ⟨g.Z, g.φ.take H.length⟩ w cvs b (HR_first hr hb) (vr_first (cut g w) _ _ hvs hv) (by rw [List.getElem?_take_of_lt hf]; exact hφ)
    exact ⟨fn, tmps, x, y, h1, RoundIn.mono h2 fun e w' hp => cpost_frame hr hq hp⟩
  · exact h.elim

end
end Go.Aw
end

section
namespace Go.Aw
open Go

/-- A walk: one operation next; or either of two. -/
inductive Tr where
  | done
  | one (i : Nat) (t : Tr)
  | two (i : Nat) (s : Tr) (j : Nat) (t : Tr)

def Tr.depth : Tr → Nat
  | .done => 0
  | .one _ t => t.depth + 1
  | .two _ s _ t => max s.depth t.depth + 1

/-- The operations of a list, one after another. -/
def Tr.ones : List Nat → Tr → Tr
  | [], t => t
  | i :: r, t => .one i (Tr.ones r t)

def trOk (cls : Nat → Cl) (ops : Array Oper) : Tr → Array Bool → Bool
  | .done, listed => (Region.ready .any ops listed).isEmpty
  | .one i t, listed => (Region.ready .any ops listed).contains i && freeC cls ops listed i && trOk cls ops t (listed.setIfInBounds i true)
  | .two i s j t, listed => (Region.ready .any ops listed == [i, j]) && trOk cls ops s (listed.setIfInBounds i true) && trOk cls ops t (listed.setIfInBounds j true)

def evTr (P : Program) (T : Nat → Ty) (hint : Nat → Bool) (cls : Nat → Cl) (all : List Oper) (K : Env → Heap → Prop) : Tr → Env → Heap → Prop
  | .done, E, H => K E H
  | .one i t, E, H => Som all[i]? fun o => stepC P T hint all (cls i) o E H fun v H' => evTr P T hint cls all K t (put E o.dst v) H'
  | .two i s j t, E, H => (Som all[i]? fun o => stepC P T hint all (cls i) o E H fun v H' => evTr P T hint cls all K s (put E o.dst v) H') ∧
      (Som all[j]? fun o => stepC P T hint all (cls j) o E H fun v H' => evTr P T hint cls all K t (put E o.dst v) H')

section
variable {P : Program} {T : Nat → Ty} {hint : Nat → Bool} {ops : Array Oper} {cls : Nat → Cl} {N n0 : Nat} {r : Option Nat} {KE : Env → Heap → Prop}

theorem anyA_tree : ∀ (tr : Tr) (f : Nat) (listed : Array Bool) (E : Env) (H : Heap), tr.depth ≤ f → trOk cls ops tr listed = true → evTr P T hint cls ops.toList KE tr E H → AnyA P T hint cls ops KE f listed E H
  | .done, 0, listed, E, H, _, hb, h => ⟨by simpa [trOk] using hb, E, fun _ => rfl, h⟩
  | .done, f + 1, listed, E, H, _, hb, h => by
    have he : Region.ready .any ops listed = [] := by simpa [trOk] using hb
    exact ⟨fun _ => ⟨E, fun _ => rfl, h⟩, fun i hi => by rw [he] at hi; cases hi⟩
  | .one i t, 0, _, _, _, hd, _, _ => by simp [Tr.depth] at hd
  | .two _ _ _ _, 0, _, _, _, hd, _, _ => by simp [Tr.depth] at hd
  | .one i t, f + 1, listed, E, H, hd, hb, h => by
    simp only [Tr.depth] at hd
    simp only [trOk, Bool.and_eq_true] at hb
    obtain ⟨⟨hb1, hb2⟩, hb3⟩ := hb
    simp only [evTr] at h
    obtain ⟨o, ho, h⟩ := Som_iff h
    have ho' : ops[i]? = some o := by rw [← ho]; simp
    obtain ⟨v, H', h1, h2⟩ := stepC_out h
    exact anyA_first ho' f listed E H v H' (fun j oj hj hne hun hno => freeC_spec ho' hb2 j oj hj hne hun hno) (by simpa using hb1) h1 (anyA_tree t f _ _ _ (by omega) hb3 h2)
  | .two i s j t, f + 1, listed, E, H, hd, hb, h => by
    simp only [Tr.depth] at hd
    simp only [trOk, Bool.and_eq_true, beq_iff_eq] at hb
    obtain ⟨⟨hb1, hb2⟩, hb3⟩ := hb
    simp only [evTr] at h
    obtain ⟨hs, ht⟩ := h
    obtain ⟨oi, hoi, hs⟩ := Som_iff hs
    obtain ⟨oj, hoj, ht⟩ := Som_iff ht
    refine ⟨fun he => (by rw [hb1] at he; cases he), fun k hk o ho => ?_⟩
    have ho2 : ops.toList[k]? = some o := by rw [← ho]; simp
    rw [hb1] at hk
    rcases List.mem_cons.1 hk with rfl | hk
    · rw [hoi] at ho2; cases ho2
      obtain ⟨v, H', h1, h2⟩ := stepC_out hs
      exact out_stepC h1 (anyA_tree s f _ _ _ (by omega) hb2 h2)
    · rcases List.mem_cons.1 hk with rfl | hk
      · rw [hoj] at ho2; cases ho2
        obtain ⟨v, H', h1, h2⟩ := stepC_out ht
        exact out_stepC h1 (anyA_tree t f _ _ _ (by omega) hb3 h2)
      · cases hk

/-- A region that draws its order, by a walk that may fork. -/
theorem ADrw.tree (hint : Nat → Bool) (hT : TOK P T) (hm : P.follows .mixedOrders = true) (cls : Nat → Cl) (tr : Tr) {l : List Oper} {E : Env} {H : Heap} {K : Env → Heap → Prop} (hn : n0 ≤ H.length) (hr : ∀ id, r = some id → id < n0)
    (hok : opsOk N l = true) (hd : decide (tr.depth ≤ l.length) = true) (hs : trOk cls l.toArray tr (Array.replicate l.length false) = true) (h : evTr P T hint cls l K tr E H) : ADrw P N n0 r l.toArray E H K := by
  intro i
  refine ⟨hn, hr, fun g w a l' m0 hrel => wpIn_region_any hm ?_⟩
  have hl := anyA_tree (P := P) (T := T) (hint := hint) (ops := l.toArray) (cls := cls) (KE := K) tr l.length (Array.replicate l.length false) E H (by simpa using hd) hs (by simpa using h)
  obtain ⟨hr1, hk1, ha1⟩ := same_heap (g := g) (H := H) (w := w) (w' := { w with drawn := w.drawn + 1 }) rfl rfl rfl rfl hrel.hr
  refine anyA_sound hT (by simpa using hok) (l := l') (g0 := g) (H0 := H) (w0 := w) (a0 := a) (K := K) (fun E' H' a' w' g' hK hr' he hs hd hk ha => ?_) l.length _ E H a { w with drawn := w.drawn + 1 } g hl hr1 (fun t => VR_mono (hrel.hr.zk hk1) ha1 _ _ (hrel.er t)) hrel.sz rfl hk1 ha1
  exact ⟨.normal, E', H', g', rfl, hK, hrel.of_agn hr hr' he hs hd hk (AgN.of_ag hn ha), hk, AgN.of_ag hn ha⟩

variable {E : Env} {H : Heap}

@[go_sem] theorem evTr_done (all : List Oper) : evTr P T hint cls all KE .done E H = KE E H := (Eq.refl _).trans rfl
@[go_sem] theorem evTr_one (all : List Oper) (i : Nat) (t : Tr) : evTr P T hint cls all KE (.one i t) E H = Som all[i]? (fun o => stepC P T hint all (cls i) o E H fun v H' => evTr P T hint cls all KE t (put E o.dst v) H') := (Eq.refl _).trans rfl
@[go_sem] theorem evTr_two (all : List Oper) (i j : Nat) (s t : Tr) : evTr P T hint cls all KE (.two i s j t) E H = (evTr P T hint cls all KE (.one i s) E H ∧ evTr P T hint cls all KE (.one j t) E H) := (Eq.refl _).trans rfl
@[go_sem] theorem Tr_ones_nil (t : Tr) : Tr.ones [] t = t := (Eq.refl _).trans rfl
@[go_sem] theorem Tr_ones_cons (i : Nat) (l : List Nat) (t : Tr) : Tr.ones (i :: l) t = .one i (Tr.ones l t) := (Eq.refl _).trans rfl
@[congr] theorem evTr_congr {all : List Oper} {t t' : Tr} {E' : Env} {H' : Heap} (ht : t = t') (hE : E = E') (hH : H = H') {one : Prop} (ho : (True ∧ True) = one) : evTr P T hint cls all KE t E H = evTr P T hint cls all KE t' E' H' := by
  rw [ht, hE, hH]

end
end Go.Aw
end

section
namespace Go.Aw
open Go

theorem BB_le {m k : Nat} (h : m ≤ k) : ∀ {x : Blk}, BB m x → BB k x
  | .cells _, hb => VBs_le h _ hb
  | .arr _ _ _, _ => trivial
  | .loop _ _ _ _ _ _, hb => fun t => VB_le h _ (hb t)
  | .obj (.map _), _ => trivial
  | .obj (.iter _ _ _), hb => Nat.lt_of_lt_of_le hb h
  | .obj (.sit _ _), _ => trivial

theorem BBs_le {m k : Nat} (h : m ≤ k) : ∀ {l : List Blk}, BBs m l → BBs k l
  | [], _ => trivial
  | _ :: _, hb => ⟨BB_le h hb.1, BBs_le h hb.2⟩

theorem BBs_append {n : Nat} : ∀ {l r : List Blk}, BBs n l → BBs n r → BBs n (l ++ r)
  | [], _, _, h => h
  | _ :: _, _, h1, h2 => ⟨h1.1, BBs_append h1.2 h2⟩

theorem BBs_get {n : Nat} {l : List Blk} (h : BBs n l) (id : Nat) (x : Blk) (hx : l[id]? = some x) : BB n x := BBs_all h x (List.mem_of_getElem? hx)

/-- f hands the items to whatever yield it is given, till that returns false. -/
def Iter (P : Program) (f : V) (items : List (List V)) : Prop :=
  ∀ (yv : V) (n : Nat) (I : List (List V) → Heap → Prop) (Q : V → Heap → Prop), (∃ f x y, yv = .fn f x y) → VB n yv = true → (∀ l H, I l H → H.length = n ∧ BBs n H) →
    (∀ a r H, I (a :: r) H → ACallV P yv a H (fun v H' => (v = .d (.bool true) ∧ I r H') ∨ (v = .d (.bool false) ∧ H'.length = n ∧ BBs n H' ∧ Q (.tup []) H'))) →
    (∀ H, I [] H → Q (.tup []) H) → ∀ H, I items H → ACallV P f [yv] H Q

section
variable {P : Program} {N n0 : Nat} {r : Option Nat}

theorem AYield.of_callV {id : Nat} {vs : List V} {H : Heap} {Q : V → Heap → Prop} (h : AYield P id vs H Q) : ACallV P (.fn (.yield id) [] []) vs H Q := h

/-- What a round must come to. -/
def IterPost (n : Nat) (L' : Blk) (J : Heap → Prop) (Q : Ex → Heap → Prop) (x : Ex) (_ : Env) (H2 : Heap) : Prop :=
  H2[n]? = some L' ∧ BBs n (H2.take n) ∧ match x with
    | .normal => J (H2.take n)
    | x => Q x (H2.take n)

theorem take_take_set {H2 : Heap} {n : Nat} {L : Blk} (h : n < H2.length) : (H2.set n L).take (n + 1) = H2.take n ++ [L] := by
  rw [List.take_succ_eq_append_getElem (by simpa using h), List.take_set_of_le (Nat.le_refl _)]
  simp

/-- A range over such a function. -/
theorem ARng.iter {f : Operand} {ps : Array Tmp} {a b : Code} {E : Env} {H : Heap} {Q : Ex → Env → Heap → Prop} {k : FuncId} {x y : List V} (items : List (List V)) (J : List (List V) → Heap → Prop)
    (hn : n0 ≤ H.length) (hr : ∀ id, r = some id → id < n0) (hf : ge E f = .fn (.func k) x y) (it : Iter P (.fn (.func k) x y) items) (hps : ps.toList.all (fun t => decide (t < N)) = true) (hE : VBs H.length (E.map Prod.snd) = true)
    (hJ : ∀ l Hc, J l Hc → Hc.length = H.length ∧ BBs H.length Hc) (h0 : J items H) (hend : ∀ Hc, J [] Hc → Q .normal E Hc)
    (hlen : ∀ as ∈ items, as.length = ps.size)
    (round : ∀ (L L' : Blk) (as : List V) (rest : List (List V)) (Hc : Heap), as ∈ items → J (as :: rest) Hc → AWP P N (H.length + 1) (some H.length) a (putAll E ps.toList as) (Hc ++ [L]) (normK fun E1 H1 =>
      H1[H.length]? = some L ∧ AWP P N (H.length + 1) (some H.length) b E1 (H1.set H.length L') (IterPost H.length L' (J rest) fun x Hc => Q x E Hc))) : ARng P N n0 r (.rangeFunc f ps a b) E H Q := by
  refine ARng.run hn hr hf ?_
  have hEt : ∀ t, VB (H.length + 1) (E.look t) = true := fun t => VB_le (by omega) _ (VB_env hE t)
  have hEt' : ∀ st pend, BB (H.length + 1) (.loop st pend E (ps, N) a b) := fun st pend => hEt
  have := it (.fn (.yield H.length) [] []) (H.length + 1)
    (fun l H' => (∃ p q, items = p ++ q ∧ q = l) ∧ ∃ Hc, H' = Hc ++ [.loop .ready none E (ps, N) a b] ∧ J l Hc)
    (fun _ H' => RngPost H.length E Q H') ⟨_, _, _, rfl⟩ (by simp [VB]) ?_ ?_ ?_ (H ++ [.loop .ready none E (ps, N) a b]) ⟨⟨[], items, rfl, rfl⟩, H, rfl, h0⟩
  · exact this
  · rintro l H' ⟨_, Hc, rfl, hj⟩
    obtain ⟨h1, h2⟩ := hJ _ _ hj
    exact ⟨by simp [h1], BBs_append (BBs_le (by omega) h2) ⟨hEt' _ _, trivial⟩⟩
  · rintro as rest H' ⟨⟨p, q, hpq, rfl⟩, Hc, rfl, hj⟩
    have hin : as ∈ items := by rw [hpq]; simp
    obtain ⟨h1, h2⟩ := hJ _ _ hj
    have hLl : (Hc ++ [Blk.loop .ready none E (ps, N) a b]).length = H.length + 1 := by simp [h1]
    refine AYield.of_callV (AYield.run (pend := none) (E := E) (ps := ps) (a := a) (b := b) (by rw [← h1]; simp) (hlen as hin) hps ?_)
    rw [hLl]
    refine (round (.loop .ready none E (ps, N) a b) (.loop .busy none E (ps, N) a b) as rest Hc hin hj).mono ?_
    intro x E1 H1 hl1 hx
    cases x with
    | exit i => exact hx
    | ret => exact hx
    | normal =>
      obtain ⟨k1, k2⟩ := hx
      refine ⟨none, E, k1, k2.mono ?_⟩
      intro x E2 H2 hl2 hp
      obtain ⟨m1, m2, m3⟩ := hp
      have hlt := lt_of_getElem? m1
      unfold RoundPost
      rw [m1]
      simp only
      have hm : (H2.take H.length).length = H.length := by simp; omega
      have hts : ∀ L : Blk, (H2.set H.length L).take (H.length + 1) = H2.take H.length ++ [L] := fun L => take_take_set hlt
      refine ⟨.inr (by rw [hts]; exact BBs_append (BBs_le (by omega) m2) ⟨hEt' _ _, trivial⟩), ?_⟩
      rw [hts]
      cases x with
      | normal => exact .inl ⟨rfl, ⟨p ++ [as], rest, by rw [hpq]; simp, rfl⟩, _, rfl, m3⟩
      | exit i =>
        refine .inr ⟨rfl, by simp; omega, BBs_append (BBs_le (by omega) m2) ⟨hEt' _ _, trivial⟩, ?_⟩
        unfold RngPost
        have e : (H2.take H.length ++ [Blk.loop (if goesOn (.exit i) = true then LoopState.ready else .done) (jumpOf (.exit i)) E (ps, N) a b])[H.length]? = some (Blk.loop .done (some (.exit i)) E (ps, N) a b) := by
          rw [List.getElem?_append_right (by omega), hm, Nat.sub_self]; rfl
        rw [e]
        refine ⟨by simp, .inr ?_, ?_⟩
        · rw [List.take_append_of_le_length (by omega), List.take_of_length_le (by omega)]; exact m2
        · rw [List.take_append_of_le_length (by omega), List.take_of_length_le (by omega)]
          exact m3
      | ret =>
        refine .inr ⟨rfl, by simp; omega, BBs_append (BBs_le (by omega) m2) ⟨hEt' _ _, trivial⟩, ?_⟩
        unfold RngPost
        have e : (H2.take H.length ++ [Blk.loop (if goesOn .ret = true then LoopState.ready else .done) (jumpOf .ret) E (ps, N) a b])[H.length]? = some (Blk.loop .done (some .ret) E (ps, N) a b) := by
          rw [List.getElem?_append_right (by omega), hm, Nat.sub_self]; rfl
        rw [e]
        refine ⟨by simp, .inr ?_, ?_⟩
        · rw [List.take_append_of_le_length (by omega), List.take_of_length_le (by omega)]; exact m2
        · rw [List.take_append_of_le_length (by omega), List.take_of_length_le (by omega)]
          exact m3
  · rintro H' ⟨_, Hc, rfl, hj⟩
    obtain ⟨h1, h2⟩ := hJ _ _ hj
    unfold RngPost
    have e : (Hc ++ [Blk.loop .ready none E (ps, N) a b])[H.length]? = some (.loop .ready none E (ps, N) a b) := by
      rw [← h1]; simp
    rw [e]
    refine ⟨by simp, .inr ?_, ?_⟩
    · rw [List.take_append_of_le_length (by omega), List.take_of_length_le (by omega)]; exact h2
    · rw [List.take_append_of_le_length (by omega), List.take_of_length_le (by omega)]
      exact hend _ hj

def EWe (E : Env) : Env → Prop
  | [] => True
  | (k, v) :: r => E.look k = v ∧ EWe E r

/-- Nothing but slots is forgotten. -/
theorem ForgetTo.same {E E' : Env} {H : Heap} (hn : n0 ≤ H.length) (he : EWe E E') : ForgetTo n0 E H E' H := by
  refine ⟨hn, Nat.le_refl _, .inl (Nat.le_refl _), List.take_length, ?_⟩
  induction E' with
  | nil => trivial
  | cons p r ih =>
    obtain ⟨k, v⟩ := p
    exact ⟨.inr (.inl ⟨he.1, Nat.le_refl _⟩), ih he.2⟩

variable {n : Nat} {L' : Blk} {J : Heap → Prop} {Q : Ex → Heap → Prop} {E : Env} {H2 : Heap}

@[go_sem] theorem iterPost_normal : IterPost n L' J Q .normal E H2 = (H2[n]? = some L' ∧ BBs n (H2.take n) ∧ J (H2.take n)) := (Eq.refl _).trans rfl
@[go_sem] theorem iterPost_exit (i : Nat) : IterPost n L' J Q (.exit i) E H2 = (H2[n]? = some L' ∧ BBs n (H2.take n) ∧ Q (.exit i) (H2.take n)) := (Eq.refl _).trans rfl
@[go_sem] theorem iterPost_ret : IterPost n L' J Q .ret E H2 = (H2[n]? = some L' ∧ BBs n (H2.take n) ∧ Q .ret (H2.take n)) := (Eq.refl _).trans rfl
@[congr] theorem iterPost_congr {x x' : Ex} {E' : Env} {H' : Heap} (hx : x = x') (hE : E = E') (hH : H2 = H') {one : Prop} (ho : (True ∧ True) = one) : IterPost n L' J Q x E H2 = IterPost n L' J Q x' E' H' := by
  rw [hx, hE, hH]
@[go_sem] theorem putAll_nil (vs : List V) : putAll E [] vs = E := by cases vs <;> rfl
@[go_sem] theorem putAll_cons (t : Tmp) (ts : List Tmp) (v : V) (vs : List V) : putAll E (t :: ts) (v :: vs) = putAll ((t, v) :: E) ts vs := (Eq.refl _).trans rfl
theorem BB_loop_t {st : LoopState} {pend : Option Code} {ps : Array Tmp × Nat} {a b : Code} (h : VBs n (E.map Prod.snd) = true) : BB n (.loop st pend E ps a b) = True := eq_true (BB_loop h)

end
end Go.Aw
end

section
namespace Go.Aw
open Go

section
variable {P : Program} {T : Nat → Ty} {hint : Nat → Bool} {E : Env} {H : Heap} {K K' : V → Heap → Prop}

theorem evOp_noC {call call' : CallH} {o : Oper} (hnc : ∀ c f, o.op = .call c → c.callee ≠ .value f) (h : evOp T hint call o E H K) : evOp T hint call' o E H K := by
  obtain ⟨d, op, t, p, a, g⟩ := o
  cases op with
  | call c =>
    obtain ⟨ce, xs, ts⟩ := c
    cases ce with
    | value f => exact absurd rfl (hnc _ f rfl)
    | invoke r m => exact h
    | builtin b => exact h
  | makeFunc f x y => cases f <;> exact h
  | makeMap t r => cases r <;> exact h
  | next x b => cases b <;> exact h
  | _ => exact h

theorem evOp_mono {o : Oper} (h : evOp T hint (ACallV P) o E H K) (hk : ∀ v H', K v H' → K' v H') : evOp T hint (ACallV P) o E H K' := by
  by_cases hc : ∃ c f, o.op = .call c ∧ c.callee = .value f
  · obtain ⟨c, f, ho, hf⟩ := hc
    unfold evOp at h ⊢
    rw [ho] at h ⊢
    simp only [evCall, hf] at h ⊢
    exact h.mono hk
  · have hnc : ∀ c f, o.op = .call c → c.callee ≠ .value f := fun c f h1 h2 => hc ⟨c, f, h1, h2⟩
    obtain ⟨v, H', h1, h2⟩ := evOp_lin (false_lin H) o _ (evOp_noC (call' := fun _ _ _ _ => False) hnc h)
    exact evOp_noC hnc (h2 K' (hk _ _ h1))

theorem stepV_mono {all : List Oper} {o : Oper} (h : stepV T hint (ACallV P) all o E H K) (hk : ∀ v H', K v H' → K' v H') : stepV T hint (ACallV P) all o E H K' := by
  unfold stepV at h ⊢
  split at h
  · exact evOp_mono h hk
  · unfold evGo at h ⊢
    split at h
    · rcases Br_iff h with ⟨hb, h⟩ | ⟨hb, h⟩
      · rw [hb]; exact evOp_mono h hk
      · rw [hb]; exact hk _ _ h
    · exact hk _ _ h
    · exact h.elim

def stepG (P : Program) (T : Nat → Ty) (hint : Nat → Bool) (all : List Oper) (c : Option Cl) (o : Oper) (E : Env) (H : Heap) (K : V → Heap → Prop) : Prop :=
  match c with
  | some c => stepC P T hint all c o E H K
  | none => stepV T hint (ACallV P) all o E H K

theorem stepG_mono {all : List Oper} {c : Option Cl} {o : Oper} (h : stepG P T hint all c o E H K) (hk : ∀ v H', K v H' → K' v H') : stepG P T hint all c o E H K' := by
  cases c with
  | none => exact stepV_mono h hk
  | some c =>
    obtain ⟨v, H', h1, h2⟩ := stepC_out h
    exact out_stepC h1 (hk _ _ h2)

end

/-- j waits for i, by so many steps at most. -/
def reach (ops : Array Oper) : Nat → Nat → Nat → Bool
  | 0, _, _ => false
  | f + 1, i, j => match ops[j]? with
    | some o => o.after.any fun e => Region.binds .any e && (e.on == i || reach ops f i e.on)
    | none => false

def Dn (ops : Array Oper) (listed : Array Bool) : Prop :=
  ∀ j, listed.getD j false = true → ∀ oj, ops[j]? = some oj → ∀ e ∈ oj.after, Region.binds .any e = true → listed.getD e.on false = true

section
variable {P : Program} {T : Nat → Ty} {hint : Nat → Bool} {ops : Array Oper} {cls : Nat → Option Cl} {N n0 : Nat} {r : Option Nat} {KE : Env → Heap → Prop}

theorem reach_listed {listed : Array Bool} (hd : Dn ops listed) : ∀ (f i k : Nat), reach ops f i k = true → listed.getD k false = true → listed.getD i false = true
  | 0, _, _, h, _ => by simp [reach] at h
  | f + 1, i, k, h, hk => by
    simp only [reach] at h
    split at h
    · rename_i o ho
      obtain ⟨e, he, h⟩ := Array.any_eq_true'.1 h
      simp only [Bool.and_eq_true, Bool.or_eq_true, beq_iff_eq] at h
      have h1 := hd k hk o ho e he h.1
      rcases h.2 with h2 | h2
      · rw [← h2]; exact h1
      · exact reach_listed hd f i e.on h2 h1
    · cases h

theorem reach_ready {listed : Array Bool} (hd : Dn ops listed) {f i j : Nat} (h : reach ops f i j = true) (hj : j ∈ Region.ready .any ops listed) (hi : listed.getD i true = false) : False := by
  have key : listed.getD i false = true := by
    obtain ⟨_, o, ho, hall⟩ := mem_ready.1 hj
    cases f with
    | zero => simp [reach] at h
    | succ f =>
      simp only [reach, ho] at h
      obtain ⟨e, he, h⟩ := Array.any_eq_true'.1 h
      simp only [Bool.and_eq_true, Bool.or_eq_true, beq_iff_eq] at h
      have h1 := hall e he h.1
      rcases h.2 with h2 | h2
      · rw [← h2]; exact h1
      · exact reach_listed hd f i e.on h2 h1
  rcases Nat.lt_or_ge i listed.size with h' | h'
  · simp [h'] at key hi; rw [key] at hi; cases hi
  · simp [Array.getElem?_eq_none h'] at hi

theorem Dn_set {listed : Array Bool} (hd : Dn ops listed) {i : Nat} (hi : i ∈ Region.ready .any ops listed) : Dn ops (listed.setIfInBounds i true) := by
  intro j hj oj hoj e he hb
  obtain ⟨_, o, ho, hall⟩ := mem_ready.1 hi
  by_cases hij : i = j
  · subst hij
    rw [ho] at hoj; cases hoj
    exact getD_set_true (hall e he hb)
  · rw [getD_set_ne false hij] at hj
    exact getD_set_true (hd j hj oj hoj e he hb)

theorem Dn_none {n : Nat} : Dn ops (Array.replicate n false) := by
  intro j hj
  rw [Array.getD_eq_getD_getElem?, Array.getElem?_replicate] at hj
  split at hj <;> simp at hj

def AnyG (P : Program) (T : Nat → Ty) (hint : Nat → Bool) (cls : Nat → Option Cl) (ops : Array Oper) (K : Env → Heap → Prop) : Nat → Array Bool → Env → Heap → Prop
  | 0, listed, E, H => Region.ready .any ops listed = [] ∧ Kq K E H
  | f + 1, listed, E, H => (Region.ready .any ops listed = [] → Kq K E H) ∧
    ∀ i ∈ Region.ready .any ops listed, ∀ o, ops[i]? = some o → stepG P T hint ops.toList (cls i) o E H fun v H' => AnyG P T hint cls ops K f (listed.setIfInBounds i true) (put E o.dst v) H'

theorem stepG_same {c : Option Cl} {o : Oper} {E E' : Env} {H : Heap} {K : V → Heap → Prop} (h : ∀ t, E.look t = E'.look t) (hs : stepG P T hint ops.toList c o E H K) : stepG P T hint ops.toList c o E' H K := by
  cases c with
  | none =>
    simp only [stepG] at hs ⊢
    rw [← stepV_same (fun t _ => h t)]; exact hs
  | some c =>
    obtain ⟨v, H', h1, h2⟩ := stepC_out hs
    exact out_stepC (outC_same (fun t _ => h t) h1) h2

theorem anyG_same : ∀ (f : Nat) (listed : Array Bool) (E E' : Env) (H : Heap), (∀ t, E.look t = E'.look t) → AnyG P T hint cls ops KE f listed E H → AnyG P T hint cls ops KE f listed E' H
  | 0, _, _, _, _, h, hk => ⟨hk.1, Kq_same h hk.2⟩
  | f + 1, listed, E, E', H, h, hk => by
    refine ⟨fun he => Kq_same h (hk.1 he), fun i hi o ho => ?_⟩
    exact stepG_mono (stepG_same h (hk.2 i hi o ho)) fun v H' hv => anyG_same f _ _ _ _ (put_same h _ _) hv

theorem anyG_first {i : Nat} {oi : Oper} {ci : Cl} (hi : ops[i]? = some oi) (hci : cls i = some ci) : ∀ (fuel : Nat) (listed : Array Bool) (E : Env) (H : Heap) (v : V) (Hi : Heap), Dn ops listed →
      (∀ j oj, ops[j]? = some oj → j ≠ i → listed.getD j true = false → reach ops ops.size i j = false → ∃ cj, cls j = some cj ∧ oi.apart ops oj = true ∧ compat ci cj = true) →
      i ∈ Region.ready .any ops listed → OutC P T hint ops.toList ci oi E H v Hi →
      AnyG P T hint cls ops KE fuel (listed.setIfInBounds i true) (put E oi.dst v) Hi → AnyG P T hint cls ops KE (fuel + 1) listed E H := by
  intro fuel
  induction fuel with
  | zero =>
    intro listed E H v Hi hd _ hr ho h
    refine ⟨fun h => (by rw [h] at hr; cases hr), fun j hj o hoj => ?_⟩
    by_cases hji : j = i
    · subst hji; rw [hi] at hoj; cases hoj
      rw [hci]
      exact out_stepC ho h
    · have := ready_mono hj hji
      rw [h.1] at this
      cases this
  | succ fuel ih =>
    intro listed E H v Hi hd hfree hr ho h
    refine ⟨fun h => (by rw [h] at hr; cases hr), fun j hj oj hoj => ?_⟩
    by_cases hji : j = i
    · subst hji; rw [hi] at hoj; cases hoj
      rw [hci]
      exact out_stepC ho h
    · have hnr : reach ops ops.size i j = false := by
        cases hrr : reach ops ops.size i j with
        | false => rfl
        | true => exact (reach_ready hd hrr hj (mem_ready.1 hr).1).elim
      obtain ⟨hjun, _⟩ := mem_ready.1 hj
      obtain ⟨cj, hcj, hap, hcm⟩ := hfree j oj hoj hji hjun hnr
      have h2 := h.2 j (ready_mono hj hji) oj hoj
      rw [hcj] at h2 ⊢
      obtain ⟨u, Hj, hu, hk⟩ := stepC_out h2
      obtain ⟨Hj', hu', ho'⟩ := out_swap hcm hap ho hu
      have hfree' : ∀ k ok, ops[k]? = some ok → k ≠ i → (listed.setIfInBounds j true).getD k true = false → reach ops ops.size i k = false → ∃ ck, cls k = some ck ∧ oi.apart ops ok = true ∧ compat ci ck = true := fun k ok hk hki hun hno => by
        refine hfree k ok hk hki ?_ hno
        by_cases hjk : j = k
        · subst hjk; exact hjun
        · rw [getD_set_ne true hjk] at hun; exact hun
      refine out_stepC hu' (ih (listed.setIfInBounds j true) _ _ v Hj (Dn_set hd hj) hfree' (ready_mono hr (Ne.symm hji)) ho' ?_)
      rw [Array.setIfInBounds_comm _ _ hji]
      exact anyG_same _ _ _ _ _ (fun t => put_swap (Oper.apart_spec hap).2.1 t) hk

/-- A walk: one operation next; one that stands alone; or either of two. -/
inductive TrG where
  | done
  | one (i : Nat) (t : TrG)
  | only (i : Nat) (t : TrG)
  | two (i : Nat) (s : TrG) (j : Nat) (t : TrG)
  | three (i : Nat) (s : TrG) (j : Nat) (t : TrG) (k : Nat) (u : TrG)
  | four (i : Nat) (s : TrG) (j : Nat) (t : TrG) (k : Nat) (u : TrG) (l : Nat) (v : TrG)

def TrG.depth : TrG → Nat
  | .done => 0
  | .one _ t => t.depth + 1
  | .only _ t => t.depth + 1
  | .two _ s _ t => max s.depth t.depth + 1
  | .three _ s _ t _ u => max s.depth (max t.depth u.depth) + 1
  | .four _ s _ t _ u _ v => max (max s.depth t.depth) (max u.depth v.depth) + 1

def TrG.ones : List Nat → TrG → TrG
  | [], t => t
  | i :: r, t => .one i (TrG.ones r t)

def freeG (cls : Nat → Option Cl) (ops : Array Oper) (listed : Array Bool) (i : Nat) : Bool :=
  match ops[i]?, cls i with
  | some oi, some ci => (List.range ops.size).all fun j => match ops[j]? with
    | some oj => j == i || listed.getD j true || reach ops 1 i j || (match cls j with
      | some cj => oi.apart ops oj && compat ci cj
      | none => false) || reach ops ops.size i j
    | none => true
  | _, _ => false

def trGOk (cls : Nat → Option Cl) (ops : Array Oper) : TrG → Array Bool → Bool
  | .done, listed => (Region.ready .any ops listed).isEmpty
  | .one i t, listed => (Region.ready .any ops listed).contains i && freeG cls ops listed i && trGOk cls ops t (listed.setIfInBounds i true)
  | .only i t, listed => (Region.ready .any ops listed == [i]) && trGOk cls ops t (listed.setIfInBounds i true)
  | .two i s j t, listed => (Region.ready .any ops listed == [i, j]) && trGOk cls ops s (listed.setIfInBounds i true) && trGOk cls ops t (listed.setIfInBounds j true)
  | .three i s j t k u, listed => (Region.ready .any ops listed == [i, j, k]) && trGOk cls ops s (listed.setIfInBounds i true) && trGOk cls ops t (listed.setIfInBounds j true) && trGOk cls ops u (listed.setIfInBounds k true)
  | .four i s j t k u l v, listed => (Region.ready .any ops listed == [i, j, k, l]) && trGOk cls ops s (listed.setIfInBounds i true) && trGOk cls ops t (listed.setIfInBounds j true) && trGOk cls ops u (listed.setIfInBounds k true) && trGOk cls ops v (listed.setIfInBounds l true)

def evTrG (P : Program) (T : Nat → Ty) (hint : Nat → Bool) (cls : Nat → Option Cl) (all : List Oper) (K : Env → Heap → Prop) : TrG → Env → Heap → Prop
  | .done, E, H => K E H
  | .one i t, E, H => Som all[i]? fun o => stepG P T hint all (cls i) o E H fun v H' => evTrG P T hint cls all K t (put E o.dst v) H'
  | .only i t, E, H => Som all[i]? fun o => stepG P T hint all (cls i) o E H fun v H' => evTrG P T hint cls all K t (put E o.dst v) H'
  | .two i s j t, E, H => (Som all[i]? fun o => stepG P T hint all (cls i) o E H fun v H' => evTrG P T hint cls all K s (put E o.dst v) H') ∧
      (Som all[j]? fun o => stepG P T hint all (cls j) o E H fun v H' => evTrG P T hint cls all K t (put E o.dst v) H')
  | .three i s j t k u, E, H => (Som all[i]? fun o => stepG P T hint all (cls i) o E H fun v H' => evTrG P T hint cls all K s (put E o.dst v) H') ∧
      (Som all[j]? fun o => stepG P T hint all (cls j) o E H fun v H' => evTrG P T hint cls all K t (put E o.dst v) H') ∧
      (Som all[k]? fun o => stepG P T hint all (cls k) o E H fun v H' => evTrG P T hint cls all K u (put E o.dst v) H')
  | .four i s j t k u l q, E, H => (Som all[i]? fun o => stepG P T hint all (cls i) o E H fun v H' => evTrG P T hint cls all K s (put E o.dst v) H') ∧
      (Som all[j]? fun o => stepG P T hint all (cls j) o E H fun v H' => evTrG P T hint cls all K t (put E o.dst v) H') ∧
      (Som all[k]? fun o => stepG P T hint all (cls k) o E H fun v H' => evTrG P T hint cls all K u (put E o.dst v) H') ∧
      (Som all[l]? fun o => stepG P T hint all (cls l) o E H fun v H' => evTrG P T hint cls all K q (put E o.dst v) H')

theorem freeG_spec {i : Nat} {oi : Oper} {ci : Cl} {listed : Array Bool} (hi : ops[i]? = some oi) (hci : cls i = some ci) (h : freeG cls ops listed i = true) (j : Nat) (oj : Oper) (hj : ops[j]? = some oj) (hne : j ≠ i) (hun : listed.getD j true = false)
    (hno : reach ops ops.size i j = false) : ∃ cj, cls j = some cj ∧ oi.apart ops oj = true ∧ compat ci cj = true := by
  simp only [freeG, hi, hci, List.all_eq_true, List.mem_range] at h
  have hlt := (Array.getElem?_eq_some_iff.1 hj).1
  have h1 := h j hlt
  have hno1 : reach ops 1 i j = false := by
    cases hr : reach ops 1 i j with
    | false => rfl
    | true =>
      have : reach ops ops.size i j = true := by
        obtain ⟨n, hn⟩ : ∃ n, ops.size = n + 1 := ⟨ops.size - 1, by omega⟩
        rw [hn]
        simp only [reach, hj] at hr ⊢
        obtain ⟨e, he, hh⟩ := Array.any_eq_true'.1 hr
        simp only [Bool.and_eq_true, Bool.or_eq_true, beq_iff_eq, Bool.false_eq_true, or_false] at hh
        exact Array.any_eq_true'.2 ⟨e, he, by simp [hh]⟩
      rw [hno] at this; cases this
  simp only [hj, Bool.or_eq_true, beq_iff_eq, hne, false_or, hun, Bool.false_eq_true, hno, hno1, or_false] at h1
  split at h1
  · rename_i cj hcj
    simp only [Bool.and_eq_true] at h1
    exact ⟨cj, hcj, h1⟩
  · cases h1

theorem anyG_tree : ∀ (tr : TrG) (f : Nat) (listed : Array Bool) (E : Env) (H : Heap), Dn ops listed → tr.depth ≤ f → trGOk cls ops tr listed = true → evTrG P T hint cls ops.toList KE tr E H → AnyG P T hint cls ops KE f listed E H
  | .done, 0, listed, E, H, _, _, hb, h => ⟨by simpa [trGOk] using hb, E, fun _ => rfl, h⟩
  | .done, f + 1, listed, E, H, _, _, hb, h => by
    have he : Region.ready .any ops listed = [] := by simpa [trGOk] using hb
    exact ⟨fun _ => ⟨E, fun _ => rfl, h⟩, fun i hi => by rw [he] at hi; cases hi⟩
  | .one i t, 0, _, _, _, _, hd, _, _ => by simp [TrG.depth] at hd
  | .only i t, 0, _, _, _, _, hd, _, _ => by simp [TrG.depth] at hd
  | .two _ _ _ _, 0, _, _, _, _, hd, _, _ => by simp [TrG.depth] at hd
  | .three _ _ _ _ _ _, 0, _, _, _, _, hd, _, _ => by simp [TrG.depth] at hd
  | .four _ _ _ _ _ _ _ _, 0, _, _, _, _, hd, _, _ => by simp [TrG.depth] at hd
  | .one i t, f + 1, listed, E, H, hdn, hd, hb, h => by
    simp only [TrG.depth] at hd
    simp only [trGOk, Bool.and_eq_true] at hb
    obtain ⟨⟨hb1, hb2⟩, hb3⟩ := hb
    simp only [evTrG] at h
    obtain ⟨o, ho, h⟩ := Som_iff h
    have ho' : ops[i]? = some o := by rw [← ho]; simp
    cases hc : cls i with
    | none => simp [freeG, ho', hc] at hb2
    | some ci =>
      rw [hc] at h
      obtain ⟨v, H', h1, h2⟩ := stepC_out h
      have hri : i ∈ Region.ready .any ops listed := by simpa using hb1
      exact anyG_first ho' hc f listed E H v H' hdn (fun j oj hj hne hun hno => freeG_spec ho' hc hb2 j oj hj hne hun hno) hri h1 (anyG_tree t f _ _ _ (Dn_set hdn hri) (by omega) hb3 h2)
  | .only i t, f + 1, listed, E, H, hdn, hd, hb, h => by
    simp only [TrG.depth] at hd
    simp only [trGOk, Bool.and_eq_true, beq_iff_eq] at hb
    simp only [evTrG] at h
    obtain ⟨oi, hoi, hs⟩ := Som_iff h
    refine ⟨fun he => (by rw [hb.1] at he; cases he), fun k hk o ho => ?_⟩
    have ho2 : ops.toList[k]? = some o := by rw [← ho]; simp
    have hdn' := Dn_set hdn hk
    rw [hb.1] at hk
    obtain rfl : k = i := by simpa using hk
    rw [hoi] at ho2; cases ho2
    exact stepG_mono hs fun v H' hv => anyG_tree t f _ _ _ hdn' (by omega) hb.2 hv
  | .two i s j t, f + 1, listed, E, H, hdn, hd, hb, h => by
    simp only [TrG.depth] at hd
    simp only [trGOk, Bool.and_eq_true, beq_iff_eq] at hb
    obtain ⟨⟨hb1, hb2⟩, hb3⟩ := hb
    simp only [evTrG] at h
    obtain ⟨hs, ht⟩ := h
    obtain ⟨oi, hoi, hs⟩ := Som_iff hs
    obtain ⟨oj, hoj, ht⟩ := Som_iff ht
    refine ⟨fun he => (by rw [hb1] at he; cases he), fun k hk o ho => ?_⟩
    have ho2 : ops.toList[k]? = some o := by rw [← ho]; simp
    have hdn' := Dn_set hdn hk
    rw [hb1] at hk
    rcases List.mem_cons.1 hk with rfl | hk
    · rw [hoi] at ho2; cases ho2
      exact stepG_mono hs fun v H' hv => anyG_tree s f _ _ _ hdn' (by omega) hb2 hv
    · rcases List.mem_cons.1 hk with rfl | hk
      · rw [hoj] at ho2; cases ho2
        exact stepG_mono ht fun v H' hv => anyG_tree t f _ _ _ hdn' (by omega) hb3 hv
      · cases hk
  | .three i s j t k u, f + 1, listed, E, H, hdn, hd, hb, h => by
    simp only [TrG.depth] at hd
    simp only [trGOk, Bool.and_eq_true, beq_iff_eq] at hb
    obtain ⟨⟨⟨hb1, hb2⟩, hb3⟩, hb4⟩ := hb
    simp only [evTrG] at h
    obtain ⟨hs, ht, hu⟩ := h
    obtain ⟨oi, hoi, hs⟩ := Som_iff hs
    obtain ⟨oj, hoj, ht⟩ := Som_iff ht
    obtain ⟨ok, hok, hu⟩ := Som_iff hu
    refine ⟨fun he => (by rw [hb1] at he; cases he), fun q hk o ho => ?_⟩
    have ho2 : ops.toList[q]? = some o := by rw [← ho]; simp
    have hdn' := Dn_set hdn hk
    rw [hb1] at hk
    rcases List.mem_cons.1 hk with rfl | hk
    · rw [hoi] at ho2; cases ho2
      exact stepG_mono hs fun v H' hv => anyG_tree s f _ _ _ hdn' (by omega) hb2 hv
    · rcases List.mem_cons.1 hk with rfl | hk
      · rw [hoj] at ho2; cases ho2
        exact stepG_mono ht fun v H' hv => anyG_tree t f _ _ _ hdn' (by omega) hb3 hv
      · rcases List.mem_cons.1 hk with rfl | hk
        · rw [hok] at ho2; cases ho2
          exact stepG_mono hu fun v H' hv => anyG_tree u f _ _ _ hdn' (by omega) hb4 hv
        · cases hk
  | .four i s j t k u l q, f + 1, listed, E, H, hdn, hd, hb, h => by
    simp only [TrG.depth] at hd
    simp only [trGOk, Bool.and_eq_true, beq_iff_eq] at hb
    obtain ⟨⟨⟨⟨hb1, hb2⟩, hb3⟩, hb4⟩, hb5⟩ := hb
    simp only [evTrG] at h
    obtain ⟨hs, ht, hu, hv⟩ := h
    obtain ⟨oi, hoi, hs⟩ := Som_iff hs
    obtain ⟨oj, hoj, ht⟩ := Som_iff ht
    obtain ⟨ok, hok, hu⟩ := Som_iff hu
    obtain ⟨ol, hol, hv⟩ := Som_iff hv
    refine ⟨fun he => (by rw [hb1] at he; cases he), fun m hk o ho => ?_⟩
    have ho2 : ops.toList[m]? = some o := by rw [← ho]; simp
    have hdn' := Dn_set hdn hk
    rw [hb1] at hk
    rcases List.mem_cons.1 hk with rfl | hk
    · rw [hoi] at ho2; cases ho2
      exact stepG_mono hs fun v H' hv => anyG_tree s f _ _ _ hdn' (by omega) hb2 hv
    · rcases List.mem_cons.1 hk with rfl | hk
      · rw [hoj] at ho2; cases ho2
        exact stepG_mono ht fun v H' hv => anyG_tree t f _ _ _ hdn' (by omega) hb3 hv
      · rcases List.mem_cons.1 hk with rfl | hk
        · rw [hok] at ho2; cases ho2
          exact stepG_mono hu fun v H' hv => anyG_tree u f _ _ _ hdn' (by omega) hb4 hv
        · rcases List.mem_cons.1 hk with rfl | hk
          · rw [hol] at ho2; cases ho2
            exact stepG_mono hv fun v H' hv => anyG_tree q f _ _ _ hdn' (by omega) hb5 hv
          · cases hk

theorem anyG_sound (hT : TOK P T) (hok : opsOk N ops.toList = true) {l : Option Nat} {g0 : G} {H0 : Heap} {w0 : World} {a0 : Act} {K : Env → Heap → Prop} {Q : Exit → Act → World → Prop}
    (hQ : ∀ E' H' a' w' g', K E' H' → HR g' H' w' → ER g' H' w' E' a'.tmps → a'.tmps.size = N → a'.defers = a0.defers → Kp g0 w0 g' w' → Ag g0 H0 w0 g' H' w' → Q .normal a' w') :
    ∀ (fuel : Nat) (listed : Array Bool) (E : Env) (H : Heap) (a : Act) (w : World) (g : G), AnyG P T hint cls ops K fuel listed E H → HR g H w → ER g H w E a.tmps → a.tmps.size = N → a.defers = a0.defers → Kp g0 w0 g w → Ag g0 H0 w0 g H w →
      wpAnyIn (FR l) 0 P .any ops Q fuel listed a w := by
  have fin : ∀ (E : Env) (H : Heap) (a : Act) (w : World) (g : G), Kq K E H → HR g H w → ER g H w E a.tmps → a.tmps.size = N → a.defers = a0.defers → Kp g0 w0 g w → Ag g0 H0 w0 g H w → Q .normal a w := by
    rintro E H a w g ⟨E0, h1, h2⟩ hr he hs hd hk ha
    exact hQ E0 H a w g h2 hr (fun t => by rw [← h1 t]; exact he t) hs hd hk ha
  intro fuel
  induction fuel with
  | zero =>
    intro listed E H a w g h hr he hs hd hk ha
    exact ⟨h.1, fin E H a w g h.2 hr he hs hd hk ha⟩
  | succ fuel ih =>
    intro listed E H a w g h hr he hs hd hk ha
    refine ⟨fun hem => fin E H a w g (h.1 hem) hr he hs hd hk ha, fun i hi => ?_⟩
    obtain ⟨_, o, ho, _⟩ := mem_ready.1 hi
    have hst := h.2 i hi o ho
    have hst' : stepV T hint (ACallV P) ops.toList o E H fun v H' => AnyG P T hint cls ops K fuel (listed.setIfInBounds i true) (put E o.dst v) H' := by
      cases hc : cls i with
      | none => rw [hc] at hst; exact hst
      | some c => rw [hc] at hst; exact stepC_V hst
    refine step_sound hT hok ho hr he hs hst' ?_
    intro v H' cv w' g' hK hv hr' hk' ha' he'
    exact ih _ _ _ _ _ _ hK hr' he' (by rw [put_size]; exact hs) (by rw [put_defers]; exact hd) (hk.trans hk') (ha.trans ha')

/-- A region that draws its order, by a walk. -/
theorem ADrw.treeG (hint : Nat → Bool) (hT : TOK P T) (hm : P.follows .mixedOrders = true) (cls : Nat → Option Cl) (tr : TrG) {l : List Oper} {E : Env} {H : Heap} {K : Env → Heap → Prop} (hn : n0 ≤ H.length) (hr : ∀ id, r = some id → id < n0)
    (hok : opsOk N l = true) (hd : decide (tr.depth ≤ l.length) = true) (hs : trGOk cls l.toArray tr (Array.replicate l.length false) = true) (h : evTrG P T hint cls l K tr E H) : ADrw P N n0 r l.toArray E H K := by
  intro i
  refine ⟨hn, hr, fun g w a l' m0 hrel => wpIn_region_any hm ?_⟩
  have hl := anyG_tree (P := P) (T := T) (hint := hint) (ops := l.toArray) (cls := cls) (KE := K) tr l.length (Array.replicate l.length false) E H Dn_none (by simpa using hd) hs (by simpa using h)
  obtain ⟨hr1, hk1, ha1⟩ := same_heap (g := g) (H := H) (w := w) (w' := { w with drawn := w.drawn + 1 }) rfl rfl rfl rfl hrel.hr
  refine anyG_sound hT (by simpa using hok) (l := l') (g0 := g) (H0 := H) (w0 := w) (a0 := a) (K := K) (fun E' H' a' w' g' hK hr' he hs hd hk ha => ?_) l.length _ E H a { w with drawn := w.drawn + 1 } g hl hr1 (fun t => VR_mono (hrel.hr.zk hk1) ha1 _ _ (hrel.er t)) hrel.sz rfl hk1 ha1
  exact ⟨.normal, E', H', g', rfl, hK, hrel.of_agn hr hr' he hs hd hk (AgN.of_ag hn ha), hk, AgN.of_ag hn ha⟩

variable {E : Env} {H : Heap} {K : V → Heap → Prop}

@[go_sem] theorem evTrG_done (all : List Oper) : evTrG P T hint cls all KE .done E H = KE E H := (Eq.refl _).trans rfl
@[go_sem] theorem evTrG_one (all : List Oper) (i : Nat) (t : TrG) : evTrG P T hint cls all KE (.one i t) E H = Som all[i]? (fun o => stepG P T hint all (cls i) o E H fun v H' => evTrG P T hint cls all KE t (put E o.dst v) H') := (Eq.refl _).trans rfl
@[go_sem] theorem evTrG_only (all : List Oper) (i : Nat) (t : TrG) : evTrG P T hint cls all KE (.only i t) E H = Som all[i]? (fun o => stepG P T hint all (cls i) o E H fun v H' => evTrG P T hint cls all KE t (put E o.dst v) H') := (Eq.refl _).trans rfl
@[go_sem] theorem evTrG_two (all : List Oper) (i j : Nat) (s t : TrG) : evTrG P T hint cls all KE (.two i s j t) E H = (evTrG P T hint cls all KE (.one i s) E H ∧ evTrG P T hint cls all KE (.one j t) E H) := (Eq.refl _).trans rfl
@[go_sem] theorem evTrG_three (all : List Oper) (i j k : Nat) (s t u : TrG) : evTrG P T hint cls all KE (.three i s j t k u) E H = (evTrG P T hint cls all KE (.one i s) E H ∧ evTrG P T hint cls all KE (.one j t) E H ∧ evTrG P T hint cls all KE (.one k u) E H) := (Eq.refl _).trans rfl
@[go_sem] theorem evTrG_four (all : List Oper) (i j k l : Nat) (s t u q : TrG) : evTrG P T hint cls all KE (.four i s j t k u l q) E H = (evTrG P T hint cls all KE (.one i s) E H ∧ evTrG P T hint cls all KE (.one j t) E H ∧ evTrG P T hint cls all KE (.one k u) E H ∧ evTrG P T hint cls all KE (.one l q) E H) := (Eq.refl _).trans rfl
@[go_sem] theorem TrG_ones_nil (t : TrG) : TrG.ones [] t = t := (Eq.refl _).trans rfl
@[go_sem] theorem TrG_ones_cons (i : Nat) (l : List Nat) (t : TrG) : TrG.ones (i :: l) t = .one i (TrG.ones l t) := (Eq.refl _).trans rfl
@[go_sem] theorem stepG_some (all : List Oper) (c : Cl) (o : Oper) : stepG P T hint all (some c) o E H K = stepC P T hint all c o E H K := (Eq.refl _).trans rfl
@[go_sem] theorem stepG_none (all : List Oper) (o : Oper) : stepG P T hint all none o E H K = stepV T hint (ACallV P) all o E H K := (Eq.refl _).trans rfl
@[congr] theorem evTrG_congr {all : List Oper} {t t' : TrG} {E' : Env} {H' : Heap} (ht : t = t') (hE : E = E') (hH : H = H') {one : Prop} (ho : (True ∧ True) = one) : evTrG P T hint cls all KE t E H = evTrG P T hint cls all KE t' E' H' := by
  rw [ht, hE, hH]
@[congr] theorem stepG_congr {all : List Oper} {c c' : Option Cl} {o : Oper} {E' : Env} {H' : Heap} (hc : c = c') (hE : E = E') (hH : H = H') {one : Prop} (ho : (True ∧ True) = one) : stepG P T hint all c o E H K = stepG P T hint all c' o E' H' K := by
  rw [hc, hE, hH]

end
end Go.Aw
end

section
namespace Go.Aw
open Go

/-- What of a body is left after so many parts. -/
def restC : Nat → Code → Code
  | 0, c => c
  | n + 1, .seq _ d => restC n d
  | _, c => c

def bodyOf (fn : Func) : Code :=
  match fn.body with
  | some c => c
  | none => .skip

section
variable {P : Program} {T : Nat → Ty} {N n0 : Nat} {r : Option Nat}

theorem PC.of_body (hT : TOK P T) {f : FuncId} {fn : Func} {c : Code} {N : Nat} {rs : List ResultVar} {vs : List V} {v : V} (hf : P.funcs[f]? = some fn) (hb : fn.body = some c) (hN : fn.ntmps = N) (hrs : fn.results.toList = rs)
    (hnm : (fn.name == "runtime.NumGoroutine") = false) (hlen : decide (vs.length ≤ N) = true) (h : AWP P N 0 none c (envOf 0 vs) [] (FnPost T rs 0 fun r H' => H' = [] ∧ r = v)) : PC P f vs v := by
  subst hN; subst hrs
  exact ACalls.of_body hT hf hb hnm (by simpa using hlen) h

/-- One part; then, with what is still of use, the rest. -/
theorem AWP.step (E1 : Env) (H1 : Heap) (hint : Nat → Bool) (hT : TOK P T) {c d : Code} {E : Env} {H : Heap} {Q : Ex → Env → Heap → Prop} (hr : ∀ id, r = some id → id < n0) (hn : n0 ≤ H.length) (hok : cOk N c = true)
    (h1 : ev T hint (ACallV P) (ALoop P N n0 r) (ARng P N n0 r) (ADrw P N n0 r) c E H (thenEx (fun E' H' => ForgetTo n0 E' H' E1 H1) Q)) (h2 : AWP P N n0 r d E1 H1 Q) : AWP P N n0 r (.seq c d) E H Q :=
  .seq (.run hint hT hr hn hok h1) fun _ _ hl hf => .of_cut hl (hf.cut h2)

end
end Go.Aw
end

section
namespace Go.Aw
open Go Go.RowKit Go.WideShapes

section
variable {P : Program} {W : World} {base : Nat} {H : Type} {enc : TypeId × Value → H}

theorem arg_read {f : Nat} {t : TypeId} {v : Value} {d : DataW H} {p : List MemPlace} (hok : okT P f t = true) (hv : Value.okWide P W .any base t v) (h : DataW.Trod enc P W 0 (fun _ => true) true t v d p) : ∃ x, HasT P f t x ∧ DR W (Zw W) x v := by
  obtain ⟨fuel, h⟩ := h
  obtain ⟨x, h1, h2, h3⟩ := read_sound f t hok fuel _ d p h
  refine ⟨x, h1, ?_⟩
  cases f with
  | zero => exact h1.elim
  | succ f =>
    simp only [HasT] at h1
    cases hu : P.underlying t with
    | none => rw [hu] at h1; exact h1.elim
    | some ty =>
      rw [hu] at h1
      unfold Value.okWide at hv
      rw [hu] at hv
      cases ty with
      | bool =>
        obtain ⟨b, rfl⟩ := h1
        simp only [DR, DC] at h2 ⊢
        cases v <;> simp_all [Value.cells, Cell.okWide, Cell.ok]
      | int k =>
        obtain ⟨n, rfl, _⟩ := h1
        simp only [DR, DC] at h2 ⊢
        cases v <;> simp_all [Value.cells, Cell.okWide, Cell.ok]
      | string =>
        obtain ⟨s, rfl, _⟩ := h1
        simp only [DR, DC] at h2 ⊢
        cases v <;> simp_all [Value.cells, Cell.okWide, Cell.ok]
      | slice e =>
        obtain ⟨l, rfl, _⟩ := h1
        obtain ⟨a, len, cap, rfl⟩ : ∃ a len cap, v = .slice a len cap := by
          cases v <;> simp_all [Cell.okWide, Cell.ok]
        simpa only [DR, Value.cells] using h2
      | struct fs =>
        obtain ⟨l, rfl, _⟩ := h1
        obtain ⟨cs, rfl, _⟩ := hv
        exact ⟨cs, rfl, by simpa only [DC, Value.cells] using h2⟩
      | array n e =>
        obtain ⟨l, rfl, _⟩ := h1
        obtain ⟨cs, rfl, _⟩ := hv
        exact ⟨cs, rfl, by simpa only [DC, Value.cells] using h2⟩
      | _ => exact h1.elim

end
end Go.Aw
end

section
namespace Go.Aw
open Go

/-- The part of a code at a path: 0 and 1 are the first and the second part. -/
def cdC : List Nat → Code → Code
  | [], c => c
  | 0 :: p, .seq a _ => cdC p a
  | _ :: p, .seq _ b => cdC p b
  | 0 :: p, .cond _ a _ => cdC p a
  | _ :: p, .cond _ _ b => cdC p b
  | _ :: p, .block _ c => cdC p c
  | _ :: p, .loop c => cdC p c
  | 0 :: p, .rangeFunc _ _ a _ => cdC p a
  | _ :: p, .rangeFunc _ _ _ b => cdC p b
  | _, c => c

section
variable {P : Program} {T : Nat → Ty} {N n0 : Nat} {r : Option Nat}

/-- As AWP.run; the code is one that can be looked into. -/
theorem AWP.runS (hint : Nat → Bool) (hT : TOK P T) {c d : Code} {E : Env} {H : Heap} {Q : Ex → Env → Heap → Prop} (hr : ∀ id, r = some id → id < n0) (hn : n0 ≤ H.length) (hok : cOk N (.seq c d) = true)
    (h : ev T hint (ACallV P) (ALoop P N n0 r) (ARng P N n0 r) (ADrw P N n0 r) (.seq c d) E H Q) : AWP P N n0 r (.seq c d) E H Q := .run hint hT hr hn hok h

/-- The first parts of a body, one after another; then K. -/
def evPre (T : Nat → Ty) (hint : Nat → Bool) (call : CallH) (loop rng : LoopH) (drw : DrawH) (K : Env → Heap → Prop) (Q : Ex → Env → Heap → Prop) : Nat → Code → Env → Heap → Prop
  | 0, _, E, H => K E H
  | n + 1, .seq a b, E, H => ev T hint call loop rng drw a E H (thenEx (fun E' H' => evPre T hint call loop rng drw K Q n b E' H') Q)
  | _ + 1, _, _, _ => False

section
variable {hint : Nat → Bool} {call : CallH} {loop rng : LoopH} {drw : DrawH} {K : Env → Heap → Prop} {Q : Ex → Env → Heap → Prop} {E : Env} {H : Heap}
@[go_sem] theorem evPre_zero (c : Code) : evPre T hint call loop rng drw K Q 0 c E H = K E H := by cases c <;> rfl
@[go_sem] theorem evPre_succ (n : Nat) (a b : Code) : evPre T hint call loop rng drw K Q (n + 1) (.seq a b) E H = ev T hint call loop rng drw a E H (thenEx (fun E' H' => evPre T hint call loop rng drw K Q n b E' H') Q) := (Eq.refl _).trans rfl
@[congr] theorem evPre_congr {n n' : Nat} {c : Code} {E' : Env} {H' : Heap} (hn : n = n') (hE : E = E') (hH : H = H') {one : Prop} (ho : (True ∧ True) = one) : evPre T hint call loop rng drw K Q n c E H = evPre T hint call loop rng drw K Q n' c E' H' := by
  rw [hn, hE, hH]
end

theorem AWP.pre (hint : Nat → Bool) (hT : TOK P T) {Q : Ex → Env → Heap → Prop} {K : Env → Heap → Prop} (hr : ∀ id, r = some id → id < n0) : ∀ (n : Nat) (c : Code) (E : Env) (H : Heap), n0 ≤ H.length → cOk N c = true →
    evPre T hint (ACallV P) (ALoop P N n0 r) (ARng P N n0 r) (ADrw P N n0 r) K Q n c E H → (∀ E' H', n0 ≤ H'.length → K E' H' → AWP P N n0 r (restC n c) E' H' Q) → AWP P N n0 r c E H Q
  | 0, c, E, H, hn, _, h, hk => by
    rw [evPre_zero] at h
    exact hk E H hn h
  | n + 1, c, E, H, hn, hok, h, hk => by
    cases c with
    | seq a b =>
      rw [evPre_succ] at h
      have hab : cOk N a = true ∧ cOk N b = true := by simpa [cOk] using hok
      exact .seq (.run hint hT hr hn hab.1 h) fun E' H' hl hf => AWP.pre hint hT hr n b E' H' hl hab.2 hf hk
    | _ => exact h.elim

/-- Some parts; then, with what is still of use, the rest. -/
theorem AWP.stepN (n : Nat) (E1 : Env) (H1 : Heap) (hint : Nat → Bool) (hT : TOK P T) {c d : Code} {E : Env} {H : Heap} {Q : Ex → Env → Heap → Prop} (hr : ∀ id, r = some id → id < n0) (hn : n0 ≤ H.length) (hok : cOk N (.seq c d) = true)
    (h1 : evPre T hint (ACallV P) (ALoop P N n0 r) (ARng P N n0 r) (ADrw P N n0 r) (fun E' H' => ForgetTo n0 E' H' E1 H1) Q n (.seq c d) E H) (h2 : AWP P N n0 r (restC n (.seq c d)) E1 H1 Q) : AWP P N n0 r (.seq c d) E H Q :=
  .pre hint hT hr n _ E H hn hok h1 fun _ _ hl hf => .of_cut hl (hf.cut h2)

end
end Go.Aw
end

section
namespace Go.Aw
open Go

section
variable {P : Program} {N n0 : Nat} {r : Option Nat}

theorem VRs_set {g : G} {H : Heap} {w : World} : ∀ (cs : List V) (vs : List Value) (off : Nat) (v : V), VRs g H w cs vs → (∀ c, vs[off]? = some c → VR g H w v c) → VRs g H w (cs.set off v) vs
  | [], vs, off, v, h, _ => by simpa using h
  | x :: r, vs, off, v, h, hv => by
    simp only [VRs] at h
    obtain ⟨c, r', rfl, h1, h2⟩ := h
    cases off with
    | zero => exact ⟨c, r', rfl, hv c rfl, h2⟩
    | succ off => exact ⟨c, r', rfl, h1, VRs_set r r' off v h2 fun c hc => hv c (by simpa using hc)⟩

theorem VRs_at {g : G} {H : Heap} {w : World} : ∀ (cs : List V) (vs : List Value) (off : Nat) (v : V) (c : Value), VRs g H w cs vs → cs[off]? = some v → vs[off]? = some c → VR g H w v c
  | [], vs, off, v, c, h, h1, _ => by simp at h1
  | x :: r, vs, off, v, c, h, h1, h2 => by
    simp only [VRs] at h
    obtain ⟨c', r', rfl, h3, h4⟩ := h
    cases off with
    | zero => simp at h1 h2; subst h1; subst h2; exact h3
    | succ off => exact VRs_at r r' off v c h4 (by simpa using h1) (by simpa using h2)

theorem AWP.nilrow (id off es : Nat) {c : Code} {E : Env} {H : Heap} {Q : Ex → Env → Heap → Prop} {cs : List V} {nl : Bool} (hid : H[id]? = some (.cells cs)) (hoff : cs[off]? = some (.slx (some nl) [])) (hn : n0 ≤ H.length)
    (h : AWP P N n0 r c E (H.set id (.cells (cs.set off (.ref H.length 0 0 0))) ++ [.arr es nl []]) Q) : AWP P N n0 r c E H Q := by
  refine ⟨hn, h.2.1, fun g w a l m0 hrel => ?_⟩
  have hr := hrel.hr
  obtain ⟨h1, h2, h3⟩ := alloc_nil hr es nl
  have hlt := lt_of_getElem? hid
  have hset : (H.set id (.cells (cs.set off (.ref H.length 0 0 0))) ++ [.arr es nl []])[id]? = some (.cells (cs.set off (.ref H.length 0 0 0))) := by
    rw [List.getElem?_append_left (by simpa using hlt), List.getElem?_set_self hlt]
  have hne : ∀ j, j ≠ id → (H.set id (.cells (cs.set off (.ref H.length 0 0 0))) ++ [.arr es nl []])[j]? = (H ++ [.arr es nl []])[j]? := fun j hj => by
    by_cases hjl : j < H.length
    · rw [List.getElem?_append_left (by simpa using hjl), List.getElem?_append_left hjl, List.getElem?_set_ne (fun e => hj e.symm)]
    · rw [List.getElem?_append_right (by simpa using hjl), List.getElem?_append_right (by omega)]; simp
  have ha : Ag ⟨g.Z, g.φ ++ [none]⟩ (H ++ [.arr es nl []]) w ⟨g.Z, g.φ ++ [none]⟩ (H.set id (.cells (cs.set off (.ref H.length 0 0 0))) ++ [.arr es nl []]) w := by
    intro j x hx
    by_cases hj : j = id
    · subst hj
      rw [List.getElem?_append_left hlt, hid] at hx
      cases hx
      exact ⟨⟨_, hset, by simp⟩, rfl⟩
    · rw [← hne j hj] at hx
      cases x with
      | cells cs => exact ⟨⟨cs, hx, rfl⟩, rfl⟩
      | arr sz nl els => exact ⟨nl, els, hx, Nat.le_refl _, fun _ => ⟨rfl, rfl, fun b vs t hb hv => ⟨vs, hv, rfl⟩⟩⟩
      | loop st pend E ps a b => exact ⟨⟨st, pend, hx⟩, rfl⟩
      | obj o => exact ⟨⟨o, hx, rfl⟩, rfl⟩
  have hz : Zk g.Z g.Z w w := fun b o z => ⟨z, rfl⟩
  have hz2 : Zk (⟨g.Z, g.φ ++ [none]⟩ : G).Z (⟨g.Z, g.φ ++ [none]⟩ : G).Z w w := hz
  have hr2 : HR ⟨g.Z, g.φ ++ [none]⟩ (H.set id (.cells (cs.set off (.ref H.length 0 0 0))) ++ [.arr es nl []]) w := by
    refine ⟨by simp [hr.len], h1.zlt, fun j b x hp hx => ?_, h1.inj⟩
    by_cases hj : j = id
    · subst hj
      rw [hset] at hx; cases hx
      obtain ⟨k1, k2, vs, t, k3, k4, k5⟩ := h1.blk j b (.cells cs) hp (by rw [List.getElem?_append_left hlt]; exact hid)
      refine ⟨k1, k2, vs, t, k3, VRs_set _ _ _ _ (VRs_mono hz2 ha _ _ k4) (fun c hc => ?_), fun c hc => ?_⟩
      · have hv := VRs_at _ _ _ _ c k4 hoff hc
        simp only [VR] at hv ⊢
        obtain ⟨a', rfl, e1, e2, _⟩ := hv
        refine ⟨⟨_, _, _, rfl⟩, es, nl, [], by simp, Nat.le_refl _, fun _ => ⟨Nat.le_refl _, .inl ⟨⟨by rw [← hr.len]; simp, rfl, trivial⟩, by simp, a', rfl, e1 nl rfl⟩⟩⟩
      · rcases List.mem_or_eq_of_mem_set hc with hc | rfl
        · exact k5 c hc
        · rfl
    · rw [hne j hj] at hx
      obtain ⟨k1, k2, k3⟩ := h1.blk j b x hp hx
      exact ⟨k1, k2, BR_mono hz2 ha rfl k3⟩
  have hag := h3.trans ha
  have hrel2 : Rel N r l m0 ⟨g.Z, g.φ ++ [none]⟩ E (H.set id (.cells (cs.set off (.ref H.length 0 0 0))) ++ [.arr es nl []]) a w :=
    hrel.of_agn h.2.1 hr2 (fun t => VR_mono (g' := ⟨g.Z, g.φ ++ [none]⟩) hz hag _ _ (hrel.er t)) hrel.sz rfl h2 (AgN.of_ag hn hag)
  refine wpIn_mono (h.2.2 _ w a l m0 hrel2) ?_
  rintro e a' w' ⟨x, E', H', g', e1, e2, e3, e4, e5⟩
  exact ⟨x, E', H', g', e1, e2, e3, h2.trans e4, (AgN.of_ag hn hag).trans e5⟩

/-! ### Small numbers -/

@[go_sem] theorem idx_at0 {α : Type} (l : List α) : idx? l (0 : Int) = l[0]? := idx_nat l 0
@[go_sem] theorem idx_at1 {α : Type} (l : List α) : idx? l (1 : Int) = l[1]? := idx_nat l 1
@[go_sem] theorem idx_at2 {α : Type} (l : List α) : idx? l (2 : Int) = l[2]? := idx_nat l 2
@[go_sem] theorem idx_at3 {α : Type} (l : List α) : idx? l (3 : Int) = l[3]? := idx_nat l 3
@[go_sem] theorem idx_at4 {α : Type} (l : List α) : idx? l (4 : Int) = l[4]? := idx_nat l 4
@[go_sem] theorem idx_at5 {α : Type} (l : List α) : idx? l (5 : Int) = l[5]? := idx_nat l 5
@[go_sem] theorem wrap_i0 : IntKind.i64.wrap 0 = 0 := by decide
@[go_sem] theorem wrap_i1 : IntKind.i64.wrap 1 = 1 := by decide
@[go_sem] theorem wrap_i2 : IntKind.i64.wrap 2 = 2 := by decide
@[go_sem] theorem wrap_i3 : IntKind.i64.wrap 3 = 3 := by decide
@[go_sem] theorem wrap_i4 : IntKind.i64.wrap 4 = 4 := by decide
@[go_sem] theorem wrap_i5 : IntKind.i64.wrap 5 = 5 := by decide
@[go_sem] theorem wrap_i6 : IntKind.i64.wrap 6 = 6 := by decide
@[go_sem] theorem wrap_i7 : IntKind.i64.wrap 7 = 7 := by decide
@[go_sem] theorem wrap_i8 : IntKind.i64.wrap 8 = 8 := by decide
@[go_sem] theorem wrap_i9 : IntKind.i64.wrap 9 = 9 := by decide
attribute [go_sem] List.getD_cons_zero List.getD_cons_succ

end
end Go.Aw
end

section
namespace Go.Aw
open Go

mutual
/-- A value, its blocks counted from another place on. -/
def shV (k : Nat) : V → V
  | .ptr id off => .ptr (k + id) off
  | .ref id n lo len => .ref (k + id) n lo len
  | .ep id n i off => .ep (k + id) n i off
  | .csl id es len => .csl (k + id) es len
  | .obj id => .obj (k + id)
  | .fn f x y => .fn f (shVs k x) (shVs k y)
  | .agg l => .agg (shVs k l)
  | .tup l => .tup (shVs k l)
  | v => v
def shVs (k : Nat) : List V → List V
  | [] => []
  | v :: r => shV k v :: shVs k r
end

def shB (k : Nat) : Blk → Blk
  | .cells cs => .cells (shVs k cs)
  | .obj (.iter mid n seen) => .obj (.iter (k + mid) n seen)
  | x => x

def noLoop : Blk → Bool
  | .loop _ _ _ _ _ _ => false
  | _ => true

theorem shVs_len (k : Nat) : ∀ l : List V, (shVs k l).length = l.length
  | [] => rfl
  | v :: r => by simp [shVs, shVs_len k r]

theorem shV_one (k : Nat) (v : V) : (shV k v).one = v.one := by
  cases v <;> simp [shV, V.one]

theorem shVs_mem {k : Nat} {l : List V} {c : V} (h : c ∈ shVs k l) : ∃ x ∈ l, c = shV k x := by
  induction l with
  | nil => simp [shVs] at h
  | cons v r ih =>
    simp only [shVs, List.mem_cons] at h
    rcases h with rfl | h
    · exact ⟨v, by simp, rfl⟩
    · obtain ⟨x, hx, e⟩ := ih h
      exact ⟨x, by simp [hx], e⟩

section
variable {P : Program} {g g' : G} {H B : Heap} {w : World}

theorem sh_get (hk : g.φ.length = H.length) (id : Nat) : (H ++ B.map (shB H.length))[H.length + id]? = (B[id]?).map (shB H.length) ∧ (g.φ ++ g'.φ)[H.length + id]? = g'.φ[id]? := by
  refine ⟨?_, ?_⟩
  · rw [List.getElem?_append_right (by omega), Nat.add_sub_cancel_left, List.getElem?_map]
  · rw [List.getElem?_append_right (by omega), hk, Nat.add_sub_cancel_left]

mutual
theorem VR_sh (hk : g.φ.length = H.length) (hB : B.all noLoop = true) : ∀ (x : V) (v : Value), VR g' B w x v → VR ⟨g'.Z, g.φ ++ g'.φ⟩ (H ++ B.map (shB H.length)) w (shV H.length x) v
  | .und, _, _ => by simp [shV, VR]
  | .d x, v, h => by simpa only [shV, VR] using h
  | .slx nl l, v, h => by simpa only [shV, VR] using h
  | .pp cs, v, h => by simpa only [shV, VR] using h
  | .ptr id off, v, h => by
    simp only [shV, VR] at h ⊢
    obtain ⟨b, cs, h1, h2, h3⟩ := h
    obtain ⟨e1, e2⟩ := sh_get (g := g) (g' := g') (B := B) hk id
    exact ⟨b, shVs H.length cs, by rw [e1, h1]; rfl, by rw [e2, h2], h3⟩
  | .ref id n lo len, v, h => by
    simp only [shV, VR] at h ⊢
    obtain ⟨h0, sz, nl, els, h1, h2, h3⟩ := h
    obtain ⟨e1, e2⟩ := sh_get (g := g) (g' := g') (B := B) hk id
    exact ⟨h0, sz, nl, els, by rw [e1, h1]; rfl, h2, fun hn => by rw [e2]; exact h3 hn⟩
  | .ep id n i off, v, h => by
    simp only [shV, VR] at h ⊢
    obtain ⟨h0, sz, nl, els, h1, h2, h3⟩ := h
    obtain ⟨e1, e2⟩ := sh_get (g := g) (g' := g') (B := B) hk id
    exact ⟨h0, sz, nl, els, by rw [e1, h1]; rfl, h2, fun hn => by rw [e2]; exact h3 hn⟩
  | .csl id es len, v, h => by
    simp only [shV, VR] at h ⊢
    obtain ⟨b, cs, cap, h1, h2, h3, h4⟩ := h
    obtain ⟨e1, e2⟩ := sh_get (g := g) (g' := g') (B := B) hk id
    exact ⟨b, shVs H.length cs, cap, by rw [e1, h1]; rfl, by rw [e2, h2], by rw [shVs_len]; exact h3, h4⟩
  | .obj id, v, h => by
    simp only [shV, VR] at h ⊢
    obtain ⟨b, o, h1, h2, h3⟩ := h
    obtain ⟨e1, e2⟩ := sh_get (g := g) (g' := g') (B := B) hk id
    cases o with
    | map es => exact ⟨b, .map es, by rw [e1, h1]; rfl, by rw [e2, h2], h3⟩
    | iter mid m seen => exact ⟨b, .iter (H.length + mid) m seen, by rw [e1, h1]; rfl, by rw [e2, h2], h3⟩
    | sit s p => exact ⟨b, .sit s p, by rw [e1, h1]; rfl, by rw [e2, h2], h3⟩
  | .fn f x y, v, h => by
    cases f with
    | yield j =>
      simp only [VR] at h
      obtain ⟨_, _, b, st, pend, E, ps, p, q, h1, _⟩ := h
      have := List.all_eq_true.1 hB _ (List.mem_of_getElem? h1)
      simp [noLoop] at this
    | _ =>
      simp only [shV, VR] at h ⊢
      obtain ⟨x', y', h1, h2, h3⟩ := h
      exact ⟨x', y', h1, VRs_sh hk hB x _ h2, VRs_sh hk hB y _ h3⟩
  | .agg l, v, h => by
    simp only [shV, VR] at h ⊢
    obtain ⟨cs, h1, h2⟩ := h
    exact ⟨cs, h1, VRs_sh hk hB l _ h2⟩
  | .tup l, v, h => by
    simp only [shV, VR] at h ⊢
    obtain ⟨cs, h1, h2⟩ := h
    exact ⟨cs, h1, VRs_sh hk hB l _ h2⟩
theorem VRs_sh (hk : g.φ.length = H.length) (hB : B.all noLoop = true) : ∀ (l : List V) (cs : List Value), VRs g' B w l cs → VRs ⟨g'.Z, g.φ ++ g'.φ⟩ (H ++ B.map (shB H.length)) w (shVs H.length l) cs
  | [], cs, h => by simpa only [shVs, VRs] using h
  | d :: ds, cs, h => by
    simp only [shVs, VRs] at h ⊢
    obtain ⟨c, r, h1, h2, h3⟩ := h
    exact ⟨c, r, h1, VR_sh hk hB d _ h2, VRs_sh hk hB ds r h3⟩
end

theorem BR_sh (hk : g.φ.length = H.length) (hB : B.all noLoop = true) {b : Nat} {x : Blk} (hx : noLoop x = true) (h : BR g' B w b x) : BR ⟨g'.Z, g.φ ++ g'.φ⟩ (H ++ B.map (shB H.length)) w b (shB H.length x) := by
  cases x with
  | cells cs =>
    simp only [shB, BR] at h ⊢
    obtain ⟨vs, t, h1, h2, h3⟩ := h
    refine ⟨vs, t, h1, VRs_sh hk hB _ _ h2, fun c hc => ?_⟩
    obtain ⟨y, hy, rfl⟩ := shVs_mem hc
    rw [shV_one]; exact h3 y hy
  | arr sz nl els => exact h
  | loop => simp [noLoop] at hx
  | obj o =>
    cases o with
    | map es => exact h
    | iter mid m seen =>
      obtain ⟨mb, es, sA, k1, k2, k3, k4⟩ := h
      obtain ⟨e1, e2⟩ := sh_get (g := g) (g' := g') (B := B) hk mid
      exact ⟨mb, es, sA, by rw [e1, k1]; rfl, by rw [e2, k2], k3, k4⟩
    | sit s p => exact h

/-- What a call of data alone lays anew lies behind the other blocks. -/
theorem ACalls.sh {f : FuncId} {vs : List V} {r : V} (hB : B.all noLoop = true) (hvs : VBs 0 vs = true) (h : ACalls P f vs [] (fun v H' => H' = B ∧ v = r)) : ACalls P f vs H (fun v H' => H' = H ++ B.map (shB H.length) ∧ v = shV H.length r) := by
  refine ⟨h.1, fun g w cvs hr hv => CallsIn.mono (h.2 ⟨g.Z, []⟩ w cvs (HR_none hr) (VBs_cut (g := g) (g' := ⟨g.Z, []⟩) (H := H) (H' := []) (n := 0) (fun _ _ z => z) (fun id hid => by omega) _ _ hvs hv)) ?_⟩
  rintro e w' ⟨v, g', r', H', rfl, ⟨rfl, rfl⟩, k3, k4, k5, k6⟩
  have hk : g.φ.length = H.length := hr.len
  have hsame : ∀ b, b < w.heap.size → w'.heap[b]? = w.heap[b]? := fun b hb => k5.fr b hb (fun id => by simp)
  have hz : Zk g.Z g'.Z w w' := (HR_none hr).zk k5
  have hnew : ∀ id b : Nat, g'.φ[id]? = some (some b) → w.heap.size ≤ b := fun id b hp => by
    rcases k5.pn id b hp with h | h
    · simp at h
    · exact h
  have split : ∀ id b : Nat, (g.φ ++ g'.φ)[id]? = some (some b) → (id < H.length ∧ g.φ[id]? = some (some b)) ∨ (∃ j, id = H.length + j ∧ g'.φ[j]? = some (some b)) := fun id b hp => by
    by_cases hid : id < H.length
    · left; exact ⟨hid, by rwa [List.getElem?_append_left (by omega)] at hp⟩
    · right; exact ⟨id - H.length, by omega, by rwa [List.getElem?_append_right (by omega), hk] at hp⟩
  have ha : Ag g H w ⟨g'.Z, g.φ ++ g'.φ⟩ (H ++ H'.map (shB H.length)) w' := by
    intro id x hx
    have hlt := lt_of_getElem? hx
    have e1 : (H ++ H'.map (shB H.length))[id]? = some x := by rw [List.getElem?_append_left hlt]; exact hx
    have e2 : (g.φ ++ g'.φ)[id]? = g.φ[id]? := List.getElem?_append_left (by omega)
    cases x with
    | cells cs => exact ⟨⟨cs, e1, rfl⟩, e2⟩
    | arr sz nl els => exact ⟨nl, els, e1, Nat.le_refl _, fun _ => ⟨rfl, e2, fun b vs t hb h => ⟨vs, (hsame b (hr.lt hb)).trans h, rfl⟩⟩⟩
    | loop st pend E ps a b => exact ⟨⟨st, pend, e1⟩, e2⟩
    | obj o => exact ⟨⟨o, e1, rfl⟩, e2⟩
  refine ⟨v, ⟨g'.Z, g.φ ++ g'.φ⟩, _, _, rfl, ⟨rfl, rfl⟩, VR_sh hk hB _ _ k3, ⟨by simp [hr.len, k4.len], k4.zlt, fun id b x hp hx => ?_, fun i j b hi hj => ?_⟩, ⟨k5.os, k5.tape, k5.out, k5.size, fun b hb _ => hsame b hb, k5.z, fun b o z => ?_, fun id b hp => ?_⟩, ha⟩
  · rcases split id b hp with ⟨hid, hp2⟩ | ⟨j, rfl, hp2⟩
    · rw [List.getElem?_append_left hid] at hx
      obtain ⟨h1, h2, h3⟩ := hr.blk id b x hp2 hx
      refine ⟨Nat.lt_of_lt_of_le h1 k5.size, fun o z => ?_, BR_mono (g' := ⟨g'.Z, g.φ ++ g'.φ⟩) hz ha (hsame b h1) h3⟩
      rcases k5.zn b o z with z | z | ⟨id, z⟩
      · exact h2 o z
      · omega
      · simp at z
    · rw [(sh_get (g := g) (g' := g') (B := H') hk j).1] at hx
      cases hj : H'[j]? with
      | none => rw [hj] at hx; cases hx
      | some y =>
        rw [hj] at hx
        simp only [Option.map_some, Option.some.injEq] at hx
        subst hx
        obtain ⟨h1, h2, h3⟩ := k4.blk j b y hp2 hj
        exact ⟨h1, h2, BR_sh hk hB (List.all_eq_true.1 hB _ (List.mem_of_getElem? hj)) h3⟩
  · rcases split i b hi with ⟨i1, i2⟩ | ⟨i1, rfl, i2⟩
    · rcases split j b hj with ⟨j1, j2⟩ | ⟨j1, rfl, j2⟩
      · exact hr.inj i j b i2 j2
      · have := hr.lt i2; have := hnew _ _ j2; omega
    · rcases split j b hj with ⟨j1, j2⟩ | ⟨j1, rfl, j2⟩
      · have := hr.lt j2; have := hnew _ _ i2; omega
      · rw [k4.inj _ _ _ i2 j2]
  · rcases k5.zn b o z with z | z | ⟨id, z⟩
    · exact .inl z
    · exact .inr (.inl z)
    · simp at z
  · rcases split id b hp with ⟨_, hp2⟩ | ⟨j, rfl, hp2⟩
    · exact .inl hp2
    · exact .inr (hnew _ _ hp2)

end

/-! ### Functions that leave blocks behind -/

/-- As FnPost; the first m blocks stay. -/
def FnPostK (T : Nat → Ty) (rs : List ResultVar) (m : Nat) (Q : V → Heap → Prop) : Ex → Env → Heap → Prop
  | .exit _, _, _ => False
  | _, E, H => m ≤ H.length ∧ Som (resV T E H rs) fun vs => Som (pubV m H (mkRes vs)) fun v => BBq m H ∧ Q v (H.take m)

section
variable {P : Program} {T : Nat → Ty}

theorem Ag_untake {g g' : G} {H H' : Heap} {w w' : World} (h : Ag g H w g' (H'.take H.length) w') : Ag g H w g' H' w' := by
  intro id x hx
  have hlt := lt_of_getElem? hx
  have e : (H'.take H.length)[id]? = H'[id]? := List.getElem?_take_of_lt hlt
  have := h id x hx
  cases x with
  | cells cs => simpa only [e] using this
  | arr sz nl els => simpa only [e] using this
  | loop st pend E ps a b => simpa only [e] using this
  | obj o => simpa only [e] using this

theorem ACalls.of_bodyK (hT : TOK P T) {f : FuncId} {fn : Func} {c : Code} {vs : List V} {H : Heap} {m : Nat} {Q : V → Heap → Prop} (hf : P.funcs[f]? = some fn) (hb : fn.body = some c) (hnm : (fn.name == "runtime.NumGoroutine") = false) (hlen : vs.length ≤ fn.ntmps) (hm : H.length ≤ m)
    (h : AWP P fn.ntmps H.length none c (envOf 0 vs) H (FnPostK T fn.results.toList m Q)) : ACalls P f vs H Q := by
  refine ⟨⟨fn, hf, by rw [hb]; rfl, hnm⟩, fun g w cvs hr hvs => ?_⟩
  have hcl := VRs_length _ _ hvs
  refine callsIn_of_wp_marks hf hb trivial (wpIn_mono (h.2.2 g w _ none w.heap.size ⟨hr, ?_, ?_, rfl, ⟨Nat.le_refl _, [], rfl, List.nodup_nil, by simp⟩⟩) ?_)
  · intro t
    rw [look_envOf]
    simp only [Nat.zero_le, if_true, Nat.sub_zero]
    rw [List.getD_eq_getElem?_getD]
    cases hv : vs[t]? with
    | none => simp [VR]
    | some v =>
      obtain ⟨c', h1, h2⟩ := VRs_get hvs hv
      simp only [Option.getD_some]
      have hlt := lt_of_getElem? h1
      rw [Array.getD_eq_getD_getElem?, Array.getElem?_append_left (by simpa using hlt)]
      simp only [List.getElem?_toArray, h1, Option.getD_some]
      exact h2
  · simp; omega
  · rintro e a' w' ⟨x, E', H', g', rfl, h2, h3, h4, h5⟩
    obtain ⟨_, rs, hd, hnd, hrs⟩ := h3.df
    have fin : (m ≤ H'.length ∧ Som (resV T E' H' fn.results.toList) fun vs => Som (pubV m H' (mkRes vs)) fun v => BBq m H' ∧ Q v (H'.take m)) → LeavesInM (FR none) 0 P fn a'.tmps (CPost g H w Q) a'.defers .returning w' := by
      rintro ⟨hml, hfin⟩
      obtain ⟨us, hus, hfin⟩ := Som_iff hfin
      obtain ⟨v, hv, hbb, hq⟩ := Som_iff hfin
      rw [hd]
      refine leaves_marks rs w' hnd hrs h3.hr h3.er h4 h5 fun w2 hr2 he2 hk2 ha2 => ?_
      obtain ⟨cv, k1, k2⟩ := results_sound hT hr2 he2 hus
      refine ⟨cv, k1, cv, g'.pub m, v, H'.take m, rfl, hq, pub_sound hr2 _ _ _ hv k2, HR_pub hr2 hml hbb, hk2.pub _, ?_⟩
      have := (ha2.pub hm hml).2.2
      exact Ag_untake (by simpa using this)
    cases x with
    | exit id => exact h2.elim
    | normal => exact fin h2
    | ret => exact fin h2

/-- Of data alone come a value and new blocks. -/
def PCr (P : Program) (f : FuncId) (vs : List V) (B : Heap) (v : V) : Prop := ACalls P f vs [] (fun r H' => H' = B ∧ r = v)

theorem PCr.of_body (hT : TOK P T) {f : FuncId} {fn : Func} {c : Code} {N : Nat} {rs : List ResultVar} {vs : List V} {B : Heap} {v : V} (m : Nat) (hf : P.funcs[f]? = some fn) (hb : fn.body = some c) (hN : fn.ntmps = N) (hrs : fn.results.toList = rs)
    (hnm : (fn.name == "runtime.NumGoroutine") = false) (hlen : decide (vs.length ≤ N) = true) (h : AWP P N 0 none c (envOf 0 vs) [] (FnPostK T rs m fun r H' => H' = B ∧ r = v)) : PCr P f vs B v := by
  subst hN; subst hrs
  exact ACalls.of_bodyK hT hf hb hnm (by simpa using hlen) (Nat.zero_le _) h

theorem PCr.call {f : FuncId} {vs : List V} {B : Heap} {v : V} {as : List V} {x y : List V} {H : Heap} {Q : V → Heap → Prop} (h : PCr P f vs B v) (hB : B.all noLoop = true) (h1 : (x ++ as ++ y).map Aw.dz = vs) (h2 : VBs 0 vs = true) (hq : Q (shV H.length v) (H ++ B.map (shB H.length))) : ACallV P (.fn (.func f) x y) as H Q := by
  subst h1
  refine ACalls.dz (ACalls.mono (ACalls.sh hB h2 h) ?_)
  rintro v' H' ⟨rfl, rfl⟩
  exact hq

theorem PCr.callD {f : FuncId} {vs : List V} {B : Heap} {v : V} {as : List V} {x y : List V} {H : Heap} {Q : V → Heap → Prop} (h : PCr P f vs B v) (hB : B.all noLoop = true) (h1 : (x ++ as ++ y).map Aw.dz = vs) (h2 : VBs 0 vs = true) (hq : Q (shV H.length v) (H ++ B.map (shB H.length))) : DCall P (.fn (.func f) x y) as H Q :=
  ⟨_, _, PCr.call h hB h1 h2 ⟨rfl, rfl⟩, hq⟩

variable {rs : List ResultVar} {m : Nat} {Q : V → Heap → Prop} {E : Env} {H : Heap}
def finK (T : Nat → Ty) (rs : List ResultVar) (m : Nat) (Q : V → Heap → Prop) (E : Env) (H : Heap) : Prop := m ≤ H.length ∧ fin T rs m Q E H
@[go_sem] theorem FnPostK_normal : FnPostK T rs m Q .normal E H = finK T rs m Q E H := (Eq.refl _).trans rfl
@[go_sem] theorem FnPostK_ret : FnPostK T rs m Q .ret E H = finK T rs m Q E H := (Eq.refl _).trans rfl
@[go_sem] theorem finK_eq : finK T rs m Q E H = (m ≤ H.length ∧ fin T rs m Q E H) := (Eq.refl _).trans rfl
@[congr] theorem FnPostK_congr {x x' : Ex} {E' : Env} {H' : Heap} (hx : x = x') (hE : E = E') (hH : H = H') {one : Prop} (ho : (True ∧ True) = one) : FnPostK T rs m Q x E H = FnPostK T rs m Q x' E' H' := by
  rw [hx, hE, hH]
@[congr] theorem finK_congr {E' : Env} {H' : Heap} (hE : E = E') (hH : H = H') {one : Prop} (ho : (True ∧ True) = one) : finK T rs m Q E H = finK T rs m Q E' H' := by rw [hE, hH]
@[go_sem] theorem shV_d (k : Nat) (x : D) : shV k (.d x) = .d x := (Eq.refl _).trans rfl
@[go_sem] theorem shV_slx (k : Nat) (b : Option Bool) (l : List D) : shV k (.slx b l) = .slx b l := (Eq.refl _).trans rfl
@[go_sem] theorem shV_ptr (k i o : Nat) : shV k (.ptr i o) = .ptr (k + i) o := (Eq.refl _).trans rfl
@[go_sem] theorem shV_ref (k i n lo len : Nat) : shV k (.ref i n lo len) = .ref (k + i) n lo len := (Eq.refl _).trans rfl
@[go_sem] theorem shV_csl (k i e len : Nat) : shV k (.csl i e len) = .csl (k + i) e len := (Eq.refl _).trans rfl
@[go_sem] theorem shV_obj (k i : Nat) : shV k (.obj i) = .obj (k + i) := (Eq.refl _).trans rfl
@[go_sem] theorem shV_pp (k : Nat) (cs : List D) : shV k (.pp cs) = .pp cs := (Eq.refl _).trans rfl
@[go_sem] theorem shV_und (k : Nat) : shV k .und = .und := (Eq.refl _).trans rfl
@[go_sem] theorem shV_agg (k : Nat) (l : List V) : shV k (.agg l) = .agg (shVs k l) := (Eq.refl _).trans rfl
@[go_sem] theorem shV_tup (k : Nat) (l : List V) : shV k (.tup l) = .tup (shVs k l) := (Eq.refl _).trans rfl
@[go_sem] theorem shV_fn (k : Nat) (f : Fn) (x y : List V) : shV k (.fn f x y) = .fn f (shVs k x) (shVs k y) := (Eq.refl _).trans rfl
@[go_sem] theorem shVs_nil (k : Nat) : shVs k [] = [] := (Eq.refl _).trans rfl
@[go_sem] theorem shVs_cons (k : Nat) (v : V) (r : List V) : shVs k (v :: r) = shV k v :: shVs k r := (Eq.refl _).trans rfl
@[go_sem] theorem shB_cells (k : Nat) (cs : List V) : shB k (.cells cs) = .cells (shVs k cs) := (Eq.refl _).trans rfl
@[go_sem] theorem shB_arr (k sz : Nat) (nl : Bool) (els : List D) : shB k (.arr sz nl els) = .arr sz nl els := (Eq.refl _).trans rfl

end
end Go.Aw
end

section
namespace Go.Aw
open Go

mutual
/-- A value of which each block is one and the same. -/
def rnV (k : Nat) : V → V
  | .ptr _ off => .ptr k off
  | .ref _ n lo len => .ref k n lo len
  | .ep _ n i off => .ep k n i off
  | .csl _ es len => .csl k es len
  | .obj _ => .obj k
  | .fn f x y => .fn f (rnVs k x) (rnVs k y)
  | .agg l => .agg (rnVs k l)
  | .tup l => .tup (rnVs k l)
  | v => v
def rnVs (k : Nat) : List V → List V
  | [] => []
  | v :: r => rnV k v :: rnVs k r
end

section
variable {P : Program} {g g' : G} {H H1 : Heap} {w : World} {sz R : Nat} {els : List D}

mutual
def rnOk (k : Nat) : V → Bool
  | .und => true
  | .d _ => true
  | .slx _ _ => true
  | .ref id _ _ _ => id == k
  | .agg l => rnOks k l
  | .tup l => rnOks k l
  | _ => false
def rnOks (k : Nat) : List V → Bool
  | [] => true
  | v :: r => rnOk k v && rnOks k r
end

mutual
theorem VR_rn {H' : Heap} {k : Nat} (e0 : H'[k]? = some (.arr sz false els)) (e1 : H1[R]? = some (.arr sz false els)) (e2 : g.φ[R]? = g'.φ[k]?) (ezz : g.Z = g'.Z) : ∀ (x : V) (v : Value), rnOk k x = true → VR g' H' w x v → VR g H1 w (rnV R x) v
  | .und, _, _, _ => by simp [rnV, VR]
  | .d x, v, _, h => by simpa only [rnV, VR, ezz] using h
  | .slx nl l, v, _, h => by simpa only [rnV, VR, ezz] using h
  | .pp cs, v, ho, h => by simp [rnOk] at ho
  | .ptr id off, v, ho, h => by simp [rnOk] at ho
  | .ref id n lo len, v, ho, h => by
    simp only [rnOk, beq_iff_eq] at ho
    subst ho
    simp only [rnV, VR] at h ⊢
    obtain ⟨h0, sz', nl, els', h1, h2, h3⟩ := h
    rw [e0] at h1
    cases h1
    exact ⟨h0, sz, false, els, e1, h2, fun hn => by rw [e2]; exact h3 hn⟩
  | .ep id n i off, v, ho, h => by simp [rnOk] at ho
  | .csl id es len, v, ho, h => by simp [rnOk] at ho
  | .obj id, v, ho, h => by simp [rnOk] at ho
  | .fn f x y, v, ho, h => by simp [rnOk] at ho
  | .agg l, v, ho, h => by
    simp only [rnV, VR] at h ⊢
    obtain ⟨cs, h1, h2⟩ := h
    exact ⟨cs, h1, VRs_rn e0 e1 e2 ezz l _ ho h2⟩
  | .tup l, v, ho, h => by
    simp only [rnV, VR] at h ⊢
    obtain ⟨cs, h1, h2⟩ := h
    exact ⟨cs, h1, VRs_rn e0 e1 e2 ezz l _ ho h2⟩
theorem VRs_rn {H' : Heap} {k : Nat} (e0 : H'[k]? = some (.arr sz false els)) (e1 : H1[R]? = some (.arr sz false els)) (e2 : g.φ[R]? = g'.φ[k]?) (ezz : g.Z = g'.Z) : ∀ (l : List V) (cs : List Value), rnOks k l = true → VRs g' H' w l cs → VRs g H1 w (rnVs R l) cs
  | [], cs, _, h => by simpa only [rnVs, VRs] using h
  | d :: ds, cs, ho, h => by
    simp only [rnOks, Bool.and_eq_true] at ho
    simp only [rnVs, VRs] at h ⊢
    obtain ⟨c, r, h1, h2, h3⟩ := h
    exact ⟨c, r, h1, VR_rn e0 e1 e2 ezz d _ ho.1 h2, VRs_rn e0 e1 e2 ezz ds r ho.2 h3⟩
end

/-- The row that a call of data alone lays anew becomes an empty row that was there. -/
theorem ACalls.into {f : FuncId} {vs : List V} {r : V} {nl : Bool} (hR : H[R]? = some (.arr sz nl [])) {B : Heap} (hne : els ≠ []) (ho : rnOk B.length r = true) (hvs : VBs 0 vs = true) (h : ACalls P f vs [] (fun v H' => H' = B ++ [.arr sz false els] ∧ v = r)) :
    ACalls P f vs H (fun v H' => H' = H.set R (.arr sz false els) ∧ v = rnV R r) := by
  have hlR := lt_of_getElem? hR
  refine ⟨h.1, fun g w cvs hr hv => CallsIn.mono (h.2 ⟨g.Z, []⟩ w cvs (HR_none hr) (VBs_cut (g := g) (g' := ⟨g.Z, []⟩) (H := H) (H' := []) (n := 0) (fun _ _ z => z) (fun id hid => by omega) _ _ hvs hv)) ?_⟩
  rintro e w' ⟨v, g', r', H', rfl, ⟨rfl, rfl⟩, k3, k4, k5, k6⟩
  have hk : g.φ.length = H.length := hr.len
  have hsame : ∀ b, b < w.heap.size → w'.heap[b]? = w.heap[b]? := fun b hb => k5.fr b hb (fun id => by simp)
  have hz : Zk g.Z g'.Z w w' := (HR_none hr).zk k5
  have hnew : ∀ id b : Nat, g'.φ[id]? = some (some b) → w.heap.size ≤ b := fun id b hp => by
    rcases k5.pn id b hp with h | h
    · simp at h
    · exact h
  have hl' : g'.φ.length = B.length + 1 := by rw [k4.len]; simp
  obtain ⟨p, hp⟩ : ∃ p, g'.φ[B.length]? = some p := ⟨_, List.getElem?_eq_getElem (by omega)⟩
  have hBk : (B ++ [Blk.arr sz false els])[B.length]? = some (.arr sz false els) := by simp
  have hget : ∀ id, id ≠ R → (g.φ.set R p)[id]? = g.φ[id]? ∧ (H.set R (.arr sz false els))[id]? = H[id]? := fun id hid => ⟨List.getElem?_set_ne (fun e => hid e.symm), List.getElem?_set_ne (fun e => hid e.symm)⟩
  have hgR : (g.φ.set R p)[R]? = some p ∧ (H.set R (.arr sz false els))[R]? = some (.arr sz false els) := ⟨List.getElem?_set_self (by omega), List.getElem?_set_self hlR⟩
  have split : ∀ id b : Nat, (g.φ.set R p)[id]? = some (some b) → (id ≠ R ∧ g.φ[id]? = some (some b)) ∨ (id = R ∧ g'.φ[B.length]? = some (some b)) := fun id b hb => by
    by_cases hid : id = R
    · subst hid; right; refine ⟨rfl, ?_⟩; rw [hgR.1] at hb; rw [hp]; simpa using hb
    · left; exact ⟨hid, by rwa [(hget id hid).1] at hb⟩
  have ha : Ag g H w ⟨g'.Z, g.φ.set R p⟩ (H.set R (.arr sz false els)) w' := by
    intro id x hx
    by_cases hid : id = R
    · subst hid
      rw [hR] at hx; cases hx
      refine ⟨false, els, hgR.2, Nat.zero_le _, fun he => ?_⟩
      exact absurd (List.length_eq_zero_iff.1 he) hne
    · obtain ⟨e2, e1⟩ := hget id hid
      rw [← e1] at hx
      cases x with
      | cells cs => exact ⟨⟨cs, hx, rfl⟩, e2⟩
      | arr sz nl els => exact ⟨nl, els, hx, Nat.le_refl _, fun _ => ⟨rfl, e2, fun b vs t hb h => ⟨vs, (hsame b (hr.lt hb)).trans h, rfl⟩⟩⟩
      | loop st pend E ps a b => exact ⟨⟨st, pend, hx⟩, e2⟩
      | obj o => exact ⟨⟨o, hx, rfl⟩, e2⟩
  refine ⟨v, ⟨g'.Z, g.φ.set R p⟩, _, _, rfl, ⟨rfl, rfl⟩, VR_rn (g := ⟨g'.Z, g.φ.set R p⟩) (g' := g') hBk hgR.2 (by rw [hgR.1, hp]) rfl _ _ ho k3, ⟨by simp [hr.len], k4.zlt, fun id b x hb hx => ?_, fun i j b hi hj => ?_⟩, ⟨k5.os, k5.tape, k5.out, k5.size, fun b hb _ => hsame b hb, k5.z, fun b o z => ?_, fun id b hb => ?_⟩, ha⟩
  · rcases split id b hb with ⟨hid, hp2⟩ | ⟨rfl, hp2⟩
    · rw [(hget id hid).2] at hx
      obtain ⟨h1, h2, h3⟩ := hr.blk id b x hp2 hx
      refine ⟨Nat.lt_of_lt_of_le h1 k5.size, fun o z => ?_, BR_mono (g' := ⟨g'.Z, g.φ.set R p⟩) hz ha (hsame b h1) h3⟩
      rcases k5.zn b o z with z | z | ⟨id, z⟩
      · exact h2 o z
      · omega
      · simp at z
    · rw [hgR.2] at hx; cases hx
      obtain ⟨h1, h2, h3⟩ := k4.blk B.length b (.arr sz false els) hp2 hBk
      exact ⟨h1, h2, h3⟩
  · rcases split i b hi with ⟨i1, i2⟩ | ⟨rfl, i2⟩
    · rcases split j b hj with ⟨j1, j2⟩ | ⟨rfl, j2⟩
      · exact hr.inj i j b i2 j2
      · have := hr.lt i2; have := hnew _ _ j2; omega
    · rcases split j b hj with ⟨j1, j2⟩ | ⟨rfl, j2⟩
      · have := hr.lt j2; have := hnew _ _ i2; omega
      · rfl
  · rcases k5.zn b o z with z | z | ⟨id, z⟩
    · exact .inl z
    · exact .inr (.inl z)
    · simp at z
  · rcases split id b hb with ⟨_, hp2⟩ | ⟨_, hp2⟩
    · exact .inl hp2
    · exact .inr (hnew _ _ hp2)

theorem PCr.into {f : FuncId} {vs : List V} {v : V} {as : List V} {x y : List V} {nl : Bool} {Q : V → Heap → Prop} {B : Heap} (h : PCr P f vs (B ++ [.arr sz false els]) v) (hR : H[R]? = some (.arr sz nl [])) (hne : els ≠ []) (ho : rnOk B.length v = true) (h1 : (x ++ as ++ y).map Aw.dz = vs) (h2 : VBs 0 vs = true)
    (hq : Q (rnV R v) (H.set R (.arr sz false els))) : ACallV P (.fn (.func f) x y) as H Q := by
  subst h1
  refine ACalls.dz (ACalls.mono (ACalls.into hR hne ho h2 h) ?_)
  rintro v' H' ⟨rfl, rfl⟩
  exact hq

end

/-! ### New empty rows -/

section
variable {P : Program} {N n0 : Nat} {r : Option Nat}

theorem AWP.newrow (es : Nat) {c : Code} {E : Env} {H : Heap} {Q : Ex → Env → Heap → Prop} (hn : n0 ≤ H.length) (h : AWP P N n0 r c E (H ++ [.arr es true []]) Q) : AWP P N n0 r c E H Q := by
  refine ⟨hn, h.2.1, fun g w a l m0 hrel => ?_⟩
  have hr := hrel.hr
  obtain ⟨h1, h2, h3⟩ := alloc_nil hr es true
  have hz : Zk g.Z g.Z w w := fun b o z => ⟨z, rfl⟩
  have hrel2 : Rel N r l m0 ⟨g.Z, g.φ ++ [none]⟩ E (H ++ [.arr es true []]) a w :=
    hrel.of_agn h.2.1 h1 (fun t => VR_mono (g' := ⟨g.Z, g.φ ++ [none]⟩) hz h3 _ _ (hrel.er t)) hrel.sz rfl h2 (AgN.of_ag hn h3)
  refine wpIn_mono (h.2.2 _ w a l m0 hrel2) ?_
  rintro e a' w' ⟨x, E', H', g', e1, e2, e3, e4, e5⟩
  exact ⟨x, E', H', g', e1, e2, e3, h2.trans e4, (AgN.of_ag hn h3).trans e5⟩

theorem AWP.newrows (es : Nat) : ∀ (k : Nat) {c : Code} {E : Env} {H : Heap} {Q : Ex → Env → Heap → Prop}, n0 ≤ H.length → AWP P N n0 r c E (H ++ List.replicate k (.arr es true [])) Q → AWP P N n0 r c E H Q
  | 0, c, E, H, Q, hn, h => by simpa using h
  | k + 1, c, E, H, Q, hn, h => by
    refine AWP.newrow es hn (AWP.newrows es k (by simp; omega) ?_)
    rw [List.append_assoc]
    exact h

end

@[go_sem] theorem rnV_d (k : Nat) (x : D) : rnV k (.d x) = .d x := (Eq.refl _).trans rfl
@[go_sem] theorem rnV_ref (k i n lo len : Nat) : rnV k (.ref i n lo len) = .ref k n lo len := (Eq.refl _).trans rfl
@[go_sem] theorem rnV_tup (k : Nat) (l : List V) : rnV k (.tup l) = .tup (rnVs k l) := (Eq.refl _).trans rfl
@[go_sem] theorem rnVs_nil (k : Nat) : rnVs k [] = [] := (Eq.refl _).trans rfl
@[go_sem] theorem rnVs_cons (k : Nat) (v : V) (r : List V) : rnVs k (v :: r) = rnV k v :: rnVs k r := (Eq.refl _).trans rfl
end Go.Aw
end
