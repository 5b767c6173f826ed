/- Functions that hand a list's items to yield, and fill an empty row with each; ranges over them. Parts of a body that end in one of several states. Small tools: drops of blocks, rows given away, calls that leave blocks behind. Rows that turn into data where a stage ends; rows for nil slices in slots. Functions that hand items to yield in one of several orders; ranges over them. A stage that ends within a block. -/
import Derived.Test.YtifknkikeobejaaGreatA6
set_option linter.unusedSimpArgs false
set_option linter.unusedVariables false

section
namespace Go.Aw
open Go

/-- What an item fills. -/
def upd : Option (Nat × Blk) → Heap → Heap
  | none, H => H
  | some (i, x), H => H.set i x

def uOk : Option (Nat × Blk) → Heap → Prop
  | none, _ => True
  | some (i, .arr sz false els), H => H[i]? = some (.arr sz true []) ∧ els ≠ []
  | _, _ => False

theorem upd_len (u : Option (Nat × Blk)) (H : Heap) : (upd u H).length = H.length := by
  cases u with
  | none => rfl
  | some p => simp [upd]

theorem uOk_lt {i : Nat} {x : Blk} {H : Heap} (h : uOk (some (i, x)) H) : i < H.length := by
  cases x with
  | arr sz nl els =>
    cases nl with
    | false => exact lt_of_getElem? h.1
    | true => exact h.elim
  | _ => exact h.elim

theorem upd_append {u : Option (Nat × Blk)} {H : Heap} (X : Heap) (h : uOk u H) : upd u (H ++ X) = upd u H ++ X := by
  cases u with
  | none => rfl
  | some p => exact List.set_append_left _ _ (uOk_lt h)

theorem uOk_append {u : Option (Nat × Blk)} {H : Heap} (X : Heap) (h : uOk u H) : uOk u (H ++ X) := by
  cases u with
  | none => trivial
  | some p =>
    obtain ⟨i, x⟩ := p
    have := uOk_lt h
    cases x with
    | arr sz nl els =>
      cases nl with
      | false => exact ⟨by rw [List.getElem?_append_left this]; exact h.1, h.2⟩
      | true => exact h.elim
    | _ => exact h.elim

/-- As Iter: the items' rows fill empty rows. -/
def IterU (P : Program) (f : V) (items : List (List V × Option (Nat × Blk))) : Prop :=
  ∀ (yv : V) (n : Nat) (I : List (List V × Option (Nat × Blk)) → Heap → Prop) (Q : V → Heap → Prop), (∃ f x y, yv = .fn f x y) → VB n yv = true → (∀ l H, I l H → H.length = n ∧ BBs n H) →
    (∀ a r H, I (a :: r) H → uOk a.2 H ∧ ACallV P yv a.1 (upd a.2 H) (fun v H' => (v = .d (.bool true) ∧ I r H') ∨ (v = .d (.bool false) ∧ H'.length = n ∧ BBs n H' ∧ Q (.tup []) H'))) →
    (∀ H, I [] H → Q (.tup []) H) → ∀ H, I items H → ACallV P f [yv] H Q

section
variable {P : Program} {N n0 : Nat} {r : Option Nat}

theorem ARng.iterU {f : Operand} {ps : Array Tmp} {a b : Code} {E : Env} {H : Heap} {Q : Ex → Env → Heap → Prop} {k : FuncId} {x y : List V} (items : List (List V × Option (Nat × Blk))) (J : List (List V × Option (Nat × Blk)) → Heap → Prop)
    (hn : n0 ≤ H.length) (hr : ∀ id, r = some id → id < n0) (hf : ge E f = .fn (.func k) x y) (it : IterU P (.fn (.func k) x y) items) (hps : ps.toList.all (fun t => decide (t < N)) = true) (hE : VBs H.length (E.map Prod.snd) = true)
    (hJ : ∀ l Hc, J l Hc → Hc.length = H.length ∧ BBs H.length Hc) (h0 : J items H) (hend : ∀ Hc, J [] Hc → Q .normal E Hc)
    (hlen : ∀ as ∈ items, as.1.length = ps.size) (hU : ∀ as rest Hc, as ∈ items → J (as :: rest) Hc → uOk as.2 Hc)
    (round : ∀ (L L' : Blk) (as : List V × Option (Nat × Blk)) (rest : List (List V × Option (Nat × Blk))) (Hc : Heap), as ∈ items → J (as :: rest) Hc → AWP P N (H.length + 1) (some H.length) a (putAll E ps.toList as.1) (upd as.2 Hc ++ [L]) (normK fun E1 H1 =>
      H1[H.length]? = some L ∧ AWP P N (H.length + 1) (some H.length) b E1 (H1.set H.length L') (IterPost H.length L' (J rest) fun x Hc => Q x E Hc))) : ARng P N n0 r (.rangeFunc f ps a b) E H Q := by
  refine ARng.run hn hr hf ?_
  have hEt : ∀ t, VB (H.length + 1) (E.look t) = true := fun t => VB_le (by omega) _ (VB_env hE t)
  have hEt' : ∀ st pend, BB (H.length + 1) (.loop st pend E (ps, N) a b) := fun st pend => hEt
  have := it (.fn (.yield H.length) [] []) (H.length + 1)
    (fun l H' => (∃ p q, items = p ++ q ∧ q = l) ∧ ∃ Hc, H' = Hc ++ [.loop .ready none E (ps, N) a b] ∧ J l Hc)
    (fun _ H' => RngPost H.length E Q H') ⟨_, _, _, rfl⟩ (by simp [VB]) ?_ ?_ ?_ (H ++ [.loop .ready none E (ps, N) a b]) ⟨⟨[], items, rfl, rfl⟩, H, rfl, h0⟩
  · exact this
  · rintro l H' ⟨_, Hc, rfl, hj⟩
    obtain ⟨h1, h2⟩ := hJ _ _ hj
    exact ⟨by simp [h1], BBs_append (BBs_le (by omega) h2) ⟨hEt' _ _, trivial⟩⟩
  · rintro as rest H' ⟨⟨p, q, hpq, rfl⟩, Hc, rfl, hj⟩
    have hin : as ∈ items := by rw [hpq]; simp
    obtain ⟨h1, h2⟩ := hJ _ _ hj
    have hLl : (Hc ++ [Blk.loop .ready none E (ps, N) a b]).length = H.length + 1 := by simp [h1]
    have hu := hU as rest Hc hin hj
    have hue := upd_append [Blk.loop .ready none E (ps, N) a b] hu
    have hul := upd_len as.2 Hc
    refine ⟨uOk_append _ hu, ?_⟩
    rw [hue]
    have hLl' : (upd as.2 Hc ++ [Blk.loop .ready none E (ps, N) a b]).length = H.length + 1 := by simp [h1, hul]
    refine AYield.of_callV (AYield.run (pend := none) (E := E) (ps := ps) (a := a) (b := b) (by rw [← h1, ← hul]; simp) (hlen as hin) hps ?_)
    rw [hLl']
    refine (round (.loop .ready none E (ps, N) a b) (.loop .busy none E (ps, N) a b) as rest Hc hin hj).mono ?_
    intro x E1 H1 hl1 hx
    cases x with
    | exit i => exact hx
    | ret => exact hx
    | normal =>
      obtain ⟨k1, k2⟩ := hx
      refine ⟨none, E, k1, k2.mono ?_⟩
      intro x E2 H2 hl2 hp
      obtain ⟨m1, m2, m3⟩ := hp
      have hlt := lt_of_getElem? m1
      unfold RoundPost
      rw [m1]
      simp only
      have hm : (H2.take H.length).length = H.length := by simp; omega
      have hts : ∀ L : Blk, (H2.set H.length L).take (H.length + 1) = H2.take H.length ++ [L] := fun L => take_take_set hlt
      refine ⟨.inr (by rw [hts]; exact BBs_append (BBs_le (by omega) m2) ⟨hEt' _ _, trivial⟩), ?_⟩
      rw [hts]
      cases x with
      | normal => exact .inl ⟨rfl, ⟨p ++ [as], rest, by rw [hpq]; simp, rfl⟩, _, rfl, m3⟩
      | exit i =>
        refine .inr ⟨rfl, by simp; omega, BBs_append (BBs_le (by omega) m2) ⟨hEt' _ _, trivial⟩, ?_⟩
        unfold RngPost
        have e : (H2.take H.length ++ [Blk.loop (if goesOn (.exit i) = true then LoopState.ready else .done) (jumpOf (.exit i)) E (ps, N) a b])[H.length]? = some (Blk.loop .done (some (.exit i)) E (ps, N) a b) := by
          rw [List.getElem?_append_right (by omega), hm, Nat.sub_self]; rfl
        rw [e]
        refine ⟨by simp, .inr ?_, ?_⟩
        · rw [List.take_append_of_le_length (by omega), List.take_of_length_le (by omega)]; exact m2
        · rw [List.take_append_of_le_length (by omega), List.take_of_length_le (by omega)]
          exact m3
      | ret =>
        refine .inr ⟨rfl, by simp; omega, BBs_append (BBs_le (by omega) m2) ⟨hEt' _ _, trivial⟩, ?_⟩
        unfold RngPost
        have e : (H2.take H.length ++ [Blk.loop (if goesOn .ret = true then LoopState.ready else .done) (jumpOf .ret) E (ps, N) a b])[H.length]? = some (Blk.loop .done (some .ret) E (ps, N) a b) := by
          rw [List.getElem?_append_right (by omega), hm, Nat.sub_self]; rfl
        rw [e]
        refine ⟨by simp, .inr ?_, ?_⟩
        · rw [List.take_append_of_le_length (by omega), List.take_of_length_le (by omega)]; exact m2
        · rw [List.take_append_of_le_length (by omega), List.take_of_length_le (by omega)]
          exact m3
  · rintro H' ⟨_, Hc, rfl, hj⟩
    obtain ⟨h1, h2⟩ := hJ _ _ hj
    unfold RngPost
    have e : (Hc ++ [Blk.loop .ready none E (ps, N) a b])[H.length]? = some (.loop .ready none E (ps, N) a b) := by
      rw [← h1]; simp
    rw [e]
    refine ⟨by simp, .inr ?_, ?_⟩
    · rw [List.take_append_of_le_length (by omega), List.take_of_length_le (by omega)]; exact h2
    · rw [List.take_append_of_le_length (by omega), List.take_of_length_le (by omega)]
      exact hend _ hj


/-- As ARng.iter; what the loop keeps is known to be of blocks that are there. -/
theorem ARng.iterN {f : Operand} {ps : Array Tmp} {a b : Code} {E : Env} {H : Heap} {Q : Ex → Env → Heap → Prop} {k : FuncId} {x y : List V} (items : List (List V)) (J : List (List V) → Heap → Prop)
    (hn : n0 ≤ H.length) (hr : ∀ id, r = some id → id < n0) (hf : ge E f = .fn (.func k) x y) (it : Iter P (.fn (.func k) x y) items) (hps : ps.toList.all (fun t => decide (t < N)) = true) (hE : VBs H.length (E.map Prod.snd) = true)
    (hJ : ∀ l Hc, J l Hc → Hc.length = H.length ∧ BBs H.length Hc) (h0 : J items H) (hend : ∀ Hc, J [] Hc → Q .normal E Hc)
    (hlen : ∀ as ∈ items, as.length = ps.size)
    (round : ∀ (L L' : Blk) (as : List V) (rest : List (List V)) (Hc : Heap), BB (H.length + 1) L' → as ∈ items → J (as :: rest) Hc → AWP P N (H.length + 1) (some H.length) a (putAll E ps.toList as) (Hc ++ [L]) (normK fun E1 H1 =>
      H1[H.length]? = some L ∧ AWP P N (H.length + 1) (some H.length) b E1 (H1.set H.length L') (IterPost H.length L' (J rest) fun x Hc => Q x E Hc))) : ARng P N n0 r (.rangeFunc f ps a b) E H Q := by
  refine ARng.run hn hr hf ?_
  have hEt : ∀ t, VB (H.length + 1) (E.look t) = true := fun t => VB_le (by omega) _ (VB_env hE t)
  have hEt' : ∀ st pend, BB (H.length + 1) (.loop st pend E (ps, N) a b) := fun st pend => hEt
  have := it (.fn (.yield H.length) [] []) (H.length + 1)
    (fun l H' => (∃ p q, items = p ++ q ∧ q = l) ∧ ∃ Hc, H' = Hc ++ [.loop .ready none E (ps, N) a b] ∧ J l Hc)
    (fun _ H' => RngPost H.length E Q H') ⟨_, _, _, rfl⟩ (by simp [VB]) ?_ ?_ ?_ (H ++ [.loop .ready none E (ps, N) a b]) ⟨⟨[], items, rfl, rfl⟩, H, rfl, h0⟩
  · exact this
  · rintro l H' ⟨_, Hc, rfl, hj⟩
    obtain ⟨h1, h2⟩ := hJ _ _ hj
    exact ⟨by simp [h1], BBs_append (BBs_le (by omega) h2) ⟨hEt' _ _, trivial⟩⟩
  · rintro as rest H' ⟨⟨p, q, hpq, rfl⟩, Hc, rfl, hj⟩
    have hin : as ∈ items := by rw [hpq]; simp
    obtain ⟨h1, h2⟩ := hJ _ _ hj
    have hLl : (Hc ++ [Blk.loop .ready none E (ps, N) a b]).length = H.length + 1 := by simp [h1]
    refine AYield.of_callV (AYield.run (pend := none) (E := E) (ps := ps) (a := a) (b := b) (by rw [← h1]; simp) (hlen as hin) hps ?_)
    rw [hLl]
    refine (round (.loop .ready none E (ps, N) a b) (.loop .busy none E (ps, N) a b) as rest Hc (hEt' _ _) hin hj).mono ?_
    intro x E1 H1 hl1 hx
    cases x with
    | exit i => exact hx
    | ret => exact hx
    | normal =>
      obtain ⟨k1, k2⟩ := hx
      refine ⟨none, E, k1, k2.mono ?_⟩
      intro x E2 H2 hl2 hp
      obtain ⟨m1, m2, m3⟩ := hp
      have hlt := lt_of_getElem? m1
      unfold RoundPost
      rw [m1]
      simp only
      have hm : (H2.take H.length).length = H.length := by simp; omega
      have hts : ∀ L : Blk, (H2.set H.length L).take (H.length + 1) = H2.take H.length ++ [L] := fun L => take_take_set hlt
      refine ⟨.inr (by rw [hts]; exact BBs_append (BBs_le (by omega) m2) ⟨hEt' _ _, trivial⟩), ?_⟩
      rw [hts]
      cases x with
      | normal => exact .inl ⟨rfl, ⟨p ++ [as], rest, by rw [hpq]; simp, rfl⟩, _, rfl, m3⟩
      | exit i =>
        refine .inr ⟨rfl, by simp; omega, BBs_append (BBs_le (by omega) m2) ⟨hEt' _ _, trivial⟩, ?_⟩
        unfold RngPost
        have e : (H2.take H.length ++ [Blk.loop (if goesOn (.exit i) = true then LoopState.ready else .done) (jumpOf (.exit i)) E (ps, N) a b])[H.length]? = some (Blk.loop .done (some (.exit i)) E (ps, N) a b) := by
          rw [List.getElem?_append_right (by omega), hm, Nat.sub_self]; rfl
        rw [e]
        refine ⟨by simp, .inr ?_, ?_⟩
        · rw [List.take_append_of_le_length (by omega), List.take_of_length_le (by omega)]; exact m2
        · rw [List.take_append_of_le_length (by omega), List.take_of_length_le (by omega)]
          exact m3
      | ret =>
        refine .inr ⟨rfl, by simp; omega, BBs_append (BBs_le (by omega) m2) ⟨hEt' _ _, trivial⟩, ?_⟩
        unfold RngPost
        have e : (H2.take H.length ++ [Blk.loop (if goesOn .ret = true then LoopState.ready else .done) (jumpOf .ret) E (ps, N) a b])[H.length]? = some (Blk.loop .done (some .ret) E (ps, N) a b) := by
          rw [List.getElem?_append_right (by omega), hm, Nat.sub_self]; rfl
        rw [e]
        refine ⟨by simp, .inr ?_, ?_⟩
        · rw [List.take_append_of_le_length (by omega), List.take_of_length_le (by omega)]; exact m2
        · rw [List.take_append_of_le_length (by omega), List.take_of_length_le (by omega)]
          exact m3
  · rintro H' ⟨_, Hc, rfl, hj⟩
    obtain ⟨h1, h2⟩ := hJ _ _ hj
    unfold RngPost
    have e : (Hc ++ [Blk.loop .ready none E (ps, N) a b])[H.length]? = some (.loop .ready none E (ps, N) a b) := by
      rw [← h1]; simp
    rw [e]
    refine ⟨by simp, .inr ?_, ?_⟩
    · rw [List.take_append_of_le_length (by omega), List.take_of_length_le (by omega)]; exact h2
    · rw [List.take_append_of_le_length (by omega), List.take_of_length_le (by omega)]
      exact hend _ hj


end
end Go.Aw
end

section
namespace Go.Aw
open Go

section
variable {P : Program} {T : Nat → Ty} {N n0 : Nat} {r : Option Nat}

/-- The first n parts; all else forgotten, the state is one of these. -/
theorem AWP.stepS {S : Type} (n : Nat) (st : S → Env) (hp : S → Heap) (good : S → Prop) (hint : Nat → Bool) (hT : TOK P T) {c d : Code} {E : Env} {H : Heap} {Q : Ex → Env → Heap → Prop} (hr : ∀ id, r = some id → id < n0) (hn : n0 ≤ H.length) (hok : cOk N (.seq c d) = true)
    (h1 : evPre T hint (ACallV P) (ALoop P N n0 r) (ARng P N n0 r) (ADrw P N n0 r) (fun E' H' => ∃ s, good s ∧ ForgetTo n0 E' H' (st s) (hp s)) Q n (.seq c d) E H)
    (h2 : ∀ s, good s → n0 ≤ (hp s).length → AWP P N n0 r (restC n (.seq c d)) (st s) (hp s) Q) : AWP P N n0 r (.seq c d) E H Q :=
  .pre hint hT hr n _ E H hn hok h1 fun _ _ hl ⟨s, hg, hf⟩ => .of_cut hl (hf.cut (h2 s hg (hf.1)))

end
end Go.Aw
end

section
set_option maxRecDepth 100000
namespace Go.Aw
open Go

theorem ForgetTo.same' {n0 : Nat} {E E' : Env} {H H' : Heap} (hn : n0 ≤ H.length) (he : EWe E E') (hH : H = H') : ForgetTo n0 E H E' H' := by
  subst hH
  exact ForgetTo.same hn he

theorem w64 {n : Int} (h0 : -9223372036854775808 ≤ n) (h1 : n ≤ 9223372036854775807) : IntKind.i64.wrap n = n := by
  simp [IntKind.wrap, IntKind.bits, IntKind.signed]
  omega

def idx {α : Type} (p : α → Bool) : List α → Int → Int
  | [], _ => -1
  | x :: r, i => if p x = true then i else idx p r (i + 1)

theorem idx_drop {α : Type} (p : α → Bool) {l : List α} {i : Nat} (h : i < l.length) : idx p (l.drop i) i = if p l[i] = true then (i : Int) else idx p (l.drop (i + 1)) ((i + 1 : Nat) : Int) := by
  rw [List.drop_eq_getElem_cons h]
  simp [idx]

theorem idx_ge {α : Type} (p : α → Bool) : ∀ (l : List α) (i : Int), 0 ≤ i → decide (0 ≤ idx p l i) = l.any p
  | [], i, h => by simp [idx]
  | x :: r, i, h => by
    simp only [idx, List.any_cons]
    by_cases hp : p x = true
    · simpa [hp] using h
    · have hp' : p x = false := by simpa using hp
      simpa [hp'] using idx_ge p r (i + 1) (by omega)

/-- What is asked of elements: of their size, and loaded as they are. -/
def Enc {α : Type} (es : Nat) (ty : Ty) (enc : α → D) : Prop := ∀ x, (dcells (enc x)).length = es ∧ loadD ty (dcells (enc x)) = some (enc x)

/-! A heap with one block that turns, and new blocks behind. -/
section
variable {H : Heap} {id : Nat} (hid : id < H.length)
theorem hx_len (X : Blk) : (H.set id X).length = H.length := by simp
include hid
theorem hx_get (X : Blk) : (H.set id X)[id]? = some X := by rw [List.getElem?_set_self hid]
theorem hx_get' (X : Blk) (Y : Heap) : (H.set id X ++ Y)[id]? = some X := by
  rw [List.getElem?_append_left (by simpa using hid)]; exact hx_get hid X
omit hid
theorem hx_set (X X' : Blk) : (H.set id X).set id X' = H.set id X' := by rw [List.set_set]
include hid
theorem hx_set' (X X' : Blk) (Y : Heap) : (H.set id X ++ Y).set id X' = H.set id X' ++ Y := by
  rw [List.set_append_left _ _ (by simpa using hid), List.set_set]
omit hid
theorem hx_new0 (X a : Blk) (r : Heap) : (H.set id X ++ (a :: r))[H.length]? = some a := by
  rw [List.getElem?_append_right (by simp)]; simp
theorem hx_new1 (X a c : Blk) (r : Heap) : (H.set id X ++ (a :: c :: r))[H.length + 1]? = some c := by
  rw [List.getElem?_append_right (by simp)]; simp
theorem hx_put0 (X a a' : Blk) (r : Heap) : (H.set id X ++ (a :: r)).set H.length a' = H.set id X ++ (a' :: r) := by
  rw [List.set_append_right _ _ (by simp)]; simp
theorem hx_put1 (X a c c' : Blk) (r : Heap) : (H.set id X ++ (a :: c :: r)).set (H.length + 1) c' = H.set id X ++ (a :: c' :: r) := by
  rw [List.set_append_right _ _ (by simp)]; simp
end

theorem BBs_set {n : Nat} {x : Blk} : ∀ {l : List Blk} {i : Nat}, BBs n l → BB n x → BBs n (l.set i x)
  | [], _, _, _ => trivial
  | _ :: _, 0, h, hx => ⟨hx, h.2⟩
  | _ :: _, _ + 1, h, hx => ⟨h.1, BBs_set h.2 hx⟩

def EWp (n : Nat) (H : Heap) (E : Env) : Env → Prop
  | [] => True
  | (k, v) :: r => (E.look k = v ∧ pubV n H v = some v) ∧ EWp n H E r

theorem EWp_ew {n : Nat} {H : Heap} {E : Env} : ∀ {E' : Env}, EWp n H E E' → EW n H E E'
  | [], _ => trivial
  | (_, _) :: _, h => ⟨.inr (.inr (.inl (by rw [h.1.1]; exact h.1.2))), EWp_ew h.2⟩

/-- The newest blocks are dropped. -/
theorem ForgetTo.drop {n0 : Nat} {E E' : Env} {H0 Y H' : Heap} (hn : n0 ≤ H'.length) (hH : H0 = H') (hbb : BBs H'.length H') (he : EWp H'.length (H0 ++ Y) E E') : ForgetTo n0 E (H0 ++ Y) E' H' := by
  subst hH
  exact ⟨hn, by simp, .inr (by rw [List.take_left]; exact hbb), List.take_left, EWp_ew he⟩


/-- What a function that leaves blocks of its own behind answers, as data. -/
theorem PC.of_r {P : Program} {f : FuncId} {vs : List V} {B : Heap} {v v' : V} (h : PCr P f vs B v) (hv : pubV 0 B v = some v') : PC P f vs v' := by
  refine ⟨h.1, fun g w cvs hr hvs => CallsIn.mono (h.2 g w cvs hr hvs) ?_⟩
  rintro e w' ⟨c, g', r, H', k1, ⟨rfl, rfl⟩, k3, k4, k5, k6⟩
  refine ⟨c, g'.pub 0, v', H'.take 0, k1, ⟨rfl, rfl⟩, pub_sound k4 _ _ _ hv k3, HR_pub k4 (Nat.zero_le _) (.inr trivial), k5.pub _, fun id x hx => by simp at hx⟩

/-- A value as data, if it is. -/
def dd : V → V
  | .slx _ l => .d (.sl l)
  | .agg l => if l.all V.one = true then norm l else .agg l
  | v => v

theorem dd_sound {g : G} {H : Heap} {w : World} {v : V} {c : Value} (h : VR g H w v c) : VR g H w (dd v) c := by
  unfold dd
  split
  · exact dz_sound h
  · rename_i l
    split
    · rename_i ho
      simp only [VR] at h
      obtain ⟨cs, rfl, h2⟩ := h
      exact norm_sound (List.all_eq_true.1 ho) h2
    · exact h
  · exact h

theorem dds_sound {g : G} {H : Heap} {w : World} : ∀ (vs : List V) (cs : List Value), VRs g H w vs cs → VRs g H w (vs.map dd) cs
  | [], _, h => by simpa [VRs] using h
  | v :: r, cs, h => by
    simp only [VRs, List.map_cons] at h ⊢
    obtain ⟨c, r', h1, h2, h3⟩ := h
    exact ⟨c, r', h1, dd_sound h2, dds_sound r r' h3⟩

/-- A contract on data, where a row is given away for good. -/
theorem PC.callZ {P : Program} {f : FuncId} {vs : List V} {v : V} {us : List V} {H : Heap} {Q : V → Heap → Prop} (id : Nat) {sz : Nat} {nl : Bool} {els : List D} (h : PC P f vs v) (he : H[id]? = some (.arr sz nl els)) (h1 : (frzVs id els us).map dd = vs)
    (h2 : VBs 0 vs = true) (h3 : VB 0 v = true) (hq : Q v (H.set id (.arr sz nl (els ++ [.nilp])))) : ACallV P (.fn (.func f) [] []) us H Q := by
  subst h1
  show ACalls P f ([] ++ us ++ []) H Q
  rw [List.nil_append, List.append_nil]
  refine ACalls.frz he ?_
  have := PC.use h h2 h3 hq
  exact ⟨this.1, fun g w cvs hr hv => this.2 g w cvs hr (dds_sound _ cvs hv)⟩

section
variable {P : Program} {g : G} {H : Heap} {w : World}
/-- A call that leaves blocks behind, told by a property of them. -/
theorem ACalls.shE {f : FuncId} {vs : List V} {R : V → Heap → Prop} (hR : ∀ v B, R v B → B.all noLoop = true) (hvs : VBs 0 vs = true) (h : ACalls P f vs [] R) : ACalls P f vs H (fun v H' => ∃ r B, R r B ∧ H' = H ++ B.map (shB H.length) ∧ v = shV H.length r) := by
  refine ⟨h.1, fun g w cvs hr hv => CallsIn.mono (h.2 ⟨g.Z, []⟩ w cvs (HR_none hr) (VBs_cut (g := g) (g' := ⟨g.Z, []⟩) (H := H) (H' := []) (n := 0) (fun _ _ z => z) (fun id hid => by omega) _ _ hvs hv)) ?_⟩
  rintro e w' ⟨v, g', r', H', rfl, hRR, k3, k4, k5, k6⟩
  have hB := hR _ _ hRR
  have hk : g.φ.length = H.length := hr.len
  have hsame : ∀ b, b < w.heap.size → w'.heap[b]? = w.heap[b]? := fun b hb => k5.fr b hb (fun id => by simp)
  have hz : Zk g.Z g'.Z w w' := (HR_none hr).zk k5
  have hnew : ∀ id b : Nat, g'.φ[id]? = some (some b) → w.heap.size ≤ b := fun id b hp => by
    rcases k5.pn id b hp with h | h
    · simp at h
    · exact h
  have split : ∀ id b : Nat, (g.φ ++ g'.φ)[id]? = some (some b) → (id < H.length ∧ g.φ[id]? = some (some b)) ∨ (∃ j, id = H.length + j ∧ g'.φ[j]? = some (some b)) := fun id b hp => by
    by_cases hid : id < H.length
    · left; exact ⟨hid, by rwa [List.getElem?_append_left (by omega)] at hp⟩
    · right; exact ⟨id - H.length, by omega, by rwa [List.getElem?_append_right (by omega), hk] at hp⟩
  have ha : Ag g H w ⟨g'.Z, g.φ ++ g'.φ⟩ (H ++ H'.map (shB H.length)) w' := by
    intro id x hx
    have hlt := lt_of_getElem? hx
    have e1 : (H ++ H'.map (shB H.length))[id]? = some x := by rw [List.getElem?_append_left hlt]; exact hx
    have e2 : (g.φ ++ g'.φ)[id]? = g.φ[id]? := List.getElem?_append_left (by omega)
    cases x with
    | cells cs => exact ⟨⟨cs, e1, rfl⟩, e2⟩
    | arr sz nl els => exact ⟨nl, els, e1, Nat.le_refl _, fun _ => ⟨rfl, e2, fun b vs t hb h => ⟨vs, (hsame b (hr.lt hb)).trans h, rfl⟩⟩⟩
    | loop st pend E ps a b => exact ⟨⟨st, pend, e1⟩, e2⟩
    | obj o => exact ⟨⟨o, e1, rfl⟩, e2⟩
  refine ⟨v, ⟨g'.Z, g.φ ++ g'.φ⟩, _, _, rfl, ⟨_, _, hRR, rfl, rfl⟩, VR_sh hk hB _ _ k3, ⟨by simp [hr.len, k4.len], k4.zlt, fun id b x hp hx => ?_, fun i j b hi hj => ?_⟩, ⟨k5.os, k5.tape, k5.out, k5.size, fun b hb _ => hsame b hb, k5.z, fun b o z => ?_, fun id b hp => ?_⟩, ha⟩
  · rcases split id b hp with ⟨hid, hp2⟩ | ⟨j, rfl, hp2⟩
    · rw [List.getElem?_append_left hid] at hx
      obtain ⟨h1, h2, h3⟩ := hr.blk id b x hp2 hx
      refine ⟨Nat.lt_of_lt_of_le h1 k5.size, fun o z => ?_, BR_mono (g' := ⟨g'.Z, g.φ ++ g'.φ⟩) hz ha (hsame b h1) h3⟩
      rcases k5.zn b o z with z | z | ⟨id, z⟩
      · exact h2 o z
      · omega
      · simp at z
    · rw [(sh_get (g := g) (g' := g') (B := H') hk j).1] at hx
      cases hj : H'[j]? with
      | none => rw [hj] at hx; cases hx
      | some y =>
        rw [hj] at hx
        simp only [Option.map_some, Option.some.injEq] at hx
        subst hx
        obtain ⟨h1, h2, h3⟩ := k4.blk j b y hp2 hj
        exact ⟨h1, h2, BR_sh hk hB (List.all_eq_true.1 hB _ (List.mem_of_getElem? hj)) h3⟩
  · rcases split i b hi with ⟨i1, i2⟩ | ⟨i1, rfl, i2⟩
    · rcases split j b hj with ⟨j1, j2⟩ | ⟨j1, rfl, j2⟩
      · exact hr.inj i j b i2 j2
      · have := hr.lt i2; have := hnew _ _ j2; omega
    · rcases split j b hj with ⟨j1, j2⟩ | ⟨j1, rfl, j2⟩
      · have := hr.lt j2; have := hnew _ _ i2; omega
      · rw [k4.inj _ _ _ i2 j2]
  · rcases k5.zn b o z with z | z | ⟨id, z⟩
    · exact .inl z
    · exact .inr (.inl z)
    · simp at z
  · rcases split id b hp with ⟨_, hp2⟩ | ⟨j, rfl, hp2⟩
    · exact .inl hp2
    · exact .inr (hnew _ _ hp2)


end
/-- A function that leaves blocks behind: the first m. -/
theorem ACalls.bodyK {P : Program} {T : Nat → Ty} (hT : TOK P T) {f : FuncId} {fn : Func} {c : Code} {N : Nat} {rs : List ResultVar} {vs : List V} {Q : V → Heap → Prop} (m : Nat) (hf : P.funcs[f]? = some fn) (hb : fn.body = some c) (hN : fn.ntmps = N) (hrs : fn.results.toList = rs)
    (hnm : (fn.name == "runtime.NumGoroutine") = false) (hlen : decide (vs.length ≤ N) = true) (h : AWP P N 0 none c (envOf 0 vs) [] (FnPostK T rs m Q)) : ACalls P f vs [] Q := by
  subst hN; subst hrs
  exact ACalls.of_bodyK hT hf hb hnm (by simpa using hlen) (Nat.zero_le _) h

theorem bin_eql_cons {es : Nat} {z x : D} {r : List D} {H : Heap} {K : V → Heap → Prop} : evBin .eql (.sl es z) (.d (.sl (x :: r))) (.slx (some true) []) H K = K (.d (.bool false)) H := by
  simp [evBin, anilr, anil, Som]

theorem bin_eql_nil {es : Nat} {z : D} {H : Heap} {K : V → Heap → Prop} : evBin .eql (.sl es z) (.slx (some true) []) (.slx (some true) []) H K = K (.d (.bool true)) H := by
  simp [evBin, anilr, anil, Som]

end Go.Aw
end

section
set_option maxRecDepth 100000
namespace Go.Aw
open Go

def EWq (n : Nat) (H : Heap) (E : Env) : Env → Prop
  | [] => True
  | (k, v) :: r => pubV n H (E.look k) = some v ∧ EWq n H E r

theorem EWq_ew {n : Nat} {H : Heap} {E : Env} : ∀ {E' : Env}, EWq n H E E' → EW n H E E'
  | [], _ => trivial
  | (_, _) :: _, h => ⟨.inr (.inr (.inl h.1)), EWq_ew h.2⟩

/-- The newest blocks are dropped; rows among them turn into data. -/
theorem ForgetTo.dropR {n0 : Nat} {E E' : Env} {H0 Y H' : Heap} (hn : n0 ≤ H'.length) (hH : H0 = H') (hbb : BBs H'.length H') (he : EWq H'.length (H0 ++ Y) E E') : ForgetTo n0 E (H0 ++ Y) E' H' := by
  subst hH
  exact ⟨hn, by simp, .inr (by rw [List.take_left]; exact hbb), List.take_left, EWq_ew he⟩

/-- A nil slice in a slot that will grow is given a row of its own. -/
theorem AWP.nilslot {P : Program} {N n0 : Nat} {r : Option Nat} (k es : Nat) {c : Code} {E : Env} {H : Heap} {Q : Ex → Env → Heap → Prop} {nl : Bool} (hk : E.look k = .slx (some nl) []) (hn : n0 ≤ H.length)
    (h : AWP P N n0 r c ((k, .ref H.length 0 0 0) :: E) (H ++ [.arr es nl []]) Q) : AWP P N n0 r c E H Q := by
  refine ⟨hn, h.2.1, fun g w a l m0 hrel => ?_⟩
  have hr := hrel.hr
  obtain ⟨h1, h2, h3⟩ := alloc_nil hr es nl
  have hz : Zk g.Z g.Z w w := fun b o z => ⟨z, rfl⟩
  have hrel2 : Rel N r l m0 ⟨g.Z, g.φ ++ [none]⟩ ((k, .ref H.length 0 0 0) :: E) (H ++ [.arr es nl []]) a w :=
    hrel.of_agn h.2.1 h1 (fun t => by
      have ht := hrel.er t
      rw [Env.look]
      split
      · rename_i e
        subst e
        rw [hk] at ht
        simp only [VR] at ht ⊢
        obtain ⟨a', e0, e1, e2, _⟩ := ht
        rw [e0]
        exact ⟨⟨_, _, _, rfl⟩, es, nl, [], by simp, Nat.le_refl _, fun _ => ⟨Nat.le_refl _, .inl ⟨⟨by rw [← hr.len]; simp, rfl, trivial⟩, by simp, a', rfl, e1 nl rfl⟩⟩⟩
      · exact VR_mono (g' := ⟨g.Z, g.φ ++ [none]⟩) hz h3 _ _ ht) hrel.sz rfl h2 (AgN.of_ag hn h3)
  refine wpIn_mono (h.2.2 _ w a l m0 hrel2) ?_
  rintro e a' w' ⟨x, E', H', g', e1, e2, e3, e4, e5⟩
  exact ⟨x, E', H', g', e1, e2, e3, h2.trans e4, (AgN.of_ag hn h3).trans e5⟩

end Go.Aw
end

section
set_option maxRecDepth 100000
namespace Go.Aw
open Go

/-- f hands items to whatever yield it is given, till that returns false: from a state an item may come, and then another state; where the heap is as f asks. -/
def IterG (P : Program) {S : Type} (HC : Heap → Prop) (next : S → List V → S → Prop) (fin : S → Prop) (s0 : S) (f : V) : Prop :=
  ∀ (yv : V) (n : Nat) (I : S → Heap → Prop) (Q : V → Heap → Prop), (∃ f x y, yv = .fn f x y) → VB n yv = true → (∀ s H, I s H → H.length = n ∧ BBs n H ∧ HC H) →
    (∀ a s s' H, next s a s' → I s H → ACallV P yv a H (fun v H' => (v = .d (.bool true) ∧ I s' H') ∨ (v = .d (.bool false) ∧ H'.length = n ∧ BBs n H' ∧ Q (.tup []) H'))) →
    (∀ s H, fin s → I s H → Q (.tup []) H) → ∀ H, I s0 H → ACallV P f [yv] H Q

theorem ap0 (H : Heap) (A : Blk) (Y : Heap) : (H ++ A :: Y)[H.length]? = some A := by
  rw [List.getElem?_append_right (Nat.le_refl _), Nat.sub_self]; rfl
theorem ap1 (H : Heap) (A B : Blk) (Y : Heap) : (H ++ A :: B :: Y)[H.length + 1]? = some B := by
  rw [List.getElem?_append_right (by omega), show H.length + 1 - H.length = 1 by omega]; rfl
theorem ap2 (H : Heap) (A B C : Blk) (Y : Heap) : (H ++ A :: B :: C :: Y)[H.length + 2]? = some C := by
  rw [List.getElem?_append_right (by omega), show H.length + 2 - H.length = 2 by omega]; rfl
theorem as0 (H : Heap) (A A' : Blk) (Y : Heap) : (H ++ A :: Y).set H.length A' = H ++ A' :: Y := by
  rw [List.set_append_right _ _ (Nat.le_refl _), Nat.sub_self]; rfl
theorem as1 (H : Heap) (A B B' : Blk) (Y : Heap) : (H ++ A :: B :: Y).set (H.length + 1) B' = H ++ A :: B' :: Y := by
  rw [List.set_append_right _ _ (by omega), show H.length + 1 - H.length = 1 by omega]; rfl
theorem as2 (H : Heap) (A B C C' : Blk) (Y : Heap) : (H ++ A :: B :: C :: Y).set (H.length + 2) C' = H ++ A :: B :: C' :: Y := by
  rw [List.set_append_right _ _ (by omega), show H.length + 2 - H.length = 2 by omega]; rfl

section
variable {P : Program} {N n0 : Nat} {r : Option Nat}

/-- A range over such a function. -/
theorem ARng.iterG {S : Type} {HC : Heap → Prop} {next : S → List V → S → Prop} {fin : S → Prop} {s0 : S} {f : Operand} {ps : Array Tmp} {a b : Code} {E : Env} {H : Heap} {Q : Ex → Env → Heap → Prop} {k : FuncId} {x y : List V} (J : S → Heap → Prop)
    (hn : n0 ≤ H.length) (hr : ∀ id, r = some id → id < n0) (hf : ge E f = .fn (.func k) x y) (it : IterG P HC next fin s0 (.fn (.func k) x y)) (hps : ps.toList.all (fun t => decide (t < N)) = true) (hE : VBs H.length (E.map Prod.snd) = true)
    (hJ : ∀ l Hc, J l Hc → Hc.length = H.length ∧ BBs H.length Hc ∧ ∀ L, HC (Hc ++ [L])) (h0 : J s0 H) (hend : ∀ s Hc, fin s → J s Hc → Q .normal E Hc)
    (hlen : ∀ s as s', next s as s' → as.length = ps.size)
    (round : ∀ (L L' : Blk) (as : List V) (s s' : S) (Hc : Heap), next s as s' → J s Hc → AWP P N (H.length + 1) (some H.length) a (putAll E ps.toList as) (Hc ++ [L]) (normK fun E1 H1 =>
      H1[H.length]? = some L ∧ AWP P N (H.length + 1) (some H.length) b E1 (H1.set H.length L') (IterPost H.length L' (J s') fun x Hc => Q x E Hc))) : ARng P N n0 r (.rangeFunc f ps a b) E H Q := by
  refine ARng.run hn hr hf ?_
  have hEt : ∀ t, VB (H.length + 1) (E.look t) = true := fun t => VB_le (by omega) _ (VB_env hE t)
  have hEt' : ∀ st pend, BB (H.length + 1) (.loop st pend E (ps, N) a b) := fun st pend => hEt
  have := it (.fn (.yield H.length) [] []) (H.length + 1)
    (fun l H' => ∃ Hc, H' = Hc ++ [.loop .ready none E (ps, N) a b] ∧ J l Hc)
    (fun _ H' => RngPost H.length E Q H') ⟨_, _, _, rfl⟩ (by simp [VB]) ?_ ?_ ?_ (H ++ [.loop .ready none E (ps, N) a b]) ⟨H, rfl, h0⟩
  · exact this
  · rintro l H' ⟨Hc, rfl, hj⟩
    obtain ⟨h1, h2, h3⟩ := hJ _ _ hj
    exact ⟨by simp [h1], BBs_append (BBs_le (by omega) h2) ⟨hEt' _ _, trivial⟩, h3 _⟩
  · rintro as s s' H' hin ⟨Hc, rfl, hj⟩
    obtain ⟨h1, h2, _⟩ := hJ _ _ hj
    have hLl : (Hc ++ [Blk.loop .ready none E (ps, N) a b]).length = H.length + 1 := by simp [h1]
    refine AYield.of_callV (AYield.run (pend := none) (E := E) (ps := ps) (a := a) (b := b) (by rw [← h1]; simp) (hlen _ _ _ hin) hps ?_)
    rw [hLl]
    refine (round (.loop .ready none E (ps, N) a b) (.loop .busy none E (ps, N) a b) as s s' Hc hin hj).mono ?_
    intro x E1 H1 hl1 hx
    cases x with
    | exit i => exact hx
    | ret => exact hx
    | normal =>
      obtain ⟨k1, k2⟩ := hx
      refine ⟨none, E, k1, k2.mono ?_⟩
      intro x E2 H2 hl2 hp
      obtain ⟨m1, m2, m3⟩ := hp
      have hlt := lt_of_getElem? m1
      unfold RoundPost
      rw [m1]
      simp only
      have hm : (H2.take H.length).length = H.length := by simp; omega
      have hts : ∀ L : Blk, (H2.set H.length L).take (H.length + 1) = H2.take H.length ++ [L] := fun L => take_take_set hlt
      refine ⟨.inr (by rw [hts]; exact BBs_append (BBs_le (by omega) m2) ⟨hEt' _ _, trivial⟩), ?_⟩
      rw [hts]
      cases x with
      | normal => exact .inl ⟨rfl, _, rfl, m3⟩
      | exit i =>
        refine .inr ⟨rfl, by simp; omega, BBs_append (BBs_le (by omega) m2) ⟨hEt' _ _, trivial⟩, ?_⟩
        unfold RngPost
        have e : (H2.take H.length ++ [Blk.loop (if goesOn (.exit i) = true then LoopState.ready else .done) (jumpOf (.exit i)) E (ps, N) a b])[H.length]? = some (Blk.loop .done (some (.exit i)) E (ps, N) a b) := by
          rw [List.getElem?_append_right (by omega), hm, Nat.sub_self]; rfl
        rw [e]
        refine ⟨by simp, .inr ?_, ?_⟩
        · rw [List.take_append_of_le_length (by omega), List.take_of_length_le (by omega)]; exact m2
        · rw [List.take_append_of_le_length (by omega), List.take_of_length_le (by omega)]
          exact m3
      | ret =>
        refine .inr ⟨rfl, by simp; omega, BBs_append (BBs_le (by omega) m2) ⟨hEt' _ _, trivial⟩, ?_⟩
        unfold RngPost
        have e : (H2.take H.length ++ [Blk.loop (if goesOn .ret = true then LoopState.ready else .done) (jumpOf .ret) E (ps, N) a b])[H.length]? = some (Blk.loop .done (some .ret) E (ps, N) a b) := by
          rw [List.getElem?_append_right (by omega), hm, Nat.sub_self]; rfl
        rw [e]
        refine ⟨by simp, .inr ?_, ?_⟩
        · rw [List.take_append_of_le_length (by omega), List.take_of_length_le (by omega)]; exact m2
        · rw [List.take_append_of_le_length (by omega), List.take_of_length_le (by omega)]
          exact m3
  · rintro s H' hfin ⟨Hc, rfl, hj⟩
    obtain ⟨h1, h2, _⟩ := hJ _ _ hj
    unfold RngPost
    have e : (Hc ++ [Blk.loop .ready none E (ps, N) a b])[H.length]? = some (.loop .ready none E (ps, N) a b) := by
      rw [← h1]; simp
    rw [e]
    refine ⟨by simp, .inr ?_, ?_⟩
    · rw [List.take_append_of_le_length (by omega), List.take_of_length_le (by omega)]; exact h2
    · rw [List.take_append_of_le_length (by omega), List.take_of_length_le (by omega)]
      exact hend _ _ hfin hj

end
end Go.Aw
end

section
namespace Go.Aw
open Go
variable {P : Program} {N n0 : Nat} {r : Option Nat}

/-- A block, then the rest with what is still of use. -/
theorem AWP.blk (E1 : Env) (H1 : Heap) {c d : Code} {i : Nat} {E : Env} {H : Heap} {Q : Ex → Env → Heap → Prop} (h1 : AWP P N n0 r c E H (blockEx i (thenEx (fun E' H' => ForgetTo n0 E' H' E1 H1) Q))) (h2 : AWP P N n0 r d E1 H1 Q) : AWP P N n0 r (.seq (.block i c) d) E H Q :=
  .seq (.block h1) fun _ _ hl hf => .of_cut hl (hf.cut h2)

/-- A part, then the rest with what is still of use. -/
theorem AWP.part (E1 : Env) (H1 : Heap) {c d : Code} {E : Env} {H : Heap} {Q : Ex → Env → Heap → Prop} (h1 : AWP P N n0 r c E H (thenEx (fun E' H' => ForgetTo n0 E' H' E1 H1) Q)) (h2 : AWP P N n0 r d E1 H1 Q) : AWP P N n0 r (.seq c d) E H Q :=
  .seq h1 fun _ _ hl hf => .of_cut hl (hf.cut h2)
end Go.Aw
end
